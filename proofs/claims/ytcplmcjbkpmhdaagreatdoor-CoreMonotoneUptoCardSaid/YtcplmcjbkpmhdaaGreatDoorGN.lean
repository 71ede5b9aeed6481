/- slices.AppendSeq, Collect and Sorted against an iterator over memory that the call leaves as it was (from the kit's proofs against whatever iterator). -/
import Derived.Shelf.SlIterI.Sorted
import Derived.Test.YtcplmcjbkpmhdaaGreatDoorKA
import Derived.Test.YtcplmcjbkpmhdaaGreatDoorShelfI
import Derived.Test.YtcplmcjbkpmhdaaGreatDoorGA
import Derived.RangeFuncBox
import Derived.RangeFuncLeaves
import Derived.OwnWalkIn
import Derived.TacticsInMore
import Derived.LoopNIn
import Derived.LoopIn
import Derived.Test.YtcplmcjbkpmhdaaGreatDoorGC
import Derived.Test.YtcplmcjbkpmhdaaGreatDoorGB
import Derived.Lib.OwnBridge
set_option linter.unusedSimpArgs false
set_option linter.unusedVariables false
set_option linter.unnecessarySimpa false
namespace Go.Proofs.YtcplmcjbkpmhdaaGreatDoor
open Go.RowKit Go.Maps Go.Sort Go.Shelf
variable {P : Program} {ρ : Ren}
def SeqGivesB {α:Type} (F:Fence) (n:Nat) (P:Program) (g:Nat) (lb:Array Value) (enc:α→Value) (S:List α→Prop) (N:Nat) (w:World):Prop :=
 ∀ (l:Nat) (J:List α→World→Prop) (W:World),Below w.heap.size w W→AbidesFrom W.heap.size J→(∀ pre W1,J pre W1→Below w.heap.size w W1) →
  (∀ pre x W1,J pre W1→pre.length < N→YieldAt F (n - 1) P l #[enc x] W1 fun e W'=>e=.returned (.bool true)∧J (pre++[x]) W'∧KeepsWalks W1 W') →
  J [] W →
  CallsIn F n P g (#[.func (.yield l) #[] #[]]++lb) W fun e W'=>(∃ v,e=.returned v)∧∃ xs,S xs∧J xs W'
set_option maxRecDepth 100000 in
set_option maxHeartbeats 2000000 in
theorem seqB_append (L:SlLaysZI.n11 P ρ) (F:Fence) (n:Nat) (h11:F.fn (ρ.f 11)) (hro:F.round=none) (hn:2≤n) (g:Nat) (lb:Array Value) (hFg:F.fn g) (eg:∀ args w,(callFunc g args).run P w=.ok (.enter g args) w)
    (S:List Int→Prop) (N:Nat) (hN:N≤maxLen) (hNb:N * 8≤140737488355328) (w:World) (hseq:SeqGivesB F (n - 1) P g lb encZ S N w) :
    CallsIn F n P (ρ.f 11) #[.slice none 0 0,.func (.func g) #[] lb] w fun e w'=>∃ (v:Value) (ss:List Int),e=.returned v∧S ss∧w'.ownsRow w.heap.size (ρ.t 26) 1 v ss.length (ss.map encZ)∧(v=.slice none 0 0↔ss=[])∧Below w.heap.size w w':=by
  have h1:1≤n:=by omega
  have mixed:=L.mixed;have t0:=L.t0;have a0:=L.a0;have z0:=L.z0;have v0:=L.v0;have t24:=L.t24;have a24:=L.a24;have z24:=L.z24;have v24:=L.v24;have t26:=L.t26;have a26:=L.a26;have z26:=L.z26;have v26:=L.v26;have t28:=L.t28;have a28:=L.a28;have z28:=L.z28;have v28:=L.v28
  have hne:ρ.t 24≠ρ.t 26:=fun e=>by have h:=L.t24;rw[e,L.t26] at h;cases h
  have u0:=run_underlying L.t0;have u24:=run_underlying L.t24;have u26:=run_underlying L.t26;have u28:=run_underlying L.t28
  obtain⟨_,_,FG⟩:=L.f11
  refine callsIn_of_wp_marks FG rfl h11 ?_ hro
  simp only[SlBodyZ.n11_ntmps ρ,List.size_toArray,List.length_cons,List.length_nil,Nat.reduceAdd,Nat.reduceSub,Array.replicate_succ,Array.replicate_zero,List.push_toArray,List.append_toArray,List.nil_append,List.cons_append]
  gi_wp2
  refine wpIn_rangeFunc ?_
  intro fn hfn
  rw[hro]
  obtain⟨W0,hW0⟩:∃ W0,w.alloc (.cells #[.slice none 0 0] (ρ.t 24))=W0:=⟨_,rfl⟩
  have hs0:W0.heap.size=w.heap.size+1:=by rw[← hW0];simp
  have hv0:W0.heap[w.heap.size]? = some (.cells #[.slice none 0 0] (ρ.t 24) (0,0)):=by rw[← hW0];exact World.alloc_heap_new w _
  have hb0:Below w.heap.size w W0:=by rw[← hW0];exact(Below.refl _ w).alloc (Nat.le_refl _) _
  rw[hW0]
  obtain⟨W1,hW1⟩:∃ W1,(W0.alloc (.deferred (some []))).alloc (.loop (AnyZI.apRec ρ fn (.func (.func g) #[] lb) w.heap.size W0.heap.size .ready none))=W1:=⟨_,rfl⟩
  have hold:∀ k,k < W0.heap.size→W1.heap[k]? = W0.heap[k]?:=fun k hk=>by
    rw[← hW1];exact(Below.heap_alloc _ _ k (by simp;omega)).trans (Below.heap_alloc _ _ k hk)
  have hb1:Below w.heap.size w W1:=by rw[← hW1];exact(hb0.alloc hb0.size _).alloc (by have:=hb0.size;simp;omega) _
  have hs1:W1.heap.size=W0.heap.size+2:=by rw[← hW1];simp
  have hM:AnyZI.ApAt ρ w fn (.func (.func g) #[] lb) w.heap.size (W0.heap.size+1) W0.heap.size [] W1 :=
    ⟨⟨_,(hold w.heap.size (by omega)).trans hv0,⟨rfl,.inl ⟨rfl,rfl⟩⟩,by simp⟩,
     by rw[← hW1];have:=World.alloc_heap_new (W0.alloc (.deferred (some []))) (.loop (AnyZI.apRec ρ fn (.func (.func g) #[] lb) w.heap.size W0.heap.size .ready none));rwa [World.size_alloc] at this,
     by rw[← hW1];exact(Below.heap_alloc _ _ _ (by simp)).trans (World.alloc_heap_new W0 _),hb1⟩
  refine⟨W0.heap.size+1,[{ target:=.collected W0.heap.size,args:=#[] }],W1,{ target:=.fn (.func g) lb,args:=#[.func (.yield (W0.heap.size+1)) #[] #[]] },W1,g,
    #[.func (.yield (W0.heap.size+1)) #[] #[]]++lb,W1,?_,?_,?_,?_,fun _=>h1,?_⟩
  · rw[← hW1];exact run_enterLoop_outer _ _ _ _ _
  · simp[resolve,go_sem]
  · intro f' hf';simp[Target.leads] at hf';subst hf';exact hFg
  · simp[invoke,go_sem,eg]
  · refine(hseq (W0.heap.size+1) (AnyZI.ApAt ρ w fn (.func (.func g) #[] lb) w.heap.size (W0.heap.size+1) W0.heap.size) W1 hb1 (AnyZI.ap_abides ρ _ _ _ _ _ _ _ hb1.size) (fun _ _ h=>h.below)
      (fun pre x W hJ hl=>AnyZI.apYield { L with } F (n - 1 - 1) w fn hfn _ w.heap.size (W0.heap.size+1) W0.heap.size (by omega) (by omega) (by omega) (Nat.le_refl _) (by omega) N hN hNb pre x W hJ hl) hM).mono ?_
    rintro e W2 ⟨⟨v0,rfl⟩,ss,hS,h2⟩
    obtain⟨v,hv,hrow,hnil⟩:=h2.box
    have hend:=run_endLoop (P:=P) h2.L (by simp[AnyZI.apRec])
    obtain⟨W3,hW3⟩:∃ W3,W2.putObj (W0.heap.size+1) (.loop { AnyZI.apRec ρ fn (.func (.func g) #[] lb) w.heap.size W0.heap.size .ready none with state:=.exhausted })=W3:=⟨_,rfl⟩
    rw[hW3] at hend
    have hg3:W2.grownBy W3 (some (W0.heap.size+1)):=by rw[← hW3];exact grownBy_putObj_a _ _ _
    have hv3:W3.heap[w.heap.size]? = some (.cells #[v] (ρ.t 24) (0,0)):=by rw[← hW3];exact(World.putObj_heap_other (by omega)).trans hv
    have hK3:W3.heap[W0.heap.size]? = some (.deferred (some [])):=by rw[← hW3];exact(World.putObj_heap_other (by omega)).trans h2.K
    have hrow3:=hrow.kept hg3 (ownsRow_ne_a hrow h2.L (fun cur e=>by first | cases e | exact hne (Obj.cells.inj e).2.1))
    have hb3:Below w.heap.size w W3:=h2.below.grown hg3 h2.below.size (fun k e=>by cases e;omega)
    obtain⟨hc3,hf3⟩:=cell_of_box_a hv3
    clear hW3
    refine⟨none,W3,hend,?_⟩
    gi_wp2
    rw[← hs0]
    refine⟨by simp,.inl ⟨_,_,rfl,run_takeDeferred hK3,?_⟩⟩
    exact⟨_,results_tmp rfl _ _ _,v,ss,rfl,hS,hrow3.kept (grownBy_putObj_a _ _ _) (ownsRow_ne_a hrow3 hK3 (fun cur e=>by first | cases e | exact hne (Obj.cells.inj e).2.1)),hnil,hb3.grown (grownBy_putObj_a _ _ _) hb3.size (fun k e=>by cases e;omega)⟩
set_option maxHeartbeats 1000000 in
theorem seqB_collect (L:SlLaysZI.n8 P ρ) (F:Fence) (n:Nat) (h8:F.fn (ρ.f 8)) (h11:F.fn (ρ.f 11)) (hro:F.round=none) (hn:3≤n) (g:Nat) (lb:Array Value) (hFg:F.fn g) (eg:∀ args w,(callFunc g args).run P w=.ok (.enter g args) w)
  (S:List Int→Prop) (N:Nat) (hN:N≤maxLen) (hNb:N * 8≤140737488355328) (w:World) (hseq:SeqGivesB F (n - 1 - 1) P g lb encZ S N w) :
  CallsIn F n P (ρ.f 8) #[.func (.func g) #[] lb] w fun e w'=>∃ (v:Value) (ss:List Int),e=.returned v∧S ss∧w'.ownsRow w.heap.size (ρ.t 26) 1 v ss.length (ss.map encZ)∧(v=.slice none 0 0↔ss=[])∧Below w.heap.size w w':=by
 have h1:1≤n:=by omega
 have e11:∀ args w,(callFunc (ρ.f 11) args).run P w=.ok (.enter (ρ.f 11) args) w:=L.f11.enters rfl
 have mixed:=L.mixed;have t0:=L.t0;have a0:=L.a0;have z0:=L.z0;have v0:=L.v0;have t24:=L.t24;have a24:=L.a24;have z24:=L.z24;have v24:=L.v24;have t26:=L.t26;have a26:=L.a26;have z26:=L.z26;have v26:=L.v26;have t28:=L.t28;have a28:=L.a28;have z28:=L.z28;have v28:=L.v28
 have u0:=run_underlying L.t0;have u24:=run_underlying L.t24;have u26:=run_underlying L.t26;have u28:=run_underlying L.t28
 obtain⟨_,_,FG⟩:=L.f8
 refine callsIn_of_wp FG rfl h8 ?_ hro
 simp only[SlBodyZ.n8_ntmps ρ,List.size_toArray,List.length_cons,List.length_nil,Nat.reduceAdd,Nat.reduceSub,Array.replicate_succ,Array.replicate_zero,List.push_toArray,List.append_toArray,List.nil_append,List.cons_append]
 gi_wp2_with (gi_at_fn (ρ.f 11);refine(seqB_append { L with } F (n - 1) h11 hro (by omega) g lb hFg eg S N hN hNb _ hseq).mono ?_;rintro e w' ⟨v,ss,rfl,hS,hrow,hnil,hb⟩)
 go_ret
 exact⟨v,ss,rfl,hS,hrow,hnil,hb⟩
set_option maxRecDepth 100000 in
set_option maxHeartbeats 2000000 in
theorem seqB_sorted (L:SlLaysZI.n6 P ρ) (F:Fence) (n:Nat) (h6:F.fn (ρ.f 6)) (h8:F.fn (ρ.f 8)) (h9:F.fn (ρ.f 9)) (h11:F.fn (ρ.f 11)) (hro:F.round=none) (hn:4≤n) (hsort:AnyZI.SortsIn P ρ F (n - 1)) (e9:∀ args w,(callFunc (ρ.f 9) args).run P w=.ok (.enter (ρ.f 9) args) w) (g:Nat) (lb:Array Value) (hFg:F.fn g) (eg:∀ args w,(callFunc g args).run P w=.ok (.enter g args) w)
  (S:List Int→Prop) (N:Nat) (hN:N≤maxLen) (hNb:N * 8≤140737488355328) (hSl:∀ ss,S ss→ss.length≤N) (w:World) (hseq:SeqGivesB F (n - 1 - 1 - 1) P g lb encZ S N w) :
  CallsIn F n P (ρ.f 6) #[.func (.func g) #[] lb] w fun e w'=>∃ (v:Value) (ss:List Int),e=.returned v∧S ss ∧
   w'.ownsRow w.heap.size (ρ.t 26) 1 v ss.length ((ss.mergeSort (fun x y=>decide (x≤y))).map encZ)∧(v=.slice none 0 0↔ss=[])∧Below w.heap.size w w':=by
 have h1:1≤n:=by omega
 have e8:∀ args w,(callFunc (ρ.f 8) args).run P w=.ok (.enter (ρ.f 8) args) w:=L.f8.enters rfl
 have mixed:=L.mixed;have t0:=L.t0;have a0:=L.a0;have z0:=L.z0;have v0:=L.v0;have t24:=L.t24;have a24:=L.a24;have z24:=L.z24;have v24:=L.v24;have t26:=L.t26;have a26:=L.a26;have z26:=L.z26;have v26:=L.v26;have t28:=L.t28;have a28:=L.a28;have z28:=L.z28;have v28:=L.v28
 have u0:=run_underlying L.t0;have u24:=run_underlying L.t24;have u26:=run_underlying L.t26;have u28:=run_underlying L.t28
 obtain⟨_,_,FG⟩:=L.f6
 refine callsIn_of_wp FG rfl h6 ?_ hro
 simp only[SlBodyZ.n6_ntmps ρ,List.size_toArray,List.length_cons,List.length_nil,Nat.reduceAdd,Nat.reduceSub,Array.replicate_succ,Array.replicate_zero,List.push_toArray,List.append_toArray,List.nil_append,List.cons_append]
 gi_wp2_with (gi_at_fn (ρ.f 8);refine(seqB_collect { L with } F (n - 1) h8 h11 hro (by omega) g lb hFg eg _ N hN hNb _ hseq).mono ?_;rintro e W ⟨v,ss,rfl,hS,hrow,hnil,hb⟩)
 rcases hrow.2 with ⟨rfl,hz⟩ | ⟨gb,cap,cur,rfl,hbase,hgb,r1,r2,r3,r4⟩
 ·
  have hss:ss=[]:=List.eq_nil_of_length_eq_zero hz
  subst hss
  gi_wp2_with (gi_at_fn (ρ.f 9);refine(hsort.2 none 0 W).mono ?_;rintro e w' ⟨rfl,rfl⟩)
  go_ret
  exact⟨.slice none 0 0,[],rfl,hS,by simpa using hrow,by simp,hb⟩
 ·have hH:Holds encZ W gb 0 ss.toArray:=holds_of_block_i hgb (by simpa using r4)
  have hgl:gb < W.heap.size:=(Array.getElem?_eq_some_iff.1 hgb).1
  have hsz:ss.length < 4611686018427387904:=by have:=hSl ss hS;omega
  have cS:=hsort.1 gb 0 cap ss W hH hgl hsz
  gi_wp2_with (gi_at_fn (ρ.f 9);refine cS.mono ?_;rintro e w' ⟨rfl,nn,os,rfl⟩)
  go_ret
  exact⟨_,ss,rfl,hS,ownsRow_sorted_i (by simp) hbase hgb r1 r2 r3,hnil,hb.grown (grownBy_sorted_i _) hb.size (fun j hj=>by cases hj;exact hbase)⟩
end Go.Proofs.YtcplmcjbkpmhdaaGreatDoor
namespace Go.Proofs.YtcplmcjbkpmhdaaGreatDoor
open Go.RowKit Go.WideMaps Go.Maps Go.Sort Go.Shelf
attribute [local go_sem] Oper.semAt_some
theorem sortsI (m:Nat):AnyZI.SortsIn Tryz.prog Tryz.sortedA_ren Fence.wide m :=
 ⟨fun blk off cap ss W hH hblk hsz=>callsIn_wide.2 (Tryz.slices_Sort_int blk off cap ss W hH hblk hsz),fun p cap W=>callsIn_wide.2 (Tryz.slices_Sort_int_none p cap W)⟩
set_option maxRecDepth 100000 in
set_option maxHeartbeats 2000000 in
theorem valsSeq (Bs:Nat) (zs:List Int) (a:Option Addr) (cap:Nat) (w:World) (hBs:w.cell? ⟨Bs,0,none⟩=some (.slice a zs.length cap)) (hI:IntsIn w zs a cap) :
  SeqGivesB Fence.wide 2 Tryz.prog 135 #[.pointer (some ⟨Bs,0,none⟩)] encZ (fun ss=>ss=zs) zs.length w:=fun l J W hW hAb hJb hY h0=>by
 have hlen:=hI.2.1
 have hBW:=keeps_of_below hW _ _ hBs
 refine callsIn_of_wp Tryz.func135 rfl trivial ?_ rfl
 simp only[Tryz.ntmps135,List.size_toArray,List.length_cons,List.length_nil,Nat.reduceAdd,Nat.reduceSub,Array.replicate_succ,Array.replicate_zero,List.push_toArray,List.append_toArray,List.nil_append,List.cons_append]
 gi_wp2
 gi_loopw [7] (fun i wr=>∃ k:Nat,k≤zs.length∧i=.int .i64 k∧J (zs.take k) wr) (fun i _=>zs.length - (intOf i).toNat)
 case atStart=>exact⟨0,Nat.zero_le _,rfl,h0⟩
 case round =>
  obtain⟨k,hk,rfl,hJs⟩:=hrel
  have hb:=hJb _ _ hJs
  by_cases hlt:k < zs.length
  ·obtain⟨b,off,ha⟩:=hI.addr.resolve_left (by omega)
   subst ha
   have hcx:=keeps_of_below hb _ _ (hI.get rfl hlt)
   have hg:zs.getD k 0=zs[k]'hlt:=by rw[List.getD_eq_getElem?_getD,List.getElem?_eq_getElem hlt];rfl
   rw[hg] at hcx
   obtain⟨fn,tmps,assign,body,hy,hR⟩:=hY _ (zs[k]'hlt) wr hJs (by rw[List.length_take];omega)
   gi_wp2
   refine hR.mono ?_
   rintro e W3 ⟨rfl,hJ3,hk3⟩
   gi_wp2
   go_roundw
   case rel=>exact⟨k+1,by omega,by simp,by rw[List.take_succ_eq_append_getElem hlt];exact hJ3⟩
   case measure=>simp[intOf];omega
  ·obtain rfl:k=zs.length:=by omega
   gi_wp2
   go_end0
   rw[List.take_length] at hJs
   exact⟨⟨_,rfl⟩,zs,rfl,hJs⟩
theorem vals_any (a:Option Addr) (n c:Nat) (w:World) :
  Calls Tryz.prog 83 #[.slice a n c] w fun e w'=>e=.returned (.func (.func 135) #[] #[.pointer (some ⟨w.heap.size,0,none⟩)])∧w'=w.alloc (.cells #[.slice a n c] 30):=by
 go_enter Tryz.func83, Tryz.ntmps83
 go_wp2_with fail
 go_ret
 exact⟨rfl,rfl⟩
set_option maxHeartbeats 1000000 in
theorem sortedVals_any (Bs:Nat) (zs:List Int) (a:Option Addr) (cap:Nat) (w:World) (hBs:w.cell? ⟨Bs,0,none⟩=some (.slice a zs.length cap)) (hI:IntsIn w zs a cap) (hz:zs.length≤1073741824) :
  Calls Tryz.prog 82 #[.func (.func 135) #[] #[.pointer (some ⟨Bs,0,none⟩)]] w fun e w'=>(∃ v,e=.returned v∧w'.ownsRow w.heap.size 3 1 v zs.length ((zs.mergeSort (fun x y=>decide (x≤y))).map (Value.int .i64))∧(v=.slice none 0 0↔zs=[]))∧Below w.heap.size w w':=by
 have cS:=seqB_sorted Tryz.sortedA Fence.wide 5 trivial trivial trivial trivial rfl (by omega) (sortsI _) (enters_of Tryz.func134 (by kernel_rfl) rfl) 135 #[.pointer (some ⟨Bs,0,none⟩)] trivial (enters_of Tryz.func135 (by kernel_rfl) rfl) (fun ss=>ss=zs) zs.length (by unfold maxLen;omega) (by omega) (fun ss h=>by rw[h];exact Nat.le_refl _) w (valsSeq Bs zs a cap w hBs hI)
 refine((callsIn_wide (n:=5)).1 cS).mono ?_
 rintro e w' ⟨v,ss,rfl,rfl,hrow,hnil,hb⟩
 exact⟨⟨v,rfl,hrow,hnil⟩,hb⟩
end Go.Proofs.YtcplmcjbkpmhdaaGreatDoor
namespace Go.Proofs.YtcplmcjbkpmhdaaGreatDoor
open Go.RowKit
attribute [local go_sem ↓] Go.wp_at_zero Go.wp_at_succ
def noIdx (n:Nat) (v:Int):Bool:=decide (v < 0) || decide ((n:Int)≤v)
theorem noIdx_any (n:Nat) (l:List Int):l.any (noIdx n)=!inRange n l:=by
 unfold inRange
 induction l with
 | nil=>rfl
 | cons v t ih =>
  rw[List.any_cons,List.all_cons,ih,Bool.not_and]
  congr 1
  unfold noIdx
  by_cases h1:v < 0<;>by_cases h2:(n:Int)≤v<;>simp[h1,h2]<;>omega
set_option maxHeartbeats 2000000 in
set_option maxRecDepth 100000 in
theorem ctr1_any (bp n:Nat) (v:Int) (ah:Option Addr) (ch:Nat) (w:World) (hc:w.cell? ⟨bp,1,none⟩=some (.slice ah n ch)) :
  Calls Tryz.prog 80 #[.int .i64 v,.pointer (some ⟨bp,0,none⟩)] w fun e w'=>e=.returned (.bool (noIdx n v))∧Below w.heap.size w w':=by
 have HR1:Hid (v < 0→noIdx n v=true):=fun h=>by unfold noIdx;simp[h]
 have HR2:Hid (¬ v < 0→(n:Int)≤v→noIdx n v=true):=fun h h2=>by unfold noIdx;simp[h2]
 have HR3:Hid (¬ v < 0→¬ (n:Int)≤v→noIdx n v=false):=fun h h2=>by unfold noIdx;simp[h,h2]
 generalize noIdx n v=R at HR1 HR2 HR3⊢
 by_cases h1:v < 0
 ·have hR:=Lib.hid (HR1.out h1)
  clear HR1 HR2 HR3
  go_enter Tryz.func80, Tryz.ntmps80
  go_wp2_with fail
  first | exact⟨by rw[hR.out];rfl,bel⟩ | (go_ret;exact⟨by rw[hR.out];rfl,bel⟩)
 ·by_cases h2:(n:Int)≤v
  ·have hR:=Lib.hid (HR2.out h1 h2)
   have hd:decide ((n:Int)≤v)=true:=decide_eq_true h2
   clear HR1 HR2 HR3
   go_enter Tryz.func80, Tryz.ntmps80
   go_wp2_with fail
   first | exact⟨by rw[hR.out];rfl,bel⟩ | (go_ret;exact⟨by rw[hR.out];rfl,bel⟩)
  ·have hR:=Lib.hid (HR3.out h1 h2)
   have hd:decide ((n:Int)≤v)=false:=decide_eq_false h2
   clear HR1 HR2 HR3
   go_enter Tryz.func80, Tryz.ntmps80
   go_wp2_with fail
   first | exact⟨by rw[hR.out];rfl,bel⟩ | (go_ret;exact⟨by rw[hR.out];rfl,bel⟩)
end Go.Proofs.YtcplmcjbkpmhdaaGreatDoor
namespace Go.Proofs.YtcplmcjbkpmhdaaGreatDoor
open Go.RowKit
attribute [local go_sem ↓] Go.wp_at_zero Go.wp_at_succ
theorem compact_le (zs:List Int):(Lib.compact zs).length≤zs.length:=by
 unfold Lib.compact Lib.compactUpTo
 rw[List.length_map]
 have:=List.length_filter_le (Lib.keeps zs.toArray) (List.range zs.length)
 rwa [List.length_range] at this
theorem compactOwn_any (B:Nat) (v:Value) (zs:List Int) (w:World) (h:w.ownsRow B 3 1 v zs.length (zs.map (Value.int .i64))) (hn:zs.length≤1073741824) :
  Calls Tryz.prog 81 #[v] w fun e w'=>(∃ v',e=.returned v'∧w'.ownsRow B 3 1 v' (Lib.compact zs).length ((Lib.compact zs).map (Value.int .i64)))∧Below B w w':=by
 by_cases hv:v=.slice none 0 0
 ·obtain⟨a,c,hv2,-⟩:=ints_of_own h hn
  subst hv
  injection hv2 with _ h2 _
  obtain rfl:zs=[]:=List.eq_nil_of_length_eq_zero h2.symm
  refine(Tryz.slices_Compact_int_empty none 0 w).mono ?_
  rintro e w' ⟨rfl,rfl⟩
  exact⟨⟨_,rfl,World.ownsRow_nil _ _ _ _⟩,Below.refl _ _⟩
 ·obtain⟨g,cap,rfl,hg,hlt,hnc,hm,hl,hH⟩:=Lib.holds_of_ownsRow h hv
  refine(Tryz.slices_Compact_int g 0 cap zs w hH (by omega) hnc).mono ?_
  rintro e w' ⟨rfl,q,rfl⟩
  refine⟨⟨_,rfl,?_⟩,Lib.below_putRow (Below.refl _ _) hg⟩
  have:=Lib.ownsRow_putRow (q:=q) (k:=(Lib.compact zs).length) h (ys:=Lib.compact zs++List.replicate (zs.length - (Lib.compact zs).length) 0) (by rw[List.length_append,List.length_replicate];have:=compact_le zs;omega) (compact_le zs)
  rw[List.take_left] at this
  exact this
theorem selN_len (n:Nat) (l:List Int):(selN n l).length≤n:=by
 unfold selN
 have:=List.length_filter_le (fun i:Nat=>l.contains (i:Int)) (List.range n)
 rwa [List.length_range] at this
theorem sel_any (B n:Nat) (l:List Int) (v:Value) (w:World) (hr:inRange n l=true) (hl:l.length≤1073741824) (hn:n≤1000) (h:w.ownsRow B 3 1 v l.length ((l.mergeSort (fun x y=>decide (x≤y))).map (Value.int .i64))) :
  Calls Tryz.prog 81 #[v] w fun e w'=>(∃ a c,e=.returned (.slice a (selN n l).length c)∧IntsIn w' (intsN (selN n l)) a c)∧Below B w w':=by
 have hlen:(l.mergeSort (fun x y=>decide (x≤y))).length=l.length:=List.length_mergeSort _
 rw[← hlen] at h
 refine(compactOwn_any B v _ w h (by omega)).mono ?_
 rintro e w' ⟨⟨v',rfl,ho⟩,hb⟩
 have hc:Lib.compact (l.mergeSort (fun x y=>decide (x≤y)))=intsN (selN n l):=compact_sel hr (List.mergeSort_perm _ _) (by
  have:=List.pairwise_mergeSort (le:=fun x y:Int=>decide (x≤y)) (fun a b c h1 h2=>by simp at *;omega) (fun a b=>by simp;omega) l
  exact this.imp fun h=>by simpa using h)
 rw[hc,intsN_len] at ho
 obtain⟨a,c,rfl,hI⟩:=valsN_ints ho (by have:=selN_len n l;omega)
 exact⟨⟨a,c,rfl,hI⟩,hb⟩
set_option maxHeartbeats 8000000 in
set_option maxRecDepth 100000 in
theorem Contradict_any (p:ProbD) (x:ProbA) (l:List Int) (a:Option Addr) (c:Nat) (w:World) (hE:ProbIn w p x) (hs:ProbSmall p) (hG:Glob w) (hT:ProbOk p→bitsTo p.vars p.vars.length≤10) (hd:p.dists.length≤1048576) (hh:p.hard.length≤7) (hI:IntsIn w l a c) :
  Calls Tryz.prog 35 #[probVal p x,.slice a l.length c] w fun e w'=>e=.returned (.tuple #[.bool (ctrV p l),.int .i64 (ctrE p l)])∧Below w.heap.size w w':=by
 have HV0:=Lib.hid (fun W (hW:Below w.heap.size w W)=>Valid_any p x W (hE.keep (keeps_of_below hW)) hs (hG.below hW))
 have hlen:=hI.2.1
 by_cases hp:ProbOk p
 ·have hc:CorOk p:=⟨hp,hs,hT hp,hd,hh⟩
  have HV1:=Lib.hid (fun W hW=>errT (HV0.out W hW) hp)
  have HCf:=Lib.hid (fun bp ah ch W (hW:Below w.heap.size w W) (hbx:∀ W',Below W.heap.size W W'→W'.cell? ⟨bp,1,none⟩=some (.slice ah p.hard.length ch))=>containsFunc_ctr bp (noIdx p.hard.length) l a c W (hI.keep (keeps_of_below hW)) (fun v _ W' hW'=>ctr1_any bp p.hard.length v ah ch W' (hbx W' hW')))
  rw[noIdx_any] at HCf
  cases hr:inRange p.hard.length l
  ·have e1:ctrV p l=false:=by unfold ctrV;rw[if_pos (pB_true hp),if_neg (by rw[hr];simp)]
   have e2:ctrE p l=1:=by unfold ctrE;rw[if_pos (pB_true hp),if_neg (by rw[hr];simp)]
   rw[e1,e2]
   rw[hr] at HCf
   simp only[probVal_eq] at HV1⊢
   clear hE hs hG hT hd hh HV0 hp hc hr e1 e2 hI
   obtain⟨vs,hard,soft,ds,gs⟩:=p
   obtain⟨av,cv,ah,ch,ao,co,ad,cd,ag,cg⟩:=x
   simp only at HV1 HCf⊢
   have HV:=Lib.hid (HV1.out (w.alloc (.cells #[.slice av vs.length cv,.slice ah hard.length ch,.slice ao soft.length co,.slice ad ds.length cd,.slice ag gs.length cg] 27)) ((Below.refl _ _).alloc (Nat.le_refl _) _))
   clear HV1
   go_enter Tryz.func35, Tryz.ntmps35
   go_wp2_with fail
   refine HV.out.mono ?_
   rintro e w1 ⟨rfl,hb1⟩
   simp only[World.size_alloc] at hb1
   have HB1:=Lib.hid hb1
   have hz1:=hb1.size
   simp only[World.size_alloc] at hz1
   clear hb1
   ((try clear b0 b1 b2 b3 b4);have b0:=box_cell HB1.out 0;have b1:=box_cell HB1.out 1;have b2:=box_cell HB1.out 2;have b3:=box_cell HB1.out 3;have b4:=box_cell HB1.out 4;(try simp at b0 b1 b2 b3 b4))
   go_wp2_with fail
   refine(HCf.out w.heap.size ah ch w1 (boxW _ HB1.out) (fun W' hW'=>(keeps_of_below hW') _ _ b1)).mono ?_
   rintro e w2 ⟨rfl,hb2⟩
   have HB2:=Lib.hid ((boxW _ HB1.out).trans (hb2.mono (by omega)))
   clear hb2
   go_wp2_with fail
   first | exact⟨rfl,HB2.out⟩ | (go_ret2;exact⟨rfl,HB2.out⟩)
  ·have e1:ctrV p l=conT p (selN p.hard.length l):=by unfold ctrV;rw[if_pos (pB_true hp),if_pos hr]
   have e2:ctrE p l=0:=by unfold ctrE;rw[if_pos (pB_true hp),if_pos hr]
   rw[e1,e2]
   have HSe:=Lib.hid (fun B v W h=>sel_any B p.hard.length l v W hr hlen (by omega) h)
   have HTe:=Lib.hid (fun W (hW:Below w.heap.size w W)=>tester_any p x W hc (hG.below hW) (hE.below hW))
   have HTs:=Lib.hid (fun bp bs a c W (hW:Below w.heap.size w W) (hB:TstIn W p x bp bs) (hI:IntsIn W (intsN (selN p.hard.length l)) a c)=>test_any p x bp bs (selN p.hard.length l) a c W hc (hG.below hW) hB (fun i hi=>(selN_mem.1 hi).1) hI (by have:=selN_len p.hard.length l;omega))
   have HSo:=Lib.hid (fun Bs W (hW:Below w.heap.size w W) hBs=>sortedVals_any Bs l a c W hBs (hI.keep (keeps_of_below hW)) hlen)
   rw[hr] at HCf
   generalize conT p (selN p.hard.length l)=cq at HTs⊢
   generalize selN p.hard.length l=SN at HSe HTs
   simp only[probVal_eq] at HV1 HTe⊢
   clear hE hs hG hT hd hh HV0 hp hc hr e1 e2 hI
   obtain⟨vs,hard,soft,ds,gs⟩:=p
   obtain⟨av,cv,ah,ch,ao,co,ad,cd,ag,cg⟩:=x
   simp only at HV1 HCf HSe HTe HTs⊢
   have HV:=Lib.hid (HV1.out (w.alloc (.cells #[.slice av vs.length cv,.slice ah hard.length ch,.slice ao soft.length co,.slice ad ds.length cd,.slice ag gs.length cg] 27)) ((Below.refl _ _).alloc (Nat.le_refl _) _))
   clear HV1
   go_enter Tryz.func35, Tryz.ntmps35
   go_wp2_with fail
   refine HV.out.mono ?_
   rintro e w1 ⟨rfl,hb1⟩
   simp only[World.size_alloc] at hb1
   have HB1:=Lib.hid hb1
   have hz1:=hb1.size
   simp only[World.size_alloc] at hz1
   clear hb1
   ((try clear b0 b1 b2 b3 b4);have b0:=box_cell HB1.out 0;have b1:=box_cell HB1.out 1;have b2:=box_cell HB1.out 2;have b3:=box_cell HB1.out 3;have b4:=box_cell HB1.out 4;(try simp at b0 b1 b2 b3 b4))
   go_wp2_with fail
   refine(HCf.out w.heap.size ah ch w1 (boxW _ HB1.out) (fun W' hW'=>(keeps_of_below hW') _ _ b1)).mono ?_
   rintro e w2 ⟨rfl,hb2⟩
   have HB2:=Lib.hid (HB1.out.trans (hb2.mono (by omega)))
   have hz2:=hb2.size
   clear hb2 b0 b1 b2 b3 b4
   go_wp2_with fail
   refine(vals_any a l.length c w2).mono ?_
   rintro e w3 ⟨rfl,rfl⟩
   have HB3:=Lib.hid (HB2.out.alloc (B:=w.heap.size+1) (by omega) (.cells #[.slice a l.length c] 30))
   have HS3:=Lib.hid (HSo.out w2.heap.size (w2.alloc (.cells #[.slice a l.length c] 30)) (boxW _ HB3.out) (by rw[cell_of_blk (heap_alloc_new' w2 _) 0];rfl))
   have hz3:(w2.alloc (.cells #[.slice a l.length c] 30)).heap.size=w2.heap.size+1:=by simp
   generalize w2.alloc (.cells #[.slice a l.length c] 30)=w3 at HB3 HS3 hz3⊢
   go_wp2_with fail
   refine HS3.out.mono ?_
   rintro e w4 ⟨⟨v4,rfl,ho4,-⟩,hb4⟩
   have HB4:=Lib.hid (HB3.out.trans (hb4.mono (by omega)))
   have HC4:=Lib.hid (HSe.out w3.heap.size v4 w4 ho4)
   have hz4:=hb4.size
   clear hb4 ho4
   go_wp2_with fail
   refine HC4.out.mono ?_
   rintro e w5 ⟨⟨a5,c5,rfl,hI5⟩,hb5⟩
   have HB5:=Lib.hid (HB4.out.trans (hb5.mono (by omega)))
   have HI5:=Lib.hid hI5
   have hz5:=hb5.size
   clear hb5 hI5
   ((try clear b0 b1 b2 b3 b4);have b0:=box_cell HB5.out 0;have b1:=box_cell HB5.out 1;have b2:=box_cell HB5.out 2;have b3:=box_cell HB5.out 3;have b4:=box_cell HB5.out 4;(try simp at b0 b1 b2 b3 b4))
   go_wp2_with fail
   refine(HTe.out w5 (boxW _ HB5.out)).mono ?_
   rintro e w6 ⟨⟨bp,bs,rfl,hT6⟩,hb6⟩
   have HB6:=Lib.hid (HB5.out.trans (hb6.mono (by omega)))
   have HS6:=Lib.hid (HTs.out bp bs a5 c5 w6 (boxW _ HB6.out) hT6 (HI5.out.keep (keeps_of_below hb6)))
   have hz6:=hb6.size
   clear hb6 hT6 b0 b1 b2 b3 b4
   go_wp2_with fail
   refine HS6.out.mono ?_
   rintro e w7 ⟨rfl,hb7⟩
   have HB7:=Lib.hid ((boxW _ HB6.out).trans (hb7.mono (boxW _ HB6.out).size))
   clear hb7
   go_wp2_with fail
   first | exact⟨rfl,HB7.out⟩ | (go_ret2;exact⟨rfl,HB7.out⟩)
 ·have HV1:=Lib.hid (fun W hW=>errF (HV0.out W hW) hp)
  have e1:ctrV p l=false:=by unfold ctrV;rw[if_neg (fun h=>hp (pB_iff.1 h))]
  have e2:ctrE p l=1:=by unfold ctrE;rw[if_neg (fun h=>hp (pB_iff.1 h))]
  rw[e1,e2]
  simp only[probVal_eq] at HV1⊢
  clear hE hs hG hT hd hh HV0 hp e1 e2 hI
  obtain⟨vs,hard,soft,ds,gs⟩:=p
  obtain⟨av,cv,ah,ch,ao,co,ad,cd,ag,cg⟩:=x
  simp only at HV1⊢
  have HV:=Lib.hid (HV1.out (w.alloc (.cells #[.slice av vs.length cv,.slice ah hard.length ch,.slice ao soft.length co,.slice ad ds.length cd,.slice ag gs.length cg] 27)) ((Below.refl _ _).alloc (Nat.le_refl _) _))
  clear HV1
  go_enter Tryz.func35, Tryz.ntmps35
  go_wp2_with fail
  refine HV.out.mono ?_
  rintro e w1 ⟨⟨n,rfl,hn⟩,hb1⟩
  simp only[World.size_alloc] at hb1
  have HB1:=Lib.hid (boxW _ hb1)
  clear hb1
  go_wp2_with fail
  first | exact⟨rfl,HB1.out⟩ | (go_ret2;exact⟨rfl,HB1.out⟩)
end Go.Proofs.YtcplmcjbkpmhdaaGreatDoor
