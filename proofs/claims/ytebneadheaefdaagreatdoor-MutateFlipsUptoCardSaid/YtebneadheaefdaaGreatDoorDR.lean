/- ref32: signals. -/
import Derived.Test.YtebneadheaefdaaGreatDoorDP
set_option linter.unusedSimpArgs false
set_option linter.unusedVariables false
set_option linter.unnecessarySimpa false
namespace Go.Proofs.YtebneadheaefdaaGreatDoor
open Go.RowKit
attribute [local go_sem ↓] Go.wp_at_zero Go.wp_at_succ
def OrdAt (w:World) (l:List Int) (a:Option Addr):Prop:=∀ b o,a=some ⟨b,o,none⟩→∀ i (h:i < l.length),w.cell? ⟨b,o+i,none⟩=some (.int .i64 (l[i]'h))
theorem OrdAt.of {w:World} {l:List Int} {a:Option Addr} {cap:Nat} (h:IntsIn w l a cap):OrdAt w l a:=fun b o ha i hi=>intsIn_get h ha hi
theorem OrdAt.keep {w w':World} {l:List Int} {a:Option Addr} (h:OrdAt w l a) (hb:Below w.heap.size w w'):OrdAt w' l a:=fun b o ha i hi=>keeps_of_below hb _ _ (h b o ha i hi)
theorem OrdAt.grown {w w':World} {l:List Int} {a:Option Addr} {row:Option Nat} (h:OrdAt w l a) (hg:w.grownBy w' row) (hne:∀ p:Addr,a=some p→p.block < w.heap.size→row≠some p.block):OrdAt w' l a:=fun b o ha i hi=>by
 have h1:=h b o ha i hi
 have h2:=World.block_lt_of_cell? _ _ h1
 have h3:=hg.block b h2 (fun e=>hne _ ha h2 e.symm)
 rw[← h1]
 simp[World.cell?,h3]
end Go.Proofs.YtebneadheaefdaaGreatDoor
namespace Go.Proofs.YtebneadheaefdaaGreatDoor
open Go.RowKit
attribute [local go_sem ↓] Go.wp_at_zero Go.wp_at_succ
end Go.Proofs.YtebneadheaefdaaGreatDoor
namespace Go.Proofs.YtebneadheaefdaaGreatDoor
open Go.RowKit
attribute [local go_sem ↓] Go.wp_at_zero Go.wp_at_succ
end Go.Proofs.YtebneadheaefdaaGreatDoor
namespace Go.Proofs.YtebneadheaefdaaGreatDoor
open Go.RowKit
attribute [local go_sem ↓] Go.wp_at_zero Go.wp_at_succ
def RowsD (w:World) (l:List (List Int)) (a:Option Addr) (cap:Nat):Prop:=SliceIn 1 l.length a cap (fun i b o=>∃ v,l[i]? = some v∧∃ a' cap',w.cell? ⟨b,o,none⟩=some (.slice a' v.length cap')∧IntsIn w v a' cap')
def SigRows (w:World) (l:List Sigs) (a:Option Addr) (cap:Nat):Prop:=SliceIn 1 l.length a cap (fun i b o=>∃ v,l[i]? = some v∧∃ a' cap',w.cell? ⟨b,o,none⟩=some (.slice a' v.length cap')∧SigsIn w v a' cap')
theorem RowsD.keep {w w':World} {l:List (List Int)} {a:Option Addr} {cap:Nat} (hk:∀ a v,w.cell? a=some v→w'.cell? a=some v) (h:RowsD w l a cap):RowsD w' l a cap:=h.mono fun _ _ _ _ ⟨v,hv,a',c',h1,h2⟩=>⟨v,hv,a',c',hk _ _ h1,h2.keep hk⟩
theorem SigRows.keep {w w':World} {l:List Sigs} {a:Option Addr} {cap:Nat} (hk:∀ a v,w.cell? a=some v→w'.cell? a=some v) (h:SigRows w l a cap):SigRows w' l a cap:=h.mono fun _ _ _ _ ⟨v,hv,a',c',h1,h2⟩=>⟨v,hv,a',c',hk _ _ h1,h2.keep hk⟩
theorem SigRows.get {w:World} {l:List Sigs} {a:Option Addr} {cap:Nat} (h:SigRows w l a cap) {b off:Nat} (ha:a=some ⟨b,off,none⟩) {i:Nat} (hi:i < l.length):∃ a' cap',w.cell? ⟨b,off+i,none⟩=some (.slice a' (l[i]'hi).length cap')∧SigsIn w (l[i]'hi) a' cap':=by
 rcases h.2.2 with h | ⟨b',off',ha',hq⟩
 ·omega
 ·rw[ha] at ha'
  simp only[Option.some.injEq,Addr.mk.injEq,and_true] at ha'
  obtain⟨rfl,rfl⟩:=ha'
  obtain⟨e',he',hp⟩:=hq i hi
  rw[List.getElem?_eq_getElem hi] at he'
  obtain rfl:=Option.some.inj he'
  rw[Nat.mul_one] at hp
  exact hp
theorem RowsD.get {w:World} {l:List (List Int)} {a:Option Addr} {cap:Nat} (h:RowsD w l a cap) {b off:Nat} (ha:a=some ⟨b,off,none⟩) {i:Nat} (hi:i < l.length):∃ a' cap',w.cell? ⟨b,off+i,none⟩=some (.slice a' (l[i]'hi).length cap')∧IntsIn w (l[i]'hi) a' cap':=by
 rcases h.2.2 with h | ⟨b',off',ha',hq⟩
 ·omega
 ·rw[ha] at ha'
  simp only[Option.some.injEq,Addr.mk.injEq,and_true] at ha'
  obtain⟨rfl,rfl⟩:=ha'
  obtain⟨e',he',hp⟩:=hq i hi
  rw[List.getElem?_eq_getElem hi] at he'
  obtain rfl:=Option.some.inj he'
  rw[Nat.mul_one] at hp
  exact hp
noncomputable def rowsF (d:DesD) (rows:List Sigs) (n:Nat):List Int:=(List.range (rows.length * n)).map fun j=>(rowN d rows (j / n)).getD (j % n) 0
theorem rowsF_len (d:DesD) (rows:List Sigs) (n:Nat):(rowsF d rows n).length=rows.length * n:=by simp[rowsF]
theorem rowsF_at {d:DesD} {rows:List Sigs} {n t i:Nat} (ht:t < rows.length) (hi:i < n):(rowsF d rows n)[t * n+i]? = some ((rowN d rows t).getD i 0):=by
 have h1:t * n+i < rows.length * n:=by
  have:(t+1) * n≤rows.length * n:=Nat.mul_le_mul (by omega) (Nat.le_refl _)
  rw[Nat.add_mul,Nat.one_mul] at this
  omega
 have h2:(t * n+i) / n=t:=by
  rw[Nat.mul_comm,Nat.mul_add_div (by omega),Nat.div_eq_of_lt hi];rfl
 have h3:(t * n+i) % n=i:=by
  rw[Nat.mul_comm,Nat.mul_add_mod,Nat.mod_eq_of_lt hi]
 unfold rowsF
 rw[List.getElem?_map,List.getElem?_range h1]
 simp[h2,h3]
theorem rowN_len {d:DesD} (rows:List Sigs) (t:Nat):(rowN d rows t).length=d.names.length:=by
 unfold rowN
 rw[List.length_map,settle_len _ (stN_len rows t)]
def ValsAt (w:World) (b:Nat) (F:List Int) (p:Nat):Prop:=∃ L:List Value,w.heap[b]? = some (.cells L.toArray 3 (0,0))∧L.length=F.length∧∀ j,j < p→L[j]? = (F[j]?).map (Value.int .i64)
theorem ValsAt.lt {w:World} {b:Nat} {F:List Int} {p:Nat} (h:ValsAt w b F p):b < w.heap.size:=by
 obtain⟨L,h1,_⟩:=h
 exact lt_of_block h1
theorem ValsAt.eq {w w':World} {b:Nat} {F:List Int} {p:Nat} (h:ValsAt w b F p) (hb:w'.heap[b]? = w.heap[b]?):ValsAt w' b F p:=by
 obtain⟨L,h1,h2,h3⟩:=h
 exact⟨L,hb.trans h1,h2,h3⟩
theorem ValsAt.keep {w w':World} {b:Nat} {F:List Int} {p:Nat} (h:ValsAt w b F p) (hb:Below w.heap.size w w'):ValsAt w' b F p:=h.eq (hb.block _ h.lt)
theorem ValsAt.cell {w:World} {b:Nat} {F:List Int} {p:Nat} (h:ValsAt w b F p) {j:Nat} (hj:j < F.length):∃ u,w.cell? ⟨b,j,none⟩=some u:=by
 obtain⟨L,h1,h2,_⟩:=h
 refine⟨L[j]'(by omega),?_⟩
 rw[cell_of_blk h1]
 simp[show j < L.length by omega]
theorem ValsAt.free {w:World} {b:Nat} {F:List Int} {p:Nat} (h:ValsAt w b F p) (j:Nat):w.frozen? ⟨b,j,none⟩=false:=by
 obtain⟨L,h1,_⟩:=h
 simp[World.frozen?,h1]
theorem ValsAt.set {w:World} {b:Nat} {F:List Int} {p:Nat} (h:ValsAt w b F p) {z:Int} (hz:F[p]? = some z):ValsAt (w.setCell ⟨b,p,none⟩ (.int .i64 z)) b F (p+1):=by
 obtain⟨L,h1,h2,h3⟩:=h
 have hp:p < F.length:=(List.getElem?_eq_some_iff.1 hz).1
 refine⟨L.set p (.int .i64 z),?_,by simpa using h2,fun j hj=>?_⟩
 ·rw[heap_setCell_same _ b p _ _ _ h1]
  simp
 ·rw[List.getElem?_set]
  by_cases e:p=j
  ·subst e
   rw[if_pos rfl,if_pos (by omega),hz];rfl
  ·rw[if_neg e]
   exact h3 j (by omega)
theorem ValsAt.ints {w:World} {b:Nat} {d:DesD} {rows:List Sigs} {n p:Nat} (h:ValsAt w b (rowsF d rows n) p) (hn:d.names.length=n) (hs:n≤1073741824) {t:Nat} (ht:t < rows.length) (hp:(t+1) * n≤p):IntsIn w (rowN d rows t) (some ⟨b,t * n,none⟩) n:=by
 obtain⟨L,h1,h2,h3⟩:=h
 have hl:(rowN d rows t).length=n:=by rw[rowN_len,hn]
 refine⟨by omega,by omega,Or.inr ⟨b,t * n,rfl,fun i hi=>⟨(rowN d rows t)[i]'hi,List.getElem?_eq_getElem hi,?_⟩⟩⟩
 rw[Nat.mul_one,cell_of_blk h1]
 have h4:=h3 (t * n+i) (by rw[Nat.add_mul,Nat.one_mul] at hp;omega)
 rw[rowsF_at ht (by omega)] at h4
 simpa [hi] using h4
def rowVs (b n m:Nat):List Value:=(List.range m).map fun t=>.slice (some ⟨b,t * n,none⟩) n n
theorem rowVs_take {b n m k:Nat} (h:k < m):(rowVs b n m).take (k+1)=(rowVs b n m).take k++[.slice (some ⟨b,k * n,none⟩) n n]:=by
 refine take_at ?_
 unfold rowVs
 simp[h]
theorem rows_of_own {w:World} {base b n m p:Nat} {v:Value} {d:DesD} {rows:List Sigs} (h:w.ownsRow base 40 1 v m (rowVs b n m)) (hm:rows.length=m) (hm2:m≤1073741824) (hV:ValsAt w b (rowsF d rows n) p) (hn:d.names.length=n) (hs:n≤1073741824) (hp:m * n≤p):∃ a cap,v=.slice a m cap∧RowsD w (rowsN d rows) a cap:=by
 obtain⟨a,cap,hv,hq⟩:=slice_of_own h hm2
 have hl:(rowsN d rows).length=m:=by simp[rowsN,hm]
 refine⟨a,cap,hv,?_⟩
 unfold RowsD
 rw[hl]
 refine hq.mono fun i b' o hi hc=>?_
 have ht:i < rows.length:=by omega
 have h0:=hc 0 (by omega)
 refine⟨rowN d rows i,by simp[rowsN,ht],some ⟨b,i * n,none⟩,n,?_,hV.ints hn hs ht (Nat.le_trans (Nat.mul_le_mul (by omega) (Nat.le_refl _)) hp)⟩
 rw[rowN_len,hn]
 simpa [rowVs,hi] using h0
theorem slice_row (bV N n t p q:Nat) (hp:p=t * n) (hq:q=(t+1) * n) (h:q≤N) (W:World) :
  (Instr.sliceAt 40 (.slice (some ⟨bV,0,none⟩) N N) (some (.int .i64 p)) (some (.int .i64 q)) (some (.int .i64 q))).run Tryz.prog W=.ok (.slice (some ⟨bV,p,none⟩) n n) W:=by
 have ht : Tryz.prog.underlying 40=some (.slice (Tryz.prog.elem 40)):=by kernel_rfl
 have hpq:q=p+n:=by rw[hp,hq,Nat.add_mul,Nat.one_mul]
 rw[run_sliceAt_slice (h:=ht),run_slice_lhm (ht:=ht) (h0:=by omega) (h1:=by omega) (h2:=by omega) (h3:=by omega)]
 have hs:(Go.sizeOf (Tryz.prog.elem 40)).run Tryz.prog W=.ok 1 W:=by kernel_rfl
 rw[hs]
 simp only[Result.andThen,sliced,Int.toNat_natCast,Nat.mul_one]
 by_cases h0:n=0
 ·subst h0
  have:p=0:=by rw[hp];simp
  subst this
  simp[hpq]
 ·rw[if_neg (by omega)]
  have h1:q - p=n:=by omega
  have h2:(⟨bV,0,none⟩:Addr).add p=⟨bV,p,none⟩:=by unfold Addr.add;split<;>simp_all
  simp[h1,h2]
end Go.Proofs.YtebneadheaefdaaGreatDoor
namespace Go.Proofs.YtebneadheaefdaaGreatDoor
open Go.RowKit
attribute [local go_sem ↓] Go.wp_at_zero Go.wp_at_succ
def zeroWave:Value:=.agg #[.slice none 0 0,.slice none 0 0]
def RunPost (w:World) (d:DesD) (rows:List Sigs) (e:Ending) (w':World):Prop :=
  ((d.err=0∧rows.length≤4096∧∃ aN cN aR cR,e=.returned (.tuple #[.agg #[.slice aN d.names.length cN,.slice aR rows.length cR],.int .i64 0])∧StrsIn w' d.names aN cN∧RowsD w' (rowsN d rows) aR cR) ∨
   (¬ d.err=0∧e=.returned (.tuple #[zeroWave,.int .i64 d.err])) ∨
   (d.err=0∧4096 < rows.length∧e=.returned (.tuple #[zeroWave,.int .i64 2])))∧Below w.heap.size w w'
theorem wave_res (W:World) (tm:Array Value) (b:Nat) (m0 m1:Value) (e:Value) (hW:W.heap[b]? = some (.cells #[m0,m1] 34 (0,0))) (h0:tm.getD 4 undef=.pointer (some ⟨b,0,none⟩)) (h1:tm.getD 5 undef=e) :
  (results Tryz.f15 tm).run Tryz.prog W=.ok (.tuple #[.agg #[m0,m1],e]) W:=by
 have hr : Tryz.f15.results=#[.cell 4 34,.tmp 5]:=rfl
 have c0:=cell_of_blk hW 0
 have c1:=cell_of_blk hW 1
 simp at c0 c1
 rw[results_cell_tmp hr,h0,h1]
 simp[asAddr]
 go_simp
theorem set2 {w:World} {b:Nat} {z0 z1 u0 u1:Value} {t:TypeId} (h:w.heap[b]? = some (.cells #[z0,z1] t (0,0))) :
  ((w.setCell ⟨b,0,none⟩ u0).setCell ⟨b,1,none⟩ u1).heap[b]? = some (.cells #[u0,u1] t (0,0)):=by
 have h0:=heap_setCell_same _ b 0 _ t u0 h
 have h1:=heap_setCell_same _ b 1 _ t u1 h0
 rw[h1]
 rfl
theorem grow_set {w w':World} {b j:Nat} {u:Value} (h:w.grownBy w' (some b)):w.grownBy (w'.setCell ⟨b,j,none⟩ u) (some b) :=
 ⟨h.os,h.tape,h.output,by rw[World.size_setCell];exact h.size,fun k hk hne=>by rw[heap_setCell_other _ _ _ _ (fun e=>hne (by rw[e]))];exact h.block k hk hne⟩
theorem grow_alloc {w w':World} {row:Option Nat} {o:Obj} (h:w.grownBy w' row):w.grownBy (w'.alloc o) row :=
 ⟨h.os,h.tape,h.output,by rw[World.size_alloc];exact Nat.le_succ_of_le h.size,fun k hk hne=>by rw[Below.heap_alloc _ _ _ (Nat.lt_of_lt_of_le hk h.size)];exact h.block k hk hne⟩
theorem grow_refl (w:World) (row:Option Nat):w.grownBy w row:=⟨rfl,rfl,rfl,Nat.le_refl _,fun _ _ _=>rfl⟩
theorem SigsIn.grown {w w':World} {l:Sigs} {a:Option Addr} {c b B:Nat} (h:SigsIn w l a c) (hF:∀ p,a=some p→B≤p.block) (hb:b < B) (hg:w.grownBy w' (some b)):SigsIn w' l a c:=by
 refine⟨h.1,h.2.1,h.2.2.imp id ?_⟩
 rintro ⟨b',o',ha,hq⟩
 have h0:=hF _ ha
 refine⟨b',o',ha,fun i hi=>?_⟩
 obtain⟨v,hv,h1,h2⟩:=hq i hi
 exact⟨v,hv,hg.cell h1 (fun e=>by have:=Option.some.inj e;simp only at this h0;omega),hg.cell h2 (fun e=>by have:=Option.some.inj e;simp only at this h0;omega)⟩
theorem SigsIn.heap {w w':World} {l:Sigs} {a:Option Addr} {c:Nat} (h:SigsIn w l a c) (hb:∀ p:Addr,a=some p→p.block < w.heap.size→w'.heap[p.block]? = w.heap[p.block]?):SigsIn w' l a c:=by
 refine⟨h.1,h.2.1,h.2.2.imp id ?_⟩
 rintro ⟨b',o',ha,hq⟩
 refine⟨b',o',ha,fun i hi=>?_⟩
 obtain⟨v,hv,h1,h2⟩:=hq i hi
 have h0:=hb _ ha (show b' < w.heap.size from World.block_lt_of_cell? _ _ h1)
 exact⟨v,hv,(World.cell?_of_block (a:=⟨b',o'+i * 2,none⟩) h0).trans h1,(World.cell?_of_block (a:=⟨b',o'+i * 2+1,none⟩) h0).trans h2⟩
theorem elemRw:Elem Tryz.prog 32 40 1:=Elem.of Tryz.underlying32 (by kernel_rfl) (z:=.slice none 0 0) (bytes:=24) rfl (by decide) (by decide)
set_option maxRecDepth 100000 in
set_option maxHeartbeats 16000000 in
theorem Run_any (d:DesD) (x:DesA) (rows:List Sigs) (aI:Option Addr) (cI:Nat) (w:World)
  (hE:DesIn w d x) (hs:DesSmall d) (hI:SigRows w rows aI cI) (hG:Glob w) :
  Calls Tryz.prog 15 #[desVal d x,.slice aI rows.length cI] w (RunPost w d rows):=by
 have HBu:=Lib.hid (fun W (hW:Below w.heap.size w W)=>build_any d x W (hE.below hW) hs (hG.below hW))
 unfold BuildPost at HBu
 have HRe:Hid (d.err=0→∀ W,Below w.heap.size w W→Calls Tryz.prog 45 #[desVal d x] W fun e w'=>(∃ a cap,e=.returned (.tuple #[.slice a d.regs.length cap,.int .i64 0])∧IntsIn w' (stN d rows 0) a cap)∧Below W.heap.size W w'):=fun he W hW=>(Reset_any d x W (hE.below hW) hs (hG.below hW)).mono fun e w' h=>by
  obtain⟨⟨_,a,cap,h1,h2⟩ | ⟨h1,_⟩,h3⟩:=h
  ·have hil:d.inits.length=d.regs.length:=by simp[DesD.inits]
   rw[hil] at h1
   exact⟨⟨a,cap,h1,h2⟩,h3⟩
  ·exact absurd he h1
 have HNm:=Lib.hid (fun W (hW:Below w.heap.size w W) hl=>Names31_any d x W (hE.below hW) hl)
 have HSe:Hid (d.err=0→∀ t inp al cl a c aO cO W,Below w.heap.size w W→IntsIn W (natI d.order) aO cO→IntsIn W (stN d rows t) al cl→SigsIn W inp a c→Calls Tryz.prog 48 #[machVal d x d.order.length aO cO,.slice al d.regs.length cl,.slice a inp.length c] W fun e w'=>(∃ a cap,e=.returned (.tuple #[.slice a d.names.length cap,.int .i64 0])∧SigsIn w' (settleS d (stN d rows t) inp) a cap∧∀ p,a=some p→W.heap.size≤p.block)∧Below W.heap.size W w'):=fun he t inp al cl a c aO cO W hW hO hL hS=>by
  have h1:=settle_fresh d x aO cO (stN d rows t) al cl inp a c W (hE.below hW) hs (desOk_of_err he) hO (stN_len rows t) hL hS (hG.below hW)
  rw[settle_len inp (stN_len rows t),stN_len] at h1
  exact h1
 have HSt:Hid (d.err=0→∀ t inp a c aO cO W,Below w.heap.size w W→SigsIn W (settleS d (stN d rows t) inp) a c→Calls Tryz.prog 49 #[machVal d x d.order.length aO cO,.slice a d.names.length c] W fun e w'=>(∃ a cap,e=.returned (.tuple #[.slice a d.regs.length cap,.int .i64 0])∧IntsIn w' (nextS d (settleS d (stN d rows t) inp)) a cap)∧Below W.heap.size W w'):=fun he t inp a c aO cO W hW hS=>by
  have h1:=step_any d x d.order aO cO (settleS d (stN d rows t) inp) a c W (hE.below hW) hs (desOk_of_err he) (settle_names inp (stN_len rows t)) hS (hG.below hW)
  rw[settle_len inp (stN_len rows t),nextS_len] at h1
  exact h1
 have HP1:Hid (∀ aN cN aR cR w',d.err=0→rows.length≤4096→StrsIn w' d.names aN cN→RowsD w' (rowsN d rows) aR cR→Below w.heap.size w w'→RunPost w d rows (.returned (.tuple #[.agg #[.slice aN d.names.length cN,.slice aR rows.length cR],.int .i64 0])) w'):=fun aN cN aR cR w' h1 h2 h3 h4 h5=>⟨Or.inl ⟨h1,h2,aN,cN,aR,cR,rfl,h3,h4⟩,h5⟩
 have HP2:Hid (∀ w',¬ d.err=0→Below w.heap.size w w'→RunPost w d rows (.returned (.tuple #[.agg #[.slice none 0 0,.slice none 0 0],.int .i64 d.err])) w'):=fun w' h1 h2=>⟨Or.inr (Or.inl ⟨h1,rfl⟩),h2⟩
 have HP3:Hid (∀ w',d.err=0→4096 < rows.length→Below w.heap.size w w'→RunPost w d rows (.returned (.tuple #[.agg #[.slice none 0 0,.slice none 0 0],.int .i64 2])) w'):=fun w' h1 h2 h3=>⟨Or.inr (Or.inr ⟨h1,h2,rfl⟩),h3⟩
 have hN48:d.err=0→d.names.length≤48:=fun h=>(desOk_of_err h).len
 have HIn:=Lib.hid hI
 have HIA:=Lib.hid hI.addr
 have hil:=hI.2.1
 generalize RunPost w d rows=Po at HP1 HP2 HP3⊢
 simp only[desVal,desVals,machVal,machVals] at HBu HRe HNm HSe HSt⊢
 have hbA:Below w.heap.size w ((w.alloc (.cells #[.string d.name,.slice x.ai d.inputs.length x.ci,.slice x.aw d.wires.length x.cw,.slice x.ar d.regs.length x.cr,.slice x.ao d.outputs.length x.co] 27)).alloc (.cells #[.slice none 0 0,.slice none 0 0] 34)):=bel
 have hx0:((w.alloc (.cells #[.string d.name,.slice x.ai d.inputs.length x.ci,.slice x.aw d.wires.length x.cw,.slice x.ar d.regs.length x.cr,.slice x.ao d.outputs.length x.co] 27)).alloc (.cells #[.slice none 0 0,.slice none 0 0] 34)).heap[w.heap.size]? = some (.cells #[.string d.name,.slice x.ai d.inputs.length x.ci,.slice x.aw d.wires.length x.cw,.slice x.ar d.regs.length x.cr,.slice x.ao d.outputs.length x.co] 27 (0,0)):=by rw[Below.heap_alloc _ _ _ (by simp)];exact heap_alloc_at _ _ _ rfl
 have hx1:((w.alloc (.cells #[.string d.name,.slice x.ai d.inputs.length x.ci,.slice x.aw d.wires.length x.cw,.slice x.ar d.regs.length x.cr,.slice x.ao d.outputs.length x.co] 27)).alloc (.cells #[.slice none 0 0,.slice none 0 0] 34)).heap[w.heap.size+1]? = some (.cells #[.slice none 0 0,.slice none 0 0] 34 (0,0)):=heap_alloc_at _ _ _ (by simp)
 have HX:=Lib.hid (⟨hx0,hx1⟩:_∧_)
 have HBA:=Lib.hid hbA
 have HB1:=Lib.hid (HBu.out _ hbA)
 clear hbA HBu hE hs hI hG hx0 hx1
 go_enter Tryz.func15, Tryz.ntmps15
 go_wp2_with fail
 refine HB1.out.mono ?_
 rintro e w2 ⟨h,hb2⟩
 have HBw2:=Lib.hid (HBA.out.trans (hb2.mono HBA.out.size))
 have HX20:Hid (w2.heap[w.heap.size]? = some (.cells #[.string d.name,.slice x.ai d.inputs.length x.ci,.slice x.aw d.wires.length x.cw,.slice x.ar d.regs.length x.cr,.slice x.ao d.outputs.length x.co] 27 (0,0))):=(hb2.block _ (lt_of_block HX.out.1)).trans HX.out.1
 have HX21:Hid (w2.heap[w.heap.size+1]? = some (.cells #[.slice none 0 0,.slice none 0 0] 34 (0,0))):=(hb2.block _ (lt_of_block HX.out.2)).trans HX.out.2
 have hz2:w.heap.size+2≤w2.heap.size:=by have:=hb2.size;simpa using this
 clear hb2 HB1 HX HBA
 rcases h with ⟨he,aO,cO,rfl,hO⟩ | ⟨he,rfl⟩
 rotate_left
 ·have hne:(d.err != (0:Int))=true:=by simpa using he
  have h3:Hid ((w2.alloc (.cells #[.string d.name,.slice x.ai d.inputs.length x.ci,.slice x.aw d.wires.length x.cw,.slice x.ar d.regs.length x.cr,.slice x.ao d.outputs.length x.co,.slice none 0 0] 81)).heap[w.heap.size+1]? = some (.cells #[.slice none 0 0,.slice none 0 0] 34 (0,0))):=by show _=_;rw[Below.heap_alloc _ _ _ (by omega)];exact HX21.out
  have r0:=cell_of_blk h3.out 0
  have r1:=cell_of_blk h3.out 1
  simp at r0 r1
  have f0:(w2.alloc (.cells #[.string d.name,.slice x.ai d.inputs.length x.ci,.slice x.aw d.wires.length x.cw,.slice x.ar d.regs.length x.cr,.slice x.ao d.outputs.length x.co,.slice none 0 0] 81)).frozen? ⟨w.heap.size+1,0,none⟩=false:=by simp[World.frozen?,h3.out]
  have f1:(w2.alloc (.cells #[.string d.name,.slice x.ai d.inputs.length x.ci,.slice x.aw d.wires.length x.cw,.slice x.ar d.regs.length x.cr,.slice x.ao d.outputs.length x.co,.slice none 0 0] 81)).frozen? ⟨w.heap.size+1,1,none⟩=false:=by simp[World.frozen?,h3.out]
  have HB3:Hid (Below w.heap.size w (w2.alloc (.cells #[.string d.name,.slice x.ai d.inputs.length x.ci,.slice x.aw d.wires.length x.cw,.slice x.ar d.regs.length x.cr,.slice x.ao d.outputs.length x.co,.slice none 0 0] 81))):=HBw2.out.alloc (by omega) _
  have HPe:=Lib.hid (fun W h=>HP2.out W he h)
  clear he
  go_wp2_with fail
  refine bodyPost_ret (v:=.tuple #[.agg #[.slice none 0 0,.slice none 0 0],.int .i64 d.err]) (wave_res _ _ (w.heap.size+1) _ _ _ (set2 h3.out) rfl rfl) rfl ?_
  exact HPe.out _ ((HB3.out.setCell (by simp) _).setCell (by simp) _)
 have hN48:=hN48 he
 have HRe:=Lib.hid (HRe.out he)
 have HSe:=Lib.hid (HSe.out he)
 have HSt:=Lib.hid (HSt.out he)
 have HP1:=Lib.hid (fun aN cN aR cR w'=>HP1.out aN cN aR cR w' he)
 have HP3:=Lib.hid (fun w'=>HP3.out w' he)
 have h30:Hid ((w2.alloc (.cells #[.string d.name,.slice x.ai d.inputs.length x.ci,.slice x.aw d.wires.length x.cw,.slice x.ar d.regs.length x.cr,.slice x.ao d.outputs.length x.co,.slice aO d.order.length cO] 81)).heap[w.heap.size]? = some (.cells #[.string d.name,.slice x.ai d.inputs.length x.ci,.slice x.aw d.wires.length x.cw,.slice x.ar d.regs.length x.cr,.slice x.ao d.outputs.length x.co] 27 (0,0))):=by show _=_;rw[Below.heap_alloc _ _ _ (by omega)];exact HX20.out
 have h31:Hid ((w2.alloc (.cells #[.string d.name,.slice x.ai d.inputs.length x.ci,.slice x.aw d.wires.length x.cw,.slice x.ar d.regs.length x.cr,.slice x.ao d.outputs.length x.co,.slice aO d.order.length cO] 81)).heap[w.heap.size+1]? = some (.cells #[.slice none 0 0,.slice none 0 0] 34 (0,0))):=by show _=_;rw[Below.heap_alloc _ _ _ (by omega)];exact HX21.out
 have h32:Hid ((w2.alloc (.cells #[.string d.name,.slice x.ai d.inputs.length x.ci,.slice x.aw d.wires.length x.cw,.slice x.ar d.regs.length x.cr,.slice x.ao d.outputs.length x.co,.slice aO d.order.length cO] 81)).heap[w2.heap.size]? = some (.cells #[.string d.name,.slice x.ai d.inputs.length x.ci,.slice x.aw d.wires.length x.cw,.slice x.ar d.regs.length x.cr,.slice x.ao d.outputs.length x.co,.slice aO d.order.length cO] 81 (0,0))):=heap_alloc_at _ _ _ rfl
 have HB3:Hid (Below w.heap.size w (w2.alloc (.cells #[.string d.name,.slice x.ai d.inputs.length x.ci,.slice x.aw d.wires.length x.cw,.slice x.ar d.regs.length x.cr,.slice x.ao d.outputs.length x.co,.slice aO d.order.length cO] 81))):=HBw2.out.alloc (by omega) _
 have HOr:=Lib.hid (hO.keep (keeps_of_below ((Below.refl w2.heap.size w2).alloc (Nat.le_refl _) (.cells #[.string d.name,.slice x.ai d.inputs.length x.ci,.slice x.aw d.wires.length x.cw,.slice x.ar d.regs.length x.cr,.slice x.ao d.outputs.length x.co,.slice aO d.order.length cO] 81))))
 have hz3:(w2.alloc (.cells #[.string d.name,.slice x.ai d.inputs.length x.ci,.slice x.aw d.wires.length x.cw,.slice x.ar d.regs.length x.cr,.slice x.ao d.outputs.length x.co,.slice aO d.order.length cO] 81)).heap.size=w2.heap.size+1:=by simp
 have HZ3:=Lib.hid hz3
 clear he HP2 hO HX20 HX21 hz3
 by_cases hm:4096 < rows.length
 ·have hgt:(4096:Int) < rows.length:=by omega
  have r0:=cell_of_blk h31.out 0
  have r1:=cell_of_blk h31.out 1
  simp at r0 r1
  have f0:(w2.alloc (.cells #[.string d.name,.slice x.ai d.inputs.length x.ci,.slice x.aw d.wires.length x.cw,.slice x.ar d.regs.length x.cr,.slice x.ao d.outputs.length x.co,.slice aO d.order.length cO] 81)).frozen? ⟨w.heap.size+1,0,none⟩=false:=by simp[World.frozen?,h31.out]
  have f1:(w2.alloc (.cells #[.string d.name,.slice x.ai d.inputs.length x.ci,.slice x.aw d.wires.length x.cw,.slice x.ar d.regs.length x.cr,.slice x.ao d.outputs.length x.co,.slice aO d.order.length cO] 81)).frozen? ⟨w.heap.size+1,1,none⟩=false:=by simp[World.frozen?,h31.out]
  have HPe:=Lib.hid (fun W h=>HP3.out W hm h)
  clear hm
  go_wp2_with fail
  refine bodyPost_ret (v:=.tuple #[.agg #[.slice none 0 0,.slice none 0 0],.int .i64 2]) (wave_res _ _ (w.heap.size+1) _ _ _ (set2 h31.out) rfl rfl) rfl ?_
  exact HPe.out _ ((HB3.out.setCell (by simp) _).setCell (by simp) _)
 ·have hgt:¬ (4096:Int) < rows.length:=by omega
  have hm':rows.length≤4096:=by omega
  have HN1:=Lib.hid (HNm.out _ HB3.out (by omega))
  have b0:=cell_of_blk h30.out 0
  have b1:=cell_of_blk h30.out 1
  have b2:=cell_of_blk h30.out 2
  have b3:=cell_of_blk h30.out 3
  have b4:=cell_of_blk h30.out 4
  simp at b0 b1 b2 b3 b4
  clear hm
  go_wp2_with fail
  refine HN1.out.mono ?_
  rintro e w8 ⟨⟨aN,cN,rfl,hN⟩,hb8⟩
  clear b0 b1 b2 b3 b4
  have HB8w:=Lib.hid (HB3.out.trans (hb8.mono HB3.out.size))
  have h80:Hid (w8.heap[w.heap.size]? = some (.cells #[.string d.name,.slice x.ai d.inputs.length x.ci,.slice x.aw d.wires.length x.cw,.slice x.ar d.regs.length x.cr,.slice x.ao d.outputs.length x.co] 27 (0,0))):=(hb8.block _ (lt_of_block h30.out)).trans h30.out
  have h81:Hid (w8.heap[w.heap.size+1]? = some (.cells #[.slice none 0 0,.slice none 0 0] 34 (0,0))):=(hb8.block _ (lt_of_block h31.out)).trans h31.out
  have h82:Hid (w8.heap[w2.heap.size]? = some (.cells #[.string d.name,.slice x.ai d.inputs.length x.ci,.slice x.aw d.wires.length x.cw,.slice x.ar d.regs.length x.cr,.slice x.ao d.outputs.length x.co,.slice aO d.order.length cO] 81 (0,0))):=(hb8.block _ (lt_of_block h32.out)).trans h32.out
  have HO8:=Lib.hid (HOr.out.keep (keeps_of_below hb8))
  have HN8:=Lib.hid hN
  have hz8:w2.heap.size+1≤w8.heap.size:=by have:=hb8.size;rw[HZ3.out] at this;exact this
  clear hb8 hN
  have h90:Hid ((w8.alloc (.cells #[.slice aN d.names.length cN,.slice none 0 0] 34)).heap[w.heap.size]? = some (.cells #[.string d.name,.slice x.ai d.inputs.length x.ci,.slice x.aw d.wires.length x.cw,.slice x.ar d.regs.length x.cr,.slice x.ao d.outputs.length x.co] 27 (0,0))):=by show _=_;rw[Below.heap_alloc _ _ _ (by omega)];exact h80.out
  have b0:=cell_of_blk h90.out 0
  have b1:=cell_of_blk h90.out 1
  have b2:=cell_of_blk h90.out 2
  have b3:=cell_of_blk h90.out 3
  have b4:=cell_of_blk h90.out 4
  simp at b0 b1 b2 b3 b4
  have HB9a:Hid (Below w8.heap.size w8 (w8.alloc (.cells #[.slice aN d.names.length cN,.slice none 0 0] 34))):=(Below.refl _ _).alloc (Nat.le_refl _) _
  have hv9:Hid ((w8.alloc (.cells #[.slice aN d.names.length cN,.slice none 0 0] 34)).heap[w8.heap.size]? = some (.cells #[.slice aN d.names.length cN,.slice none 0 0] 34 (0,0))):=heap_alloc_at _ _ _ rfl
  have HR1:=Lib.hid (HRe.out _ (HB8w.out.trans (HB9a.out.mono HB8w.out.size)))
  go_wp2_with fail
  refine HR1.out.mono ?_
  rintro e w9 ⟨⟨a9,c9,rfl,hI9⟩,hb9⟩
  clear b0 b1 b2 b3 b4
  have HB9:=Lib.hid (HB9a.out.trans (hb9.mono (by simp)))
  have HV9:Hid (w9.heap[w8.heap.size]? = some (.cells #[.slice aN d.names.length cN,.slice none 0 0] 34 (0,0))):=(hb9.block _ (lt_of_block hv9.out)).trans hv9.out
  have HI9:=Lib.hid hI9
  have e0:=cell_of_blk HV9.out 0
  have e1:=cell_of_blk HV9.out 1
  simp at e0 e1
  have hz9:w8.heap.size < w9.heap.size:=lt_of_block HV9.out
  obtain⟨N,hN⟩:∃ N,N=rows.length * d.names.length:=⟨_,rfl⟩
  have hNb:N≤4096 * 48:=by rw[hN];exact Nat.mul_le_mul hm' hN48
  have hmul:IntKind.i64.wrap ((d.names.length:Int) * (rows.length:Int))=(N:Int):=by
   rw[IntKind.wrap_i64,hN,Int.natCast_mul,Int.mul_comm]
   have:(rows.length:Int) * (d.names.length:Int)=(N:Int):=by rw[hN,Int.natCast_mul]
   omega
  have HN:=Lib.hid hN
  clear hN hb9 hI9 hv9
  have HSR:Hid ((settleS d (stN d rows 0) (rows.getD 0 []))=(settleS d (stN d rows 0) (rows.getD 0 []))):=rfl
  go_wp2_with (at_make;go_must (refine make_blk elemI rfl (.tmp 47) (.tmp 47) rfl N _ rfl rfl rfl (by omega) ?_))
  intro cur hcur
  obtain⟨bV,hbV⟩:∃ bV,bV=w9.heap.size:=⟨_,rfl⟩
  have hFl:(rowsF d rows d.names.length).length=N:=by rw[rowsF_len,HN.out]
  have HVa:Hid (ValsAt (w9.alloc (.cells cur.toArray 3)) bV (rowsF d rows d.names.length) (0 * d.names.length)):=⟨cur,by rw[hbV];exact heap_alloc_at _ _ _ rfl,by rw[hFl];simpa using hcur,fun j hj=>by omega⟩
  have HBa:Hid (Below w8.heap.size w8 (w9.alloc (.cells cur.toArray 3))):=HB9.out.alloc (by omega) _
  have HIa:=Lib.hid (HI9.out.keep (keeps_of_below ((Below.refl w9.heap.size w9).alloc (Nat.le_refl _) (.cells cur.toArray 3))))
  have HWa:Hid ((w9.alloc (.cells cur.toArray 3)).heap[w8.heap.size]? = some (.cells #[.slice aN d.names.length cN,.slice none 0 0] 34 (0,0))):=by show _=_;rw[Below.heap_alloc _ _ _ hz9];exact HV9.out
  have hsa:bV+1≤(w9.alloc (.cells cur.toArray 3)).heap.size:=by simp[hbV]
  rw[← hbV]
  have hbv8:w8.heap.size < bV:=by omega
  clear e0 e1 hcur hbV HB9 HV9 HI9 hz9 HSR hmul
  generalize w9.alloc (.cells cur.toArray 3)=wb at HVa HBa HIa HWa hsa
  go_wp2_with fail
  go_loopw [51,9,13,14,15,16,17,18,19] (fun i st _ _ _ _ _ _ _ wr=>∃ k:Nat,i=.int .i64 k∧k≤rows.length∧Hid (∃ a c,st=.slice a d.regs.length c∧IntsIn wr (stN d rows k) a c)∧Hid (∃ v,wr.heap[w8.heap.size]? = some (.cells #[.slice aN d.names.length cN,v] 34 (0,0))∧wr.ownsRow (bV+1) 40 1 v k ((rowVs bV d.names.length rows.length).take k))∧Hid (ValsAt wr bV (rowsF d rows d.names.length) (k * d.names.length))∧Hid (Below w8.heap.size w8 wr)∧bV+1≤wr.heap.size) (fun i _ _ _ _ _ _ _ _ _=>rows.length - (intOf i).toNat)
  case atStart=>exact⟨0,rfl,Nat.zero_le _,⟨a9,c9,rfl,HIa.out⟩,⟨_,HWa.out,World.ownsRow_nil _ _ _ _⟩,HVa,HBa,hsa⟩
  case round =>
   obtain⟨k,rfl,hk,HSta,HWv,HV,HB,hsr⟩:=hrel
   obtain⟨aS,cs,rfl,hIs⟩:=HSta.out
   obtain⟨v,hW,hO⟩:=HWv.out
   have HIs:=Lib.hid hIs
   have HW:=Lib.hid hW
   have HO:=Lib.hid hO
   have HBw:=Lib.hid (HB8w.out.trans (HB.out.mono HB8w.out.size))
   clear HSta HWv hIs hW hO
   have hkn:k≤1073741824:=by omega
   obtain⟨va,vc,hv,_⟩:=slice_of_own HO.out hkn
   subst hv
   by_cases hlt:k < rows.length
   ·obtain⟨b,off,ha⟩:=HIA.out.resolve_left (by omega)
    subst ha
    obtain⟨ai,ci,c0,hSi⟩:=(HIn.out.keep (keeps_of_below HBw.out)).get rfl hlt
    have hgd:rows.getD k []=rows[k]'hlt:=by simp[hlt]
    have hrow:rowN d rows k=(settleS d (stN d rows k) (rows[k]'hlt)).map (·.2):=by unfold rowN;rw[hgd]
    have hnx:stN d rows (k+1)=nextS d (settleS d (stN d rows k) (rows[k]'hlt)):=by show nextS _ _=_;rw[hgd]
    have hsl:(settleS d (stN d rows k) (rows[k]'hlt)).length=d.names.length:=settle_len _ (stN_len rows k)
    have HS1:=Lib.hid (HSe.out k (rows[k]'hlt) aS cs ai ci aO cO wr HBw.out (HO8.out.keep (keeps_of_below HB.out)) HIs.out hSi)
    have HT1:=Lib.hid (fun a c W hW hS=>HSt.out k (rows[k]'hlt) a c aO cO W hW hS)
    have h86:Hid (wr.heap[w2.heap.size]? = some (.cells #[.string d.name,.slice x.ai d.inputs.length x.ci,.slice x.aw d.wires.length x.cw,.slice x.ar d.regs.length x.cr,.slice x.ao d.outputs.length x.co,.slice aO d.order.length cO] 81 (0,0))):=(HB.out.block _ (by omega)).trans h82.out
    obtain⟨m0,m1,m2,m3,m4,m5⟩:=mach_cells h86.out
    generalize (rows[k]'hlt)=inp at c0 hrow hnx hsl HS1 HT1
    have Hrow:=Lib.hid hrow
    have Hnx:=Lib.hid hnx
    have Hsl:=Lib.hid hsl
    clear hgd hSi hrow hnx hsl
    generalize settleS d (stN d rows k) inp=SE at HS1 HT1 Hrow Hnx Hsl
    have hkl:(k:Int) < rows.length:=by omega
    go_wp2_with fail
    refine HS1.out.mono ?_
    rintro e w5 ⟨⟨a5,c5,rfl,hS5,hF5⟩,hb5⟩
    have HS5:=Lib.hid hS5
    have HF5:=Lib.hid hF5
    have HA5:=Lib.hid hS5.addr
    have HB5:=Lib.hid (HB.out.trans (hb5.mono HB.out.size))
    have HV5:=Lib.hid (HV.out.keep hb5)
    have HW5:Hid (w5.heap[w8.heap.size]? = some (.cells #[.slice aN d.names.length cN,.slice va k vc] 34 (0,0))):=(hb5.block _ (lt_of_block HW.out)).trans HW.out
    have HO5:=Lib.hid (ownsRow_below HO.out hb5)
    have h56:Hid (w5.heap[w2.heap.size]? = some (.cells #[.string d.name,.slice x.ai d.inputs.length x.ci,.slice x.aw d.wires.length x.cw,.slice x.ar d.regs.length x.cr,.slice x.ao d.outputs.length x.co,.slice aO d.order.length cO] 81 (0,0))):=(hb5.block _ (lt_of_block h86.out)).trans h86.out
    have hs5:bV+1≤w5.heap.size:=by have:=hb5.size;omega
    obtain⟨p,hp⟩:∃ p,p=k * d.names.length:=⟨_,rfl⟩
    obtain⟨q,hq⟩:∃ q,q=(k+1) * d.names.length:=⟨_,rfl⟩
    have hpq:q=p+d.names.length:=by rw[hp,hq,Nat.add_mul,Nat.one_mul]
    have hqN:q≤N:=by rw[hq,HN.out];exact Nat.mul_le_mul (by omega) (Nat.le_refl _)
    have hm1:IntKind.i64.wrap ((k:Int) * (d.names.length:Int))=(p:Int):=by
     rw[IntKind.wrap_i64,show (k:Int) * (d.names.length:Int)=(p:Int) by rw[hp,Int.natCast_mul]]
     omega
    have hm2:IntKind.i64.wrap (((k:Int)+1) * (d.names.length:Int))=(q:Int):=by
     rw[IntKind.wrap_i64,show ((k:Int)+1) * (d.names.length:Int)=(q:Int) by rw[hq,Int.natCast_mul];simp]
     omega
    have hslr:=slice_row bV N d.names.length k p q hp hq hqN
    have HFz:Hid (∀ j (hj:j < SE.length),(rowsF d rows d.names.length)[p+j]? = some (SE[j]'hj).2):=fun j hj=>by
     rw[hp,rowsF_at hlt (by rw[← Hsl.out];exact hj),Hrow.out]
     simp[hj]
    rw[← hp] at HV5
    have Hp:=Lib.hid hp
    have Hq:=Lib.hid hq
    have Hpq:=Lib.hid hpq
    clear hS5 hF5 hb5 c0 m0 m1 m2 m3 m4 m5 hp hq hpq
    have HG0:Hid (w5.grownBy w5 (some bV)):=grow_refl _ _
    go_wp2_with fail
    go_loopw [82,18,19] (fun i _ _ wi=>∃ j:Nat,i=.int .i64 j∧j≤d.names.length∧Hid (ValsAt wi bV (rowsF d rows d.names.length) (p+j))∧Hid (w5.grownBy wi (some bV))) (fun i _ _ _=>d.names.length - (intOf i).toNat)
    case atStart=>exact⟨0,rfl,Nat.zero_le _,HV5,HG0⟩
    case round =>
     rename World=>wi
     obtain⟨j,rfl,hj,HVi,HGi⟩:=hrel
     have hsi:=HGi.out.size
     by_cases hjl:j < d.names.length
     ·have hjS:j < SE.length:=by rw[Hsl.out];exact hjl
      obtain⟨bs,os,ha5⟩:=HA5.out.resolve_left (by omega)
      subst ha5
      obtain⟨s0,s1⟩:=(HS5.out.grown HF5.out (show bV < wr.heap.size by omega) HGi.out).get rfl hjS
      have HFj:=Lib.hid (HFz.out j hjS)
      generalize (SE[j]'hjS)=e at s0 s1 HFj
      have hpN:p+j < N:=by have:=Hpq.out;omega
      obtain⟨u,hu⟩:=HVi.out.cell (j:=p+j) (by rw[hFl];exact hpN)
      have hbA:Below wi.heap.size wi (wi.alloc (.cells #[.string e.1,.int .i64 e.2] 87)):=(Below.refl _ _).alloc (Nat.le_refl _) _
      have hu1:=keeps_of_below hbA _ _ hu
      have hfz:=(HVi.out.keep hbA).free (p+j)
      have hjn:(j:Int) < d.names.length:=by omega
      have hVn:=Lib.hid ((HVi.out.set HFj.out).keep ((Below.refl _ _).alloc (Nat.le_refl _) (.cells #[.string e.1,.int .i64 e.2] 87)))
      have hGn:Hid (w5.grownBy ((wi.setCell ⟨bV,p+j,none⟩ (.int .i64 e.2)).alloc (.cells #[.string e.1,.int .i64 e.2] 87)) (some bV)):=grow_alloc (grow_set HGi.out)
      have hbVi:=HVi.out.lt
      have hnw:bV≠wi.heap.size:=by omega
      have hnw2:wi.heap.size≠bV:=by omega
      clear hbA hu
      go_wp2_with fail
      go_roundw
      case rel=>exact⟨j+1,by go_num,by omega,hVn,hGn⟩
      case measure=>(simp[intOf];try omega)
     ·obtain rfl:j=d.names.length:=by omega
      have hWi:Hid (wi.heap[w8.heap.size]? = some (.cells #[.slice aN d.names.length cN,.slice va k vc] 34 (0,0))):=(HGi.out.block _ (lt_of_block HW5.out) (fun e=>by have:=Option.some.inj e;omega)).trans HW5.out
      have HOi:=Lib.hid (HO5.out.kept HGi.out (Or.inr (fun e=>by have:=(HO5.out.lt _ e).1;omega)))
      have h6i:Hid (wi.heap[w2.heap.size]? = some (.cells #[.string d.name,.slice x.ai d.inputs.length x.ci,.slice x.aw d.wires.length x.cw,.slice x.ar d.regs.length x.cr,.slice x.ao d.outputs.length x.co,.slice aO d.order.length cO] 81 (0,0))):=(HGi.out.block _ (lt_of_block h56.out) (fun e=>by have:=Option.some.inj e;omega)).trans h56.out
      have HBi:Hid (Below w8.heap.size w8 wi):=Below.grown HB5.out HGi.out (by omega) (fun j hj=>by have:=Option.some.inj hj;omega)
      have HSi:=Lib.hid (HS5.out.grown HF5.out (show bV < wr.heap.size by omega) HGi.out)
      have e0:=cell_of_blk hWi.out 0
      have e1:=cell_of_blk hWi.out 1
      simp at e0 e1
      have hwi:bV+1≤wi.heap.size:=by omega
      go_wp2_with (at_builtin;go_must (refine own_app elemRw _ rfl (.tmp 94) (.tmp 96) rfl (bV+1) (.slice va k vc) k ((rowVs bV d.names.length rows.length).take k) rfl HOi.out [.slice (some ⟨bV,p,none⟩) d.names.length d.names.length] rfl (by simp[Value.oneCell']) _ 1 rfl (by first | rfl | simp) hkn (by omega) ?_))
      intro v' w7 ho hg
      obtain⟨av,cv,hv7,_⟩:=slice_of_own ho (by omega)
      subst hv7
      have hal:∀ c,c < wi.heap.size→(wi.alloc (.cells #[.slice (some ⟨bV,p,none⟩) d.names.length d.names.length] 40)).heap[c]? = wi.heap[c]?:=fun c hc=>Below.heap_alloc _ _ _ hc
      have hoW:(Value.slice va k vc).ownBlock≠some w8.heap.size:=fun h=>(ownsRow_ne HOi.out hWi.out (by decide)) h.symm
      have h7W:w7.heap[w8.heap.size]? = some (.cells #[.slice aN d.names.length cN,.slice va k vc] 34 (0,0)):=(hg.block _ (by rw[World.size_alloc];omega) (fun e=>hoW e.symm)).trans ((hal _ (by omega)).trans hWi.out)
      have h76:w7.heap[w2.heap.size]? = some (.cells #[.string d.name,.slice x.ai d.inputs.length x.ci,.slice x.aw d.wires.length x.cw,.slice x.ar d.regs.length x.cr,.slice x.ao d.outputs.length x.co,.slice aO d.order.length cO] 81 (0,0)):=(hg.block _ (by rw[World.size_alloc];omega) (fun e=>by have:=(HOi.out.lt _ e.symm).1;omega)).trans ((hal _ (by omega)).trans h6i.out)
      have h7V:w7.heap[bV]? = wi.heap[bV]?:=(hg.block _ (by rw[World.size_alloc];omega) (fun e=>by have:=(HOi.out.lt _ e.symm).1;omega)).trans (hal _ (by omega))
      have g1:=cell_of_blk h7W 1
      simp at g1
      have gf:w7.frozen? ⟨w8.heap.size,1,none⟩=false:=by simp[World.frozen?,h7W]
      have HW7:Hid ((w7.setCell ⟨w8.heap.size,1,none⟩ (.slice av (k+1) cv)).heap[w8.heap.size]? = some (.cells #[.slice aN d.names.length cN,.slice av (k+1) cv] 34 (0,0))):=by show _=_;rw[heap_setCell_same _ _ 1 _ _ _ h7W];rfl
      have HO7:Hid ((w7.setCell ⟨w8.heap.size,1,none⟩ (.slice av (k+1) cv)).ownsRow (bV+1) 40 1 (.slice av (k+1) cv) (k+1) ((rowVs bV d.names.length rows.length).take (k+1))):=by
       have:=ownsRow_store ho h7W (by decide) 1 (.slice av (k+1) cv)
       show World.ownsRow _ _ _ _ _ _ _
       rw[rowVs_take hlt,← Hp.out]
       exact this
      have HV7:Hid (ValsAt (w7.setCell ⟨w8.heap.size,1,none⟩ (.slice av (k+1) cv)) bV (rowsF d rows d.names.length) ((k+1) * d.names.length)):=by
       have h1:=HVi.out
       rw[← Hpq.out,Hq.out] at h1
       exact h1.eq ((heap_setCell_other _ _ _ _ (show bV≠w8.heap.size by omega)).trans h7V)
      have H67:Hid ((w7.setCell ⟨w8.heap.size,1,none⟩ (.slice av (k+1) cv)).heap[w2.heap.size]? = some (.cells #[.string d.name,.slice x.ai d.inputs.length x.ci,.slice x.aw d.wires.length x.cw,.slice x.ar d.regs.length x.cr,.slice x.ao d.outputs.length x.co,.slice aO d.order.length cO] 81 (0,0))):=(heap_setCell_other _ _ _ _ (show w2.heap.size≠w8.heap.size by omega)).trans h76
      have HB7:Hid (Below w8.heap.size w8 (w7.setCell ⟨w8.heap.size,1,none⟩ (.slice av (k+1) cv))):=(Below.grown (HBi.out.alloc (by omega) _) hg (by rw[World.size_alloc];omega) (fun j hj=>by have:=(HOi.out.lt _ hj).1;omega)).setCell (Nat.le_refl _) _
      have HS7:Hid (SigsIn (w7.setCell ⟨w8.heap.size,1,none⟩ (.slice av (k+1) cv)) SE a5 c5):=HSi.out.heap (fun p hp hps=>by
       have h1:=HF5.out p hp
       exact(heap_setCell_other _ _ _ _ (show p.block≠w8.heap.size by omega)).trans ((hg.block _ (by rw[World.size_alloc];omega) (fun e=>by have:=(HO.out.lt _ e.symm).2;omega)).trans (hal _ hps)))
      have HT7:=Lib.hid (HT1.out a5 c5 _ (HB8w.out.trans (HB7.out.mono HB8w.out.size)) HS7.out)
      obtain⟨m0,m1,m2,m3,m4,m5⟩:=mach_cells H67.out
      have hs7:bV+1≤(w7.setCell ⟨w8.heap.size,1,none⟩ (.slice av (k+1) cv)).heap.size:=by have:=hg.size;rw[World.size_alloc] at this;rw[World.size_setCell];omega
      clear e0 e1 ho hg hal hoW h7W h76 h7V
      go_wp2_with fail
      refine HT7.out.mono ?_
      rintro e w10 ⟨⟨a10,c10,rfl,hI10⟩,hb10⟩
      have HI10:Hid (∃ a c,Value.slice a10 d.regs.length c10=.slice a d.regs.length c∧IntsIn w10 (stN d rows (k+1)) a c):=⟨a10,c10,rfl,by rw[Hnx.out];exact hI10⟩
      have HW10:Hid (∃ v,w10.heap[w8.heap.size]? = some (.cells #[.slice aN d.names.length cN,v] 34 (0,0))∧w10.ownsRow (bV+1) 40 1 v (k+1) ((rowVs bV d.names.length rows.length).take (k+1))):=⟨_,(hb10.block _ (lt_of_block HW7.out)).trans HW7.out,ownsRow_below HO7.out hb10⟩
      have HV10:=Lib.hid (HV7.out.keep hb10)
      have HB10:=Lib.hid (HB7.out.trans (hb10.mono HB7.out.size))
      have hs10:bV+1≤w10.heap.size:=by have:=hb10.size;omega
      clear m0 m1 m2 m3 m4 m5 g1 gf hI10 hb10
      go_wp2_with fail
      go_roundw
      case rel=>exact⟨k+1,by go_num,by omega,HI10,HW10,HV10,HB10,hs10⟩
      case measure=>(simp[intOf];try omega)
   ·obtain rfl:k=rows.length:=by omega
    have e0:=cell_of_blk HW.out 0
    have e1:=cell_of_blk HW.out 1
    simp at e0 e1
    have hR:Hid (wr.heap[w.heap.size+1]? = some (.cells #[.slice none 0 0,.slice none 0 0] 34 (0,0))):=(HB.out.block _ (by omega)).trans h81.out
    have r0:=cell_of_blk hR.out 0
    have r1:=cell_of_blk hR.out 1
    simp at r0 r1
    have f0:wr.frozen? ⟨w.heap.size+1,0,none⟩=false:=by simp[World.frozen?,hR.out]
    have f1:wr.frozen? ⟨w.heap.size+1,1,none⟩=false:=by simp[World.frozen?,hR.out]
    have hne1:w8.heap.size≠w.heap.size+1:=by omega
    go_wp2_with fail
    refine bodyPost_ret (v:=.tuple #[.agg #[.slice aN d.names.length cN,.slice va rows.length vc],.int .i64 0]) (wave_res _ _ (w.heap.size+1) _ _ _ (set2 hR.out) rfl rfl) rfl ?_
    have hR1:(wr.setCell ⟨w.heap.size+1,0,none⟩ (.slice aN d.names.length cN)).heap[w.heap.size+1]? = some (.cells #[.slice aN d.names.length cN,.slice none 0 0] 34 (0,0)):=by rw[heap_setCell_same _ _ 0 _ _ _ hR.out];rfl
    have hO2:=ownsRow_store (ownsRow_store HO.out hR.out (by decide) 0 (.slice aN d.names.length cN)) hR1 (by decide) 1 (.slice va rows.length vc)
    have hV2:ValsAt ((wr.setCell ⟨w.heap.size+1,0,none⟩ (.slice aN d.names.length cN)).setCell ⟨w.heap.size+1,1,none⟩ (.slice va rows.length vc)) bV (rowsF d rows d.names.length) (rows.length * d.names.length):=HV.out.eq ((heap_setCell_other _ _ _ _ (show bV≠w.heap.size+1 by omega)).trans (heap_setCell_other _ _ _ _ (show bV≠w.heap.size+1 by omega)))
    rw[List.take_of_length_le (by simp[rowVs])] at hO2
    obtain⟨aR,cR,hv,hRD⟩:=rows_of_own hO2 rfl (by omega) hV2 rfl (by omega) (Nat.le_refl _)
    simp only[Value.slice.injEq,true_and] at hv
    obtain⟨rfl,rfl⟩:=hv
    refine HP1.out aN cN va vc _ hm' ?_ hRD (((HBw.out.setCell (show w.heap.size≤w.heap.size+1 by omega) _)).setCell (show w.heap.size≤w.heap.size+1 by omega) _)
    refine(HN8.out.keep (keeps_of_below HB.out)).mono fun i b o hi ⟨n,h1,h2⟩=>⟨n,h1,?_⟩
    have hbn:b≠w.heap.size+1:=fun e=>by
     subst e
     rw[cell_of_blk hR.out] at h2
     rcases o with _ | _ | o<;>simp at h2
    rw[World.cell?_setCell_other _ _ _ _ (fun e=>hbn (congrArg Addr.block e).symm),World.cell?_setCell_other _ _ _ _ (fun e=>hbn (congrArg Addr.block e).symm)]
    exact h2
end Go.Proofs.YtebneadheaefdaaGreatDoor
