/- Traces, as data; ref26: Place, Different; ref35: fits. -/
import Derived.Test.YthojpomoflhbcaaGreatDoorM33
import Derived.Test.YthojpomoflhbcaaGreatDoorM06
import Derived.Test.YthojpomoflhbcaaGreatDoorM09
import Derived.Test.YthojpomoflhbcaaGreatDoorM39
set_option linter.unusedSimpArgs false
set_option linter.unusedVariables false
set_option linter.unnecessarySimpa false
namespace Go.Proofs.YthojpomoflhbcaaGreatDoor
open Go.RowKit
attribute [local go_sem ↓] Go.wp_at_zero Go.wp_at_succ
def niR (w:World) (l:List Int) (vs:List Value):Prop:=∃ a cap,vs=[.slice a l.length cap]∧IntsIn w l a cap
def niE:Enc (List Int) where
 sz:=1
 R:=niR
 pos:=by decide
 len:=by rintro _ _ _ ⟨_,_,rfl,_⟩;rfl
 keep:=by rintro _ _ _ _ hk ⟨a,cap,rfl,h⟩;exact⟨a,cap,rfl,h.keep hk⟩
 one:=by rintro _ _ _ ⟨_,_,rfl,_⟩ v hv;simp at hv;subst hv;rfl
theorem niE_get {w:World} {l:List (List Int)} {a:Option Addr} {cap:Nat} (h:niE.In w l a cap) {b off:Nat} (ha:a=some ⟨b,off,none⟩) {i:Nat} (hi:i < l.length):∃ a' c',w.cell? ⟨b,off+i,none⟩=some (.slice a' (l[i]'hi).length c')∧IntsIn w (l[i]'hi) a' c':=by
 obtain⟨vs,⟨a',c',rfl,h1⟩,hc⟩:=h.get ha hi
 have:=hc 0 _ rfl
 rw[show niE.sz=1 from rfl,Nat.mul_one,Nat.add_zero] at this
 exact⟨a',c',this,h1⟩
structure WavD where
 names:List ByteArray
 rows:List (List Int)
structure WavA where
 an:Option Addr
 cn:Nat
 ar:Option Addr
 cr:Nat
structure WavIn (w:World) (v:WavD) (x:WavA):Prop where
 ns:StrsIn w v.names x.an x.cn
 rs:niE.In w v.rows x.ar x.cr
 sz:∀ s∈v.names,s.size≤1073741824
theorem WavIn.keep {w w':World} {v:WavD} {x:WavA} (h:WavIn w v x) (hk:Kp w w'):WavIn w' v x:=⟨h.ns.keep hk,h.rs.keep hk,h.sz⟩
def wavCells (v:WavD) (x:WavA):List Value:=[.slice x.an v.names.length x.cn,.slice x.ar v.rows.length x.cr]
def wavVal (v:WavD) (x:WavA):Value:=.agg (wavCells v x).toArray
theorem wavVal_eq (v:WavD) (x:WavA):wavVal v x=.agg #[.slice x.an v.names.length x.cn,.slice x.ar v.rows.length x.cr]:=rfl
def placeF:List ByteArray→ByteArray→Nat→Int
 | [],_,_=>-1
 | x::l,s,i=>if x=s then (i:Nat) else placeF l s (i+1)
theorem placeF_at (l:List ByteArray) (s:ByteArray) {k:Nat} (hk:k < l.length):placeF (l.drop k) s k=if l[k]'hk=s then (k:Int) else placeF (l.drop (k+1)) s (k+1):=by
 rw[List.drop_eq_getElem_cons hk,placeF]
def diffB (l:List ByteArray) (k:Nat):Bool:=(List.range k).all fun i=>varB (l.getD i .empty).data.toList && decide (placeF l (l.getD i .empty) 0=i)
theorem diffB_succ (l:List ByteArray) {k:Nat} (hk:k < l.length):diffB l (k+1)=(diffB l k && (varB (l[k]'hk).data.toList && decide (placeF l (l[k]'hk) 0=k))):=by
 unfold diffB
 have e:l.getD k .empty=l[k]'hk:=by rw[List.getD_eq_getElem?_getD,List.getElem?_eq_getElem hk];rfl
 rw[List.range_succ,List.all_append,List.all_cons,List.all_nil,Bool.and_true,e]
theorem diffB_le {l:List ByteArray} {k m:Nat} (h:diffB l m=true) (hk:k≤m):diffB l k=true:=by
 unfold diffB at h⊢
 rw[List.all_eq_true] at h⊢
 intro i hi
 exact h i (List.mem_range.2 (by have:=List.mem_range.1 hi;omega))
theorem diffB_no {l:List ByteArray} {k:Nat} (hk:k < l.length) (h:(varB (l[k]'hk).data.toList && decide (placeF l (l[k]'hk) 0=k))=false):diffB l l.length=false:=by
 cases e:diffB l l.length with
 | false=>rfl
 | true =>
  have:=diffB_le e (show k+1≤l.length by omega)
  rw[diffB_succ l hk,h] at this
  simp at this
set_option maxHeartbeats 4000000 in
set_option maxRecDepth 100000 in
theorem place26_any (l:List ByteArray) (a:Option Addr) (c:Nat) (s:ByteArray) (w:World) (h:StrsIn w l a c):Calls Tryz.prog 118 #[.slice a l.length c,.string s] w fun e w'=>e=.returned (.int .i64 (placeF l s 0))∧w'=w:=by
 have H:=Lib.hid h
 have HA:Hid (l.length=0∨∃ b off,a=some ⟨b,off,none⟩):=SliceIn.addr h
 have hlen:=h.2.1
 have HPo:Hid (∀ v,v=placeF l s 0→(fun (e:Ending) (w':World)=>e=.returned (.int .i64 (placeF l s 0))∧w'=w) (.returned (.int .i64 v)) w):=fun v h=>⟨by rw[h],rfl⟩
 generalize (fun (e:Ending) (w':World)=>e=.returned (.int .i64 (placeF l s 0))∧w'=w)=Po at HPo⊢
 clear h
 go_enter Tryz.func118, Tryz.ntmps118
 go_wp2_with fail
 go_loop [5] (fun i=>∃ k:Nat,i=.int .i64 k∧k≤l.length∧Hid (placeF l s 0=placeF (l.drop k) s k)) (fun i=>l.length - (intOf i).toNat)
 case atStart=>exact⟨0,rfl,Nat.zero_le _,rfl⟩
 case round =>
  obtain⟨k,rfl,hk,HQ⟩:=hrel
  by_cases hlt:k < l.length
  ·have hkl:(k:Int) < l.length:=by omega
   obtain⟨b,off,ha⟩:=HA.out.resolve_left (by omega)
   subst ha
   have g0:=StrsIn.get H.out rfl hlt
   have HSt:Hid (placeF l s 0=if l[k]'hlt=s then (k:Int) else placeF (l.drop (k+1)) s (k+1)):=by show _=_;rw[HQ.out];exact placeF_at l s hlt
   generalize (l[k]'hlt)=x at g0 HSt
   by_cases he:x=s
   ·have HF:=Lib.hid (HPo.out (k:Int) (by rw[HSt.out,if_pos he]))
    subst he
    go_wp2_with fail
    first | exact HF.out | (go_ret2;exact HF.out)
   ·have HN:Hid (placeF l s 0=placeF (l.drop (k+1)) s (k+1)):=by show _=_;rw[HSt.out,if_neg he]
    have he1:=tl_ne he
    have he2:(x.toList == s.toList)=false:=by simpa [bne] using he1
    have he3:¬ x.toList=s.toList:=by simpa using he2
    clear he HSt
    go_wp2_with fail
    go_round
    case rel=>exact⟨k+1,by go_num,by omega,HN.out⟩
    case measure=>(simp[intOf];try omega)
  ·have hkl:¬ (k:Int) < l.length:=by omega
   have HF:=Lib.hid (HPo.out (-1) (by rw[HQ.out,List.drop_eq_nil_of_le (by omega)];rfl))
   go_wp2_with fail
   first | exact HF.out | (go_ret2;exact HF.out)
set_option maxHeartbeats 4000000 in
set_option maxRecDepth 100000 in
theorem different_any (l:List ByteArray) (a:Option Addr) (c:Nat) (w:World) (h:StrsIn w l a c) (hs:∀ s∈l,s.size≤1073741824):Calls Tryz.prog 63 #[.slice a l.length c] w (BoolRet (diffB l l.length) w):=by
 have H:=Lib.hid h
 have HA:Hid (l.length=0∨∃ b off,a=some ⟨b,off,none⟩):=SliceIn.addr h
 have hlen:=h.2.1
 have HSz:=Lib.hid hs
 have HNo:Hid (∀ k (hk:k < l.length),(varB (l[k]'hk).data.toList && decide (placeF l (l[k]'hk) 0=k))=false→∀ W,Below w.heap.size w W→BoolRet (diffB l l.length) w (.returned (.bool false)) W):=fun k hk h W hW=>⟨by rw[diffB_no hk h],hW⟩
 have HYes:Hid (diffB l l.length=true→∀ W,Below w.heap.size w W→BoolRet (diffB l l.length) w (.returned (.bool true)) W):=fun h W hW=>⟨by rw[h],hW⟩
 generalize BoolRet (diffB l l.length) w=Po at HNo HYes⊢
 clear h hs
 go_enter Tryz.func63, Tryz.ntmps63
 go_wp2_with fail
 go_loopw [3] (fun i wr=>∃ k:Nat,i=.int .i64 k∧k≤l.length∧Hid (diffB l k=true)∧Hid (Below w.heap.size w wr)) (fun i _=>l.length - (intOf i).toNat)
 case atStart=>exact⟨0,rfl,Nat.zero_le _,rfl,Below.refl _ _⟩
 case round =>
  (try rename World=>wr)
  obtain⟨k,rfl,hk,HD,HB⟩:=hrel
  have hzr:=HB.out.size
  by_cases hlt:k < l.length
  ·have hkl:(k:Int) < l.length:=by omega
   obtain⟨b,off,ha⟩:=HA.out.resolve_left (by omega)
   subst ha
   have g0:=StrsIn.get (StrsIn.keep (keeps_of_below HB.out) H.out) rfl hlt
   have HNn:=Lib.hid (HNo.out k hlt)
   have HNx:Hid ((varB (l[k]'hlt).data.toList && decide (placeF l (l[k]'hlt) 0=k))=true→diffB l (k+1)=true):=fun h=>by rw[diffB_succ l hlt,HD.out,h];rfl
   have hsz:=HSz.out _ (List.getElem_mem hlt)
   have HPl:Hid (∀ W,Below w.heap.size w W→Calls Tryz.prog 118 #[.slice (some ⟨b,off,none⟩) l.length c,.string (l[k]'hlt)] W fun e w'=>e=.returned (.int .i64 (placeF l (l[k]'hlt) 0))∧w'=W):=fun W hW=>place26_any l _ c _ W (StrsIn.keep (keeps_of_below hW) H.out)
   generalize placeF l (l[k]'hlt) 0=pl at HNn HNx HPl
   generalize (l[k]'hlt)=x at g0 HNn HNx hsz HPl
   have HVr:=Lib.hid (rIsVar_any x wr hsz)
   generalize varB x.data.toList=vb at HVr HNn HNx
   cases vb with
   | false =>
    have HF:=Lib.hid (HNn.out rfl)
    go_wp2_with (go_at_call 117;go_must (refine HVr.out.mono ?_;rintro e w5 ⟨rfl,hb5⟩))
    have HF2:=Lib.hid (HF.out w5 (HB.out.trans (hb5.mono hzr)))
    clear hb5
    first | exact HF2.out | (go_ret2;exact HF2.out)
   | true =>
    by_cases hp:pl=(k:Int)
    ·have HN2:=Lib.hid (HNx.out (by rw[decide_eq_true hp];rfl))
     subst hp
     clear HNn HNx
     go_wp2_with (first
      | (go_at_call 117;go_must (refine HVr.out.mono ?_;rintro e w5 ⟨rfl,hb5⟩;have HB5:Hid (Below w.heap.size w w5):=HB.out.trans (hb5.mono hzr);have q0:=keeps_of_below hb5 _ _ g0;clear hb5))
      | (go_at_call 118;go_must (refine(HPl.out _ HB5.out).mono ?_;rintro e w6 ⟨rfl,h6⟩;have h7:=h6.symm;clear h6;subst h7)))
     go_roundw
     case rel=>exact⟨k+1,by go_num,by omega,HN2.out,HB5.out⟩
     case measure=>(simp[intOf];try omega)
    ·have HF:=Lib.hid (HNn.out (by rw[decide_eq_false hp];rfl))
     have hp2:(pl != (k:Int))=true:=by simpa using hp
     clear HNn HNx hp
     go_wp2_with (first
      | (go_at_call 117;go_must (refine HVr.out.mono ?_;rintro e w5 ⟨rfl,hb5⟩;have HB5:Hid (Below w.heap.size w w5):=HB.out.trans (hb5.mono hzr);have q0:=keeps_of_below hb5 _ _ g0;clear hb5))
      | (go_at_call 118;go_must (refine(HPl.out _ HB5.out).mono ?_;rintro e w6 ⟨rfl,h6⟩;have h7:=h6.symm;clear h6;subst h7)))
     have HF2:=Lib.hid (HF.out _ HB5.out)
     first | exact HF2.out | (go_ret2;exact HF2.out)
  ·obtain rfl:k=l.length:=by omega
   have hkl:¬ ((l.length:Int) < l.length):=by omega
   have HF:=Lib.hid (HYes.out HD.out wr HB.out)
   go_wp2_with fail
   first | exact HF.out | (go_ret2;exact HF.out)
def fitB (l:List Int):Bool:=l.all fun n=>decide (0≤n∧n≤65535)
set_option maxHeartbeats 4000000 in
set_option maxRecDepth 100000 in
theorem fits_any (l:List Int) (a:Option Addr) (c:Nat) (w:World) (h:IntsIn w l a c):Calls Tryz.prog 64 #[.slice a l.length c] w fun e w'=>e=.returned (.bool (fitB l))∧w'=w:=by
 have H:=Lib.hid (inE_in.2 h)
 have HA:Hid (l.length=0∨∃ b off,a=some ⟨b,off,none⟩):=SliceIn.addr h
 have hlen:=h.2.1
 have HNo:Hid (∀ k (hk:k < l.length),¬ (0≤l[k]'hk∧l[k]'hk≤65535)→(fun (e:Ending) (w':World)=>e=.returned (.bool (fitB l))∧w'=w) (.returned (.bool false)) w):=fun k hk h=>⟨by
  have:fitB l=false:=all_no hk (decide_eq_false h)
  rw[this],rfl⟩
 have HYes:Hid ((∀ k (hk:k < l.length),0≤l[k]'hk∧l[k]'hk≤65535)→(fun (e:Ending) (w':World)=>e=.returned (.bool (fitB l))∧w'=w) (.returned (.bool true)) w):=fun h=>⟨by
  have:fitB l=true:=all_yes fun j hj=>decide_eq_true (h j hj)
  rw[this],rfl⟩
 generalize (fun (e:Ending) (w':World)=>e=.returned (.bool (fitB l))∧w'=w)=Po at HNo HYes⊢
 clear h
 go_enter Tryz.func64, Tryz.ntmps64
 go_wp2_with fail
 go_loop [3] (fun i=>∃ k:Nat,i=.int .i64 k∧k≤l.length∧Hid (∀ j (hj:j < l.length),j < k→0≤l[j]'hj∧l[j]'hj≤65535)) (fun i=>l.length - (intOf i).toNat)
 case atStart=>exact⟨0,rfl,Nat.zero_le _,fun _ _ h=>absurd h (Nat.not_lt_zero _)⟩
 case round =>
  obtain⟨k,rfl,hk,HN⟩:=hrel
  by_cases hlt:k < l.length
  ·have hkl:(k:Int) < l.length:=by omega
   obtain⟨b,off,ha⟩:=HA.out.resolve_left (by omega)
   subst ha
   have g0:=inE_at.1 (H.out.get rfl hlt)
   rw[show inE.sz=1 from rfl,Nat.mul_one] at g0
   have HNn:=Lib.hid (HNo.out k hlt)
   have HNx:Hid (0≤l[k]'hlt∧l[k]'hlt≤65535→∀ j (hj:j < l.length),j < k+1→0≤l[j]'hj∧l[j]'hj≤65535):=fun he j hj hjk=>by
    by_cases e:j=k
    ·subst e;exact he
    ·exact HN.out j hj (by omega)
   generalize (l[k]'hlt)=y at g0 HNn HNx
   by_cases h1:y < 0
   ·have HF:=Lib.hid (HNn.out (by omega))
    go_wp2_with fail
    first | exact HF.out | (go_ret2;exact HF.out)
   ·by_cases h2:65535 < y
    ·have HF:=Lib.hid (HNn.out (by omega))
     go_wp2_with fail
     first | exact HF.out | (go_ret2;exact HF.out)
    ·have HN2:=Lib.hid (HNx.out ⟨by omega,by omega⟩)
     go_wp2_with fail
     go_round
     case rel=>exact⟨k+1,by go_num,by omega,HN2.out⟩
     case measure=>(simp[intOf];try omega)
  ·have hkl:¬ (k:Int) < l.length:=by omega
   obtain rfl:k=l.length:=by omega
   have HF:=Lib.hid (HYes.out fun j hj=>HN.out j hj hj)
   go_wp2_with fail
   first | exact HF.out | (go_ret2;exact HF.out)
end Go.Proofs.YthojpomoflhbcaaGreatDoor
namespace Go.Proofs.YthojpomoflhbcaaGreatDoor
open Go.RowKit Go.ChangeShapes Go.WideShapes Go.ChangeAt Go.Deep Go.Joins
theorem cells_rowsW : Tryz.prog.cellsOf 52=1:=by kernel_rfl
theorem cells_waveW : Tryz.prog.cellsOf 54=2:=by kernel_rfl
section
variable {H : Type} {enc : TypeId × Value → H} {w : World} {sp : Nat → Bool} {hd : Bool}
theorem open_rowsW {fuel:Nat} {cs:List Value} {x:DataW H × List MemPlace} (h:DataW.trod enc Tryz.prog w 0 sp hd fuel 52 cs=some x) (hb:Rows.uptoBulk x.1≤1048576) :
  ∃ (l:List (List Int)) (a:Option Addr) (cap:Nat),cs=[.slice a l.length cap]∧niE.In w l a cap:=by
 refine open_elems (fun (v:List Int) b o=>niE.At w v b o) Tryz.underlying52 cells_ints (by omega) h hb ?_
 intro n cs' y hy hlt
 obtain⟨l,a,cap,e,hI⟩:=open_ints' hy (by omega)
 subst e
 exact⟨l,fun b o hc=>at_cells (E:=niE) ⟨a,cap,rfl,hI⟩ hc⟩
theorem open_wave {fuel:Nat} {cs:List Value} {x:DataW H × List MemPlace} (h:DataW.trod enc Tryz.prog w 0 sp hd fuel 54 cs=some x) (hb:Rows.uptoBulk x.1≤1048576) :
  ∃ (v:WavD) (z:WavA),cs=wavCells v z∧WavIn w v z:=by
 obtain⟨y0,y1,m,rfl,hl,h0,h1⟩:=trod_struct2 Tryz.underlying54 h
 rw[cells_waveW] at hl
 obtain⟨c0,c1,rfl⟩:=list2Q hl
 simp only[cells_strs,cells_rowsW,List.drop,List.take] at h0 h1
 simp only[Rows.uptoBulk,Rows.uptoBulkAll] at hb
 obtain⟨ns,an,cn,e0,hn,hs⟩:=open_strs h0 (by omega)
 obtain⟨rs,ar,cr,e1,hr⟩:=open_rowsW h1 (by omega)
 simp only[List.cons.injEq,and_true] at e0 e1
 subst e0 e1
 exact⟨⟨ns,rs⟩,⟨an,cn,ar,cr⟩,rfl,hn,hr,fun s h=>by have:=hs s h;omega⟩
end
section
variable {H : Type} {enc : TypeId × Value → H} {w : World} {base b0 : Nat} {sp : Nat → Bool} {hd : Bool} {r : Reach} {v : Value} {d : DataW H} {ps : List MemPlace}
set_option maxRecDepth 100000 in
theorem arg_wave (hv:Value.okWide Tryz.prog w r b0 54 v) (h:DataW.Trod enc Tryz.prog w 0 sp hd 54 v d ps) (hb:Rows.uptoBulk d≤1048576):∃ (n:WavD) (y:WavA),v=wavVal n y∧WavIn w n y:=by
 obtain⟨cs,rfl,_⟩:=okWide_struct Tryz.underlying54 hv
 obtain⟨fuel,hf⟩:=h
 obtain⟨n,y,e,hP⟩:=open_wave hf hb
 refine⟨n,y,?_,hP⟩
 have:cs=(wavCells n y).toArray:=by apply Array.toList_inj.1;exact e
 rw[this];rfl
end
end Go.Proofs.YthojpomoflhbcaaGreatDoor
namespace Go.Proofs.YthojpomoflhbcaaGreatDoor
open Go.RowKit
attribute [local go_sem ↓] Go.wp_at_zero Go.wp_at_succ
def evR (w:World) (l:List Sg) (vs:List Value):Prop:=∃ a cap,vs=[.slice a l.length cap]∧SigsIn w l a cap
def envE:Enc (List Sg) where
 sz:=1
 R:=evR
 pos:=by decide
 len:=by rintro _ _ _ ⟨_,_,rfl,_⟩;rfl
 keep:=by rintro _ _ _ _ hk ⟨a,cap,rfl,h⟩;exact⟨a,cap,rfl,h.keep hk⟩
 one:=by rintro _ _ _ ⟨_,_,rfl,_⟩ v hv;simp at hv;subst hv;rfl
theorem envE_get {w:World} {l:List (List Sg)} {a:Option Addr} {cap:Nat} (h:envE.In w l a cap) {b off:Nat} (ha:a=some ⟨b,off,none⟩) {i:Nat} (hi:i < l.length):∃ a' c',w.cell? ⟨b,off+i,none⟩=some (.slice a' (l[i]'hi).length c')∧SigsIn w (l[i]'hi) a' c':=by
 obtain⟨vs,⟨a',c',rfl,h1⟩,hc⟩:=h.get ha hi
 have:=hc 0 _ rfl
 rw[show envE.sz=1 from rfl,Nat.mul_one,Nat.add_zero] at this
 exact⟨a',c',this,h1⟩
theorem elemEV:Elem Tryz.prog 62 39 1:=Elem.of Tryz.underlying62 (by kernel_rfl) (z:=.slice none 0 0) (bytes:=24) rfl (by decide) (by decide)
theorem monE {l:List (List Sg)} {t:List Sg} (h:Asc cmpEnv l):MonG (fun x:List Sg=>cmpEnv x t) l:=fun i j hi hj hij h1=>by
 have h2:=List.pairwise_iff_getElem.1 h i j hi hj hij
 simp only at h1⊢
 rcases Int.lt_trichotomy (cmpEnv (l[j]'hj) t) 0 with h3 | h3 | h3
 ·exact absurd (cmp3Env.trans _ _ _ h2 h3) h1
 ·have e:=(cmp3Env.zero _ _).1 h3
  rw[← e] at h1
  exact absurd h2 h1
 ·exact h3
def EnsRet (p:Nat→Bool) (l:List (List Sg)) (w:World) (e:Ending) (w':World):Prop:=(∃ a c,e=.returned (.slice a l.length c)∧envE.In (World.hide w' p) l a c)∧Below w.heap.size w w'
set_option maxHeartbeats 16000000 in
set_option maxRecDepth 100000 in
theorem addL_any (p:Nat→Bool) (l:List (List Sg)) (al:Option Addr) (cl:Nat) (env:List Sg) (ae:Option Addr) (ce:Nat) (w:World) (hp:∀ j,p j=true→j < w.heap.size) (hL:envE.In (World.hide w p) l al cl) (hE:SigsIn (World.hide w p) env ae ce) (ha:Asc cmpEnv l) (hl:l.length≤100000000) :
  Calls Tryz.prog 68 #[.slice al l.length cl,.slice ae env.length ce] w (EnsRet p (insL cmpEnv l env) w):=by
 have HLs:=Lib.hid hL
 have HE:=Lib.hid hE
 have Hp:=Lib.hid hp
 have HLa:Hid (l.length=0∨∃ b off,al=some ⟨b,off,none⟩):=hL.addr
 have HS:Hid (∀ k (hk:k < l.length),(dnG (fun z:List Sg=>cmpEnv z env) l k=false→cmpEnv (l[k]'hk) env < 0→dnG (fun z:List Sg=>cmpEnv z env) l (k+1)=false∧atG (fun z:List Sg=>cmpEnv z env) env l (k+1)=atG (fun z:List Sg=>cmpEnv z env) env l k++[l[k]'hk]) ∧
   (dnG (fun z:List Sg=>cmpEnv z env) l k=false→cmpEnv (l[k]'hk) env=0→dnG (fun z:List Sg=>cmpEnv z env) l (k+1)=true∧atG (fun z:List Sg=>cmpEnv z env) env l (k+1)=atG (fun z:List Sg=>cmpEnv z env) env l k++[env]) ∧
   (dnG (fun z:List Sg=>cmpEnv z env) l k=false→0 < cmpEnv (l[k]'hk) env→dnG (fun z:List Sg=>cmpEnv z env) l (k+1)=true∧atG (fun z:List Sg=>cmpEnv z env) env l (k+1)=atG (fun z:List Sg=>cmpEnv z env) env l k++[env]++[l[k]'hk]) ∧
   (dnG (fun z:List Sg=>cmpEnv z env) l k=true→0 < cmpEnv (l[k]'hk) env∧dnG (fun z:List Sg=>cmpEnv z env) l (k+1)=true∧atG (fun z:List Sg=>cmpEnv z env) env l (k+1)=atG (fun z:List Sg=>cmpEnv z env) env l k++[l[k]'hk])):=fun k hk=>stepG (monE ha) hk
 have HLn:Hid (∀ k,(atG (fun z:List Sg=>cmpEnv z env) env l k).length≤l.length+1):=fun k=>atG_len l k
 have HEnd:insL cmpEnv l env=if dnG (fun z:List Sg=>cmpEnv z env) l l.length=true then atG (fun z:List Sg=>cmpEnv z env) env l l.length else atG (fun z:List Sg=>cmpEnv z env) env l l.length++[env]:=by rw[insL_gen];exact endG
 have hD0:dnG (fun z:List Sg=>cmpEnv z env) l 0=false:=dnG_zero l
 have hA0:atG (fun z:List Sg=>cmpEnv z env) env l 0=[]:=atG_zero l
 rw[HEnd]
 clear hL hE ha HEnd hp
 generalize dnG (fun z:List Sg=>cmpEnv z env) l=D at HS hD0⊢
 generalize atG (fun z:List Sg=>cmpEnv z env) env l=A at HS HLn hA0⊢
 have HPo:Hid (∀ a c W,envE.In (World.hide W p) (if D l.length=true then A l.length else A l.length++[env]) a c→Below w.heap.size w W→EnsRet p (if D l.length=true then A l.length else A l.length++[env]) w (.returned (.slice a (if D l.length=true then A l.length else A l.length++[env]).length c)) W):=fun a c W h1 h2=>⟨⟨a,c,rfl,h1⟩,h2⟩
 generalize EnsRet p (if D l.length=true then A l.length else A l.length++[env]) w=Po at HPo⊢
 have HO0:Hid (∀ W,envE.Own 39 p W w.heap.size (.slice none 0 0) (A 0)):=fun W=>by rw[hA0];exact Enc.Own.nil _ _ _ _ _
 have HD0:=Lib.hid hD0
 have HRe:Hid (∀ W (v:Value),Below w.heap.size w W→(∀ j,v.ownBlock=some j→w.heap.size≤j)→envE.R (World.hide W (hid p v)) env [.slice ae env.length ce]):=fun W v hW hv=>⟨ae,ce,rfl,SigsIn.keep (hide_below hW fun j hj hq=>(hid_true.1 hq).elim id fun e=>by have:=hv j e;omega) HE.out⟩
 clear hD0 hA0
 go_enter Tryz.func68, Tryz.ntmps68
 go_wp2_with fail
 go_loopw [7,5,6] (fun i o d wr=>∃ k:Nat,i=.int .i64 k∧k≤l.length∧d=.bool (D k)∧Hid (envE.Own 39 p wr w.heap.size o (A k))∧Hid (Below w.heap.size w wr)) (fun i _ _ _=>l.length - (intOf i).toNat)
 case atStart=>exact⟨0,rfl,Nat.zero_le _,by rw[HD0.out],HO0.out _,Below.refl _ _⟩
 case round =>
  (try rename World=>wr)
  obtain⟨k,rfl,hk,hd,HO,HB⟩:=hrel
  have hzr:=HB.out.size
  have hAk:=HLn.out k
  by_cases hlt:k < l.length
  ·have hkl:(k:Int) < l.length:=by omega
   obtain⟨bl,ol,hla⟩:=HLa.out.resolve_left (by omega)
   subst hla
   obtain⟨xa,xc,g0w,hx⟩:=envE_get HLs.out rfl hlt
   obtain⟨hs1,hs2,hs3,hs4⟩:=HS.out k hlt
   generalize (l[k]'hlt)=x at g0w hx hs1 hs2 hs3 hs4
   have HXe:=Lib.hid hx
   have HC:Hid (∀ W,Below w.heap.size w W→W.cell? ⟨bl,ol+k,none⟩=some (.slice xa x.length xc)):=fun W hW=>keeps_of_below hW _ _ (hide_cell _ _ g0w)
   have HSm:Hid (∀ W,Below w.heap.size w W→Calls Tryz.prog 55 #[.slice xa x.length xc,.slice ae env.length ce] W fun e w'=>e=.returned (.bool (pB (x=env)))∧Below W.heap.size W w'):=fun W hW=>rsameEnv_any x env xa xc ae ce W (SigsIn.keep (Kp.trans hide_cell (keeps_of_below hW)) HXe.out) (SigsIn.keep (Kp.trans hide_cell (keeps_of_below hW)) HE.out)
   have HLt:Hid (∀ W,Below w.heap.size w W→Calls Tryz.prog 109 #[.slice ae env.length ce,.slice xa x.length xc] W fun e w'=>e=.returned (.bool (decide (cmpEnv env x < 0)))∧Below W.heap.size W w'):=fun W hW=>rlessEnv_any env x ae ce xa xc W (SigsIn.keep (Kp.trans hide_cell (keeps_of_below hW)) HE.out) (SigsIn.keep (Kp.trans hide_cell (keeps_of_below hW)) HXe.out)
   have HRx:Hid (∀ W (v:Value),Below w.heap.size w W→(∀ j,v.ownBlock=some j→w.heap.size≤j)→envE.R (World.hide W (hid p v)) x [.slice xa x.length xc]):=fun W v hW hv=>⟨xa,xc,rfl,SigsIn.keep (hide_below hW fun j hj hq=>(hid_true.1 hq).elim id fun e=>by have:=hv j e;omega) HXe.out⟩
   have hz0:cmpEnv x env=0↔x=env:=cmp3Env.zero x env
   have han:cmpEnv env x < 0↔0 < cmpEnv x env:=cmp3Env.anti env x
   have c0:=HC.out wr HB.out
   clear g0w hx
   cases hDk:D k with
   | true =>
    obtain⟨hpos,hd2,ha2⟩:=hs4 hDk
    rw[hDk] at hd
    subst hd
    have hsame:pB (x=env)=false:=pB_false fun e=>by have:=hz0.2 e;omega
    have HD2:=Lib.hid hd2
    have HA2:=Lib.hid ha2
    clear hs1 hs2 hs3 hs4 hd2 ha2 hpos hz0 han
    have HSm2:Hid (Calls Tryz.prog 55 #[.slice xa x.length xc,.slice ae env.length ce] wr fun e w'=>e=.returned (.bool false)∧Below wr.heap.size wr w'):=by
     have h:=HSm.out wr HB.out
     rw[hsame] at h
     exact h
    clear HSm hsame
    go_wp2_with fail
    refine HSm2.out.mono ?_
    rintro r w5 ⟨rfl,hb5⟩
    have HB5:Hid (Below w.heap.size w w5):=HB.out.trans (hb5.mono hzr)
    have HO5:Hid (envE.Own 39 p w5 w.heap.size u5 (A k)):=HO.out.below hb5
    have hz5:=HB5.out.size
    have c5:=HC.out w5 HB5.out
    clear hb5 c0
    go_wp2_with (at_builtin;go_must (refine own_addE (E:=envE) elemEV _ rfl (.tmp 34) (.tmp 39) rfl p w.heap.size _ rfl HO5.out x [.slice xa x.length xc] (HRx.out _ _ HB5.out fun j hj=>(own_vlt HO5.out j hj).1) _ _ rfl rfl (A k).length rfl (by omega) hz5 ?_))
    intro g7 cap7 w7 ho7 hg7 hat7
    have HB7:Hid (Below w.heap.size w w7):=below_growF HB5.out hg7 fun j hj=>(own_vlt HO5.out j hj).1
    rw[← HA2.out] at ho7
    have HO9:=Lib.hid ho7
    clear ho7 hg7 hat7
    go_wp2_with fail
    go_roundw
    case rel=>exact⟨k+1,by go_num,by omega,by rw[HD2.out],HO9.out,HB7.out⟩
    case measure=>(simp[intOf];try omega)
   | false =>
    rw[hDk] at hd
    subst hd
    rcases Int.lt_trichotomy (cmpEnv x env) 0 with hc | hc | hc
    ·obtain⟨hd2,ha2⟩:=hs1 hDk hc
     have hsame:pB (x=env)=false:=pB_false fun e=>by have:=hz0.2 e;omega
     have hless:decide (cmpEnv env x < 0)=false:=decide_eq_false fun h=>by have:=han.1 h;omega
     have HD2:=Lib.hid hd2
     have HA2:=Lib.hid ha2
     clear hs1 hs2 hs3 hs4 hd2 ha2 hc hz0 han
     have HSm2:Hid (Calls Tryz.prog 55 #[.slice xa x.length xc,.slice ae env.length ce] wr fun e w'=>e=.returned (.bool false)∧Below wr.heap.size wr w'):=by
      have h:=HSm.out wr HB.out
      rw[hsame] at h
      exact h
     clear HSm hsame
     go_wp2_with fail
     refine HSm2.out.mono ?_
     rintro r w5 ⟨rfl,hb5⟩
     have HB5:Hid (Below w.heap.size w w5):=HB.out.trans (hb5.mono hzr)
     have HO5:Hid (envE.Own 39 p w5 w.heap.size u5 (A k)):=HO.out.below hb5
     have hz5:=HB5.out.size
     have c5:=HC.out w5 HB5.out
     clear hb5 c0
     have HLt2:Hid (Calls Tryz.prog 109 #[.slice ae env.length ce,.slice xa x.length xc] w5 fun e w'=>e=.returned (.bool false)∧Below w5.heap.size w5 w'):=by
      have h:=HLt.out w5 HB5.out
      rw[hless] at h
      exact h
     clear HLt hless
     go_wp2_with fail
     refine HLt2.out.mono ?_
     rintro r w6 ⟨rfl,hb6⟩
     have HB6:Hid (Below w.heap.size w w6):=HB5.out.trans (hb6.mono hz5)
     have HO6:Hid (envE.Own 39 p w6 w.heap.size u5 (A k)):=HO5.out.below hb6
     have hz6:=HB6.out.size
     have c6:=HC.out w6 HB6.out
     clear hb6 c5
     go_wp2_with (at_builtin;go_must (refine own_addE (E:=envE) elemEV _ rfl (.tmp 34) (.tmp 39) rfl p w.heap.size _ rfl HO6.out x [.slice xa x.length xc] (HRx.out _ _ HB6.out fun j hj=>(own_vlt HO6.out j hj).1) _ _ rfl rfl (A k).length rfl (by omega) hz6 ?_))
     intro g7 cap7 w7 ho7 hg7 hat7
     have HB7:Hid (Below w.heap.size w w7):=below_growF HB6.out hg7 fun j hj=>(own_vlt HO6.out j hj).1
     rw[← HA2.out] at ho7
     have HO9:=Lib.hid ho7
     clear ho7 hg7 hat7
     go_wp2_with fail
     go_roundw
     case rel=>exact⟨k+1,by go_num,by omega,by rw[HD2.out],HO9.out,HB7.out⟩
     case measure=>(simp[intOf];try omega)
    ·obtain⟨hd2,ha2⟩:=hs2 hDk hc
     have hxe:=hz0.1 hc
     have hsame:pB (x=env)=true:=pB_true hxe
     rw[← hxe] at ha2
     have HD2:=Lib.hid hd2
     have HA2:=Lib.hid ha2
     clear hs1 hs2 hs3 hs4 hd2 ha2 hc hz0 han hxe
     have HSm2:Hid (Calls Tryz.prog 55 #[.slice xa x.length xc,.slice ae env.length ce] wr fun e w'=>e=.returned (.bool true)∧Below wr.heap.size wr w'):=by
      have h:=HSm.out wr HB.out
      rw[hsame] at h
      exact h
     clear HSm hsame
     go_wp2_with fail
     refine HSm2.out.mono ?_
     rintro r w5 ⟨rfl,hb5⟩
     have HB5:Hid (Below w.heap.size w w5):=HB.out.trans (hb5.mono hzr)
     have HO5:Hid (envE.Own 39 p w5 w.heap.size u5 (A k)):=HO.out.below hb5
     have hz5:=HB5.out.size
     have c5:=HC.out w5 HB5.out
     clear hb5 c0
     go_wp2_with (at_builtin;go_must (refine own_addE (E:=envE) elemEV _ rfl (.tmp 34) (.tmp 39) rfl p w.heap.size _ rfl HO5.out x [.slice xa x.length xc] (HRx.out _ _ HB5.out fun j hj=>(own_vlt HO5.out j hj).1) _ _ rfl rfl (A k).length rfl (by omega) hz5 ?_))
     intro g7 cap7 w7 ho7 hg7 hat7
     have HB7:Hid (Below w.heap.size w w7):=below_growF HB5.out hg7 fun j hj=>(own_vlt HO5.out j hj).1
     rw[← HA2.out] at ho7
     have HO9:=Lib.hid ho7
     clear ho7 hg7 hat7
     go_wp2_with fail
     go_roundw
     case rel=>exact⟨k+1,by go_num,by omega,by rw[HD2.out],HO9.out,HB7.out⟩
     case measure=>(simp[intOf];try omega)
    ·obtain⟨hd2,ha2⟩:=hs3 hDk hc
     have hsame:pB (x=env)=false:=pB_false fun e=>by have:=hz0.2 e;omega
     have hless:decide (cmpEnv env x < 0)=true:=decide_eq_true (han.2 hc)
     simp only[List.append_assoc,List.cons_append,List.nil_append] at ha2
     have HD2:=Lib.hid hd2
     have HA2:=Lib.hid ha2
     clear hs1 hs2 hs3 hs4 hd2 ha2 hc hz0 han
     have HSm2:Hid (Calls Tryz.prog 55 #[.slice xa x.length xc,.slice ae env.length ce] wr fun e w'=>e=.returned (.bool false)∧Below wr.heap.size wr w'):=by
      have h:=HSm.out wr HB.out
      rw[hsame] at h
      exact h
     clear HSm hsame
     go_wp2_with fail
     refine HSm2.out.mono ?_
     rintro r w5 ⟨rfl,hb5⟩
     have HB5:Hid (Below w.heap.size w w5):=HB.out.trans (hb5.mono hzr)
     have HO5:Hid (envE.Own 39 p w5 w.heap.size u5 (A k)):=HO.out.below hb5
     have hz5:=HB5.out.size
     have c5:=HC.out w5 HB5.out
     clear hb5 c0
     have HLt2:Hid (Calls Tryz.prog 109 #[.slice ae env.length ce,.slice xa x.length xc] w5 fun e w'=>e=.returned (.bool true)∧Below w5.heap.size w5 w'):=by
      have h:=HLt.out w5 HB5.out
      rw[hless] at h
      exact h
     clear HLt hless
     go_wp2_with fail
     refine HLt2.out.mono ?_
     rintro r w6 ⟨rfl,hb6⟩
     have HB6:Hid (Below w.heap.size w w6):=HB5.out.trans (hb6.mono hz5)
     have HO6:Hid (envE.Own 39 p w6 w.heap.size u5 (A k)):=HO5.out.below hb6
     have hz6:=HB6.out.size
     have c6:=HC.out w6 HB6.out
     clear hb6 c5
     go_wp2_with (at_builtin;go_must (refine own_addE (E:=envE) elemEV _ rfl (.tmp 30) (.tmp 32) rfl p w.heap.size _ rfl HO6.out env [.slice ae env.length ce] (HRe.out _ _ HB6.out fun j hj=>(own_vlt HO6.out j hj).1) _ _ rfl rfl (A k).length rfl (by omega) hz6 ?_))
     intro g7 cap7 w7 ho7 hg7 hat7
     have HB7:Hid (Below w.heap.size w w7):=below_growF HB6.out hg7 fun j hj=>(own_vlt HO6.out j hj).1
     have HO7:=Lib.hid ho7
     have hz7:=HB7.out.size
     have c7:=HC.out w7 HB7.out
     have HL7:Hid ((A k++[env]:List (List Sg)).length=(A k).length+1):=by show _=_;simp
     clear ho7 hg7 hat7 c6
     go_wp2_with (at_builtin;go_must (refine own_addE (E:=envE) elemEV _ rfl (.tmp 34) (.tmp 39) rfl p w.heap.size _ rfl HO7.out x [.slice xa x.length xc] (HRx.out _ _ HB7.out fun j hj=>(own_vlt HO7.out j hj).1) _ _ rfl rfl ((A k).length+1) HL7.out (by omega) hz7 ?_))
     intro g8 cap8 w8 ho8 hg8 hat8
     have HB8:Hid (Below w.heap.size w w8):=below_growF HB7.out hg8 fun j hj=>(own_vlt HO7.out j hj).1
     rw[← HA2.out] at ho8
     have HO9:=Lib.hid ho8
     clear ho8 hg8 hat8
     go_wp2_with fail
     go_roundw
     case rel=>exact⟨k+1,by go_num,by omega,by rw[HD2.out],HO9.out,HB8.out⟩
     case measure=>(simp[intOf];try omega)
  ·have hkl:¬ (k:Int) < l.length:=by omega
   obtain rfl:k=l.length:=by omega
   cases hDk:D l.length with
   | true =>
    have HP1:Hid (∀ a c W,envE.In (World.hide W p) (A l.length) a c→Below w.heap.size w W→Po (.returned (.slice a (A l.length).length c)) W):=by
     have h:=HPo.out
     rw[if_pos hDk] at h
     exact h
    rw[hDk] at hd
    subst hd
    obtain⟨ao,co,hov,hin⟩:=HO.out.sliceP (by omega) (fun j hj=>by
     cases hq:p j with
     | false=>rfl
     | true=>have:=Hp.out _ hq;omega)
    subst hov
    have HF:=Lib.hid (HP1.out _ _ _ hin HB.out)
    clear HPo hin
    go_wp2_with fail
    first | exact HF.out | (go_ret2;exact HF.out)
   | false =>
    have HP1:Hid (∀ a c W,envE.In (World.hide W p) (A l.length++[env]) a c→Below w.heap.size w W→Po (.returned (.slice a (A l.length++[env]).length c)) W):=by
     have h:=HPo.out
     rw[if_neg (by rw[hDk];simp)] at h
     exact h
    rw[hDk] at hd
    subst hd
    clear HPo
    go_wp2_with (at_builtin;go_must (refine own_addE (E:=envE) elemEV _ rfl (.tmp 43) (.tmp 45) rfl p w.heap.size _ rfl HO.out env [.slice ae env.length ce] (HRe.out _ _ HB.out fun j hj=>(own_vlt HO.out j hj).1) _ _ rfl rfl (A l.length).length rfl (by omega) hzr ?_))
    intro g7 cap7 w7 ho7 hg7 hat7
    have HB7:Hid (Below w.heap.size w w7):=below_growF HB.out hg7 fun j hj=>(own_vlt HO.out j hj).1
    have HL7:(A l.length++[env]:List (List Sg)).length=(A l.length).length+1:=by simp
    obtain⟨ao,co,hov,hin⟩:=ho7.sliceP (by rw[HL7];omega) (fun j hj=>by
     cases hq:p j with
     | false=>rfl
     | true=>have:=Hp.out _ hq;omega)
    have HF:=Lib.hid (HP1.out _ _ _ hin HB7.out)
    rw[← hov] at HF
    clear ho7 hg7 hat7 hin hov HL7
    go_wp2_with fail
    first | exact HF.out | (go_ret2;exact HF.out)
end Go.Proofs.YthojpomoflhbcaaGreatDoor
