/- The reference of search: known, right, common, all. -/
import Derived.Test.YtcplmcjbkpmhdaaGreatDoorKN
set_option linter.unusedSimpArgs false
set_option linter.unusedVariables false
set_option linter.unnecessarySimpa false
namespace Go.Proofs.YtcplmcjbkpmhdaaGreatDoor
open Go.RowKit
theorem exprOk_iff (l:List VarD) (e:Ex):ExprOk l e↔validS e=0∧(namesS [3,24] e).length=0∧∀ i (h:i < (namesS [2] e).length),0≤findV l ((namesS [2] e)[i]'h) 0:=by
 have h1:=arr_names e
 have h2:=for_names l e
 constructor
 ·intro h
  refine⟨h.valid,?_,fun i hi=>?_⟩
  ·rw[h.arr] at h1
   cases hn:namesS [3,24] e with
   | nil=>rfl
   | cons=>rw[hn] at h1;simp at h1
  ·rw[h.names,List.any_eq_false] at h2
   have:=h2 _ (List.getElem_mem hi)
   simpa using this
 ·rintro ⟨a,b,c⟩
  refine⟨a,?_,?_⟩
  ·rw[List.eq_nil_of_length_eq_zero b] at h1
   cases ha:e.nodes.any arrN
   ·rfl
   ·rw[ha] at h1;simp at h1
  ·rw[← h2,List.any_eq_false]
   intro s hs
   obtain⟨i,hi,rfl⟩:=List.getElem_of_mem hs
   simpa using c i hi
theorem frB {P:Program} {f:FuncId} {args:Array Value} {w:World} {Q:Ending→World→Prop} {B:Nat} {W0:World} (h:Calls P f args w fun e w'=>Q e w'∧Below w.heap.size w w') (hW:Below B W0 w) (hB:B≤W0.heap.size) :
  Calls P f args w fun e w'=>Q e w'∧(∀ b o,b < B→w'.cell? ⟨b,o,none⟩=W0.cell? ⟨b,o,none⟩)∧Below B W0 w' :=
 h.mono fun _ _ ⟨hq,hb⟩=>⟨hq,fun b o hlt=>((hW.trans (hb.mono (Nat.le_trans hB hW.size))).cell (p:=⟨b,o,none⟩) hlt),hW.trans (hb.mono (Nat.le_trans hB hW.size))⟩
theorem below_two {w W:World} {o o':Obj} (h:Below (w.heap.size+2) ((w.alloc o).alloc o') W):Below w.heap.size w W :=
 (((Below.refl _ _).alloc (Nat.le_refl _) _).alloc (by simp) _).trans (h.mono (by omega))
end Go.Proofs.YtcplmcjbkpmhdaaGreatDoor
namespace Go.Proofs.YtcplmcjbkpmhdaaGreatDoor
open Go.RowKit
structure ComOk (p:ProbD) (l:List Ex) (steps:Int):Prop where
 prob:ProbOk p
 lo:0≤steps
 hi:steps≤262144
 exprs:∀ i (h:i < l.length),ExprOk p.vars (l[i]'h)
noncomputable def allS (vs:List VarD) (l:List Ex) (A:List Int):Bool:=l.all fun e=>(evalS (envS vs A) e).1 != 0
end Go.Proofs.YtcplmcjbkpmhdaaGreatDoor
namespace Go.Proofs.YtcplmcjbkpmhdaaGreatDoor
open Go.RowKit
theorem scanN_over {H:Nat→Bool} {T s k:Nat} (h:T≤k):(scanN H T s k).1=none∧(scanN H T s k).2.1=k:=by
 cases s with
 | zero=>exact⟨rfl,rfl⟩
 | succ s=>unfold scanN;rw[if_pos h];exact⟨rfl,rfl⟩
theorem scanN_zero {H:Nat→Bool} {T k:Nat}:scanN H T 0 k=(none,k,0):=rfl
theorem scanN_hit {H:Nat→Bool} {T s k:Nat} (h:k < T) (hh:H k=true):scanN H T (s+1) k=(some k,k+1,s):=by
 show (if T≤k then _ else if H k=true then _ else _)=_
 rw[if_neg (by omega),if_pos hh]
theorem scanN_miss {H:Nat→Bool} {T s k:Nat} (h:k < T) (hh:H k=false):scanN H T (s+1) k=scanN H T s (k+1):=by
 show (if T≤k then _ else if H k=true then _ else _)=_
 rw[if_neg (by omega),if_neg (by rw[hh];simp)]
def ScanRet (vs:List VarD) (T:Nat) (r:Option Nat × Nat × Nat) (un:Int) (e:Ending) (w':World):Prop :=
 (∃ k a cap,r.1=some k∧e=.returned (.tuple #[.slice a vs.length cap,.int .i64 0])∧IntsIn w' (nthN vs k) a cap) ∨
 (r.1=none∧T≤r.2.1∧e=.returned (.tuple #[.slice none 0 0,.int .i64 un]))∨(r.1=none∧r.2.1 < T∧e=.returned (.tuple #[.slice none 0 0,.int .i64 18]))
noncomputable def hitN (vs:List VarD) (l:List Ex) (k:Nat):Bool:=allS vs l (nthN vs k)
end Go.Proofs.YtcplmcjbkpmhdaaGreatDoor
namespace Go.Proofs.YtcplmcjbkpmhdaaGreatDoor
open Go.RowKit
def FirstRet (p:ProbD) (l:List Ex) (steps:Int) (C:Prop) (first:Nat) (un:Int) (e:Ending) (w':World):Prop :=
 ((ComOk p l steps∧C)∧ScanRet p.vars (totN p.vars) (scanN (hitN p.vars l) (totN p.vars) steps.toNat first) un e w')∨(¬ (ComOk p l steps∧C)∧e=.returned (.tuple #[.slice none 0 0,.int .i64 1]))
end Go.Proofs.YtcplmcjbkpmhdaaGreatDoor
namespace Go.Proofs.YtcplmcjbkpmhdaaGreatDoor
open Go.RowKit
theorem scan_some {H:Nat→Bool} {T:Nat}:∀ (s k j:Nat),(scanN H T s k).1=some j→k≤j∧j < T∧H j=true∧∀ i,k≤i→i < j→H i=false:=by
 intro s
 induction s with
 | zero=>intro k j hj;rw[scanN_zero] at hj;simp at hj
 | succ s ih =>
  intro k j hj
  by_cases hT:T≤k
  ·rw[(scanN_over hT).1] at hj;simp at hj
  ·cases hh:H k
   ·rw[scanN_miss (by omega) hh] at hj
    obtain⟨h1,h2,h3,h4⟩:=ih (k+1) j hj
    refine⟨by omega,h2,h3,fun i h5 h6=>?_⟩
    by_cases e:i=k
    ·rw[e];exact hh
    ·exact h4 i (by omega) h6
   ·rw[scanN_hit (by omega) hh] at hj
    obtain rfl:=Option.some.inj hj
    exact⟨Nat.le_refl _,by omega,hh,fun i h5 h6=>by omega⟩
theorem scan_none {H:Nat→Bool} {T:Nat}:∀ (s k:Nat),(scanN H T s k).1=none→T≤(scanN H T s k).2.1→∀ i,k≤i→i < T→H i=false:=by
 intro s
 induction s with
 | zero=>intro k _ h i h1 h2;rw[scanN_zero] at h;simp only at h;omega
 | succ s ih =>
  intro k hn hT i h1 h2
  by_cases hk:T≤k
  ·omega
  ·cases hh:H k
   ·rw[scanN_miss (by omega) hh] at hn hT
    by_cases e:i=k
    ·rw[e];exact hh
    ·exact ih (k+1) hn hT i (by omega) h2
   ·rw[scanN_hit (by omega) hh] at hn;simp at hn
theorem scan_room {H:Nat→Bool} {T:Nat}:∀ (s k:Nat),T≤k+s→(scanN H T s k).1=none→T≤(scanN H T s k).2.1:=by
 intro s
 induction s with
 | zero=>intro k h _;rw[scanN_zero];simpa using h
 | succ s ih =>
  intro k h hn
  by_cases hk:T≤k
  ·rw[(scanN_over hk).2];exact hk
  ·cases hh:H k
   ·rw[scanN_miss (by omega) hh] at hn⊢
    exact ih (k+1) (by omega) hn
   ·rw[scanN_hit (by omega) hh] at hn;simp at hn
theorem eq_of_all {A B:List Int} (hl:A.length=B.length) (h:∀ j (hj:j < A.length),A[j]'hj=B[j]'(by omega)):A=B :=
 List.ext_getElem hl (fun j h1 _=>h j h1)
theorem getD_at {A:List Int} {k:Nat} (h:k < A.length):A.getD k 0=A[k]'h:=by rw[List.getD_eq_getElem?_getD,List.getElem?_eq_getElem h];rfl
end Go.Proofs.YtcplmcjbkpmhdaaGreatDoor
