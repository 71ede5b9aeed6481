/- Threads, plainly: their order, local variables, steps. -/
import Derived.Test.YthojpomoflhbcaaGreatDoorM06
import Derived.Lib.Bytealg
import Derived.Lib.Small
import Derived.Deep.Cut
import Derived.Lib.AppendZeros
set_option linter.unusedSimpArgs false
set_option linter.unusedVariables false
set_option linter.unnecessarySimpa false
namespace Go.Proofs.YthojpomoflhbcaaGreatDoor
open Go.RowKit
structure Cmp3 {α:Type} (c:α→α→Int):Prop where
 zero:∀ x y,c x y=0↔x=y
 anti:∀ x y,c x y < 0↔0 < c y x
 trans:∀ x y z,c x y < 0→c y z < 0→c x z < 0
theorem Cmp3.refl {α:Type} {c:α→α→Int} (h:Cmp3 c) (x:α):c x x=0:=(h.zero x x).2 rfl
theorem compareBytes_cases:∀ x y:List UInt8,(Lib.compareBytes x y=-1∧x < y)∨(Lib.compareBytes x y=0∧x=y)∨(Lib.compareBytes x y=1∧y < x)
 | [],[]=>by simp[Lib.compareBytes]
 | [],_::_=>by simp[Lib.compareBytes]
 | _::_,[]=>by simp[Lib.compareBytes]
 | a::x,b::y=>by
  rw[Lib.compareBytes]
  rcases compareBytes_cases x y with h | h | h<;>simp only[List.cons_lt_cons_iff]<;>by_cases h1:a < b
  all_goals first
   | (left;rw[if_pos h1];exact⟨rfl,Or.inl h1⟩)
   | skip
  all_goals by_cases h2:b < a
  all_goals first
   | (right;right;rw[if_neg h1,if_pos h2];exact⟨rfl,Or.inl h2⟩)
   | skip
  all_goals
   have e:a=b:=UInt8.le_antisymm (UInt8.not_lt.1 h2) (UInt8.not_lt.1 h1)
   subst e
   rw[if_neg h1,if_neg h2]
  ·exact Or.inl ⟨h.1,Or.inr ⟨rfl,h.2⟩⟩
  ·exact Or.inr (Or.inl ⟨h.1,by rw[h.2]⟩)
  ·exact Or.inr (Or.inr ⟨h.1,Or.inr ⟨rfl,h.2⟩⟩)
def cmpB (a b:ByteArray):Int:=Lib.compareBytes a.data.toList b.data.toList
theorem ba_ext {a b:ByteArray} (h:a.data.toList=b.data.toList):a=b:=ByteArray.ext (Array.toList_inj.1 h)
theorem cmpB_cases (a b:ByteArray):(cmpB a b=-1∧a.data.toList < b.data.toList)∨(cmpB a b=0∧a=b)∨(cmpB a b=1∧b.data.toList < a.data.toList):=by
 rcases compareBytes_cases a.data.toList b.data.toList with h | h | h
 ·exact Or.inl h
 ·exact Or.inr (Or.inl ⟨h.1,ba_ext h.2⟩)
 ·exact Or.inr (Or.inr h)
theorem cmpB_lt {a b:ByteArray}:cmpB a b < 0↔a.data.toList < b.data.toList:=by
 rcases cmpB_cases a b with ⟨h,h2⟩ | ⟨h,h2⟩ | ⟨h,h2⟩
 ·simp[h,h2]
 ·subst h2;simp[h,List.lt_irrefl]
 ·rw[h];simp only[Int.reduceLT,false_iff];exact fun h3=>List.lt_irrefl _ (List.lt_trans h2 h3)
theorem cmp3B:Cmp3 cmpB where
 zero a b:=by
  rcases cmpB_cases a b with ⟨h,h2⟩ | ⟨h,h2⟩ | ⟨h,h2⟩
  ·rw[h];simp;rintro rfl;exact List.lt_irrefl _ h2
  ·subst h2;simp[h]
  ·rw[h];simp;rintro rfl;exact List.lt_irrefl _ h2
 anti a b:=by
  rw[cmpB_lt]
  rcases cmpB_cases b a with ⟨h,h2⟩ | ⟨h,h2⟩ | ⟨h,h2⟩
  ·rw[h];simp;exact fun h3=>List.lt_irrefl _ (List.lt_trans h2 h3)
  ·subst h2;simp[h,List.lt_irrefl]
  ·simp[h,h2]
 trans a b c h h2:=cmpB_lt.2 (List.lt_trans (cmpB_lt.1 h) (cmpB_lt.1 h2))
theorem cmp3I:Cmp3 Lib.compareInt where
 zero a b:=by unfold Lib.compareInt;repeat' split<;>omega
 anti a b:=by unfold Lib.compareInt;repeat' split<;>omega
 trans a b c:=by unfold Lib.compareInt;repeat' split<;>omega
def orZ (a b:Int):Int:=if a=0 then b else a
theorem Cmp3.or {α β γ:Type} {c:α→α→Int} {d:β→β→Int} (hc:Cmp3 c) (hd:Cmp3 d) (f:γ→α) (g:γ→β) (hi:∀ x y,f x=f y→g x=g y→x=y):Cmp3 fun x y=>orZ (c (f x) (f y)) (d (g x) (g y)) where
 zero x y:=by
  unfold orZ
  split
  ·rename_i h
   rw[hd.zero]
   exact⟨fun h2=>hi _ _ ((hc.zero _ _).1 h) h2,fun h2=>by rw[h2]⟩
  ·rename_i h
   exact⟨fun h2=>absurd h2 h,fun h2=>absurd ((hc.zero _ _).2 (by rw[h2])) h⟩
 anti x y:=by
  unfold orZ
  by_cases h:c (f x) (f y)=0
  ·have:=(hc.zero _ _).1 h
   rw[if_pos h,if_pos ((hc.zero _ _).2 this.symm)]
   exact hd.anti _ _
  ·rw[if_neg h,if_neg (fun h2=>h ((hc.zero _ _).2 ((hc.zero _ _).1 h2).symm))]
   exact hc.anti _ _
 trans x y z:=by
  unfold orZ
  by_cases h:c (f x) (f y)=0
  ·have e:=(hc.zero _ _).1 h
   rw[if_pos h,e]
   by_cases h2:c (f y) (f z)=0
   ·simp only[if_pos h2];exact hd.trans _ _ _
   ·simp only[if_neg h2];exact fun _ h=>h
  ·rw[if_neg h]
   by_cases h2:c (f y) (f z)=0
   ·have e:=(hc.zero _ _).1 h2
    rw[if_pos h2,← e,if_neg h];exact fun h _=>h
   ·rw[if_neg h2]
    intro h3 h4
    have h5:=hc.trans _ _ _ h3 h4
    rw[if_neg (by omega)]
    exact h5
def cmpL {α:Type} (c:α→α→Int):List α→List α→Int
 | [],[]=>0
 | [],_::_=>-1
 | _::_,[]=>1
 | x::l,y::m=>if c x y=0 then cmpL c l m else c x y
theorem Cmp3.list {α:Type} {c:α→α→Int} (h:Cmp3 c):Cmp3 (cmpL c) where
 zero x:=by
  induction x with
  | nil=>intro y;cases y<;>simp[cmpL]
  | cons a x ih =>
   intro y
   cases y with
   | nil=>simp[cmpL]
   | cons b y =>
    rw[cmpL]
    split
    ·rename_i e;rw[ih y,(h.zero _ _).1 e];simp
    ·rename_i e;simp only[List.cons.injEq];exact⟨fun e2=>absurd e2 e,fun e2=>absurd ((h.zero _ _).2 e2.1) e⟩
 anti x:=by
  induction x with
  | nil=>intro y;cases y<;>simp[cmpL]
  | cons a x ih =>
   intro y
   cases y with
   | nil=>simp[cmpL]
   | cons b y =>
    rw[cmpL,cmpL]
    by_cases e:c a b=0
    ·rw[if_pos e,if_pos ((h.zero _ _).2 ((h.zero _ _).1 e).symm)];exact ih y
    ·rw[if_neg e,if_neg (fun e2=>e ((h.zero _ _).2 ((h.zero _ _).1 e2).symm))];exact h.anti _ _
 trans x:=by
  induction x with
  | nil=>intro y z;cases y<;>cases z<;>simp[cmpL]
  | cons a x ih =>
   intro y z
   cases y with
   | nil=>simp[cmpL]
   | cons b y =>
    cases z with
    | nil=>simp only[cmpL];intro _ h2;omega
    | cons d z =>
     rw[cmpL,cmpL,cmpL]
     by_cases e:c a b=0
     ·have e1:=(h.zero _ _).1 e
      rw[if_pos e,e1]
      by_cases e2:c b d=0
      ·simp only[if_pos e2];exact ih _ _
      ·simp only[if_neg e2];exact fun _ h=>h
     ·rw[if_neg e]
      by_cases e2:c b d=0
      ·have e3:=(h.zero _ _).1 e2
       rw[if_pos e2,← e3,if_neg e];exact fun h _=>h
      ·rw[if_neg e2]
       intro h3 h4
       have h5:=h.trans _ _ _ h3 h4
       rw[if_neg (by omega)]
       exact h5
abbrev Sg:=ByteArray × Int
def cmpSg (x y:Sg):Int:=orZ (cmpB x.1 y.1) (Lib.compareInt x.2 y.2)
theorem cmp3Sg:Cmp3 cmpSg:=Cmp3.or cmp3B cmp3I Prod.fst Prod.snd fun _ _ h1 h2=>Prod.ext h1 h2
def cmpEnv (x y:List Sg):Int:=cmpL cmpSg x y
theorem cmp3Env:Cmp3 cmpEnv:=cmp3Sg.list
def cmpThr (x y:ThrD):Int:=orZ (Lib.compareInt x.state y.state) (cmpEnv x.env y.env)
theorem cmp3Thr:Cmp3 cmpThr:=Cmp3.or cmp3I cmp3Env ThrD.state ThrD.env fun x y h1 h2=>by cases x;cases y;simp at h1 h2;rw[h1,h2]
section
variable {α : Type} (c : α → α → Int)
def Asc (l:List α):Prop:=l.Pairwise fun x y=>c x y < 0
def insL:List α→α→List α
 | [],t=>[t]
 | x::r,t=>if c x t < 0 then x::insL r t else if c x t=0 then t::r else t::x::r
def posL (l:List α) (t:α):Nat:=l.countP fun x=>decide (c x t < 0)
variable {c}
theorem posL_zero (h:Cmp3 c) {x:α} {r:List α} {t:α} (ha:Asc c (x::r)) (hx:¬ c x t < 0):posL c (x::r) t=0:=by
 unfold posL
 rw[List.countP_eq_zero]
 intro y hy
 simp only[decide_eq_true_eq]
 rcases List.mem_cons.1 hy with rfl | hy
 ·exact hx
 ·intro h2
  exact hx (h.trans _ _ _ ((List.pairwise_cons.1 ha).1 y hy) h2)
theorem posL_succ {x:α} {r:List α} {t:α} (hx:c x t < 0):posL c (x::r) t=posL c r t+1:=by
 unfold posL;rw[List.countP_cons_of_pos (by simpa using hx)]
theorem insL_at (h:Cmp3 c) {l:List α} {t:α} (ha:Asc c l):insL c l t=if (l[posL c l t]?).any (fun x=>decide (c x t=0))=true then l else l.take (posL c l t)++t::l.drop (posL c l t):=by
 induction l with
 | nil=>simp[insL,posL]
 | cons x r ih =>
  rw[insL]
  by_cases hx:c x t < 0
  ·rw[if_pos hx,posL_succ hx,ih (List.pairwise_cons.1 ha).2]
   simp only[List.getElem?_cons_succ,List.take_succ_cons,List.drop_succ_cons,List.cons_append]
   split<;>rfl
  ·rw[if_neg hx,posL_zero h ha hx]
   simp only[List.getElem?_cons_zero,Option.any_some,decide_eq_true_eq,List.take_zero,List.drop_zero,List.nil_append]
   by_cases h0:c x t=0
   ·have:=(h.zero _ _).1 h0
    subst this
    simp only[if_pos h0]
   ·simp only[if_neg h0]
theorem insL_mem {l:List α} {t y:α} (hy:y∈insL c l t):y=t∨y∈l:=by
 induction l with
 | nil=>simpa [insL] using hy
 | cons x r ih =>
  rw[insL] at hy
  split at hy
  ·rcases List.mem_cons.1 hy with rfl | hy
   ·exact Or.inr (List.mem_cons_self ..)
   ·exact(ih hy).imp id fun h=>List.mem_cons_of_mem _ h
  ·split at hy
   ·rcases List.mem_cons.1 hy with h | hy
    ·exact Or.inl h
    ·exact Or.inr (List.mem_cons_of_mem _ hy)
   ·rcases List.mem_cons.1 hy with h | hy
    ·exact Or.inl h
    ·exact Or.inr hy
theorem insL_asc (h:Cmp3 c) {l:List α} {t:α} (ha:Asc c l):Asc c (insL c l t):=by
 induction l with
 | nil=>simp[insL,Asc]
 | cons x r ih =>
  obtain⟨h1,h2⟩:=List.pairwise_cons.1 ha
  rw[insL]
  split
  ·rename_i hx
   refine List.pairwise_cons.2 ⟨fun y hy=>?_,ih h2⟩
   rcases insL_mem hy with rfl | hy
   ·exact hx
   ·exact h1 y hy
  ·split
   ·rename_i hx hx0
    obtain rfl:=(h.zero _ _).1 hx0
    exact ha
   ·rename_i hx hx0
    have hx2:c t x < 0:=(h.anti _ _).2 (by omega)
    refine List.pairwise_cons.2 ⟨fun y hy=>?_,ha⟩
    rcases List.mem_cons.1 hy with rfl | hy
    ·exact hx2
    ·exact h.trans _ _ _ hx2 (h1 y hy)
theorem insL_len (l:List α) (t:α):(insL c l t).length≤l.length+1:=by
 induction l with
 | nil=>simp[insL]
 | cons x r ih=>rw[insL];split<;>(try split)<;>simp<;>omega
end
def ascS (l:List Sg):Prop:=l.Pairwise fun x y=>cmpB x.1 y.1 < 0
def putS:List Sg→ByteArray→Int→List Sg
 | [],nm,v=>[(nm,v)]
 | x::r,nm,v=>if cmpB x.1 nm < 0 then x::putS r nm v else if cmpB x.1 nm=0 then (nm,v)::r else (nm,v)::x::r
def posS (l:List Sg) (nm:ByteArray):Nat:=l.countP fun x=>decide (cmpB x.1 nm < 0)
theorem posS_zero {x:Sg} {r:List Sg} {nm:ByteArray} (ha:ascS (x::r)) (hx:¬ cmpB x.1 nm < 0):posS (x::r) nm=0:=by
 unfold posS
 rw[List.countP_eq_zero]
 intro y hy
 simp only[decide_eq_true_eq]
 rcases List.mem_cons.1 hy with rfl | hy
 ·exact hx
 ·intro h2
  exact hx (cmp3B.trans _ _ _ ((List.pairwise_cons.1 ha).1 y hy) h2)
theorem posS_succ {x:Sg} {r:List Sg} {nm:ByteArray} (hx:cmpB x.1 nm < 0):posS (x::r) nm=posS r nm+1:=by
 unfold posS;rw[List.countP_cons_of_pos (by simpa using hx)]
theorem posS_le (l:List Sg) (nm:ByteArray):posS l nm≤l.length:=List.countP_le_length
theorem putS_at {l:List Sg} {nm:ByteArray} {v:Int} (ha:ascS l):putS l nm v=if (l[posS l nm]?).map Prod.fst=some nm then l.set (posS l nm) (nm,v) else l.take (posS l nm)++(nm,v)::l.drop (posS l nm):=by
 induction l with
 | nil=>simp[putS,posS]
 | cons x r ih =>
  rw[putS]
  by_cases hx:cmpB x.1 nm < 0
  ·rw[if_pos hx,posS_succ hx,ih (List.pairwise_cons.1 ha).2]
   simp only[List.getElem?_cons_succ,List.take_succ_cons,List.drop_succ_cons,List.cons_append,List.set_cons_succ]
   split<;>rfl
  ·rw[if_neg hx,posS_zero ha hx]
   simp only[List.getElem?_cons_zero,Option.map_some,Option.some.injEq,List.take_zero,List.drop_zero,List.nil_append,List.set_cons_zero]
   by_cases h0:cmpB x.1 nm=0
   ·rw[if_pos h0,if_pos ((cmp3B.zero _ _).1 h0)]
   ·rw[if_neg h0,if_neg (fun e=>h0 ((cmp3B.zero _ _).2 e))]
theorem putS_mem {l:List Sg} {nm:ByteArray} {v:Int} {y:Sg} (hy:y∈putS l nm v):y=(nm,v)∨y∈l:=by
 induction l with
 | nil=>simpa [putS] using hy
 | cons x r ih =>
  rw[putS] at hy
  split at hy
  ·rcases List.mem_cons.1 hy with rfl | hy
   ·exact Or.inr (List.mem_cons_self ..)
   ·exact(ih hy).imp id fun h=>List.mem_cons_of_mem _ h
  ·split at hy
   ·rcases List.mem_cons.1 hy with h | hy
    ·exact Or.inl h
    ·exact Or.inr (List.mem_cons_of_mem _ hy)
   ·rcases List.mem_cons.1 hy with h | hy
    ·exact Or.inl h
    ·exact Or.inr hy
theorem putS_asc {l:List Sg} {nm:ByteArray} {v:Int} (ha:ascS l):ascS (putS l nm v):=by
 induction l with
 | nil=>simp[putS,ascS]
 | cons x r ih =>
  obtain⟨h1,h2⟩:=List.pairwise_cons.1 ha
  rw[putS]
  split
  ·rename_i hx
   refine List.pairwise_cons.2 ⟨fun y hy=>?_,ih h2⟩
   rcases putS_mem hy with rfl | hy
   ·exact hx
   ·exact h1 y hy
  ·split
   ·rename_i hx hx0
    have e:=(cmp3B.zero _ _).1 hx0
    exact List.pairwise_cons.2 ⟨fun y hy=>by rw[← e];exact h1 y hy,h2⟩
   ·rename_i hx hx0
    have hx2:cmpB nm x.1 < 0:=(cmp3B.anti _ _).2 (by omega)
    refine List.pairwise_cons.2 ⟨fun y hy=>?_,ha⟩
    rcases List.mem_cons.1 hy with rfl | hy
    ·exact hx2
    ·exact cmp3B.trans _ _ _ hx2 (h1 y hy)
theorem putS_len (l:List Sg) (nm:ByteArray) (v:Int):(putS l nm v).length≤l.length+1:=by
 induction l with
 | nil=>simp[putS]
 | cons x r ih=>rw[putS];split<;>(try split)<;>simp<;>omega
def locB (l:List Sg) (k:Nat):Bool:=(List.range k).all fun i=>decide (0≤(l.getD i (.empty,0)).2∧(l.getD i (.empty,0)).2≤65535∧(0 < i→cmpB (l.getD (i - 1) (.empty,0)).1 (l.getD i (.empty,0)).1 < 0))
theorem locB_succ (l:List Sg) (k:Nat):locB l (k+1)=(locB l k && decide (0≤(l.getD k (.empty,0)).2∧(l.getD k (.empty,0)).2≤65535∧(0 < k→cmpB (l.getD (k - 1) (.empty,0)).1 (l.getD k (.empty,0)).1 < 0))):=by
 unfold locB;rw[List.range_succ,List.all_append];simp
def localsB (l:List Sg):Bool:=locB l l.length
def startL (env:List Sg):List Sg:=env.foldr (fun x l=>putS l x.1 (wrapW x.2)) []
noncomputable def extN (e:Ex):List Sg:=(namesS [2] e).map (fun s=>(s,0))++(namesS [3,24] e).map (fun s=>(s++⟨#[91,48,93]⟩,0))
noncomputable def valN (e:Ex) (loc env:List Sg):Int:=(evalS (loc++env++extN e) e).1
noncomputable def setsTo (l:List BindD) (env loc:List Sg) (k:Nat):List Sg:=(l.take k).foldl (fun l b=>putS l b.name (valN b.expr l env)) loc
noncomputable def takeS (e:EdgeD) (loc env:List Sg):Option (List Sg):=if e.guards.all (fun g=>valN g loc env != 0) then some (setsTo e.sets env loc e.sets.length) else none
noncomputable def stepE (env:List Sg) (t:ThrD) (out:List ThrD) (e:EdgeD):List ThrD:=if e.fr=t.state then (match takeS e t.env env with | some loc=>insL cmpThr out ⟨e.to,loc⟩ | none=>out) else out
noncomputable def stepT (n:NfaD) (env:List Sg) (out:List ThrD) (t:ThrD) (k:Nat):List ThrD:=(n.edges.take k).foldl (stepE env t) out
noncomputable def stepTo (n:NfaD) (env:List Sg) (l:List ThrD) (k:Nat):List ThrD:=(l.take k).foldl (fun out t=>stepT n env out t n.edges.length) []
def thrOk (n:NfaD) (t:ThrD):Bool:=decide (0≤t.state∧t.state < n.states) && localsB t.env
noncomputable def nstepS (n:NfaD) (l:List ThrD) (env:List Sg):List ThrD × Int :=
 if nfaOk n=false then ([],1) else if l.all (thrOk n)=false then ([],1) else if 256 < (stepTo n env l l.length).length then ([],2) else (stepTo n env l l.length,0)
def acceptS (n:NfaD) (l:List ThrD):List ThrD:=l.filter fun t=>n.accept.contains t.state
end Go.Proofs.YthojpomoflhbcaaGreatDoor
namespace Go.Proofs.YthojpomoflhbcaaGreatDoor
open Go.RowKit
def mvE (e:EdgeD) (f t:Int):EdgeD:={ e with fr:=f,to:=t }
def firstL (n:NfaD):List EdgeD:=n.edges.filter fun e=>e.fr == 0
def othersL (n:NfaD):List EdgeD:=n.edges.filter fun e=>!(e.fr == 0)
def fromL (n:NfaD) (s:Int):List EdgeD:=n.edges.filter fun e=>e.fr == s
noncomputable def substS (nm:ByteArray) (by_:Ex) (e:Ex):Ex:=e.para fun e l=>if e.op=2∧e.name=nm then by_ else .mk e.op e.n e.name l
theorem substS_eq (nm:ByteArray) (by_:Ex) (e:Ex):substS nm by_ e=if e.op=2∧e.name=nm then by_ else .mk e.op e.n e.name (e.args.map (substS nm by_)):=by
 unfold substS;rw[Ex.para_eq]
noncomputable def undoS (l:List BindD):Nat→Ex→Ex
 | 0,g=>g
 | k+1,g=>if g.nodes.length≤400 then undoS l k (match l[k]? with | some b=>substS b.name b.expr g | none=>g) else g
noncomputable def behindE (x y:EdgeD) (to:Int):EdgeD:=⟨x.fr,to,x.guards++y.guards.map (undoS x.sets x.sets.length),x.sets++y.sets⟩
def attachL (l:List Int) (n:NfaD) (base:Int):List EdgeD:=l.flatMap fun s=>(firstL n).map fun f=>mvE f s (base+f.to)
def restL (n:NfaD) (base:Int):List EdgeD:=(othersL n).map fun f=>mvE f (base+f.fr) (base+f.to)
def waitsI (hi:Int):Nat:=(hi - 1).toNat
def chainL (st:Int) (k:Nat):List EdgeD:=(List.range k).map fun (i:Nat)=>⟨st+i,st+i+1,[],[]⟩
noncomputable def fuseL (x y:NfaD) (base:Int):List EdgeD:=x.edges.flatMap fun e=>if x.accept.contains e.to then (firstL y).map fun f=>behindE e f (base+f.to) else []
def waitL (x y:NfaD) (lo hi base:Int) (k:Nat):List EdgeD:=(List.range k).flatMap fun (i:Nat)=>if lo≤i+2∧(i:Int)+2≤hi then attachL [x.states+i] y base else []
noncomputable def delayN (lo hi:Int) (x y:NfaD):NfaD :=
 let base:=x.states+waitsI hi - 1
 ⟨base+y.states,
  x.edges++(if 0 < waitsI hi then x.accept.map (fun a=>⟨a,x.states,[],[]⟩)++chainL x.states (waitsI hi - 1) else [])++(if lo=0 then fuseL x y base else []) ++
   (if lo≤1∧1≤hi then attachL x.accept y base else [])++waitL x y lo hi base (waitsI hi)++restL y base,
  y.accept.map (base+·)⟩
def repE (n:NfaD):Nat→List EdgeD
 | 0=>[]
 | 1=>n.edges
 | c+1=>repE n c++attachL (n.accept.map fun a=>((c:Int) - 1) * (n.states - 1)+a) n (c * (n.states - 1))++restL n (c * (n.states - 1))
def repA (n:NfaD) (lo:Int) (c:Nat):List Int:=(List.range c).flatMap fun (i:Nat)=>if lo≤i+1 then n.accept.map fun a=>(i:Int) * (n.states - 1)+a else []
def repN (lo hi:Int) (n:NfaD):NfaD:=⟨1+hi * (n.states - 1),repE n hi.toNat,repA n lo hi.toNat⟩
def placeI (base s:Int):Int:=if s=0 then 0 else base+s
def orOne (out n:NfaD):NfaD:=⟨out.states+(n.states - 1),out.edges++n.edges.map (fun e=>mvE e (placeI (out.states - 1) e.fr) (placeI (out.states - 1) e.to)),out.accept++n.accept.map (placeI (out.states - 1))⟩
def orN (parts:List NfaD):NfaD:=parts.foldl orOne ⟨1,[],[]⟩
def setN (nm:ByteArray) (x:Ex) (n:NfaD):NfaD :=
 ⟨n.states+n.accept.length,
  n.edges++n.edges.filterMap fun e=>if n.accept.contains e.to then some ⟨e.fr,n.states+(n.accept.idxOf e.to:Nat),e.guards,e.sets++[⟨nm,x⟩]⟩ else none,
  (List.range n.accept.length).map fun i=>n.states+(i:Nat)⟩
def holdN (x:Ex) (n:NfaD):NfaD:=⟨n.states,n.edges.map fun e=>{ e with guards:=e.guards++[x] },n.accept⟩
structure Joint where
 pairs:List (Int × Int)
 edges:List EdgeD
def toJ (i:Nat) (g:List Ex) (j:Joint) (p:Int × Int):Joint:=⟨if j.pairs.contains p then j.pairs else j.pairs++[p],j.edges++[⟨i,(j.pairs.idxOf p:Nat),g,[]⟩]⟩
def aimsJ (s t:Int) (l r:Bool):List (Int × Int):=(s,t)::((if l then [(-1,t)] else [])++(if r then [(s,-1)] else [])++(if l && r then [(-1,-1)] else []))
def togJ (i:Nat) (g:List Ex) (s t:Int) (l r:Bool) (j:Joint):Joint:=(aimsJ s t l r).foldl (toJ i g) j
def bothJ (x y:NfaD) (i:Nat) (p:Int × Int) (j:Joint):Joint :=
 (fromL x p.1).foldl (fun j e=>(fromL y p.2).foldl (fun j f=>togJ i (e.guards++f.guards) e.to f.to (x.accept.contains e.to) (y.accept.contains f.to) j) j) j
def leftJ (x:NfaD) (i:Nat) (s:Int) (j:Joint):Joint:=(fromL x s).foldl (fun j e=>togJ i e.guards e.to (-1) (x.accept.contains e.to) false j) j
def rightJ (y:NfaD) (i:Nat) (t:Int) (j:Joint):Joint:=(fromL y t).foldl (fun j f=>togJ i f.guards (-1) f.to false (y.accept.contains f.to) j) j
def procJ (x y:NfaD) (i:Nat) (j:Joint):Joint :=
 match j.pairs[i]? with
 | none=>j
 | some p=>if p.1=-1∧p.2=-1 then j else if p.1=-1 then rightJ y i p.2 j else if p.2=-1 then leftJ x i p.1 j else bothJ x y i p j
def andAt (x y:NfaD):Nat→Joint
 | 0=>⟨[(0,0)],[]⟩
 | i+1=>procJ x y i (andAt x y i)
theorem andAt_zero (x y:NfaD):andAt x y 0=⟨[(0,0)],[]⟩:=rfl
theorem andAt_succ (x y:NfaD) (i:Nat):andAt x y (i+1)=procJ x y i (andAt x y i):=rfl
attribute [irreducible] andAt
def jointN (j:Joint):NfaD:=⟨j.pairs.length,j.edges,if j.pairs.contains (-1,-1) then [(j.pairs.idxOf (-1,-1):Nat)] else []⟩
noncomputable def doneN (n:NfaD):Option NfaD:=if nfaOk n then some n else none
noncomputable def andN (x y:NfaD):Option NfaD:=if (andAt x y 256).pairs.length≤256 then doneN (jointN (andAt x y 256)) else none
noncomputable def allN:NfaD→List NfaD→Option NfaD
 | n,[]=>some n
 | n,m::r=>match andN n m with | some k=>allN k r | none=>none
noncomputable def nodeN (s:Tq) (ps:List NfaD):Option NfaD :=
 if s.op=1 then doneN ⟨2,[⟨0,1,[s.expr],[]⟩],[1]⟩
 else if s.op=2 then doneN (delayN s.lo s.hi (ps.getD 0 ⟨0,[],[]⟩) (ps.getD 1 ⟨0,[],[]⟩))
 else if s.op=3 then doneN (repN s.lo s.hi (ps.getD 0 ⟨0,[],[]⟩))
 else if s.op=4 then doneN (orN ps)
 else if s.op=5 then allN (ps.getD 0 ⟨0,[],[]⟩) ps.tail
 else if s.op=6 then doneN (setN s.name s.expr (ps.getD 0 ⟨0,[],[]⟩))
 else doneN (holdN s.expr (ps.getD 0 ⟨0,[],[]⟩))
noncomputable def partsN:List (Option NfaD)→Option (List NfaD)
 | []=>some []
 | none::_=>none
 | some n::r=>(partsN r).map (n::·)
noncomputable def compN (s:Tq):Option NfaD:=s.para fun s ps=>match partsN ps with | none=>none | some l=>nodeN s l
theorem compN_eq (s:Tq):compN s=match partsN (s.args.map compN) with | none=>none | some l=>nodeN s l:=by
 unfold compN;rw[Tq.para_eq]
end Go.Proofs.YthojpomoflhbcaaGreatDoor
namespace Go.Proofs.YthojpomoflhbcaaGreatDoor
open Go.RowKit
attribute [local go_sem ↓] Go.wp_at_zero Go.wp_at_succ
theorem elemEX:Elem Tryz.prog 22 24 4:=Elem.of Tryz.underlying22 (by kernel_rfl) (z:=.agg #[.int .i64 0,.int .i64 0,.string .empty,.slice none 0 0]) (bytes:=56) rfl (by decide) (by decide)
theorem hx_newT {X:World} {cs:Array Value} {t:TypeId} {b:Nat} (h:b=X.heap.size):(X.alloc (.cells cs t)).heap[b]? = some (.cells cs t (0,0)):=heap_alloc_at _ _ _ h
theorem hx_oldT {X:World} {o:Obj} {b:Nat} {z:Obj} (h:X.heap[b]? = some z):(X.alloc o).heap[b]? = some z:=(Below.heap_alloc X o b (lt_of_block h)).trans h
theorem belR {B:Nat} {a w:World} (h:Below B a w:=by repeat (first | with_reducible assumption | with_reducible exact Below.refl _ _ | with_reducible refine Below.drew ?_ | with_reducible refine below_drewN ?_ _ | ((with_reducible refine Below.alloc ?_ ?_ _);rotate_left;exact sz) | ((with_reducible refine Below.setCell ?_ ?_ _);rotate_left;exact sz))):Below B a w:=h
def CpyPost (w:World) (e:Ex) (r:Ending) (w':World):Prop:=(∃ a c,r=.returned (exVal e a c)∧ExIn (World.hide w' (old w.heap.size)) e a c)∧Below w.heap.size w w'
theorem results_cellC {fn:Func} {p:Tmp} {ty:TypeId} (h:fn.results=#[.cell p ty]) (tmps:Array Value) (P:Program) (w:World) :
  (results fn tmps).run P w=((asAddr (tmps.getD p undef)).run P w).andThen fun a w₁=>(loadVar ty a).run P w₁:=by
 simp only[results,h]
 simp[Sem.run_bind,Result.andThen]
theorem set4M {w:World} {b:Nat} {z0 z1 z2 z3 u0 u1 u2 u3:Value} {t:TypeId} (h:w.heap[b]? = some (.cells #[z0,z1,z2,z3] t (0,0))) :
  ((((w.setCell ⟨b,0,none⟩ u0).setCell ⟨b,1,none⟩ u1).setCell ⟨b,2,none⟩ u2).setCell ⟨b,3,none⟩ u3).heap[b]? = some (.cells #[u0,u1,u2,u3] t (0,0)):=by
 have h0:=heap_setCell_same _ b 0 _ t u0 h
 have h1:=heap_setCell_same _ b 1 _ t u1 h0
 have h2:=heap_setCell_same _ b 2 _ t u2 h1
 have h3:=heap_setCell_same _ b 3 _ t u3 h2
 rw[h3]
 rfl
theorem fre_res (W:World) (tm:Array Value) (b:Nat) (m0 m1 m2 m3:Value) (hW:W.heap[b]? = some (.cells #[m0,m1,m2,m3] 24 (0,0))) (h0:tm.getD 2 undef=.pointer (some ⟨b,0,none⟩)) :
  (results Tryz.f123 tm).run Tryz.prog W=.ok (.agg #[m0,m1,m2,m3]) W:=by
 have hr : Tryz.f123.results=#[.cell 2 24]:=rfl
 have c0:=cell_of_blkT hW 0
 have c1:=cell_of_blkT hW 1
 have c2:=cell_of_blkT hW 2
 have c3:=cell_of_blkT hW 3
 simp at c0 c1 c2 c3
 rw[results_cellC hr,h0]
 simp[asAddr]
 go_simp
set_option maxHeartbeats 4000000 in
set_option maxRecDepth 100000 in
theorem freshN_any (e:Ex):∀ (ea:Option Addr) (ec:Nat) (w:World),ExIn w e ea ec→Calls Tryz.prog 123 #[exVal e ea ec] w (CpyPost w e):=by
 induction e using Ex.ind with
 | h e ih =>
  intro ea ec w hX
  obtain⟨op,n,s,args⟩:=e
  have hsz:=hX.1
  have hE:=hX.2
  simp only[Ex.name_mk,Ex.args_mk] at hsz hE ih
  have HIH:Hid (∀ k (hk:k < args.length),∀ a c W,ExIn W (args[k]'hk) a c→Calls Tryz.prog 123 #[exVal (args[k]'hk) a c] W fun r w'=>(∃ a' c',r=.returned (exVal (args[k]'hk) a' c')∧ExIn (World.hide w' (old W.heap.size)) (args[k]'hk) a' c')∧Below W.heap.size W w'):=fun k hk a c W h=>ih _ (List.getElem_mem hk) a c W h
  have hlen:=hE.2.1
  have HEl:Hid (args.length=0∨∃ b off,ea=some ⟨b,off,none⟩):=hE.addr
  have HE:=Lib.hid hE
  have HP:Hid (∀ a c W,ExsIn (World.hide W (old w.heap.size)) args a c→Below w.heap.size w W→CpyPost w (.mk op n s args) (.returned (.agg #[.int .i64 op,.int .i64 n,.string s,.slice a args.length c])) W):=fun a c W h1 h2=>⟨⟨a,c,rfl,hsz,h1⟩,h2⟩
  clear hX hE ih hsz
  simp only[exVal,Ex.op_mk,Ex.n_mk,Ex.name_mk,Ex.args_mk] at HIH⊢
  generalize CpyPost w (.mk op n s args)=Po at HP⊢
  go_enter Tryz.func123, Tryz.ntmps123
  go_wp2_with fail
  generalize hW2:(w.alloc (.cells #[.int .i64 op,.int .i64 n,.string s,.slice ea args.length ec] 24)).alloc (.cells #[.int .i64 0,.int .i64 0,.string ⟨#[]⟩,.slice none 0 0] 24)=W2
  have hz2:w.heap.size+2≤W2.heap.size:=by rw[← hW2];simp
  have hz2b:W2.heap.size≤w.heap.size+2:=by rw[← hW2];simp
  have HB2:Hid (Below w.heap.size w W2):=by show Below _ _ _;rw[← hW2];exact belR
  have HX2:Hid (W2.heap[w.heap.size]? = some (.cells #[.int .i64 op,.int .i64 n,.string s,.slice ea args.length ec] 24 (0,0))):=by
   show _=_;rw[← hW2]
   exact hx_oldT (hx_newT rfl)
  have HR2:Hid (W2.heap[w.heap.size+1]? = some (.cells #[.int .i64 0,.int .i64 0,.string ⟨#[]⟩,.slice none 0 0] 24 (0,0))):=by
   show _=_;rw[← hW2]
   exact hx_newT (by simp)
  clear hW2
  have b3:=cell_of_blkT HX2.out 3
  simp at b3
  go_wp2_with fail
  clear b3
  go_loopw [9,3,5] (fun i v _ wr=>∃ (k:Nat),i=.int .i64 k∧k≤args.length∧Hid (exE.Own 24 (old W2.heap.size) wr W2.heap.size v (args.take k))∧Hid (Below W2.heap.size W2 wr)) (fun i _ _ _=>args.length - (intOf i).toNat)
  case atStart=>exact⟨0,rfl,Nat.zero_le _,Enc.Own.nil _ _ _ _ _,Below.refl _ _⟩
  case round =>
   obtain⟨k,rfl,hk,HO,HBr⟩:=hrel
   have HBw:=Lib.hid (HB2.out.trans (HBr.out.mono (by omega)))
   have hzr:=HBr.out.size
   have HLk:Hid ((args.take k).length=k):=List.length_take_of_le hk
   by_cases hlt:k < args.length
   ·obtain⟨bE,oE,hEa⟩:=HEl.out.resolve_left (by omega)
    have HE':Hid (ExsIn w args (some ⟨bE,oE,none⟩) ec):=by show ExsIn _ _ _ _;rw[← hEa];exact HE.out
    obtain⟨xa,xc,g0,g1,g2,g3,hX⟩:=(HE'.out.keep (keeps_of_below HBw.out)).get rfl hlt
    have HXe:=Lib.hid hX
    have HC:=Lib.hid (fun W (hW:Below wr.heap.size wr W)=>HIH.out k hlt xa xc W (hX.keep (keeps_of_below hW)))
    subst hEa
    have HLx:Hid (args.take k++[args[k]'hlt]=args.take (k+1)):=(List.take_succ_eq_append_getElem hlt).symm
    obtain⟨va,vc,hv,_⟩:=HO.out.slice (by rw[HLk.out];omega)
    rw[HLk.out] at hv
    subst hv
    have HVo:Hid (∀ q,(Value.slice va k vc).ownBlock=some q→W2.heap.size≤q∧q < wr.heap.size):=by
     obtain⟨xs,h1,_⟩:=HO.out
     exact h1.lt
    clear hX
    generalize (args[k]'hlt)=y at g0 g1 g2 g3 HXe HC HLx
    go_wp2_with fail
    refine(HC.out _ belR).mono ?_
    rintro r w5 ⟨⟨a',c',rfl,hx5⟩,hb5⟩
    have HX5:=Lib.hid hx5
    have hz5:=hb5.size
    simp only[World.size_alloc] at hz5
    have HW5:Hid (Below wr.heap.size wr w5):=((Below.refl wr.heap.size wr).alloc (Nat.le_refl _) _).trans (hb5.mono (by simp))
    have HO5:=Lib.hid (HO.out.below HW5.out)
    clear hx5 hb5 g0 g1 g2 g3
    go_wp2_with (at_builtin;go_must (refine own_addE (E:=exE) elemEX _ rfl (.tmp 13) (.tmp 16) rfl (old W2.heap.size) W2.heap.size _ rfl HO5.out y [.int .i64 y.op,.int .i64 y.n,.string y.name,.slice a' y.args.length c'] ⟨a',c',rfl,HX5.out.keep (hide_mono ?hm)⟩ _ _ rfl rfl k HLk.out (by omega) (by omega) ?_))
    case hm =>
     intro q hq
     rcases hid_true.1 hq with hq | hq
     ·have:=old_true.1 hq;exact old_true.2 (by simp;omega)
     ·have:=(HVo.out q hq).2;exact old_true.2 (by simp;omega)
    intro g cap w7 ho hg hat
    rw[HLx.out] at ho
    have HO7:=Lib.hid ho
    have HB7:Hid (Below W2.heap.size W2 w7):=Below.grown (HBr.out.trans (HW5.out.mono hzr)) hg (by omega) (fun q hq=>(HVo.out q hq).1)
    clear ho hg hat HLx
    go_wp2_with fail
    go_roundw
    case rel=>exact⟨k+1,by go_num,by omega,HO7.out,HB7.out⟩
    case measure=>(simp[intOf];try omega)
   ·obtain rfl:k=args.length:=by omega
    obtain⟨va,vc,hv,hes⟩:=HO.out.sliceP (by rw[HLk.out];omega) (fun k hk=>by
     cases h9:old W2.heap.size k with
     | false=>rfl
     | true=>have:=old_true.1 h9;omega)
    rw[List.take_length] at hv hes
    subst hv
    have HS:Hid (ExsIn (World.hide wr (old W2.heap.size)) args va vc):=exE_in.1 hes
    have hx:wr.heap[w.heap.size]? = some (.cells #[.int .i64 op,.int .i64 n,.string s,.slice ea args.length ec] 24 (0,0)):=(HBr.out.block _ (by omega)).trans HX2.out
    have hr:wr.heap[w.heap.size+1]? = some (.cells #[.int .i64 0,.int .i64 0,.string ⟨#[]⟩,.slice none 0 0] 24 (0,0)):=(HBr.out.block _ (by omega)).trans HR2.out
    have HR:=Lib.hid hr
    have HBe:=Lib.hid HBw.out
    have b0:=cell_of_blkT hx 0
    have b1:=cell_of_blkT hx 1
    have b2:=cell_of_blkT hx 2
    have b3:=cell_of_blkT hx 3
    have r0:=cell_of_blkT hr 0
    have r1:=cell_of_blkT hr 1
    have r2:=cell_of_blkT hr 2
    have r3:=cell_of_blkT hr 3
    simp at b0 b1 b2 b3 r0 r1 r2 r3
    have q3:wr.frozen? ⟨w.heap.size,3,none⟩=false:=by simp[World.frozen?,hx]
    have f0:wr.frozen? ⟨w.heap.size+1,0,none⟩=false:=by simp[World.frozen?,hr]
    have f1:wr.frozen? ⟨w.heap.size+1,1,none⟩=false:=by simp[World.frozen?,hr]
    have f2:wr.frozen? ⟨w.heap.size+1,2,none⟩=false:=by simp[World.frozen?,hr]
    have f3:wr.frozen? ⟨w.heap.size+1,3,none⟩=false:=by simp[World.frozen?,hr]
    clear hx hr hes
    have HRb:=Lib.hid HR.out
    go_wp2_with fail
    have hrb:(wr.setCell ⟨w.heap.size,3,none⟩ (.slice va args.length vc)).heap[w.heap.size+1]? = some (.cells #[.int .i64 0,.int .i64 0,.string ⟨#[]⟩,.slice none 0 0] 24 (0,0)):=by
     rw[Below.heap_setCell _ ⟨w.heap.size,3,none⟩ _ (w.heap.size+1) (by show w.heap.size+1≠w.heap.size;omega)]
     exact HRb.out
    have o0:old W2.heap.size w.heap.size=true:=old_true.2 (by omega)
    have o1:old W2.heap.size (w.heap.size+1)=true:=old_true.2 (by omega)
    refine bodyPost_ret (v:=.agg #[.int .i64 op,.int .i64 n,.string s,.slice va args.length vc]) (fre_res _ _ (w.heap.size+1) _ _ _ _ (set4M hrb) rfl) rfl ?_
    refine HP.out va vc _ ?_ ?_
    ·exact HS.out.keep (Kp.trans (hide_store o0) (Kp.trans (hide_store o1) (Kp.trans (hide_store o1) (Kp.trans (hide_store o1) (Kp.trans (hide_store o1) (hide_mono fun k hk=>old_true.2 (by have:=old_true.1 hk;omega)))))))
    ·exact((((HBe.out.setCell (Nat.le_refl _) _).setCell (by simp) _).setCell (by simp) _).setCell (by simp) _).setCell (by simp) _
end Go.Proofs.YthojpomoflhbcaaGreatDoor
namespace Go.Proofs.YthojpomoflhbcaaGreatDoor
open Go.RowKit
attribute [local go_sem ↓] Go.wp_at_zero Go.wp_at_succ
theorem elemED:Elem Tryz.prog 30 69 4:=Elem.of Tryz.underlying30 (by kernel_rfl) (z:=.agg #[.int .i64 0,.int .i64 0,.slice none 0 0,.slice none 0 0]) (bytes:=64) rfl (by decide) (by decide)
theorem elemBD:Elem Tryz.prog 67 85 5:=Elem.of Tryz.underlying67 (by kernel_rfl) (z:=.agg #[.string .empty,.int .i64 0,.int .i64 0,.string .empty,.slice none 0 0]) (bytes:=72) rfl (by decide) (by decide)
theorem elemSG:Elem Tryz.prog 39 78 2:=Elem.of Tryz.underlying39 (by kernel_rfl) (z:=.agg #[.string .empty,.int .i64 0]) (bytes:=24) rfl (by decide) (by decide)
def ClPost {τ:Type} (E:Enc τ) (t:TypeId) (p:Nat→Bool) (l:List τ) (w:World) (e:Ending) (w':World):Prop:=(∃ v,e=.returned v∧E.Own t p w' w.heap.size v l)∧Below w.heap.size w w'
set_option maxHeartbeats 2000000 in
set_option maxRecDepth 100000 in
theorem cloneED (p:Nat→Bool) (l:List _) (a:Option Addr) (c:Nat) (w:World) (h:edE.In (World.hide w p) l a c) :
  Calls Tryz.prog 205 #[.slice a l.length c] w (ClPost edE 69 p l w):=by
 have q1:∀ (w:World) (a:Option Addr) (n c n' c':Nat),(binOp .eql 30 (.slice a n c) (.slice none n' c')).run Tryz.prog w=.ok (.bool a.isNone) w:=fun w a n c n' c'=>Lib.run_eql_slice_nil w _ _ a n c n' c' Tryz.underlying30
 have HL:=Lib.hid h.len
 rcases a with _ | ad
 ·have h0:l.length=0:=by
   rcases h.addr with h | ⟨b,off,h⟩
   ·exact h
   ·simp at h
  obtain rfl:l=[]:=List.eq_nil_of_length_eq_zero h0
  clear h h0 HL
  go_enter Tryz.func205, Tryz.ntmps205
  go_wp2_with fail
  go_ret
  exact⟨⟨_,rfl,Enc.Own.nil _ _ _ _ _⟩,bel⟩
 ·have HP:Hid (∀ v w',edE.Own 69 p w' w.heap.size v l→Below w.heap.size w w'→ClPost edE 69 p l w (.returned v) w'):=fun v w' h1 h2=>⟨⟨v,rfl,h1⟩,h2⟩
  have HI:Hid (edE.In (World.hide (w.alloc (.cells #[] 69)) (hid p (.slice (some ⟨w.heap.size,0,none⟩) 0 0))) l (some ad) c):=h.keep (hide_below ((Below.refl _ w).alloc (Nat.le_refl _) _) fun k hk hq=>by
   rcases hid_true.1 hq with hq | hq
   ·exact hq
   ·have:=Option.some.inj hq;simp only at this;omega)
  have HO0:Hid (edE.Own 69 p (w.alloc (.cells #[] 69)) w.heap.size (.slice (some ⟨w.heap.size,0,none⟩) 0 0) []):=⟨[],World.ownsRow_made w #[] 0 (Nat.le_refl _) (Nat.zero_le _) rfl,Enc.Vals.nil _⟩
  clear h
  generalize ClPost edE 69 p l w=Po at HP⊢
  generalize hn:l.length=n
  have HN:=Lib.hid hn
  go_enter Tryz.func205, Tryz.ntmps205
  clear hn
  go_wp2_with (at_builtin;go_must (refine own_rowE (E:=edE) elemED _ rfl _ _ rfl p w.heap.size _ rfl HO0.out (some ad) c HI.out (by rw[HN.out];rfl) ?ql (by simp) ?_))
  case ql=>have:=HL.out;simp;omega
  intro v' w1 hown hgrow hat
  have HO:Hid (edE.Own 69 p w1 w.heap.size v' l):=Lib.hid (by simpa using hown)
  have HB:Hid (Below w.heap.size w w1):=((Below.refl _ w).alloc (Nat.le_refl _) _).grown hgrow (by simp) (by intro k hk;simp[Value.ownBlock] at hk;omega)
  clear hown hgrow hat
  obtain⟨a',c',hv,_⟩:=HO.out.slice HL.out
  subst hv
  go_wp2_with fail
  first | exact HP.out _ _ HO.out HB.out | (go_ret;exact HP.out _ _ HO.out HB.out)
set_option maxHeartbeats 2000000 in
set_option maxRecDepth 100000 in
theorem cloneEX (p:Nat→Bool) (l:List _) (a:Option Addr) (c:Nat) (w:World) (h:exE.In (World.hide w p) l a c) :
  Calls Tryz.prog 146 #[.slice a l.length c] w (ClPost exE 24 p l w):=by
 have q1:∀ (w:World) (a:Option Addr) (n c n' c':Nat),(binOp .eql 22 (.slice a n c) (.slice none n' c')).run Tryz.prog w=.ok (.bool a.isNone) w:=fun w a n c n' c'=>Lib.run_eql_slice_nil w _ _ a n c n' c' Tryz.underlying22
 have HL:=Lib.hid h.len
 rcases a with _ | ad
 ·have h0:l.length=0:=by
   rcases h.addr with h | ⟨b,off,h⟩
   ·exact h
   ·simp at h
  obtain rfl:l=[]:=List.eq_nil_of_length_eq_zero h0
  clear h h0 HL
  go_enter Tryz.func146, Tryz.ntmps146
  go_wp2_with fail
  go_ret
  exact⟨⟨_,rfl,Enc.Own.nil _ _ _ _ _⟩,bel⟩
 ·have HP:Hid (∀ v w',exE.Own 24 p w' w.heap.size v l→Below w.heap.size w w'→ClPost exE 24 p l w (.returned v) w'):=fun v w' h1 h2=>⟨⟨v,rfl,h1⟩,h2⟩
  have HI:Hid (exE.In (World.hide (w.alloc (.cells #[] 24)) (hid p (.slice (some ⟨w.heap.size,0,none⟩) 0 0))) l (some ad) c):=h.keep (hide_below ((Below.refl _ w).alloc (Nat.le_refl _) _) fun k hk hq=>by
   rcases hid_true.1 hq with hq | hq
   ·exact hq
   ·have:=Option.some.inj hq;simp only at this;omega)
  have HO0:Hid (exE.Own 24 p (w.alloc (.cells #[] 24)) w.heap.size (.slice (some ⟨w.heap.size,0,none⟩) 0 0) []):=⟨[],World.ownsRow_made w #[] 0 (Nat.le_refl _) (Nat.zero_le _) rfl,Enc.Vals.nil _⟩
  clear h
  generalize ClPost exE 24 p l w=Po at HP⊢
  generalize hn:l.length=n
  have HN:=Lib.hid hn
  go_enter Tryz.func146, Tryz.ntmps146
  clear hn
  go_wp2_with (at_builtin;go_must (refine own_rowE (E:=exE) elemEX _ rfl _ _ rfl p w.heap.size _ rfl HO0.out (some ad) c HI.out (by rw[HN.out];rfl) ?ql (by simp) ?_))
  case ql=>have:=HL.out;simp;omega
  intro v' w1 hown hgrow hat
  have HO:Hid (exE.Own 24 p w1 w.heap.size v' l):=Lib.hid (by simpa using hown)
  have HB:Hid (Below w.heap.size w w1):=((Below.refl _ w).alloc (Nat.le_refl _) _).grown hgrow (by simp) (by intro k hk;simp[Value.ownBlock] at hk;omega)
  clear hown hgrow hat
  obtain⟨a',c',hv,_⟩:=HO.out.slice HL.out
  subst hv
  go_wp2_with fail
  first | exact HP.out _ _ HO.out HB.out | (go_ret;exact HP.out _ _ HO.out HB.out)
set_option maxHeartbeats 2000000 in
set_option maxRecDepth 100000 in
theorem cloneSG (p:Nat→Bool) (l:List _) (a:Option Addr) (c:Nat) (w:World) (h:sgE.In (World.hide w p) l a c) :
  Calls Tryz.prog 61 #[.slice a l.length c] w (ClPost sgE 78 p l w):=by
 have q1:∀ (w:World) (a:Option Addr) (n c n' c':Nat),(binOp .eql 39 (.slice a n c) (.slice none n' c')).run Tryz.prog w=.ok (.bool a.isNone) w:=fun w a n c n' c'=>Lib.run_eql_slice_nil w _ _ a n c n' c' Tryz.underlying39
 have HL:=Lib.hid h.len
 rcases a with _ | ad
 ·have h0:l.length=0:=by
   rcases h.addr with h | ⟨b,off,h⟩
   ·exact h
   ·simp at h
  obtain rfl:l=[]:=List.eq_nil_of_length_eq_zero h0
  clear h h0 HL
  go_enter Tryz.func61, Tryz.ntmps61
  go_wp2_with fail
  go_ret
  exact⟨⟨_,rfl,Enc.Own.nil _ _ _ _ _⟩,bel⟩
 ·have HP:Hid (∀ v w',sgE.Own 78 p w' w.heap.size v l→Below w.heap.size w w'→ClPost sgE 78 p l w (.returned v) w'):=fun v w' h1 h2=>⟨⟨v,rfl,h1⟩,h2⟩
  have HI:Hid (sgE.In (World.hide (w.alloc (.cells #[] 78)) (hid p (.slice (some ⟨w.heap.size,0,none⟩) 0 0))) l (some ad) c):=h.keep (hide_below ((Below.refl _ w).alloc (Nat.le_refl _) _) fun k hk hq=>by
   rcases hid_true.1 hq with hq | hq
   ·exact hq
   ·have:=Option.some.inj hq;simp only at this;omega)
  have HO0:Hid (sgE.Own 78 p (w.alloc (.cells #[] 78)) w.heap.size (.slice (some ⟨w.heap.size,0,none⟩) 0 0) []):=⟨[],World.ownsRow_made w #[] 0 (Nat.le_refl _) (Nat.zero_le _) rfl,Enc.Vals.nil _⟩
  clear h
  generalize ClPost sgE 78 p l w=Po at HP⊢
  generalize hn:l.length=n
  have HN:=Lib.hid hn
  go_enter Tryz.func61, Tryz.ntmps61
  clear hn
  go_wp2_with (at_builtin;go_must (refine own_rowE (E:=sgE) elemSG _ rfl _ _ rfl p w.heap.size _ rfl HO0.out (some ad) c HI.out (by rw[HN.out];rfl) ?ql (by simp) ?_))
  case ql=>have:=HL.out;simp;omega
  intro v' w1 hown hgrow hat
  have HO:Hid (sgE.Own 78 p w1 w.heap.size v' l):=Lib.hid (by simpa using hown)
  have HB:Hid (Below w.heap.size w w1):=((Below.refl _ w).alloc (Nat.le_refl _) _).grown hgrow (by simp) (by intro k hk;simp[Value.ownBlock] at hk;omega)
  clear hown hgrow hat
  obtain⟨a',c',hv,_⟩:=HO.out.slice HL.out
  subst hv
  go_wp2_with fail
  first | exact HP.out _ _ HO.out HB.out | (go_ret;exact HP.out _ _ HO.out HB.out)
end Go.Proofs.YthojpomoflhbcaaGreatDoor
namespace Go.Proofs.YthojpomoflhbcaaGreatDoor
open Go.RowKit
attribute [local go_sem ↓] Go.wp_at_zero Go.wp_at_succ
def GrPost (t:TypeId) (size:Nat) (w:World) (e:Ending) (w':World):Prop:=∃ v,e=.returned v∧w'.ownsRow w.heap.size t size v 0 []∧Below w.heap.size w w'
def CoRel {τ:Type} (E:Enc τ) (t:TypeId) (p:Nat→Bool) (w:World) (l:List τ) (v:Value) (wr:World):Prop:=E.Own t p wr w.heap.size v l∧Below w.heap.size w wr
theorem own_vlt {τ:Type} {E:Enc τ} {t:TypeId} {p:Nat→Bool} {w:World} {B:Nat} {v:Value} {l:List τ} (h:E.Own t p w B v l):∀ j,v.ownBlock=some j→B≤j∧j < w.heap.size:=by
 obtain⟨xs,h1,_⟩:=h
 exact h1.lt
theorem beside_row {p:Nat→Bool} {w wr:World} {v:Value} (hb:Below w.heap.size w wr) (hv:∀ j,v.ownBlock=some j→w.heap.size≤j):Kp (World.hide w p) (World.hide wr (hid p v)) :=
 hide_below hb fun k hk hq=>(hid_true.1 hq).elim id fun e=>by have:=hv k e;omega
set_option maxHeartbeats 2000000 in
theorem growBD (n:Nat) (hn:n≤4294967296) (w:World):Calls Tryz.prog 248 #[.slice none 0 0,.int .i64 n] w (GrPost 85 5 w):=by
 by_cases h0:n=0
 ·subst h0
  show Calls _ _ _ _ fun e w'=>GrPost 85 5 w e w'
  go_enter Tryz.func248, Tryz.ntmps248
  go_wp2_with fail
  go_ret
  exact⟨_,rfl,World.ownsRow_nil _ _ _ _,Below.refl _ _⟩
 ·obtain⟨i,h1,h2,h3,h4⟩:=info_parts (show (Tryz.prog.info? 85).map (fun i=>(i.zero,i.size,i.bytes))=some (some (.agg #[.string .empty,.int .i64 0,.int .i64 0,.string .empty,.slice none 0 0]),5,72) from by kernel_rfl)
  have hpos:1≤n:=by omega
  have hge:=grownCap_ge w n 0 85
  have hle:=grownCap_le_maxLen w n 0 85 (by unfold maxLen;omega)
  have hrun:∀ ty,(Builtin.append_ #[67, 3] ty #[.slice none 0 0,.int .i64 n]).run Tryz.prog w=_:=fun ty=>Lib.run_append_nil_zeros (P:=Tryz.prog) w 67 3 ty 85 i _ .i64 .i64 Tryz.underlying67 Tryz.underlying3 h1 h2 n (by omega) (by omega) (by omega) (by rw[h4];omega)
  have HOwn:Hid ((w.drew.alloc (.cells (Builtin.zeroCells (Value.cells (.agg #[.string .empty,.int .i64 0,.int .i64 0,.string .empty,.slice none 0 0])) n++Builtin.zeroCells (Value.cells (.agg #[.string .empty,.int .i64 0,.int .i64 0,.string .empty,.slice none 0 0])) (grownCap w n 0 85 - n)) 85)).ownsRow w.heap.size 85 5 (.slice (some ⟨w.heap.size,0,none⟩) 0 (grownCap w n 0 85)) 0 []):=by
   refine World.ownsRow_made w.drew _ _ (Nat.le_refl _) hle ?_
   rw[Array.size_append,size_zeroCells,size_zeroCells]
   show n * 5+(grownCap w n 0 85 - n) * 5=_
   omega
  unfold maxLen at hle
  generalize grownCap w n 0 85=gc at hge hle hrun HOwn
  have Hrun:=Lib.hid hrun
  clear hrun h0 h1 h2 h3 h4
  show Calls _ _ _ _ fun e w'=>GrPost 85 5 w e w'
  go_enter Tryz.func248, Tryz.ntmps248
  go_wp2_with (at_builtin;refine Lib.wpList_append_run _ rfl _ _ _ _ rfl _ _ rfl rfl _ _ (Hrun.out _) ?_)
  go_ret
  exact⟨_,rfl,HOwn.out,bel⟩
set_option maxRecDepth 100000 in
set_option maxHeartbeats 2000000 in
theorem concatBD (p:Nat→Bool) (h s:List _) (ah ao:Option Addr) (ch co bo:Nat) (w:World) (c0:w.cell? ⟨bo,0,none⟩=some (.slice ah h.length ch)) (c1:w.cell? ⟨bo,1,none⟩=some (.slice ao s.length co)) (hH:bdE.In (World.hide w p) h ah ch) (hS:bdE.In (World.hide w p) s ao co) (hln:(h++s).length≤1073741824) :
  Calls Tryz.prog 207 #[.slice (some ⟨bo,0,none⟩) 2 2] w (ClPost bdE 85 p (h++s) w):=by
 have hlh:=hH.len
 have hls:=hS.len
 have hlhs:h.length+s.length≤1073741824:=by rwa [List.length_append] at hln
 have C0:=Lib.hid c0
 have C1:=Lib.hid c1
 have HH:=Lib.hid hH
 have HS:=Lib.hid hS
 have HLn:=Lib.hid hln
 clear hH hS hln
 show Calls _ _ _ _ fun e w'=>ClPost bdE 85 p (h++s) w e w'
 go_enter Tryz.func207, Tryz.ntmps207
 go_wp2_with fail
 go_loop [11,3,5] (fun i n _=>(i=.int .i64 0∧n=.int .i64 0)∨(i=.int .i64 1∧n=.int .i64 h.length)∨(i=.int .i64 2∧n=.int .i64 ((h.length+s.length:Nat):Int))) (fun i _ _=>2 - (intOf i).toNat)
 case atStart=>exact Or.inl ⟨rfl,rfl⟩
 case round =>
  rcases hrel with ⟨rfl,rfl⟩ | ⟨rfl,rfl⟩ | ⟨rfl,rfl⟩
  ·go_wp2_with fail
   go_round
   case rel=>exact Or.inr (Or.inl ⟨by go_num,by go_num⟩)
   case measure=>simp[intOf]
  ·go_wp2_with fail
   go_round
   case rel=>exact Or.inr (Or.inr ⟨by go_num,by go_num⟩)
   case measure=>simp[intOf]
  ·have HGr:=Lib.hid (growBD (h.length+s.length) (by omega) w)
   clear c0 c1
   go_wp2_with fail
   refine HGr.out.mono ?_
   rintro e w1 ⟨v,rfl,hown,hb⟩
   have HR:Hid (CoRel bdE 85 p w [] v w1):=⟨⟨[],hown,Enc.Vals.nil _⟩,hb⟩
   clear hown hb
   go_wp2_with fail
   go_loopw [27,6,8] (fun i v _ wr=>(i=.int .i64 0∧CoRel bdE 85 p w [] v wr)∨(i=.int .i64 1∧CoRel bdE 85 p w h v wr)∨(i=.int .i64 2∧CoRel bdE 85 p w (h++s) v wr)) (fun i _ _ _=>2 - (intOf i).toNat)
   case atStart=>exact Or.inl ⟨rfl,HR.out⟩
   case round =>
    rcases hrel with ⟨rfl,hR⟩ | ⟨rfl,hR⟩ | ⟨rfl,hR⟩
    ·obtain⟨hown,hb⟩:=hR
     have c0:=(keeps_of_below hb) _ _ C0.out
     have hzs:=hb.size
     have HX:=Lib.hid hb
     have HO:=Lib.hid hown
     have HK:=Lib.hid (HH.out.keep (beside_row hb fun j hj=>(own_vlt hown j hj).1))
     clear hb
     obtain⟨av,cv,hv,_⟩:=hown.slice (by simp)
     subst hv
     clear hown
     go_wp2_with (at_builtin;go_must (refine own_rowE (E:=bdE) elemBD _ rfl (.tmp 31) (.tmp 32) rfl p w.heap.size _ rfl HO.out ah ch HK.out rfl (by first | (simp;omega) | simp) hzs ?_))
     intro v' w' hown' hgr hat
     have hS':Hid (CoRel bdE 85 p w h v' w'):=⟨by simpa using hown',HX.out.grown hgr hzs fun j hj=>(own_vlt HO.out j hj).1⟩
     clear hown' hgr hat
     go_wp2_with fail
     go_roundw
     case rel=>exact Or.inr (Or.inl ⟨by go_num,hS'.out⟩)
     case measure=>simp[intOf]
    ·obtain⟨hown,hb⟩:=hR
     have c0:=(keeps_of_below hb) _ _ C1.out
     have hzs:=hb.size
     have HX:=Lib.hid hb
     have HO:=Lib.hid hown
     have HK:=Lib.hid (HS.out.keep (beside_row hb fun j hj=>(own_vlt hown j hj).1))
     clear hb
     obtain⟨av,cv,hv,_⟩:=hown.slice (by omega)
     subst hv
     clear hown
     go_wp2_with (at_builtin;go_must (refine own_rowE (E:=bdE) elemBD _ rfl (.tmp 31) (.tmp 32) rfl p w.heap.size _ rfl HO.out ao co HK.out rfl hlhs hzs ?_))
     intro v' w' hown' hgr hat
     have hS':Hid (CoRel bdE 85 p w (h++s) v' w'):=⟨hown',HX.out.grown hgr hzs fun j hj=>(own_vlt HO.out j hj).1⟩
     clear hown' hgr hat
     go_wp2_with fail
     go_roundw
     case rel=>exact Or.inr (Or.inr ⟨by go_num,hS'.out⟩)
     case measure=>simp[intOf]
    ·obtain⟨hown,hb⟩:=hR
     have HE:=Lib.hid (⟨hown,hb⟩:_∧_)
     clear hb
     obtain⟨av,cv,hv,_⟩:=hown.slice HLn.out
     subst hv
     clear hown
     go_wp2_with fail
     go_ret
     exact⟨⟨_,rfl,HE.out.1⟩,HE.out.2⟩
set_option maxHeartbeats 2000000 in
theorem growSG (n:Nat) (hn:n≤4294967296) (w:World):Calls Tryz.prog 218 #[.slice none 0 0,.int .i64 n] w (GrPost 78 2 w):=by
 by_cases h0:n=0
 ·subst h0
  show Calls _ _ _ _ fun e w'=>GrPost 78 2 w e w'
  go_enter Tryz.func218, Tryz.ntmps218
  go_wp2_with fail
  go_ret
  exact⟨_,rfl,World.ownsRow_nil _ _ _ _,Below.refl _ _⟩
 ·obtain⟨i,h1,h2,h3,h4⟩:=info_parts (show (Tryz.prog.info? 78).map (fun i=>(i.zero,i.size,i.bytes))=some (some (.agg #[.string .empty,.int .i64 0]),2,24) from by kernel_rfl)
  have hpos:1≤n:=by omega
  have hge:=grownCap_ge w n 0 78
  have hle:=grownCap_le_maxLen w n 0 78 (by unfold maxLen;omega)
  have hrun:∀ ty,(Builtin.append_ #[39, 3] ty #[.slice none 0 0,.int .i64 n]).run Tryz.prog w=_:=fun ty=>Lib.run_append_nil_zeros (P:=Tryz.prog) w 39 3 ty 78 i _ .i64 .i64 Tryz.underlying39 Tryz.underlying3 h1 h2 n (by omega) (by omega) (by omega) (by rw[h4];omega)
  have HOwn:Hid ((w.drew.alloc (.cells (Builtin.zeroCells (Value.cells (.agg #[.string .empty,.int .i64 0])) n++Builtin.zeroCells (Value.cells (.agg #[.string .empty,.int .i64 0])) (grownCap w n 0 78 - n)) 78)).ownsRow w.heap.size 78 2 (.slice (some ⟨w.heap.size,0,none⟩) 0 (grownCap w n 0 78)) 0 []):=by
   refine World.ownsRow_made w.drew _ _ (Nat.le_refl _) hle ?_
   rw[Array.size_append,size_zeroCells,size_zeroCells]
   show n * 2+(grownCap w n 0 78 - n) * 2=_
   omega
  unfold maxLen at hle
  generalize grownCap w n 0 78=gc at hge hle hrun HOwn
  have Hrun:=Lib.hid hrun
  clear hrun h0 h1 h2 h3 h4
  show Calls _ _ _ _ fun e w'=>GrPost 78 2 w e w'
  go_enter Tryz.func218, Tryz.ntmps218
  go_wp2_with (at_builtin;refine Lib.wpList_append_run _ rfl _ _ _ _ rfl _ _ rfl rfl _ _ (Hrun.out _) ?_)
  go_ret
  exact⟨_,rfl,HOwn.out,bel⟩
set_option maxRecDepth 100000 in
set_option maxHeartbeats 2000000 in
theorem concatSG (p:Nat→Bool) (h s:List _) (ah ao:Option Addr) (ch co bo:Nat) (w:World) (c0:w.cell? ⟨bo,0,none⟩=some (.slice ah h.length ch)) (c1:w.cell? ⟨bo,1,none⟩=some (.slice ao s.length co)) (hH:sgE.In (World.hide w p) h ah ch) (hS:sgE.In (World.hide w p) s ao co) (hln:(h++s).length≤1073741824) :
  Calls Tryz.prog 159 #[.slice (some ⟨bo,0,none⟩) 2 2] w (ClPost sgE 78 p (h++s) w):=by
 have hlh:=hH.len
 have hls:=hS.len
 have hlhs:h.length+s.length≤1073741824:=by rwa [List.length_append] at hln
 have C0:=Lib.hid c0
 have C1:=Lib.hid c1
 have HH:=Lib.hid hH
 have HS:=Lib.hid hS
 have HLn:=Lib.hid hln
 clear hH hS hln
 show Calls _ _ _ _ fun e w'=>ClPost sgE 78 p (h++s) w e w'
 go_enter Tryz.func159, Tryz.ntmps159
 go_wp2_with fail
 go_loop [11,3,5] (fun i n _=>(i=.int .i64 0∧n=.int .i64 0)∨(i=.int .i64 1∧n=.int .i64 h.length)∨(i=.int .i64 2∧n=.int .i64 ((h.length+s.length:Nat):Int))) (fun i _ _=>2 - (intOf i).toNat)
 case atStart=>exact Or.inl ⟨rfl,rfl⟩
 case round =>
  rcases hrel with ⟨rfl,rfl⟩ | ⟨rfl,rfl⟩ | ⟨rfl,rfl⟩
  ·go_wp2_with fail
   go_round
   case rel=>exact Or.inr (Or.inl ⟨by go_num,by go_num⟩)
   case measure=>simp[intOf]
  ·go_wp2_with fail
   go_round
   case rel=>exact Or.inr (Or.inr ⟨by go_num,by go_num⟩)
   case measure=>simp[intOf]
  ·have HGr:=Lib.hid (growSG (h.length+s.length) (by omega) w)
   clear c0 c1
   go_wp2_with fail
   refine HGr.out.mono ?_
   rintro e w1 ⟨v,rfl,hown,hb⟩
   have HR:Hid (CoRel sgE 78 p w [] v w1):=⟨⟨[],hown,Enc.Vals.nil _⟩,hb⟩
   clear hown hb
   go_wp2_with fail
   go_loopw [27,6,8] (fun i v _ wr=>(i=.int .i64 0∧CoRel sgE 78 p w [] v wr)∨(i=.int .i64 1∧CoRel sgE 78 p w h v wr)∨(i=.int .i64 2∧CoRel sgE 78 p w (h++s) v wr)) (fun i _ _ _=>2 - (intOf i).toNat)
   case atStart=>exact Or.inl ⟨rfl,HR.out⟩
   case round =>
    rcases hrel with ⟨rfl,hR⟩ | ⟨rfl,hR⟩ | ⟨rfl,hR⟩
    ·obtain⟨hown,hb⟩:=hR
     have c0:=(keeps_of_below hb) _ _ C0.out
     have hzs:=hb.size
     have HX:=Lib.hid hb
     have HO:=Lib.hid hown
     have HK:=Lib.hid (HH.out.keep (beside_row hb fun j hj=>(own_vlt hown j hj).1))
     clear hb
     obtain⟨av,cv,hv,_⟩:=hown.slice (by simp)
     subst hv
     clear hown
     go_wp2_with (at_builtin;go_must (refine own_rowE (E:=sgE) elemSG _ rfl (.tmp 31) (.tmp 32) rfl p w.heap.size _ rfl HO.out ah ch HK.out rfl (by first | (simp;omega) | simp) hzs ?_))
     intro v' w' hown' hgr hat
     have hS':Hid (CoRel sgE 78 p w h v' w'):=⟨by simpa using hown',HX.out.grown hgr hzs fun j hj=>(own_vlt HO.out j hj).1⟩
     clear hown' hgr hat
     go_wp2_with fail
     go_roundw
     case rel=>exact Or.inr (Or.inl ⟨by go_num,hS'.out⟩)
     case measure=>simp[intOf]
    ·obtain⟨hown,hb⟩:=hR
     have c0:=(keeps_of_below hb) _ _ C1.out
     have hzs:=hb.size
     have HX:=Lib.hid hb
     have HO:=Lib.hid hown
     have HK:=Lib.hid (HS.out.keep (beside_row hb fun j hj=>(own_vlt hown j hj).1))
     clear hb
     obtain⟨av,cv,hv,_⟩:=hown.slice (by omega)
     subst hv
     clear hown
     go_wp2_with (at_builtin;go_must (refine own_rowE (E:=sgE) elemSG _ rfl (.tmp 31) (.tmp 32) rfl p w.heap.size _ rfl HO.out ao co HK.out rfl hlhs hzs ?_))
     intro v' w' hown' hgr hat
     have hS':Hid (CoRel sgE 78 p w (h++s) v' w'):=⟨hown',HX.out.grown hgr hzs fun j hj=>(own_vlt HO.out j hj).1⟩
     clear hown' hgr hat
     go_wp2_with fail
     go_roundw
     case rel=>exact Or.inr (Or.inr ⟨by go_num,hS'.out⟩)
     case measure=>simp[intOf]
    ·obtain⟨hown,hb⟩:=hR
     have HE:=Lib.hid (⟨hown,hb⟩:_∧_)
     clear hb
     obtain⟨av,cv,hv,_⟩:=hown.slice HLn.out
     subst hv
     clear hown
     go_wp2_with fail
     go_ret
     exact⟨⟨_,rfl,HE.out.1⟩,HE.out.2⟩
end Go.Proofs.YthojpomoflhbcaaGreatDoor
namespace Go.Proofs.YthojpomoflhbcaaGreatDoor
open Go.RowKit
def zeroX (e:Ex):Bool:=decide (e.op=0∧e.n=0∧e.name.size=0∧e.args.length=0)
def shapeB (s:Tq):Bool :=
 if s.op=1 then decide (s.args.length=0∧s.lo=0∧s.hi=0)
 else if s.op=2 then decide (s.args.length=2∧0≤s.lo∧s.lo≤s.hi∧s.hi≤16)
 else if s.op=3 then decide (s.args.length=1∧1≤s.lo∧s.lo≤s.hi∧s.hi≤16)
 else if s.op=4∨s.op=5 then decide (2≤s.args.length∧s.args.length≤8∧s.lo=0∧s.hi=0)
 else if s.op=6∨s.op=7 then decide (s.args.length=1∧s.lo=0∧s.hi=0)
 else false
def writtenB (op:Int):Bool:=op == 1 || op == 6 || op == 7
noncomputable def setNm (s:Tq):List ByteArray:=s.para fun s l=>l.flatten++if s.op=6 then [s.name] else []
theorem setNm_eq (s:Tq):setNm s=(s.args.map setNm).flatten++if s.op=6 then [s.name] else []:=by
 unfold setNm;rw[Tq.para_eq]
noncomputable def setIn (s:Tq):Bool:=match s.args with | []=>false | a::_=>(namesS [2] s.expr).any fun nm=>Lib.containsS (setNm a) nm
noncomputable def nodeT (s:Tq) (below:Bool):Int :=
 if shapeB s=false∨(writtenB s.op=false∧zeroX s.expr=false)∨(s.op≠6∧s.name.size≠0) then 1
 else if s.op=6∧nameB s.name.data.toList=false then 7
 else if writtenB s.op=true∧validS s.expr≠0 then validS s.expr
 else if s.op=6∧below=true then 13
 else if s.op=7∧setIn s=true then 13
 else 0
def firstZ:List Int→Int
 | []=>0
 | e::l=>if e=0 then firstZ l else e
noncomputable def checkT (s:Tq):Bool→Int:=s.para fun s ls below=>if nodeT s below=0 then firstZ (ls.map fun f=>f (below || s.op == 5)) else nodeT s below
theorem checkT_eq (s:Tq) (below:Bool):checkT s below=if nodeT s below=0 then firstZ (s.args.map fun a=>checkT a (below || s.op == 5)) else nodeT s below:=by
 unfold checkT;rw[Tq.para_eq];simp only[List.map_map];rfl
noncomputable def validT (s:Tq):Int:=if 8 < s.depth∨100 < s.nodes then 2 else checkT s false
theorem firstZ_zero {l:List Int}:firstZ l=0↔∀ x∈l,x=0:=by
 induction l with
 | nil=>simp[firstZ]
 | cons a l ih=>rw[firstZ];split<;>simp_all
end Go.Proofs.YthojpomoflhbcaaGreatDoor
