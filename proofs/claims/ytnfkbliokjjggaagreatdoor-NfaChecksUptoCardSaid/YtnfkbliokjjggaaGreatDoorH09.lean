/- Automata, plainly: valid ones, the states that are reached, useful states alone. -/
import Derived.Test.YtnfkbliokjjggaaGreatDoorH08
import Derived.Lib.Bytealg
import Derived.Lib.Small
import Derived.Deep.Cut
set_option maxHeartbeats 4000000
set_option maxRecDepth 100000
set_option linter.unusedSimpArgs false
set_option linter.unusedVariables false
set_option linter.unnecessarySimpa false
namespace Go.Proofs.YtnfkbliokjjggaaGreatDoor
open Go.RowKit
noncomputable def okX (g:Ex):Bool:=zD g==0
noncomputable def YT (b:xG):Bool:=yQ b.name.data.toList&&okX b.expr
noncomputable def edgeOk (st:Int) (e:zk):Bool:=decide (0<=e.fr/\e.fr<st/\0<=e.to/\e.to<st)&&e.guards.all okX&&e.sets.all YT
def X5 (st:Int) (l:List Int) (k:Nat):Bool:=(List.range k).all λi=>decide (0<=l.getD i 0/\l.getD i 0<st/\(0<i->l.getD (i-1) 0<l.getD i 0))
noncomputable def zC (n:zt):Bool:=decide (1<=n.states/\n.states<=256/\n.edges.length<=4096)&&n.edges.all (edgeOk n.states)&&X5 n.states n.accept n.accept.length
theorem Xd (st:Int) (l:List Int) (k:Nat):X5 st l (k+1)=(X5 st l k&&decide (0<=l.getD k 0/\l.getD k 0<st/\(0<k->l.getD (k-1) 0<l.getD k 0))):=by unfold X5;rw[List.range_succ,List.all_append];simp
theorem zhM {st:Int} {l:List Int} {k m:Nat} (h:X5 st l m=true) (hk:k<=m):X5 st l k=true:=by unfold X5 at h⊢;rw[List.all_eq_true]at h⊢;intro i hi;exact h i (List.mem_range.2 (by have:=List.mem_range.1 hi;omega))
theorem zeh {st:Int} {l:List Int} {k m:Nat} (hk:k<m) (h:decide (0<=l.getD k 0/\l.getD k 0<st/\(0<k->l.getD (k-1) 0<l.getD k 0))=false):X5 st l m=false:=by
 cases e:X5 st l m with
 |false=>rfl
 |true =>have:=zhM e (show k+1<=m by omega);rw[Xd,h]at this;simp at this
def zJ (o:List Bool) (p:Nat×Nat):List Bool:=if o.getD p.1 false&&!o.getD p.2 false then o.set p.2 true else o
def zE (steps:List (Nat×Nat)) (o:List Bool) (k:Nat):List Bool:=(steps.take k).foldl zJ o
def zn (steps:List (Nat×Nat)) (o:List Bool):List Bool:=steps.foldl zJ o
def yM (steps:List (Nat×Nat)):Nat->List Bool->List Bool
 |0,o=>o
 |n+1,o=>yM steps n (zn steps o)
def zV (o:List Bool):Nat:=o.countP (!·)
theorem YO (o:List Bool) (p:Nat×Nat):(zJ o p).length=o.length:=by unfold zJ;split<;>simp
theorem qb (steps:List (Nat×Nat)) (o:List Bool):zE steps o 0=o:=by simp[zE]
theorem YP (steps:List (Nat×Nat)) (o:List Bool) {k:Nat} (h:k<steps.length):zE steps o (k+1)=zJ (zE steps o k) (steps[k]'h):=by unfold zE;rw[List.take_succ_eq_append_getElem h,List.foldl_append];rfl
theorem Xp (steps:List (Nat×Nat)) (o:List Bool):zE steps o steps.length=zn steps o:=by unfold zE zn;rw[List.take_of_length_le (Nat.le_refl _)]
theorem Z7 (steps:List (Nat×Nat)):∀o:List Bool,(zn steps o).length=o.length:=by
 unfold zn
 induction steps with
 |nil=>intro o;rfl
 |cons p l ih=>intro o;rw[List.foldl_cons,ih,YO]
theorem Xq (steps:List (Nat×Nat)) (o:List Bool) (k:Nat):(zE steps o k).length=o.length:=Z7 _ _
theorem YA {o:List Bool} {k:Nat} (hk:k<o.length) (h:o.getD k false=false):zV (o.set k true)+1=zV o:=by
 unfold zV
 induction o generalizing k with
 |nil=>simp at hk
 |cons b o ih =>
  cases k with
  |zero =>simp at h;subst h;simp
  |succ k =>have:=ih (k:=k) (by simpa using hk) (by simpa using h);rw[List.set_cons_succ,List.countP_cons,List.countP_cons];omega
theorem Xn (o:List Bool) (p:Nat×Nat):zJ o p=o\/zV (zJ o p)<zV o:=by
 unfold zJ;split
 ·rename_i h;simp only[Bool.and_eq_true,Bool.not_eq_true']at h;by_cases hk:p.2<o.length
  ·have:=YA hk h.2;exact Or.inr (by omega)
  ·left;rw[List.set_eq_of_length_le (by omega)]
 ·exact Or.inl rfl
theorem qP (steps:List (Nat×Nat)):∀o:List Bool,zn steps o=o\/zV (zn steps o)<zV o:=by
 unfold zn
 induction steps with
 |nil=>intro o;exact Or.inl rfl
 |cons p l ih =>
  intro o;rw[List.foldl_cons];rcases Xn o p with h|h
  ·rw[h];exact ih o
  ·rcases ih (zJ o p) with h2|h2
   ·rw[h2];exact Or.inr h
   ·exact Or.inr (by omega)
theorem zc5 {steps:List (Nat×Nat)} {o:List Bool} (h:zn steps o=o):∀n,yM steps n o=o:=by
 intro n
 induction n with
 |zero=>rfl
 |succ n ih=>show yM steps n (zn steps o)=o;rw[h];exact ih
theorem Z6 (steps:List (Nat×Nat)):∀n (o:List Bool),zV o<=n->zn steps (yM steps n o)=yM steps n o:=by
 intro n
 induction n with
 |zero =>
  intro o h;rcases qP steps o with h1|h1
  ·exact h1
  ·omega
 |succ n ih =>
  intro o h;rcases qP steps o with h1|h1
  ·rw[zc5 h1];exact h1
  ·exact ih _ (by omega)
theorem qG (steps:List (Nat×Nat)):∀n (o:List Bool),yM steps (n+1) o=zn steps (yM steps n o):=by
 intro n
 induction n with
 |zero=>intro o;rfl
 |succ n ih=>intro o;show yM steps (n+1) (zn steps o)=_;rw[ih];rfl
theorem Zr (steps:List (Nat×Nat)):∀n (o:List Bool),(yM steps n o).length=o.length:=by
 intro n
 induction n with
 |zero=>intro o;rfl
 |succ n ih=>intro o;show (yM steps n (zn steps o)).length=_;rw[ih,Z7]
def yT (steps:List (Nat×Nat)) (o:List Bool):List Bool:=yM steps o.length o
theorem Ya (o:List Bool):zV o<=o.length:=List.countP_le_length
theorem zaA {steps:List (Nat×Nat)} {o q:List Bool} {k:Nat} (h1:q=yM steps k o) (h2:zn steps q=q):q=yT steps o:=by
 have key:∀m,yM steps (k+m) o=q:=by
  intro m
  induction m with
  |zero=>exact h1.symm
  |succ m ih=>rw[←Nat.add_assoc,qG,ih,h2]
 have st:=Z6 steps o.length o (Ya o);have key2:∀m,yM steps (o.length+m) o=yT steps o:=by
  intro m
  induction m with
  |zero=>rfl
  |succ m ih=>rw[←Nat.add_assoc,qG,ih];exact st
 rw[←key o.length,Nat.add_comm,key2]
def YC (st:Nat) (l:List Nat):List Bool:=l.foldl (λo s=>o.set s true) (List.replicate st false)
theorem Yg (st:Nat) (l:List Nat):(YC st l).length=st:=by
 unfold YC;have:∀o:List Bool,(l.foldl (λo s=>o.set s true) o).length=o.length:=by
  induction l with
  |nil=>intro o;rfl
  |cons a l ih=>intro o;rw[List.foldl_cons,ih];simp
 rw[this];simp
def Yq (n:zt):List (Nat×Nat):=n.edges.map λe=>(e.fr.toNat,e.to.toNat)
def zc1 (n:zt):List (Nat×Nat):=n.edges.map λe=>(e.to.toNat,e.fr.toNat)
def yl (n:zt):List Bool:=yT (Yq n) (YC n.states.toNat [0])
def zX (n:zt):List Bool:=yT (zc1 n) (YC n.states.toNat (n.accept.map Int.toNat))
def yd (a b:List Bool) (s:Nat):Bool:=s==0||(a.getD s false&&b.getD s false)
def yp (a b:List Bool) (s:Nat):Nat:=((List.range s).filter (yd a b)).length
theorem za0 (a b:List Bool) (s:Nat):yp a b (s+1)=yp a b s+(if yd a b s then 1 else 0):=by unfold yp;rw[List.range_succ,List.filter_append,List.length_append];congr 1;cases h:yd a b s<;>simp[h]
theorem XL (a b:List Bool) (s:Nat):yp a b s<=s:=by unfold yp;exact Nat.le_trans (List.length_filter_le _ _) (by simp)
def Zd (a b:List Bool) (e:zk):Bool:=a.getD e.fr.toNat false&&b.getD e.fr.toNat false&&a.getD e.to.toNat false&&b.getD e.to.toNat false
def zg2 (a b:List Bool) (e:zk):zk:={ e with fr:=(yp a b e.fr.toNat:Nat),to:=(yp a b e.to.toNat:Nat) }
def y7 (n:zt) (a b:List Bool):zt where
 states:=(yp a b n.states.toNat:Nat)
 edges:=(n.edges.filter (Zd a b)).map (zg2 a b)
 accept:=(n.accept.filter λs=>yd a b s.toNat).map λs=>(yp a b s.toNat:Int)
noncomputable def trimS (n:zt):zt:=if zC n then y7 n (yl n) (zX n) else ⟨0,[],[]⟩
structure Qb {α:Type} (c:α->α->Int):Prop where
 zero:∀x y,c x y=0<->x=y
 anti:∀x y,c x y<0<->0<c y x
 trans:∀x y z,c x y<0->c y z<0->c x z<0
theorem Qb.refl {α:Type} {c:α->α->Int} (h:Qb c) (x:α):c x x=0:=(h.zero x x).2 rfl
theorem qc:∀x y:List UInt8,(Lib.compareBytes x y=-1/\x<y)\/(Lib.compareBytes x y=0/\x=y)\/(Lib.compareBytes x y=1/\y<x)
 | [],[]=>by simp[Lib.compareBytes]
 | [],_::_=>by simp[Lib.compareBytes]
 |_::_,[]=>by simp[Lib.compareBytes]
 |a::x,b::y=>by
  rw[Lib.compareBytes];rcases qc x y with h|h|h<;>simp only[List.cons_lt_cons_iff]<;>by_cases h1:a<b
  all_goals first
   |(left;rw[if_pos h1];exact⟨rfl,Or.inl h1⟩)
   |skip
  all_goals by_cases h2:b<a
  all_goals first
   |(right;right;rw[if_neg h1,if_pos h2];exact⟨rfl,Or.inl h2⟩)
   |skip
  all_goals
   have e:a=b:=UInt8.le_antisymm (UInt8.not_lt.1 h2) (UInt8.not_lt.1 h1);subst e;rw[if_neg h1,if_neg h2]
  ·exact Or.inl ⟨h.1,Or.inr ⟨rfl,h.2⟩⟩
  ·exact Or.inr (Or.inl ⟨h.1,by rw[h.2]⟩)
  ·exact Or.inr (Or.inr ⟨h.1,Or.inr ⟨rfl,h.2⟩⟩)
def qF (a b:ByteArray):Int:=Lib.compareBytes a.data.toList b.data.toList
theorem zen {a b:ByteArray} (h:a.data.toList=b.data.toList):a=b:=ByteArray.ext (Array.toList_inj.1 h)
theorem Zs (a b:ByteArray):(qF a b=-1/\a.data.toList<b.data.toList)\/(qF a b=0/\a=b)\/(qF a b=1/\b.data.toList<a.data.toList):=by
 rcases qc a.data.toList b.data.toList with h|h|h
 ·exact Or.inl h
 ·exact Or.inr (Or.inl ⟨h.1,zen h.2⟩)
 ·exact Or.inr (Or.inr h)
theorem QW {a b:ByteArray}:qF a b<0<->a.data.toList<b.data.toList:=by
 rcases Zs a b with ⟨h,h2⟩|⟨h,h2⟩|⟨h,h2⟩
 ·simp[h,h2]
 ·subst h2;simp[h,List.lt_irrefl]
 ·rw[h];simp only[Int.reduceLT,false_iff];exact λh3=>List.lt_irrefl _ (List.lt_trans h2 h3)
theorem X6:Qb qF where
 zero a b:=by
  rcases Zs a b with ⟨h,h2⟩|⟨h,h2⟩|⟨h,h2⟩
  ·rw[h];simp;rintro rfl;exact List.lt_irrefl _ h2
  ·subst h2;simp[h]
  ·rw[h];simp;rintro rfl;exact List.lt_irrefl _ h2
 anti a b:=by
  rw[QW];rcases Zs b a with ⟨h,h2⟩|⟨h,h2⟩|⟨h,h2⟩
  ·rw[h];simp;exact λh3=>List.lt_irrefl _ (List.lt_trans h2 h3)
  ·subst h2;simp[h,List.lt_irrefl]
  ·simp[h,h2]
 trans a b c h h2:=QW.2 (List.lt_trans (QW.1 h) (QW.1 h2))
theorem ziZ:Qb Lib.compareInt where
 zero a b:=by unfold Lib.compareInt;repeat' split<;>omega
 anti a b:=by unfold Lib.compareInt;repeat' split<;>omega
 trans a b c:=by unfold Lib.compareInt;repeat' split<;>omega
def orZ (a b:Int):Int:=if a=0 then b else a
theorem Qb.or {α β γ:Type} {c:α->α->Int} {d:β->β->Int} (hc:Qb c) (hd:Qb d) (f:γ->α) (g:γ->β) (hi:∀x y,f x=f y->g x=g y->x=y):Qb λx y=>orZ (c (f x) (f y)) (d (g x) (g y)) where
 zero x y:=by
  unfold orZ;split
  ·rename_i h;rw[hd.zero];exact⟨λh2=>hi _ _ ((hc.zero _ _).1 h) h2,λh2=>by rw[h2]⟩
  ·rename_i h;exact⟨λh2=>absurd h2 h,λh2=>absurd ((hc.zero _ _).2 (by rw[h2])) h⟩
 anti x y:=by
  unfold orZ;by_cases h:c (f x) (f y)=0
  ·have:=(hc.zero _ _).1 h;rw[if_pos h,if_pos ((hc.zero _ _).2 this.symm)];exact hd.anti _ _
  ·rw[if_neg h,if_neg (λh2=>h ((hc.zero _ _).2 ((hc.zero _ _).1 h2).symm))];exact hc.anti _ _
 trans x y z:=by
  unfold orZ;by_cases h:c (f x) (f y)=0
  ·have e:=(hc.zero _ _).1 h;rw[if_pos h,e];by_cases h2:c (f y) (f z)=0
   ·simp only[if_pos h2];exact hd.trans _ _ _
   ·simp only[if_neg h2];exact λ_ h=>h
  ·rw[if_neg h];by_cases h2:c (f y) (f z)=0
   ·have e:=(hc.zero _ _).1 h2;rw[if_pos h2,←e,if_neg h];exact λh _=>h
   ·rw[if_neg h2];intro h3 h4;have h5:=hc.trans _ _ _ h3 h4;rw[if_neg (by omega)];exact h5
def cmpL {α:Type} (c:α->α->Int):List α->List α->Int
 | [],[]=>0
 | [],_::_=>-1
 |_::_,[]=>1
 |x::l,y::m=>if c x y=0 then cmpL c l m else c x y
theorem Qb.list {α:Type} {c:α->α->Int} (h:Qb c):Qb (cmpL c) where
 zero x:=by
  induction x with
  |nil=>intro y;cases y<;>simp[cmpL]
  |cons a x ih =>
   intro y;cases y with
   |nil=>simp[cmpL]
   |cons b y =>
    rw[cmpL];split
    ·rename_i e;rw[ih y,(h.zero _ _).1 e];simp
    ·rename_i e;simp only[List.cons.injEq];exact⟨λe2=>absurd e2 e,λe2=>absurd ((h.zero _ _).2 e2.1) e⟩
 anti x:=by
  induction x with
  |nil=>intro y;cases y<;>simp[cmpL]
  |cons a x ih =>
   intro y;cases y with
   |nil=>simp[cmpL]
   |cons b y =>
    rw[cmpL,cmpL];by_cases e:c a b=0
    ·rw[if_pos e,if_pos ((h.zero _ _).2 ((h.zero _ _).1 e).symm)];exact ih y
    ·rw[if_neg e,if_neg (λe2=>e ((h.zero _ _).2 ((h.zero _ _).1 e2).symm))];exact h.anti _ _
 trans x:=by
  induction x with
  |nil=>intro y z;cases y<;>cases z<;>simp[cmpL]
  |cons a x ih =>
   intro y z;cases y with
   |nil=>simp[cmpL]
   |cons b y =>
    cases z with
    |nil=>simp only[cmpL];intro _ h2;omega
    |cons d z =>
     rw[cmpL,cmpL,cmpL];by_cases e:c a b=0
     ·have e1:=(h.zero _ _).1 e;rw[if_pos e,e1];by_cases e2:c b d=0
      ·simp only[if_pos e2];exact ih _ _
      ·simp only[if_neg e2];exact λ_ h=>h
     ·rw[if_neg e];by_cases e2:c b d=0
      ·have e3:=(h.zero _ _).1 e2;rw[if_pos e2,←e3,if_neg e];exact λh _=>h
      ·rw[if_neg e2];intro h3 h4;have h5:=h.trans _ _ _ h3 h4;rw[if_neg (by omega)];exact h5
abbrev Sg:=ByteArray×Int
def qH (x y:Sg):Int:=orZ (qF x.1 y.1) (Lib.compareInt x.2 y.2)
theorem zi0:Qb qH:=Qb.or X6 ziZ Prod.fst Prod.snd λ_ _ h1 h2=>Prod.ext h1 h2
def ZD (x y:List Sg):Int:=cmpL qH x y
theorem zhX:Qb ZD:=zi0.list
def zu (x y:yV):Int:=orZ (Lib.compareInt x.state y.state) (ZD x.env y.env)
theorem QV:Qb zu:=Qb.or ziZ zhX yV.state yV.env λx y h1 h2=>by cases x;cases y;simp at h1 h2;rw[h1,h2]
section
variable {α : Type} (c : α → α → Int)
def Asc (l:List α):Prop:=l.Pairwise λx y=>c x y<0
def X8:List α->α->List α
 | [],t=>[t]
 |x::r,t=>if c x t<0 then x::X8 r t else if c x t=0 then t::r else t::x::r
def zd7 (l:List α) (t:α):Nat:=l.countP λx=>decide (c x t<0)
variable {c}
theorem zfr (h:Qb c) {x:α} {r:List α} {t:α} (ha:Asc c (x::r)) (hx:¬c x t<0):zd7 c (x::r) t=0:=by
 unfold zd7;rw[List.countP_eq_zero];intro y hy;simp only[decide_eq_true_eq];rcases List.mem_cons.1 hy with rfl|hy
 ·exact hx
 ·intro h2;exact hx (h.trans _ _ _ ((List.pairwise_cons.1 ha).1 y hy) h2)
theorem zfq {x:α} {r:List α} {t:α} (hx:c x t<0):zd7 c (x::r) t=zd7 c r t+1:=by unfold zd7;rw[List.countP_cons_of_pos (by simpa using hx)]
theorem zic (h:Qb c) {l:List α} {t:α} (ha:Asc c l):X8 c l t=if (l[zd7 c l t]?).any (λx=>decide (c x t=0))=true then l else l.take (zd7 c l t)++t::l.drop (zd7 c l t):=by
 induction l with
 |nil=>simp[X8,zd7]
 |cons x r ih =>
  rw[X8];by_cases hx:c x t<0
  ·rw[if_pos hx,zfq hx,ih (List.pairwise_cons.1 ha).2];simp only[List.getElem?_cons_succ,List.take_succ_cons,List.drop_succ_cons,List.cons_append];split<;>rfl
  ·rw[if_neg hx,zfr h ha hx];simp only[List.getElem?_cons_zero,Option.any_some,decide_eq_true_eq,List.take_zero,List.drop_zero,List.nil_append];by_cases h0:c x t=0
   ·have:=(h.zero _ _).1 h0;subst this;simp only[if_pos h0]
   ·simp only[if_neg h0]
theorem zcr {l:List α} {t y:α} (hy:y∈X8 c l t):y=t\/y∈l:=by
 induction l with
 |nil=>simpa [X8] using hy
 |cons x r ih =>
  rw[X8]at hy;split at hy
  ·rcases List.mem_cons.1 hy with rfl|hy
   ·exact Or.inr (List.mem_cons_self ..)
   ·exact(ih hy).imp id λh=>List.mem_cons_of_mem _ h
  ·split at hy
   ·rcases List.mem_cons.1 hy with h|hy
    ·exact Or.inl h
    ·exact Or.inr (List.mem_cons_of_mem _ hy)
   ·rcases List.mem_cons.1 hy with h|hy
    ·exact Or.inl h
    ·exact Or.inr hy
theorem zgu (h:Qb c) {l:List α} {t:α} (ha:Asc c l):Asc c (X8 c l t):=by
 induction l with
 |nil=>simp[X8,Asc]
 |cons x r ih =>
  obtain⟨h1,h2⟩:=List.pairwise_cons.1 ha;rw[X8];split
  ·rename_i hx;refine List.pairwise_cons.2 ⟨λy hy=>?_,ih h2⟩;rcases zcr hy with rfl|hy
   ·exact hx
   ·exact h1 y hy
  ·split
   ·rename_i hx hx0;obtain rfl:=(h.zero _ _).1 hx0;exact ha
   ·rename_i hx hx0;have hx2:c t x<0:=(h.anti _ _).2 (by omega);refine List.pairwise_cons.2 ⟨λy hy=>?_,ha⟩;rcases List.mem_cons.1 hy with rfl|hy
    ·exact hx2
    ·exact h.trans _ _ _ hx2 (h1 y hy)
theorem zgv (l:List α) (t:α):(X8 c l t).length<=l.length+1:=by
 induction l with
 |nil=>simp[X8]
 |cons x r ih=>rw[X8];split<;>(try split)<;>simp<;>omega
end
def zbq (l:List Sg):Prop:=l.Pairwise λx y=>qF x.1 y.1<0
def YG:List Sg->ByteArray->Int->List Sg
 | [],nm,v=>[(nm,v)]
 |x::r,nm,v=>if qF x.1 nm<0 then x::YG r nm v else if qF x.1 nm=0 then (nm,v)::r else (nm,v)::x::r
def Qw (l:List Sg) (nm:ByteArray):Nat:=l.countP λx=>decide (qF x.1 nm<0)
theorem zft {x:Sg} {r:List Sg} {nm:ByteArray} (ha:zbq (x::r)) (hx:¬qF x.1 nm<0):Qw (x::r) nm=0:=by
 unfold Qw;rw[List.countP_eq_zero];intro y hy;simp only[decide_eq_true_eq];rcases List.mem_cons.1 hy with rfl|hy
 ·exact hx
 ·intro h2;exact hx (X6.trans _ _ _ ((List.pairwise_cons.1 ha).1 y hy) h2)
theorem zfs {x:Sg} {r:List Sg} {nm:ByteArray} (hx:qF x.1 nm<0):Qw (x::r) nm=Qw r nm+1:=by unfold Qw;rw[List.countP_cons_of_pos (by simpa using hx)]
theorem ziq (l:List Sg) (nm:ByteArray):Qw l nm<=l.length:=List.countP_le_length
theorem ziv {l:List Sg} {nm:ByteArray} {v:Int} (ha:zbq l):YG l nm v=if (l[Qw l nm]?).map Prod.fst=some nm then l.set (Qw l nm) (nm,v) else l.take (Qw l nm)++(nm,v)::l.drop (Qw l nm):=by
 induction l with
 |nil=>simp[YG,Qw]
 |cons x r ih =>
  rw[YG];by_cases hx:qF x.1 nm<0
  ·rw[if_pos hx,zfs hx,ih (List.pairwise_cons.1 ha).2];simp only[List.getElem?_cons_succ,List.take_succ_cons,List.drop_succ_cons,List.cons_append,List.set_cons_succ];split<;>rfl
  ·rw[if_neg hx,zft ha hx];simp only[List.getElem?_cons_zero,Option.map_some,Option.some.injEq,List.take_zero,List.drop_zero,List.nil_append,List.set_cons_zero];by_cases h0:qF x.1 nm=0
   ·rw[if_pos h0,if_pos ((X6.zero _ _).1 h0)]
   ·rw[if_neg h0,if_neg (λe=>h0 ((X6.zero _ _).2 e))]
theorem zcE {l:List Sg} {nm:ByteArray} {v:Int} {y:Sg} (hy:y∈YG l nm v):y=(nm,v)\/y∈l:=by
 induction l with
 |nil=>simpa [YG] using hy
 |cons x r ih =>
  rw[YG]at hy;split at hy
  ·rcases List.mem_cons.1 hy with rfl|hy
   ·exact Or.inr (List.mem_cons_self ..)
   ·exact(ih hy).imp id λh=>List.mem_cons_of_mem _ h
  ·split at hy
   ·rcases List.mem_cons.1 hy with h|hy
    ·exact Or.inl h
    ·exact Or.inr (List.mem_cons_of_mem _ hy)
   ·rcases List.mem_cons.1 hy with h|hy
    ·exact Or.inl h
    ·exact Or.inr hy
theorem zaf {l:List Sg} {nm:ByteArray} {v:Int} (ha:zbq l):zbq (YG l nm v):=by
 induction l with
 |nil=>simp[YG,zbq]
 |cons x r ih =>
  obtain⟨h1,h2⟩:=List.pairwise_cons.1 ha;rw[YG];split
  ·rename_i hx;refine List.pairwise_cons.2 ⟨λy hy=>?_,ih h2⟩;rcases zcE hy with rfl|hy
   ·exact hx
   ·exact h1 y hy
  ·split
   ·rename_i hx hx0;have e:=(X6.zero _ _).1 hx0;exact List.pairwise_cons.2 ⟨λy hy=>by rw[←e];exact h1 y hy,h2⟩
   ·rename_i hx hx0;have hx2:qF nm x.1<0:=(X6.anti _ _).2 (by omega);refine List.pairwise_cons.2 ⟨λy hy=>?_,ha⟩;rcases List.mem_cons.1 hy with rfl|hy
    ·exact hx2
    ·exact X6.trans _ _ _ hx2 (h1 y hy)
theorem zcD (l:List Sg) (nm:ByteArray) (v:Int):(YG l nm v).length<=l.length+1:=by
 induction l with
 |nil=>simp[YG]
 |cons x r ih=>rw[YG];split<;>(try split)<;>simp<;>omega
def zcv (l:List Sg) (k:Nat):Bool:=(List.range k).all λi=>decide (0<=(l.getD i (.empty,0)).2/\(l.getD i (.empty,0)).2<=65535/\(0<i->qF (l.getD (i-1) (.empty,0)).1 (l.getD i (.empty,0)).1<0))
theorem zaS (l:List Sg) (k:Nat):zcv l (k+1)=(zcv l k&&decide (0<=(l.getD k (.empty,0)).2/\(l.getD k (.empty,0)).2<=65535/\(0<k->qF (l.getD (k-1) (.empty,0)).1 (l.getD k (.empty,0)).1<0))):=by unfold zcv;rw[List.range_succ,List.all_append];simp
def xm (l:List Sg):Bool:=zcv l l.length
def xz (env:List Sg):List Sg:=env.foldr (λx l=>YG l x.1 (Ys x.2)) []
noncomputable def zi5 (e:Ex):List Sg:=(zG [2] e).map (λs=>(s,0))++(zG [3,24] e).map (λs=>(s++⟨#[91,48,93]⟩,0))
noncomputable def Yt (e:Ex) (loc env:List Sg):Int:=(qU (loc++env++zi5 e) e).1
noncomputable def zN (l:List xG) (env loc:List Sg) (k:Nat):List Sg:=(l.take k).foldl (λl b=>YG l b.name (Yt b.expr l env)) loc
noncomputable def x7 (e:zk) (loc env:List Sg):Option (List Sg):=if e.guards.all (λg=>Yt g loc env != 0) then some (zN e.sets env loc e.sets.length) else none
noncomputable def x4 (env:List Sg) (t:yV) (out:List yV) (e:zk):List yV:=if e.fr=t.state then (match x7 e t.env env with|some loc=>X8 zu out ⟨e.to,loc⟩|none=>out) else out
noncomputable def stepT (n:zt) (env:List Sg) (out:List yV) (t:yV) (k:Nat):List yV:=(n.edges.take k).foldl (x4 env t) out
noncomputable def yw (n:zt) (env:List Sg) (l:List yV) (k:Nat):List yV:=(l.take k).foldl (λout t=>stepT n env out t n.edges.length) []
def ZB (n:zt) (t:yV):Bool:=decide (0<=t.state/\t.state<n.states)&&xm t.env
noncomputable def qz (n:zt) (l:List yV) (env:List Sg):List yV×Int :=
 if zC n=false then ([],1) else if l.all (ZB n)=false then ([],1) else if 256<(yw n env l l.length).length then ([],2) else (yw n env l l.length,0)
def QP (n:zt) (l:List yV):List yV:=l.filter λt=>n.accept.contains t.state
def mvE (e:zk) (f t:Int):zk:={ e with fr:=f,to:=t }
def zS (n:zt):List zk:=n.edges.filter λe=>e.fr==0
def yq (n:zt):List zk:=n.edges.filter λe=>!(e.fr==0)
def zgp (n:zt) (s:Int):List zk:=n.edges.filter λe=>e.fr==s
noncomputable def yU (nm:ByteArray) (by_:Ex) (e:Ex):Ex:=e.para λe l=>if e.op=2/\e.name=nm then by_ else .mk e.op e.n e.name l
theorem zbl (nm:ByteArray) (by_:Ex) (e:Ex):yU nm by_ e=if e.op=2/\e.name=nm then by_ else .mk e.op e.n e.name (e.args.map (yU nm by_)):=by unfold yU;rw[Ex.para_eq]
noncomputable def xL (l:List xG):Nat->Ex->Ex
 |0,g=>g
 |k+1,g=>if g.nodes.length<=400 then xL l k (match l[k]? with|some b=>yU b.name b.expr g|none=>g) else g
noncomputable def zQ (x y:zk) (to:Int):zk:=⟨x.fr,to,x.guards++y.guards.map (xL x.sets x.sets.length),x.sets++y.sets⟩
def zO (l:List Int) (n:zt) (base:Int):List zk:=l.flatMap λs=>(zS n).map λf=>mvE f s (base+f.to)
def zfx (n:zt) (base:Int):List zk:=(yq n).map λf=>mvE f (base+f.fr) (base+f.to)
def y8 (hi:Int):Nat:=(hi-1).toNat
def qa (st:Int) (k:Nat):List zk:=(List.range k).map λ(i:Nat)=>⟨st+i,st+i+1,[],[]⟩
noncomputable def zh6 (x y:zt) (base:Int):List zk:=x.edges.flatMap λe=>if x.accept.contains e.to then (zS y).map λf=>zQ e f (base+f.to) else []
def Yr (x y:zt) (lo hi base:Int) (k:Nat):List zk:=(List.range k).flatMap λ(i:Nat)=>if lo<=i+2/\(i:Int)+2<=hi then zO [x.states+i] y base else []
noncomputable def y5 (lo hi:Int) (x y:zt):zt :=
 let base:=x.states+y8 hi-1
 ⟨base+y.states,
  x.edges++(if 0<y8 hi then x.accept.map (λa=>⟨a,x.states,[],[]⟩)++qa x.states (y8 hi-1) else [])++(if lo=0 then zh6 x y base else []) ++
   (if lo<=1/\1<=hi then zO x.accept y base else [])++Yr x y lo hi base (y8 hi)++zfx y base,
  y.accept.map (base+·)⟩
def zjH (n:zt):Nat->List zk
 |0=>[]
 |1=>n.edges
 |c+1=>zjH n c++zO (n.accept.map λa=>((c:Int)-1)*(n.states-1)+a) n (c*(n.states-1))++zfx n (c*(n.states-1))
def repA (n:zt) (lo:Int) (c:Nat):List Int:=(List.range c).flatMap λ(i:Nat)=>if lo<=i+1 then n.accept.map λa=>(i:Int)*(n.states-1)+a else []
def zjI (lo hi:Int) (n:zt):zt:=⟨1+hi*(n.states-1),zjH n hi.toNat,repA n lo hi.toNat⟩
def za4 (base s:Int):Int:=if s=0 then 0 else base+s
def zdy (out n:zt):zt:=⟨out.states+(n.states-1),out.edges++n.edges.map (λe=>mvE e (za4 (out.states-1) e.fr) (za4 (out.states-1) e.to)),out.accept++n.accept.map (za4 (out.states-1))⟩
def orN (parts:List zt):zt:=parts.foldl zdy ⟨1,[],[]⟩
def setN (nm:ByteArray) (x:Ex) (n:zt):zt :=
 ⟨n.states+n.accept.length,
  n.edges++n.edges.filterMap λe=>if n.accept.contains e.to then some ⟨e.fr,n.states+(n.accept.idxOf e.to:Nat),e.guards,e.sets++[⟨nm,x⟩]⟩ else none,
  (List.range n.accept.length).map λi=>n.states+(i:Nat)⟩
def zh9 (x:Ex) (n:zt):zt:=⟨n.states,n.edges.map λe=>{ e with guards:=e.guards++[x] },n.accept⟩
structure xu where
 pairs:List (Int×Int)
 edges:List zk
def toJ (i:Nat) (g:List Ex) (j:xu) (p:Int×Int):xu:=⟨if j.pairs.contains p then j.pairs else j.pairs++[p],j.edges++[⟨i,(j.pairs.idxOf p:Nat),g,[]⟩]⟩
def ziV (s t:Int) (l r:Bool):List (Int×Int):=(s,t)::((if l then [(-1,t)] else [])++(if r then [(s,-1)] else [])++(if l&&r then [(-1,-1)] else []))
def zjv (i:Nat) (g:List Ex) (s t:Int) (l r:Bool) (j:xu):xu:=(ziV s t l r).foldl (toJ i g) j
def zjN (x y:zt) (i:Nat) (p:Int×Int) (j:xu):xu :=
 (zgp x p.1).foldl (λj e=>(zgp y p.2).foldl (λj f=>zjv i (e.guards++f.guards) e.to f.to (x.accept.contains e.to) (y.accept.contains f.to) j) j) j
def zjS (x:zt) (i:Nat) (s:Int) (j:xu):xu:=(zgp x s).foldl (λj e=>zjv i e.guards e.to (-1) (x.accept.contains e.to) false j) j
def zjp (y:zt) (i:Nat) (t:Int) (j:xu):xu:=(zgp y t).foldl (λj f=>zjv i f.guards (-1) f.to false (y.accept.contains f.to) j) j
def ziu (x y:zt) (i:Nat) (j:xu):xu :=
 match j.pairs[i]? with
 |none=>j
 |some p=>if p.1=-1/\p.2=-1 then j else if p.1=-1 then zjp y i p.2 j else if p.2=-1 then zjS x i p.1 j else zjN x y i p j
def QR (x y:zt):Nat->xu
 |0=>⟨[(0,0)],[]⟩
 |i+1=>ziu x y i (QR x y i)
theorem zcZ (x y:zt):QR x y 0=⟨[(0,0)],[]⟩:=rfl
theorem zcY (x y:zt) (i:Nat):QR x y (i+1)=ziu x y i (QR x y i):=rfl
attribute [irreducible] QR
def zhx (j:xu):zt:=⟨j.pairs.length,j.edges,if j.pairs.contains (-1,-1) then [(j.pairs.idxOf (-1,-1):Nat)] else []⟩
noncomputable def doneN (n:zt):Option zt:=if zC n then some n else none
noncomputable def zjD (x y:zt):Option zt:=if (QR x y 256).pairs.length<=256 then doneN (zhx (QR x y 256)) else none
noncomputable def zf7:zt->List zt->Option zt
 |n,[]=>some n
 |n,m::r=>match zjD n m with|some k=>zf7 k r|none=>none
noncomputable def ZL (s:Tq) (ps:List zt):Option zt :=
 if s.op=1 then doneN ⟨2,[⟨0,1,[s.expr],[]⟩],[1]⟩
 else if s.op=2 then doneN (y5 s.lo s.hi (ps.getD 0 ⟨0,[],[]⟩) (ps.getD 1 ⟨0,[],[]⟩))
 else if s.op=3 then doneN (zjI s.lo s.hi (ps.getD 0 ⟨0,[],[]⟩))
 else if s.op=4 then doneN (orN ps)
 else if s.op=5 then zf7 (ps.getD 0 ⟨0,[],[]⟩) ps.tail
 else if s.op=6 then doneN (setN s.name s.expr (ps.getD 0 ⟨0,[],[]⟩))
 else doneN (zh9 s.expr (ps.getD 0 ⟨0,[],[]⟩))
noncomputable def qB:List (Option zt)->Option (List zt)
 | []=>some []
 |none::_=>none
 |some n::r=>(qB r).map (n::·)
noncomputable def yJ (s:Tq):Option zt:=s.para λs ps=>match qB ps with|none=>none|some l=>ZL s l
theorem Y6 (s:Tq):yJ s=match qB (s.args.map yJ) with|none=>none|some l=>ZL s l:=by unfold yJ;rw[Tq.para_eq]
attribute [local go_sem ↓] Go.wp_at_zero Go.wp_at_succ
theorem Qm:Elem Tryz.prog 22 24 4:=Elem.of Tryz.underlying22 (by kernel_rfl) (z:=.agg #[.int .i64 0,.int .i64 0,.string .empty,.slice none 0 0]) (bytes:=56) rfl (by decide) (by decide)
theorem zh {X:World} {cs:Array Value} {t:TypeId} {b:Nat} (h:b=X.heap.size):(X.alloc (.cells cs t)).heap[b]? = some (.cells cs t (0,0)):=zm _ _ _ h
theorem zl {X:World} {o:Obj} {b:Nat} {z:Obj} (h:X.heap[b]? = some z):(X.alloc o).heap[b]? = some z:=(Below.heap_alloc X o b (lt_of_block h)).trans h
theorem zW {B:Nat} {a w:World} (h:Below B a w:=by repeat (first|with_reducible assumption|with_reducible exact Below.refl _ _|with_reducible refine Below.drew ?_|with_reducible refine below_drewN ?_ _|((with_reducible refine Below.alloc ?_ ?_ _);rotate_left;exact sz)|((with_reducible refine Below.setCell ?_ ?_ _);rotate_left;exact sz))):Below B a w:=h
def zP (w:World) (e:Ex) (r:Ending) (w':World):Prop:=(∃a c,r=.returned (zL e a c)/\yA (World.hide w' (old w.heap.size)) e a c)/\Below w.heap.size w w'
theorem ym {fn:Func} {p:Tmp} {ty:TypeId} (h:fn.results=#[.cell p ty]) (tmps:Array Value) (P:Program) (w:World) :
 (results fn tmps).run P w=((asAddr (tmps.getD p undef)).run P w).andThen λa w₁=>(loadVar ty a).run P w₁:=by
 simp only[results,h];simp[Sem.run_bind,Result.andThen]
theorem YX {w:World} {b:Nat} {z0 z1 z2 z3 u0 u1 u2 u3:Value} {t:TypeId} (h:w.heap[b]? = some (.cells #[z0,z1,z2,z3] t (0,0))) :
 ((((w.setCell ⟨b,0,none⟩ u0).setCell ⟨b,1,none⟩ u1).setCell ⟨b,2,none⟩ u2).setCell ⟨b,3,none⟩ u3).heap[b]? = some (.cells #[u0,u1,u2,u3] t (0,0)):=by
 have h0:=heap_setCell_same _ b 0 _ t u0 h;have h1:=heap_setCell_same _ b 1 _ t u1 h0;have h2:=heap_setCell_same _ b 2 _ t u2 h1;have h3:=heap_setCell_same _ b 3 _ t u3 h2;rw[h3];rfl
theorem zh5 (W:World) (tm:Array Value) (b:Nat) (m0 m1 m2 m3:Value) (hW:W.heap[b]? = some (.cells #[m0,m1,m2,m3] 24 (0,0))) (h0:tm.getD 2 undef=.pointer (some ⟨b,0,none⟩)) :
 (results Tryz.f109 tm).run Tryz.prog W=.ok (.agg #[m0,m1,m2,m3]) W:=by
 have hr : Tryz.f109.results=#[.cell 2 24]:=rfl;have c0:=zb hW 0;have c1:=zb hW 1;have c2:=zb hW 2;have c3:=zb hW 3;simp at c0 c1 c2 c3;rw[ym hr,h0];simp[asAddr];go_simp
theorem zdh (e:Ex):∀(ea:Option Addr) (ec:Nat) (w:World),yA w e ea ec->Calls Tryz.prog 109 #[zL e ea ec] w (zP w e):=by
 induction e using Ex.ind with
 |h e ih =>
  intro ea ec w hX;obtain⟨op,n,s,args⟩:=e;have hsz:=hX.1;have hE:=hX.2;simp only[Ex.name_mk,Ex.args_mk]at hsz hE ih;have HIH:Hid (∀k (hk:k<args.length),∀a c W,yA W (args[k]'hk) a c->Calls Tryz.prog 109 #[zL (args[k]'hk) a c] W λr w'=>(∃a' c',r=.returned (zL (args[k]'hk) a' c')/\yA (World.hide w' (old W.heap.size)) (args[k]'hk) a' c')/\Below W.heap.size W w'):=λk hk a c W h=>ih _ (List.getElem_mem hk) a c W h;have hlen:=hE.2.1;have HEl:Hid (args.length=0\/∃b off,ea=some ⟨b,off,none⟩):=hE.addr;have HE:=Lib.hid hE;have HP:Hid (∀a c W,qS (World.hide W (old w.heap.size)) args a c->Below w.heap.size w W->zP w (.mk op n s args) (.returned (.agg #[.int .i64 op,.int .i64 n,.string s,.slice a args.length c])) W):=λa c W h1 h2=>⟨⟨a,c,rfl,hsz,h1⟩,h2⟩;clear hX hE ih hsz;simp only[zL,Ex.op_mk,Ex.n_mk,Ex.name_mk,Ex.args_mk]at HIH⊢;generalize zP w (.mk op n s args)=Po at HP⊢;go_enter Tryz.func109, Tryz.ntmps109;go_wp2_with fail;generalize hW2:(w.alloc (.cells #[.int .i64 op,.int .i64 n,.string s,.slice ea args.length ec] 24)).alloc (.cells #[.int .i64 0,.int .i64 0,.string ⟨#[]⟩,.slice none 0 0] 24)=W2;have hz2:w.heap.size+2<=W2.heap.size:=by rw[←hW2];simp
  have hz2b:W2.heap.size<=w.heap.size+2:=by rw[←hW2];simp
  have HB2:Hid (Below w.heap.size w W2):=by show Below _ _ _;rw[←hW2];exact zW
  have HX2:Hid (W2.heap[w.heap.size]? = some (.cells #[.int .i64 op,.int .i64 n,.string s,.slice ea args.length ec] 24 (0,0))):=by show _=_;rw[←hW2];exact zl (zh rfl)
  have HR2:Hid (W2.heap[w.heap.size+1]? = some (.cells #[.int .i64 0,.int .i64 0,.string ⟨#[]⟩,.slice none 0 0] 24 (0,0))):=by show _=_;rw[←hW2];exact zh (by simp)
  clear hW2;have b3:=zb HX2.out 3;simp at b3;go_wp2_with fail;clear b3;go_loopw [9,3,5] (λi v _ wr=>∃(k:Nat),i=.int .i64 k/\k<=args.length/\Hid (exE.Own 24 (old W2.heap.size) wr W2.heap.size v (args.take k))/\Hid (Below W2.heap.size W2 wr)) (λi _ _ _=>args.length-(intOf i).toNat);case atStart=>exact⟨0,rfl,Nat.zero_le _,Enc.Own.nil _ _ _ _ _,Below.refl _ _⟩
  case round =>
   obtain⟨k,rfl,hk,HO,HBr⟩:=hrel;have HBw:=Lib.hid (HB2.out.trans (HBr.out.mono (by omega)));have hzr:=HBr.out.size;have HLk:Hid ((args.take k).length=k):=List.length_take_of_le hk;by_cases hlt:k<args.length
   ·obtain⟨bE,oE,hEa⟩:=HEl.out.resolve_left (by omega);have HE':Hid (qS w args (some ⟨bE,oE,none⟩) ec):=by show qS _ _ _ _;rw[←hEa];exact HE.out
    obtain⟨xa,xc,g0,g1,g2,g3,hX⟩:=(HE'.out.keep (za HBw.out)).get rfl hlt;have HXe:=Lib.hid hX;have HC:=Lib.hid (λW (hW:Below wr.heap.size wr W)=>HIH.out k hlt xa xc W (hX.keep (za hW)));subst hEa;have HLx:Hid (args.take k++[args[k]'hlt]=args.take (k+1)):=(List.take_succ_eq_append_getElem hlt).symm;obtain⟨va,vc,hv,_⟩:=HO.out.slice (by rw[HLk.out];omega);rw[HLk.out]at hv;subst hv;have HVo:Hid (∀q,(Value.slice va k vc).ownBlock=some q->W2.heap.size<=q/\q<wr.heap.size):=by obtain⟨xs,h1,_⟩:=HO.out;exact h1.lt
    clear hX;generalize (args[k]'hlt)=y at g0 g1 g2 g3 HXe HC HLx;go_wp2_with fail;refine(HC.out _ zW).mono ?_;rintro r w5 ⟨⟨a',c',rfl,hx5⟩,hb5⟩;have HX5:=Lib.hid hx5;have hz5:=hb5.size;simp only[World.size_alloc]at hz5;have HW5:Hid (Below wr.heap.size wr w5):=((Below.refl wr.heap.size wr).alloc (Nat.le_refl _) _).trans (hb5.mono (by simp));have HO5:=Lib.hid (HO.out.below HW5.out);clear hx5 hb5 g0 g1 g2 g3;go_wp2_with (at_builtin;go_must (refine yr (E:=exE) Qm _ rfl (.tmp 13) (.tmp 16) rfl (old W2.heap.size) W2.heap.size _ rfl HO5.out y [.int .i64 y.op,.int .i64 y.n,.string y.name,.slice a' y.args.length c'] ⟨a',c',rfl,HX5.out.keep (zB ?hm)⟩ _ _ rfl rfl k HLk.out (by omega) (by omega) ?_));case hm =>
     intro q hq;rcases ze.1 hq with hq|hq
     ·have:=zH.1 hq;exact zH.2 (by simp;omega)
     ·have:=(HVo.out q hq).2;exact zH.2 (by simp;omega)
    intro g cap w7 ho hg hat
    rw[HLx.out]at ho;have HO7:=Lib.hid ho;have HB7:Hid (Below W2.heap.size W2 w7):=Below.grown (HBr.out.trans (HW5.out.mono hzr)) hg (by omega) (λq hq=>(HVo.out q hq).1);clear ho hg hat HLx;go_wp2_with fail;go_roundw;case rel=>exact⟨k+1,by go_num,by omega,HO7.out,HB7.out⟩
    case measure=>(simp[intOf];try omega)
   ·obtain rfl:k=args.length:=by omega
    obtain⟨va,vc,hv,hes⟩:=HO.out.sliceP (by rw[HLk.out];omega) (λk hk=>by
     cases h9:old W2.heap.size k with
     |false=>rfl
     |true=>have:=zH.1 h9;omega)
    rw[List.take_length]at hv hes;subst hv;have HS:Hid (qS (World.hide wr (old W2.heap.size)) args va vc):=zco.1 hes;have hx:wr.heap[w.heap.size]? = some (.cells #[.int .i64 op,.int .i64 n,.string s,.slice ea args.length ec] 24 (0,0)):=(HBr.out.block _ (by omega)).trans HX2.out;have hr:wr.heap[w.heap.size+1]? = some (.cells #[.int .i64 0,.int .i64 0,.string ⟨#[]⟩,.slice none 0 0] 24 (0,0)):=(HBr.out.block _ (by omega)).trans HR2.out;have HR:=Lib.hid hr;have HBe:=Lib.hid HBw.out;have b0:=zb hx 0;have b1:=zb hx 1;have b2:=zb hx 2;have b3:=zb hx 3;have r0:=zb hr 0;have r1:=zb hr 1;have r2:=zb hr 2;have r3:=zb hr 3;simp at b0 b1 b2 b3 r0 r1 r2 r3;have q3:wr.frozen? ⟨w.heap.size,3,none⟩=false:=by simp[World.frozen?,hx]
    have f0:wr.frozen? ⟨w.heap.size+1,0,none⟩=false:=by simp[World.frozen?,hr]
    have f1:wr.frozen? ⟨w.heap.size+1,1,none⟩=false:=by simp[World.frozen?,hr]
    have f2:wr.frozen? ⟨w.heap.size+1,2,none⟩=false:=by simp[World.frozen?,hr]
    have f3:wr.frozen? ⟨w.heap.size+1,3,none⟩=false:=by simp[World.frozen?,hr]
    clear hx hr hes;have HRb:=Lib.hid HR.out;go_wp2_with fail;have hrb:(wr.setCell ⟨w.heap.size,3,none⟩ (.slice va args.length vc)).heap[w.heap.size+1]? = some (.cells #[.int .i64 0,.int .i64 0,.string ⟨#[]⟩,.slice none 0 0] 24 (0,0)):=by rw[Below.heap_setCell _ ⟨w.heap.size,3,none⟩ _ (w.heap.size+1) (by show w.heap.size+1≠w.heap.size;omega)];exact HRb.out
    have o0:old W2.heap.size w.heap.size=true:=zH.2 (by omega);have o1:old W2.heap.size (w.heap.size+1)=true:=zH.2 (by omega);refine bodyPost_ret (v:=.agg #[.int .i64 op,.int .i64 n,.string s,.slice va args.length vc]) (zh5 _ _ (w.heap.size+1) _ _ _ _ (YX hrb) rfl) rfl ?_;refine HP.out va vc _ ?_ ?_
    ·exact HS.out.keep (Kp.trans (zj o0) (Kp.trans (zj o1) (Kp.trans (zj o1) (Kp.trans (zj o1) (Kp.trans (zj o1) (zB λk hk=>zH.2 (by have:=zH.1 hk;omega)))))))
    ·exact((((HBe.out.setCell (Nat.le_refl _) _).setCell (by simp) _).setCell (by simp) _).setCell (by simp) _).setCell (by simp) _
end Go.Proofs.YtnfkbliokjjggaaGreatDoor
