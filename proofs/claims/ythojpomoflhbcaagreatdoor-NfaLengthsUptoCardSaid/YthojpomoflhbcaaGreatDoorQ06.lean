/- Threads, plainly: their order, local variables, steps. -/
import Derived.Test.YthojpomoflhbcaaGreatDoorQ05
import Derived.Lib.Bytealg
import Derived.Lib.Small
import Derived.Deep.Cut
import Derived.Lib.AppendZeros
set_option maxHeartbeats 4000000
set_option maxRecDepth 100000
set_option linter.unusedSimpArgs false
set_option linter.unusedVariables false
set_option linter.unnecessarySimpa false
namespace Go.Proofs.YthojpomoflhbcaaGreatDoor
open Go.RowKit
structure zaG {α:Type} (c:α->α->Int):Prop where
 zero:∀x y,c x y=0<->x=y
 anti:∀x y,c x y<0<->0<c y x
 trans:∀x y z,c x y<0->c y z<0->c x z<0
theorem zaG.refl {α:Type} {c:α->α->Int} (h:zaG c) (x:α):c x x=0:=(h.zero x x).2 rfl
theorem Zd:∀x y:List UInt8,(Lib.compareBytes x y=-1/\x<y)\/(Lib.compareBytes x y=0/\x=y)\/(Lib.compareBytes x y=1/\y<x)
 | [],[]=>by simp[Lib.compareBytes]
 | [],_::_=>by simp[Lib.compareBytes]
 |_::_,[]=>by simp[Lib.compareBytes]
 |a::x,b::y=>by
  rw[Lib.compareBytes];rcases Zd x y with h|h|h<;>simp only[List.cons_lt_cons_iff]<;>by_cases h1:a<b
  all_goals first
   |(left;rw[if_pos h1];exact⟨rfl,Or.inl h1⟩)
   |skip
  all_goals by_cases h2:b<a
  all_goals first
   |(right;right;rw[if_neg h1,if_pos h2];exact⟨rfl,Or.inl h2⟩)
   |skip
  all_goals
   have e:a=b:=UInt8.le_antisymm (UInt8.not_lt.1 h2) (UInt8.not_lt.1 h1);subst e;rw[if_neg h1,if_neg h2]
  ·exact Or.inl ⟨h.1,Or.inr ⟨rfl,h.2⟩⟩
  ·exact Or.inr (Or.inl ⟨h.1,by rw[h.2]⟩)
  ·exact Or.inr (Or.inr ⟨h.1,Or.inr ⟨rfl,h.2⟩⟩)
def Zj (a b:ByteArray):Int:=Lib.compareBytes a.data.toList b.data.toList
theorem zgC {a b:ByteArray} (h:a.data.toList=b.data.toList):a=b:=ByteArray.ext (Array.toList_inj.1 h)
theorem Zv (a b:ByteArray):(Zj a b=-1/\a.data.toList<b.data.toList)\/(Zj a b=0/\a=b)\/(Zj a b=1/\b.data.toList<a.data.toList):=by
 rcases Zd a.data.toList b.data.toList with h|h|h
 ·exact Or.inl h
 ·exact Or.inr (Or.inl ⟨h.1,zgC h.2⟩)
 ·exact Or.inr (Or.inr h)
theorem zbt {a b:ByteArray}:Zj a b<0<->a.data.toList<b.data.toList:=by
 rcases Zv a b with ⟨h,h2⟩|⟨h,h2⟩|⟨h,h2⟩
 ·simp[h,h2]
 ·subst h2;simp[h,List.lt_irrefl]
 ·rw[h];simp only[Int.reduceLT,false_iff];exact λh3=>List.lt_irrefl _ (List.lt_trans h2 h3)
theorem XQ:zaG Zj where
 zero a b:=by
  rcases Zv a b with ⟨h,h2⟩|⟨h,h2⟩|⟨h,h2⟩
  ·rw[h];simp;rintro rfl;exact List.lt_irrefl _ h2
  ·subst h2;simp[h]
  ·rw[h];simp;rintro rfl;exact List.lt_irrefl _ h2
 anti a b:=by
  rw[zbt];rcases Zv b a with ⟨h,h2⟩|⟨h,h2⟩|⟨h,h2⟩
  ·rw[h];simp;exact λh3=>List.lt_irrefl _ (List.lt_trans h2 h3)
  ·subst h2;simp[h,List.lt_irrefl]
  ·simp[h,h2]
 trans a b c h h2:=zbt.2 (List.lt_trans (zbt.1 h) (zbt.1 h2))
theorem zmt:zaG Lib.compareInt where
 zero a b:=by unfold Lib.compareInt;repeat' split<;>omega
 anti a b:=by unfold Lib.compareInt;repeat' split<;>omega
 trans a b c:=by unfold Lib.compareInt;repeat' split<;>omega
def orZ (a b:Int):Int:=if a=0 then b else a
theorem zaG.or {α β γ:Type} {c:α->α->Int} {d:β->β->Int} (hc:zaG c) (hd:zaG d) (f:γ->α) (g:γ->β) (hi:∀x y,f x=f y->g x=g y->x=y):zaG λx y=>orZ (c (f x) (f y)) (d (g x) (g y)) where
 zero x y:=by
  unfold orZ;split
  ·rename_i h;rw[hd.zero];exact⟨λh2=>hi _ _ ((hc.zero _ _).1 h) h2,λh2=>by rw[h2]⟩
  ·rename_i h;exact⟨λh2=>absurd h2 h,λh2=>absurd ((hc.zero _ _).2 (by rw[h2])) h⟩
 anti x y:=by
  unfold orZ;by_cases h:c (f x) (f y)=0
  ·have:=(hc.zero _ _).1 h;rw[if_pos h,if_pos ((hc.zero _ _).2 this.symm)];exact hd.anti _ _
  ·rw[if_neg h,if_neg (λh2=>h ((hc.zero _ _).2 ((hc.zero _ _).1 h2).symm))];exact hc.anti _ _
 trans x y z:=by
  unfold orZ;by_cases h:c (f x) (f y)=0
  ·have e:=(hc.zero _ _).1 h;rw[if_pos h,e];by_cases h2:c (f y) (f z)=0
   ·simp only[if_pos h2];exact hd.trans _ _ _
   ·simp only[if_neg h2];exact λ_ h=>h
  ·rw[if_neg h];by_cases h2:c (f y) (f z)=0
   ·have e:=(hc.zero _ _).1 h2;rw[if_pos h2,←e,if_neg h];exact λh _=>h
   ·rw[if_neg h2];intro h3 h4;have h5:=hc.trans _ _ _ h3 h4;rw[if_neg (by omega)];exact h5
def cmpL {α:Type} (c:α->α->Int):List α->List α->Int
 | [],[]=>0
 | [],_::_=>-1
 |_::_,[]=>1
 |x::l,y::m=>if c x y=0 then cmpL c l m else c x y
theorem zaG.list {α:Type} {c:α->α->Int} (h:zaG c):zaG (cmpL c) where
 zero x:=by
  induction x with
  |nil=>intro y;cases y<;>simp[cmpL]
  |cons a x ih =>
   intro y;cases y with
   |nil=>simp[cmpL]
   |cons b y =>
    rw[cmpL];split
    ·rename_i e;rw[ih y,(h.zero _ _).1 e];simp
    ·rename_i e;simp only[List.cons.injEq];exact⟨λe2=>absurd e2 e,λe2=>absurd ((h.zero _ _).2 e2.1) e⟩
 anti x:=by
  induction x with
  |nil=>intro y;cases y<;>simp[cmpL]
  |cons a x ih =>
   intro y;cases y with
   |nil=>simp[cmpL]
   |cons b y =>
    rw[cmpL,cmpL];by_cases e:c a b=0
    ·rw[if_pos e,if_pos ((h.zero _ _).2 ((h.zero _ _).1 e).symm)];exact ih y
    ·rw[if_neg e,if_neg (λe2=>e ((h.zero _ _).2 ((h.zero _ _).1 e2).symm))];exact h.anti _ _
 trans x:=by
  induction x with
  |nil=>intro y z;cases y<;>cases z<;>simp[cmpL]
  |cons a x ih =>
   intro y z;cases y with
   |nil=>simp[cmpL]
   |cons b y =>
    cases z with
    |nil=>simp only[cmpL];intro _ h2;omega
    |cons d z =>
     rw[cmpL,cmpL,cmpL];by_cases e:c a b=0
     ·have e1:=(h.zero _ _).1 e;rw[if_pos e,e1];by_cases e2:c b d=0
      ·simp only[if_pos e2];exact ih _ _
      ·simp only[if_neg e2];exact λ_ h=>h
     ·rw[if_neg e];by_cases e2:c b d=0
      ·have e3:=(h.zero _ _).1 e2;rw[if_pos e2,←e3,if_neg e];exact λh _=>h
      ·rw[if_neg e2];intro h3 h4;have h5:=h.trans _ _ _ h3 h4;rw[if_neg (by omega)];exact h5
abbrev Sg:=ByteArray×Int
def qp (x y:Sg):Int:=orZ (Zj x.1 y.1) (Lib.compareInt x.2 y.2)
theorem zmu:zaG qp:=zaG.or XQ zmt Prod.fst Prod.snd λ_ _ h1 h2=>Prod.ext h1 h2
def zu (x y:List Sg):Int:=cmpL qp x y
theorem Z8:zaG zu:=zmu.list
def zB (x y:yU):Int:=orZ (Lib.compareInt x.state y.state) (zu x.env y.env)
theorem zbs:zaG zB:=zaG.or zmt Z8 yU.state yU.env λx y h1 h2=>by cases x;cases y;simp at h1 h2;rw[h1,h2]
section
variable {α : Type} (c : α → α → Int)
def Asc (l:List α):Prop:=l.Pairwise λx y=>c x y<0
def Y5:List α->α->List α
 | [],t=>[t]
 |x::r,t=>if c x t<0 then x::Y5 r t else if c x t=0 then t::r else t::x::r
def zgj (l:List α) (t:α):Nat:=l.countP λx=>decide (c x t<0)
variable {c}
theorem zhP (h:zaG c) {x:α} {r:List α} {t:α} (ha:Asc c (x::r)) (hx:¬c x t<0):zgj c (x::r) t=0:=by
 unfold zgj;rw[List.countP_eq_zero];intro y hy;simp only[decide_eq_true_eq];rcases List.mem_cons.1 hy with rfl|hy
 ·exact hx
 ·intro h2;exact hx (h.trans _ _ _ ((List.pairwise_cons.1 ha).1 y hy) h2)
theorem zhO {x:α} {r:List α} {t:α} (hx:c x t<0):zgj c (x::r) t=zgj c r t+1:=by unfold zgj;rw[List.countP_cons_of_pos (by simpa using hx)]
theorem zlp (h:zaG c) {l:List α} {t:α} (ha:Asc c l):Y5 c l t=if (l[zgj c l t]?).any (λx=>decide (c x t=0))=true then l else l.take (zgj c l t)++t::l.drop (zgj c l t):=by
 induction l with
 |nil=>simp[Y5,zgj]
 |cons x r ih =>
  rw[Y5];by_cases hx:c x t<0
  ·rw[if_pos hx,zhO hx,ih (List.pairwise_cons.1 ha).2];simp only[List.getElem?_cons_succ,List.take_succ_cons,List.drop_succ_cons,List.cons_append];split<;>rfl
  ·rw[if_neg hx,zhP h ha hx];simp only[List.getElem?_cons_zero,Option.any_some,decide_eq_true_eq,List.take_zero,List.drop_zero,List.nil_append];by_cases h0:c x t=0
   ·have:=(h.zero _ _).1 h0;subst this;simp only[if_pos h0]
   ·simp only[if_neg h0]
theorem zet {l:List α} {t y:α} (hy:y∈Y5 c l t):y=t\/y∈l:=by
 induction l with
 |nil=>simpa [Y5] using hy
 |cons x r ih =>
  rw[Y5]at hy;split at hy
  ·rcases List.mem_cons.1 hy with rfl|hy
   ·exact Or.inr (List.mem_cons_self ..)
   ·exact(ih hy).imp id λh=>List.mem_cons_of_mem _ h
  ·split at hy
   ·rcases List.mem_cons.1 hy with h|hy
    ·exact Or.inl h
    ·exact Or.inr (List.mem_cons_of_mem _ hy)
   ·rcases List.mem_cons.1 hy with h|hy
    ·exact Or.inl h
    ·exact Or.inr hy
theorem zbB (h:zaG c) {l:List α} {t:α} (ha:Asc c l):Asc c (Y5 c l t):=by
 induction l with
 |nil=>simp[Y5,Asc]
 |cons x r ih =>
  obtain⟨h1,h2⟩:=List.pairwise_cons.1 ha;rw[Y5];split
  ·rename_i hx;refine List.pairwise_cons.2 ⟨λy hy=>?_,ih h2⟩;rcases zet hy with rfl|hy
   ·exact hx
   ·exact h1 y hy
  ·split
   ·rename_i hx hx0;obtain rfl:=(h.zero _ _).1 hx0;exact ha
   ·rename_i hx hx0;have hx2:c t x<0:=(h.anti _ _).2 (by omega);refine List.pairwise_cons.2 ⟨λy hy=>?_,ha⟩;rcases List.mem_cons.1 hy with rfl|hy
    ·exact hx2
    ·exact h.trans _ _ _ hx2 (h1 y hy)
theorem zes (l:List α) (t:α):(Y5 c l t).length<=l.length+1:=by
 induction l with
 |nil=>simp[Y5]
 |cons x r ih=>rw[Y5];split<;>(try split)<;>simp<;>omega
end
def zbm (l:List Sg):Prop:=l.Pairwise λx y=>Zj x.1 y.1<0
def Z4:List Sg->ByteArray->Int->List Sg
 | [],nm,v=>[(nm,v)]
 |x::r,nm,v=>if Zj x.1 nm<0 then x::Z4 r nm v else if Zj x.1 nm=0 then (nm,v)::r else (nm,v)::x::r
def za3 (l:List Sg) (nm:ByteArray):Nat:=l.countP λx=>decide (Zj x.1 nm<0)
theorem zhR {x:Sg} {r:List Sg} {nm:ByteArray} (ha:zbm (x::r)) (hx:¬Zj x.1 nm<0):za3 (x::r) nm=0:=by
 unfold za3;rw[List.countP_eq_zero];intro y hy;simp only[decide_eq_true_eq];rcases List.mem_cons.1 hy with rfl|hy
 ·exact hx
 ·intro h2;exact hx (XQ.trans _ _ _ ((List.pairwise_cons.1 ha).1 y hy) h2)
theorem zhQ {x:Sg} {r:List Sg} {nm:ByteArray} (hx:Zj x.1 nm<0):za3 (x::r) nm=za3 r nm+1:=by unfold za3;rw[List.countP_cons_of_pos (by simpa using hx)]
theorem zlE (l:List Sg) (nm:ByteArray):za3 l nm<=l.length:=List.countP_le_length
theorem zlI {l:List Sg} {nm:ByteArray} {v:Int} (ha:zbm l):Z4 l nm v=if (l[za3 l nm]?).map Prod.fst=some nm then l.set (za3 l nm) (nm,v) else l.take (za3 l nm)++(nm,v)::l.drop (za3 l nm):=by
 induction l with
 |nil=>simp[Z4,za3]
 |cons x r ih =>
  rw[Z4];by_cases hx:Zj x.1 nm<0
  ·rw[if_pos hx,zhQ hx,ih (List.pairwise_cons.1 ha).2];simp only[List.getElem?_cons_succ,List.take_succ_cons,List.drop_succ_cons,List.cons_append,List.set_cons_succ];split<;>rfl
  ·rw[if_neg hx,zhR ha hx];simp only[List.getElem?_cons_zero,Option.map_some,Option.some.injEq,List.take_zero,List.drop_zero,List.nil_append,List.set_cons_zero];by_cases h0:Zj x.1 nm=0
   ·rw[if_pos h0,if_pos ((XQ.zero _ _).1 h0)]
   ·rw[if_neg h0,if_neg (λe=>h0 ((XQ.zero _ _).2 e))]
theorem zeL {l:List Sg} {nm:ByteArray} {v:Int} {y:Sg} (hy:y∈Z4 l nm v):y=(nm,v)\/y∈l:=by
 induction l with
 |nil=>simpa [Z4] using hy
 |cons x r ih =>
  rw[Z4]at hy;split at hy
  ·rcases List.mem_cons.1 hy with rfl|hy
   ·exact Or.inr (List.mem_cons_self ..)
   ·exact(ih hy).imp id λh=>List.mem_cons_of_mem _ h
  ·split at hy
   ·rcases List.mem_cons.1 hy with h|hy
    ·exact Or.inl h
    ·exact Or.inr (List.mem_cons_of_mem _ hy)
   ·rcases List.mem_cons.1 hy with h|hy
    ·exact Or.inl h
    ·exact Or.inr hy
theorem zbO {l:List Sg} {nm:ByteArray} {v:Int} (ha:zbm l):zbm (Z4 l nm v):=by
 induction l with
 |nil=>simp[Z4,zbm]
 |cons x r ih =>
  obtain⟨h1,h2⟩:=List.pairwise_cons.1 ha;rw[Z4];split
  ·rename_i hx;refine List.pairwise_cons.2 ⟨λy hy=>?_,ih h2⟩;rcases zeL hy with rfl|hy
   ·exact hx
   ·exact h1 y hy
  ·split
   ·rename_i hx hx0;have e:=(XQ.zero _ _).1 hx0;exact List.pairwise_cons.2 ⟨λy hy=>by rw[←e];exact h1 y hy,h2⟩
   ·rename_i hx hx0;have hx2:Zj nm x.1<0:=(XQ.anti _ _).2 (by omega);refine List.pairwise_cons.2 ⟨λy hy=>?_,ha⟩;rcases List.mem_cons.1 hy with rfl|hy
    ·exact hx2
    ·exact XQ.trans _ _ _ hx2 (h1 y hy)
theorem zeK (l:List Sg) (nm:ByteArray) (v:Int):(Z4 l nm v).length<=l.length+1:=by
 induction l with
 |nil=>simp[Z4]
 |cons x r ih=>rw[Z4];split<;>(try split)<;>simp<;>omega
def zey (l:List Sg) (k:Nat):Bool:=(List.range k).all λi=>decide (0<=(l.getD i (.empty,0)).2/\(l.getD i (.empty,0)).2<=65535/\(0<i->Zj (l.getD (i-1) (.empty,0)).1 (l.getD i (.empty,0)).1<0))
theorem zcz (l:List Sg) (k:Nat):zey l (k+1)=(zey l k&&decide (0<=(l.getD k (.empty,0)).2/\(l.getD k (.empty,0)).2<=65535/\(0<k->Zj (l.getD (k-1) (.empty,0)).1 (l.getD k (.empty,0)).1<0))):=by unfold zey;rw[List.range_succ,List.all_append];simp
def qf (l:List Sg):Bool:=zey l l.length
def qq (env:List Sg):List Sg:=env.foldr (λx l=>Z4 l x.1 (YJ x.2)) []
noncomputable def zmA (e:Ex):List Sg:=(zG [2] e).map (λs=>(s,0))++(zG [3,24] e).map (λs=>(s++⟨#[91,48,93]⟩,0))
noncomputable def qK (e:Ex) (loc env:List Sg):Int:=(ZZ (loc++env++zmA e) e).1
noncomputable def zI (l:List qi) (env loc:List Sg) (k:Nat):List Sg:=(l.take k).foldl (λl b=>Z4 l b.name (qK b.expr l env)) loc
noncomputable def xj (e:zn) (loc env:List Sg):Option (List Sg):=if e.guards.all (λg=>qK g loc env != 0) then some (zI e.sets env loc e.sets.length) else none
noncomputable def qZ (env:List Sg) (t:yU) (out:List yU) (e:zn):List yU:=if e.fr=t.state then (match xj e t.env env with|some loc=>Y5 zB out ⟨e.to,loc⟩|none=>out) else out
noncomputable def stepT (n:zm) (env:List Sg) (out:List yU) (t:yU) (k:Nat):List yU:=(n.edges.take k).foldl (qZ env t) out
noncomputable def yF (n:zm) (env:List Sg) (l:List yU) (k:Nat):List yU:=(l.take k).foldl (λout t=>stepT n env out t n.edges.length) []
def YI (n:zm) (t:yU):Bool:=decide (0<=t.state/\t.state<n.states)&&qf t.env
noncomputable def yq (n:zm) (l:List yU) (env:List Sg):List yU×Int :=
 if zY n=false then ([],1) else if l.all (YI n)=false then ([],1) else if 256<(yF n env l l.length).length then ([],2) else (yF n env l l.length,0)
def yP (n:zm) (l:List yU):List yU:=l.filter λt=>n.accept.contains t.state
def mvE (e:zn) (f t:Int):zn:={ e with fr:=f,to:=t }
def yo (n:zm):List zn:=n.edges.filter λe=>e.fr==0
def yd (n:zm):List zn:=n.edges.filter λe=>!(e.fr==0)
def yL (n:zm) (s:Int):List zn:=n.edges.filter λe=>e.fr==s
noncomputable def xB (nm:ByteArray) (by_:Ex) (e:Ex):Ex:=e.para λe l=>if e.op=2/\e.name=nm then by_ else .mk e.op e.n e.name l
theorem zas (nm:ByteArray) (by_:Ex) (e:Ex):xB nm by_ e=if e.op=2/\e.name=nm then by_ else .mk e.op e.n e.name (e.args.map (xB nm by_)):=by unfold xB;rw[Ex.para_eq]
noncomputable def x8 (l:List qi):Nat->Ex->Ex
 |0,g=>g
 |k+1,g=>if g.nodes.length<=400 then x8 l k (match l[k]? with|some b=>xB b.name b.expr g|none=>g) else g
noncomputable def zO (x y:zn) (to:Int):zn:=⟨x.fr,to,x.guards++y.guards.map (x8 x.sets x.sets.length),x.sets++y.sets⟩
def zJ (l:List Int) (n:zm) (base:Int):List zn:=l.flatMap λs=>(yo n).map λf=>mvE f s (base+f.to)
def Qt (n:zm) (base:Int):List zn:=(yd n).map λf=>mvE f (base+f.fr) (base+f.to)
def zW (hi:Int):Nat:=(hi-1).toNat
def qA (st:Int) (k:Nat):List zn:=(List.range k).map λ(i:Nat)=>⟨st+i,st+i+1,[],[]⟩
noncomputable def zfy (x y:zm) (base:Int):List zn:=x.edges.flatMap λe=>if x.accept.contains e.to then (yo y).map λf=>zO e f (base+f.to) else []
def Ys (x y:zm) (lo hi base:Int) (k:Nat):List zn:=(List.range k).flatMap λ(i:Nat)=>if lo<=i+2/\(i:Int)+2<=hi then zJ [x.states+i] y base else []
noncomputable def yC (lo hi:Int) (x y:zm):zm :=
 let base:=x.states+zW hi-1
 ⟨base+y.states,
  x.edges++(if 0<zW hi then x.accept.map (λa=>⟨a,x.states,[],[]⟩)++qA x.states (zW hi-1) else [])++(if lo=0 then zfy x y base else []) ++
   (if lo<=1/\1<=hi then zJ x.accept y base else [])++Ys x y lo hi base (zW hi)++Qt y base,
  y.accept.map (base+·)⟩
def Xy (n:zm):Nat->List zn
 |0=>[]
 |1=>n.edges
 |c+1=>Xy n c++zJ (n.accept.map λa=>((c:Int)-1)*(n.states-1)+a) n (c*(n.states-1))++Qt n (c*(n.states-1))
def Yn (n:zm) (lo:Int) (c:Nat):List Int:=(List.range c).flatMap λ(i:Nat)=>if lo<=i+1 then n.accept.map λa=>(i:Int)*(n.states-1)+a else []
def zcP (lo hi:Int) (n:zm):zm:=⟨1+hi*(n.states-1),Xy n hi.toNat,Yn n lo hi.toNat⟩
def xJ (base s:Int):Int:=if s=0 then 0 else base+s
def xG (out n:zm):zm:=⟨out.states+(n.states-1),out.edges++n.edges.map (λe=>mvE e (xJ (out.states-1) e.fr) (xJ (out.states-1) e.to)),out.accept++n.accept.map (xJ (out.states-1))⟩
def orN (parts:List zm):zm:=parts.foldl xG ⟨1,[],[]⟩
def zax (nm:ByteArray) (x:Ex) (n:zm):zm :=
 ⟨n.states+n.accept.length,
  n.edges++n.edges.filterMap λe=>if n.accept.contains e.to then some ⟨e.fr,n.states+(n.accept.idxOf e.to:Nat),e.guards,e.sets++[⟨nm,x⟩]⟩ else none,
  (List.range n.accept.length).map λi=>n.states+(i:Nat)⟩
def Qs (x:Ex) (n:zm):zm:=⟨n.states,n.edges.map λe=>{ e with guards:=e.guards++[x] },n.accept⟩
structure zU where
 pairs:List (Int×Int)
 edges:List zn
def toJ (i:Nat) (g:List Ex) (j:zU) (p:Int×Int):zU:=⟨if j.pairs.contains p then j.pairs else j.pairs++[p],j.edges++[⟨i,(j.pairs.idxOf p:Nat),g,[]⟩]⟩
def Xc (s t:Int) (l r:Bool):List (Int×Int):=(s,t)::((if l then [(-1,t)] else [])++(if r then [(s,-1)] else [])++(if l&&r then [(-1,-1)] else []))
def Y1 (i:Nat) (g:List Ex) (s t:Int) (l r:Bool) (j:zU):zU:=(Xc s t l r).foldl (toJ i g) j
def zk9 (x y:zm) (i:Nat) (p:Int×Int) (j:zU):zU :=
 (yL x p.1).foldl (λj e=>(yL y p.2).foldl (λj f=>Y1 i (e.guards++f.guards) e.to f.to (x.accept.contains e.to) (y.accept.contains f.to) j) j) j
def zlq (x:zm) (i:Nat) (s:Int) (j:zU):zU:=(yL x s).foldl (λj e=>Y1 i e.guards e.to (-1) (x.accept.contains e.to) false j) j
def zhX (y:zm) (i:Nat) (t:Int) (j:zU):zU:=(yL y t).foldl (λj f=>Y1 i f.guards (-1) f.to false (y.accept.contains f.to) j) j
def XY (x y:zm) (i:Nat) (j:zU):zU :=
 match j.pairs[i]? with
 |none=>j
 |some p=>if p.1=-1/\p.2=-1 then j else if p.1=-1 then zhX y i p.2 j else if p.2=-1 then zlq x i p.1 j else zk9 x y i p j
def yc (x y:zm):Nat->zU
 |0=>⟨[(0,0)],[]⟩
 |i+1=>XY x y i (yc x y i)
theorem Zs (x y:zm):yc x y 0=⟨[(0,0)],[]⟩:=rfl
theorem qP (x y:zm) (i:Nat):yc x y (i+1)=XY x y i (yc x y i):=rfl
attribute [irreducible] yc
def xv (j:zU):zm:=⟨j.pairs.length,j.edges,if j.pairs.contains (-1,-1) then [(j.pairs.idxOf (-1,-1):Nat)] else []⟩
noncomputable def doneN (n:zm):Option zm:=if zY n then some n else none
noncomputable def zb9 (x y:zm):Option zm:=if (yc x y 256).pairs.length<=256 then doneN (xv (yc x y 256)) else none
noncomputable def Xd:zm->List zm->Option zm
 |n,[]=>some n
 |n,m::r=>match zb9 n m with|some k=>Xd k r|none=>none
noncomputable def Zb (s:Tq) (ps:List zm):Option zm :=
 if s.op=1 then doneN ⟨2,[⟨0,1,[s.expr],[]⟩],[1]⟩
 else if s.op=2 then doneN (yC s.lo s.hi (ps.getD 0 ⟨0,[],[]⟩) (ps.getD 1 ⟨0,[],[]⟩))
 else if s.op=3 then doneN (zcP s.lo s.hi (ps.getD 0 ⟨0,[],[]⟩))
 else if s.op=4 then doneN (orN ps)
 else if s.op=5 then Xd (ps.getD 0 ⟨0,[],[]⟩) ps.tail
 else if s.op=6 then doneN (zax s.name s.expr (ps.getD 0 ⟨0,[],[]⟩))
 else doneN (Qs s.expr (ps.getD 0 ⟨0,[],[]⟩))
noncomputable def qW:List (Option zm)->Option (List zm)
 | []=>some []
 |none::_=>none
 |some n::r=>(qW r).map (n::·)
noncomputable def yz (s:Tq):Option zm:=s.para λs ps=>match qW ps with|none=>none|some l=>Zb s l
theorem Yx (s:Tq):yz s=match qW (s.args.map yz) with|none=>none|some l=>Zb s l:=by unfold yz;rw[Tq.para_eq]
attribute [local go_sem ↓] Go.wp_at_zero Go.wp_at_succ
theorem Xk:Elem Tryz.prog 22 24 4:=Elem.of Tryz.underlying22 (by kernel_rfl) (z:=.agg #[.int .i64 0,.int .i64 0,.string .empty,.slice none 0 0]) (bytes:=56) rfl (by decide) (by decide)
theorem zh {X:World} {cs:Array Value} {t:TypeId} {b:Nat} (h:b=X.heap.size):(X.alloc (.cells cs t)).heap[b]? = some (.cells cs t (0,0)):=zq _ _ _ h
theorem zk {X:World} {o:Obj} {b:Nat} {z:Obj} (h:X.heap[b]? = some z):(X.alloc o).heap[b]? = some z:=(Below.heap_alloc X o b (lt_of_block h)).trans h
theorem yx {B:Nat} {a w:World} (h:Below B a w:=by repeat (first|with_reducible assumption|with_reducible exact Below.refl _ _|with_reducible refine Below.drew ?_|with_reducible refine below_drewN ?_ _|((with_reducible refine Below.alloc ?_ ?_ _);rotate_left;exact sz)|((with_reducible refine Below.setCell ?_ ?_ _);rotate_left;exact sz))):Below B a w:=h
def yp (w:World) (e:Ex) (r:Ending) (w':World):Prop:=(∃a c,r=.returned (yu e a c)/\yY (World.hide w' (old w.heap.size)) e a c)/\Below w.heap.size w w'
theorem xH {fn:Func} {p:Tmp} {ty:TypeId} (h:fn.results=#[.cell p ty]) (tmps:Array Value) (P:Program) (w:World) :
 (results fn tmps).run P w=((asAddr (tmps.getD p undef)).run P w).andThen λa w₁=>(loadVar ty a).run P w₁:=by
 simp only[results,h];simp[Sem.run_bind,Result.andThen]
theorem zal {w:World} {b:Nat} {z0 z1 z2 z3 u0 u1 u2 u3:Value} {t:TypeId} (h:w.heap[b]? = some (.cells #[z0,z1,z2,z3] t (0,0))) :
 ((((w.setCell ⟨b,0,none⟩ u0).setCell ⟨b,1,none⟩ u1).setCell ⟨b,2,none⟩ u2).setCell ⟨b,3,none⟩ u3).heap[b]? = some (.cells #[u0,u1,u2,u3] t (0,0)):=by
 have h0:=heap_setCell_same _ b 0 _ t u0 h;have h1:=heap_setCell_same _ b 1 _ t u1 h0;have h2:=heap_setCell_same _ b 2 _ t u2 h1;have h3:=heap_setCell_same _ b 3 _ t u3 h2;rw[h3];rfl
theorem zlh (W:World) (tm:Array Value) (b:Nat) (m0 m1 m2 m3:Value) (hW:W.heap[b]? = some (.cells #[m0,m1,m2,m3] 24 (0,0))) (h0:tm.getD 2 undef=.pointer (some ⟨b,0,none⟩)) :
 (results Tryz.f123 tm).run Tryz.prog W=.ok (.agg #[m0,m1,m2,m3]) W:=by
 have hr : Tryz.f123.results=#[.cell 2 24]:=rfl;have c0:=zc hW 0;have c1:=zc hW 1;have c2:=zc hW 2;have c3:=zc hW 3;simp at c0 c1 c2 c3;rw[xH hr,h0];simp[asAddr];go_simp
theorem zfx (e:Ex):∀(ea:Option Addr) (ec:Nat) (w:World),yY w e ea ec->Calls Tryz.prog 123 #[yu e ea ec] w (yp w e):=by
 induction e using Ex.ind with
 |h e ih =>
  intro ea ec w hX;obtain⟨op,n,s,args⟩:=e;have hsz:=hX.1;have hE:=hX.2;simp only[Ex.name_mk,Ex.args_mk]at hsz hE ih;have HIH:Hid (∀k (hk:k<args.length),∀a c W,yY W (args[k]'hk) a c->Calls Tryz.prog 123 #[yu (args[k]'hk) a c] W λr w'=>(∃a' c',r=.returned (yu (args[k]'hk) a' c')/\yY (World.hide w' (old W.heap.size)) (args[k]'hk) a' c')/\Below W.heap.size W w'):=λk hk a c W h=>ih _ (List.getElem_mem hk) a c W h;have hlen:=hE.2.1;have HEl:Hid (args.length=0\/∃b off,ea=some ⟨b,off,none⟩):=hE.addr;have HE:=Lib.hid hE;have HP:Hid (∀a c W,Z6 (World.hide W (old w.heap.size)) args a c->Below w.heap.size w W->yp w (.mk op n s args) (.returned (.agg #[.int .i64 op,.int .i64 n,.string s,.slice a args.length c])) W):=λa c W h1 h2=>⟨⟨a,c,rfl,hsz,h1⟩,h2⟩;clear hX hE ih hsz;simp only[yu,Ex.op_mk,Ex.n_mk,Ex.name_mk,Ex.args_mk]at HIH⊢;generalize yp w (.mk op n s args)=Po at HP⊢;go_enter Tryz.func123, Tryz.ntmps123;go_wp2_with fail;generalize hW2:(w.alloc (.cells #[.int .i64 op,.int .i64 n,.string s,.slice ea args.length ec] 24)).alloc (.cells #[.int .i64 0,.int .i64 0,.string ⟨#[]⟩,.slice none 0 0] 24)=W2;have hz2:w.heap.size+2<=W2.heap.size:=by rw[←hW2];simp
  have hz2b:W2.heap.size<=w.heap.size+2:=by rw[←hW2];simp
  have HB2:Hid (Below w.heap.size w W2):=by show Below _ _ _;rw[←hW2];exact yx
  have HX2:Hid (W2.heap[w.heap.size]? = some (.cells #[.int .i64 op,.int .i64 n,.string s,.slice ea args.length ec] 24 (0,0))):=by show _=_;rw[←hW2];exact zk (zh rfl)
  have HR2:Hid (W2.heap[w.heap.size+1]? = some (.cells #[.int .i64 0,.int .i64 0,.string ⟨#[]⟩,.slice none 0 0] 24 (0,0))):=by show _=_;rw[←hW2];exact zh (by simp)
  clear hW2;have b3:=zc HX2.out 3;simp at b3;go_wp2_with fail;clear b3;go_loopw [9,3,5] (λi v _ wr=>∃(k:Nat),i=.int .i64 k/\k<=args.length/\Hid (exE.Own 24 (old W2.heap.size) wr W2.heap.size v (args.take k))/\Hid (Below W2.heap.size W2 wr)) (λi _ _ _=>args.length-(intOf i).toNat);case atStart=>exact⟨0,rfl,Nat.zero_le _,Enc.Own.nil _ _ _ _ _,Below.refl _ _⟩
  case round =>
   obtain⟨k,rfl,hk,HO,HBr⟩:=hrel;have HBw:=Lib.hid (HB2.out.trans (HBr.out.mono (by omega)));have hzr:=HBr.out.size;have HLk:Hid ((args.take k).length=k):=List.length_take_of_le hk;by_cases hlt:k<args.length
   ·obtain⟨bE,oE,hEa⟩:=HEl.out.resolve_left (by omega);have HE':Hid (Z6 w args (some ⟨bE,oE,none⟩) ec):=by show Z6 _ _ _ _;rw[←hEa];exact HE.out
    obtain⟨xa,xc,g0,g1,g2,g3,hX⟩:=(HE'.out.keep (za HBw.out)).get rfl hlt;have HXe:=Lib.hid hX;have HC:=Lib.hid (λW (hW:Below wr.heap.size wr W)=>HIH.out k hlt xa xc W (hX.keep (za hW)));subst hEa;have HLx:Hid (args.take k++[args[k]'hlt]=args.take (k+1)):=(List.take_succ_eq_append_getElem hlt).symm;obtain⟨va,vc,hv,_⟩:=HO.out.slice (by rw[HLk.out];omega);rw[HLk.out]at hv;subst hv;have HVo:Hid (∀q,(Value.slice va k vc).ownBlock=some q->W2.heap.size<=q/\q<wr.heap.size):=by obtain⟨xs,h1,_⟩:=HO.out;exact h1.lt
    clear hX;generalize (args[k]'hlt)=y at g0 g1 g2 g3 HXe HC HLx;go_wp2_with fail;refine(HC.out _ yx).mono ?_;rintro r w5 ⟨⟨a',c',rfl,hx5⟩,hb5⟩;have HX5:=Lib.hid hx5;have hz5:=hb5.size;simp only[World.size_alloc]at hz5;have HW5:Hid (Below wr.heap.size wr w5):=((Below.refl wr.heap.size wr).alloc (Nat.le_refl _) _).trans (hb5.mono (by simp));have HO5:=Lib.hid (HO.out.below HW5.out);clear hx5 hb5 g0 g1 g2 g3;go_wp2_with (at_builtin;go_must (refine yi (E:=exE) Xk _ rfl (.tmp 13) (.tmp 16) rfl (old W2.heap.size) W2.heap.size _ rfl HO5.out y [.int .i64 y.op,.int .i64 y.n,.string y.name,.slice a' y.args.length c'] ⟨a',c',rfl,HX5.out.keep (zR ?hm)⟩ _ _ rfl rfl k HLk.out (by omega) (by omega) ?_));case hm =>
     intro q hq;rcases ze.1 hq with hq|hq
     ·have:=yh.1 hq;exact yh.2 (by simp;omega)
     ·have:=(HVo.out q hq).2;exact yh.2 (by simp;omega)
    intro g cap w7 ho hg hat
    rw[HLx.out]at ho;have HO7:=Lib.hid ho;have HB7:Hid (Below W2.heap.size W2 w7):=Below.grown (HBr.out.trans (HW5.out.mono hzr)) hg (by omega) (λq hq=>(HVo.out q hq).1);clear ho hg hat HLx;go_wp2_with fail;go_roundw;case rel=>exact⟨k+1,by go_num,by omega,HO7.out,HB7.out⟩
    case measure=>(simp[intOf];try omega)
   ·obtain rfl:k=args.length:=by omega
    obtain⟨va,vc,hv,hes⟩:=HO.out.sliceP (by rw[HLk.out];omega) (λk hk=>by
     cases h9:old W2.heap.size k with
     |false=>rfl
     |true=>have:=yh.1 h9;omega)
    rw[List.take_length]at hv hes;subst hv;have HS:Hid (Z6 (World.hide wr (old W2.heap.size)) args va vc):=zg3.1 hes;have hx:wr.heap[w.heap.size]? = some (.cells #[.int .i64 op,.int .i64 n,.string s,.slice ea args.length ec] 24 (0,0)):=(HBr.out.block _ (by omega)).trans HX2.out;have hr:wr.heap[w.heap.size+1]? = some (.cells #[.int .i64 0,.int .i64 0,.string ⟨#[]⟩,.slice none 0 0] 24 (0,0)):=(HBr.out.block _ (by omega)).trans HR2.out;have HR:=Lib.hid hr;have HBe:=Lib.hid HBw.out;have b0:=zc hx 0;have b1:=zc hx 1;have b2:=zc hx 2;have b3:=zc hx 3;have r0:=zc hr 0;have r1:=zc hr 1;have r2:=zc hr 2;have r3:=zc hr 3;simp at b0 b1 b2 b3 r0 r1 r2 r3;have q3:wr.frozen? ⟨w.heap.size,3,none⟩=false:=by simp[World.frozen?,hx]
    have f0:wr.frozen? ⟨w.heap.size+1,0,none⟩=false:=by simp[World.frozen?,hr]
    have f1:wr.frozen? ⟨w.heap.size+1,1,none⟩=false:=by simp[World.frozen?,hr]
    have f2:wr.frozen? ⟨w.heap.size+1,2,none⟩=false:=by simp[World.frozen?,hr]
    have f3:wr.frozen? ⟨w.heap.size+1,3,none⟩=false:=by simp[World.frozen?,hr]
    clear hx hr hes;have HRb:=Lib.hid HR.out;go_wp2_with fail;have hrb:(wr.setCell ⟨w.heap.size,3,none⟩ (.slice va args.length vc)).heap[w.heap.size+1]? = some (.cells #[.int .i64 0,.int .i64 0,.string ⟨#[]⟩,.slice none 0 0] 24 (0,0)):=by rw[Below.heap_setCell _ ⟨w.heap.size,3,none⟩ _ (w.heap.size+1) (by show w.heap.size+1≠w.heap.size;omega)];exact HRb.out
    have o0:old W2.heap.size w.heap.size=true:=yh.2 (by omega);have o1:old W2.heap.size (w.heap.size+1)=true:=yh.2 (by omega);refine bodyPost_ret (v:=.agg #[.int .i64 op,.int .i64 n,.string s,.slice va args.length vc]) (zlh _ _ (w.heap.size+1) _ _ _ _ (zal hrb) rfl) rfl ?_;refine HP.out va vc _ ?_ ?_
    ·exact HS.out.keep (Kp.trans (zj o0) (Kp.trans (zj o1) (Kp.trans (zj o1) (Kp.trans (zj o1) (Kp.trans (zj o1) (zR λk hk=>yh.2 (by have:=yh.1 hk;omega)))))))
    ·exact((((HBe.out.setCell (Nat.le_refl _) _).setCell (by simp) _).setCell (by simp) _).setCell (by simp) _).setCell (by simp) _
theorem zgY:Elem Tryz.prog 30 69 4:=Elem.of Tryz.underlying30 (by kernel_rfl) (z:=.agg #[.int .i64 0,.int .i64 0,.slice none 0 0,.slice none 0 0]) (bytes:=64) rfl (by decide) (by decide)
theorem zci:Elem Tryz.prog 67 85 5:=Elem.of Tryz.underlying67 (by kernel_rfl) (z:=.agg #[.string .empty,.int .i64 0,.int .i64 0,.string .empty,.slice none 0 0]) (bytes:=72) rfl (by decide) (by decide)
theorem Qm:Elem Tryz.prog 39 78 2:=Elem.of Tryz.underlying39 (by kernel_rfl) (z:=.agg #[.string .empty,.int .i64 0]) (bytes:=24) rfl (by decide) (by decide)
def yS {τ:Type} (E:Enc τ) (t:TypeId) (p:Nat->Bool) (l:List τ) (w:World) (e:Ending) (w':World):Prop:=(∃v,e=.returned v/\E.Own t p w' w.heap.size v l)/\Below w.heap.size w w'
theorem zdn (p:Nat->Bool) (l:List _) (a:Option Addr) (c:Nat) (w:World) (h:edE.In (World.hide w p) l a c) :
 Calls Tryz.prog 205 #[.slice a l.length c] w (yS edE 69 p l w):=by
 have q1:∀(w:World) (a:Option Addr) (n c n' c':Nat),(binOp .eql 30 (.slice a n c) (.slice none n' c')).run Tryz.prog w=.ok (.bool a.isNone) w:=λw a n c n' c'=>Lib.run_eql_slice_nil w _ _ a n c n' c' Tryz.underlying30;have HL:=Lib.hid h.len;rcases a with _|ad
 ·have h0:l.length=0:=by
   rcases h.addr with h|⟨b,off,h⟩
   ·exact h
   ·simp at h
  obtain rfl:l=[]:=List.eq_nil_of_length_eq_zero h0;clear h h0 HL;go_enter Tryz.func205, Tryz.ntmps205;go_wp2_with fail;go_ret;exact⟨⟨_,rfl,Enc.Own.nil _ _ _ _ _⟩,bel⟩
 ·have HP:Hid (∀v w',edE.Own 69 p w' w.heap.size v l->Below w.heap.size w w'->yS edE 69 p l w (.returned v) w'):=λv w' h1 h2=>⟨⟨v,rfl,h1⟩,h2⟩;have HI:Hid (edE.In (World.hide (w.alloc (.cells #[] 69)) (hid p (.slice (some ⟨w.heap.size,0,none⟩) 0 0))) l (some ad) c):=h.keep (zg ((Below.refl _ w).alloc (Nat.le_refl _) _) λk hk hq=>by
   rcases ze.1 hq with hq|hq
   ·exact hq
   ·have:=Option.some.inj hq;simp only at this;omega)
  have HO0:Hid (edE.Own 69 p (w.alloc (.cells #[] 69)) w.heap.size (.slice (some ⟨w.heap.size,0,none⟩) 0 0) []):=⟨[],World.ownsRow_made w #[] 0 (Nat.le_refl _) (Nat.zero_le _) rfl,Enc.Vals.nil _⟩;clear h;generalize yS edE 69 p l w=Po at HP⊢;generalize hn:l.length=n;have HN:=Lib.hid hn;go_enter Tryz.func205, Tryz.ntmps205;clear hn;go_wp2_with (at_builtin;go_must (refine xu (E:=edE) zgY _ rfl _ _ rfl p w.heap.size _ rfl HO0.out (some ad) c HI.out (by rw[HN.out];rfl) ?ql (by simp) ?_));case ql=>have:=HL.out;simp;omega
  intro v' w1 hown hgrow hat
  have HO:Hid (edE.Own 69 p w1 w.heap.size v' l):=Lib.hid (by simpa using hown);have HB:Hid (Below w.heap.size w w1):=((Below.refl _ w).alloc (Nat.le_refl _) _).grown hgrow (by simp) (by intro k hk;simp[Value.ownBlock]at hk;omega);clear hown hgrow hat
  obtain⟨a',c',hv,_⟩:=HO.out.slice HL.out;subst hv;go_wp2_with fail;first|exact HP.out _ _ HO.out HB.out|(go_ret;exact HP.out _ _ HO.out HB.out)
theorem zgI (p:Nat->Bool) (l:List _) (a:Option Addr) (c:Nat) (w:World) (h:exE.In (World.hide w p) l a c) :
 Calls Tryz.prog 146 #[.slice a l.length c] w (yS exE 24 p l w):=by
 have q1:∀(w:World) (a:Option Addr) (n c n' c':Nat),(binOp .eql 22 (.slice a n c) (.slice none n' c')).run Tryz.prog w=.ok (.bool a.isNone) w:=λw a n c n' c'=>Lib.run_eql_slice_nil w _ _ a n c n' c' Tryz.underlying22;have HL:=Lib.hid h.len;rcases a with _|ad
 ·have h0:l.length=0:=by
   rcases h.addr with h|⟨b,off,h⟩
   ·exact h
   ·simp at h
  obtain rfl:l=[]:=List.eq_nil_of_length_eq_zero h0;clear h h0 HL;go_enter Tryz.func146, Tryz.ntmps146;go_wp2_with fail;go_ret;exact⟨⟨_,rfl,Enc.Own.nil _ _ _ _ _⟩,bel⟩
 ·have HP:Hid (∀v w',exE.Own 24 p w' w.heap.size v l->Below w.heap.size w w'->yS exE 24 p l w (.returned v) w'):=λv w' h1 h2=>⟨⟨v,rfl,h1⟩,h2⟩;have HI:Hid (exE.In (World.hide (w.alloc (.cells #[] 24)) (hid p (.slice (some ⟨w.heap.size,0,none⟩) 0 0))) l (some ad) c):=h.keep (zg ((Below.refl _ w).alloc (Nat.le_refl _) _) λk hk hq=>by
   rcases ze.1 hq with hq|hq
   ·exact hq
   ·have:=Option.some.inj hq;simp only at this;omega)
  have HO0:Hid (exE.Own 24 p (w.alloc (.cells #[] 24)) w.heap.size (.slice (some ⟨w.heap.size,0,none⟩) 0 0) []):=⟨[],World.ownsRow_made w #[] 0 (Nat.le_refl _) (Nat.zero_le _) rfl,Enc.Vals.nil _⟩;clear h;generalize yS exE 24 p l w=Po at HP⊢;generalize hn:l.length=n;have HN:=Lib.hid hn;go_enter Tryz.func146, Tryz.ntmps146;clear hn;go_wp2_with (at_builtin;go_must (refine xu (E:=exE) Xk _ rfl _ _ rfl p w.heap.size _ rfl HO0.out (some ad) c HI.out (by rw[HN.out];rfl) ?ql (by simp) ?_));case ql=>have:=HL.out;simp;omega
  intro v' w1 hown hgrow hat
  have HO:Hid (exE.Own 24 p w1 w.heap.size v' l):=Lib.hid (by simpa using hown);have HB:Hid (Below w.heap.size w w1):=((Below.refl _ w).alloc (Nat.le_refl _) _).grown hgrow (by simp) (by intro k hk;simp[Value.ownBlock]at hk;omega);clear hown hgrow hat
  obtain⟨a',c',hv,_⟩:=HO.out.slice HL.out;subst hv;go_wp2_with fail;first|exact HP.out _ _ HO.out HB.out|(go_ret;exact HP.out _ _ HO.out HB.out)
theorem zlc (p:Nat->Bool) (l:List _) (a:Option Addr) (c:Nat) (w:World) (h:bdE.In (World.hide w p) l a c) :
 Calls Tryz.prog 145 #[.slice a l.length c] w (yS bdE 85 p l w):=by
 have q1:∀(w:World) (a:Option Addr) (n c n' c':Nat),(binOp .eql 67 (.slice a n c) (.slice none n' c')).run Tryz.prog w=.ok (.bool a.isNone) w:=λw a n c n' c'=>Lib.run_eql_slice_nil w _ _ a n c n' c' Tryz.underlying67;have HL:=Lib.hid h.len;rcases a with _|ad
 ·have h0:l.length=0:=by
   rcases h.addr with h|⟨b,off,h⟩
   ·exact h
   ·simp at h
  obtain rfl:l=[]:=List.eq_nil_of_length_eq_zero h0;clear h h0 HL;go_enter Tryz.func145, Tryz.ntmps145;go_wp2_with fail;go_ret;exact⟨⟨_,rfl,Enc.Own.nil _ _ _ _ _⟩,bel⟩
 ·have HP:Hid (∀v w',bdE.Own 85 p w' w.heap.size v l->Below w.heap.size w w'->yS bdE 85 p l w (.returned v) w'):=λv w' h1 h2=>⟨⟨v,rfl,h1⟩,h2⟩;have HI:Hid (bdE.In (World.hide (w.alloc (.cells #[] 85)) (hid p (.slice (some ⟨w.heap.size,0,none⟩) 0 0))) l (some ad) c):=h.keep (zg ((Below.refl _ w).alloc (Nat.le_refl _) _) λk hk hq=>by
   rcases ze.1 hq with hq|hq
   ·exact hq
   ·have:=Option.some.inj hq;simp only at this;omega)
  have HO0:Hid (bdE.Own 85 p (w.alloc (.cells #[] 85)) w.heap.size (.slice (some ⟨w.heap.size,0,none⟩) 0 0) []):=⟨[],World.ownsRow_made w #[] 0 (Nat.le_refl _) (Nat.zero_le _) rfl,Enc.Vals.nil _⟩;clear h;generalize yS bdE 85 p l w=Po at HP⊢;generalize hn:l.length=n;have HN:=Lib.hid hn;go_enter Tryz.func145, Tryz.ntmps145;clear hn;go_wp2_with (at_builtin;go_must (refine xu (E:=bdE) zci _ rfl _ _ rfl p w.heap.size _ rfl HO0.out (some ad) c HI.out (by rw[HN.out];rfl) ?ql (by simp) ?_));case ql=>have:=HL.out;simp;omega
  intro v' w1 hown hgrow hat
  have HO:Hid (bdE.Own 85 p w1 w.heap.size v' l):=Lib.hid (by simpa using hown);have HB:Hid (Below w.heap.size w w1):=((Below.refl _ w).alloc (Nat.le_refl _) _).grown hgrow (by simp) (by intro k hk;simp[Value.ownBlock]at hk;omega);clear hown hgrow hat
  obtain⟨a',c',hv,_⟩:=HO.out.slice HL.out;subst hv;go_wp2_with fail;first|exact HP.out _ _ HO.out HB.out|(go_ret;exact HP.out _ _ HO.out HB.out)
theorem zdo (p:Nat->Bool) (l:List _) (a:Option Addr) (c:Nat) (w:World) (h:sgE.In (World.hide w p) l a c) :
 Calls Tryz.prog 61 #[.slice a l.length c] w (yS sgE 78 p l w):=by
 have q1:∀(w:World) (a:Option Addr) (n c n' c':Nat),(binOp .eql 39 (.slice a n c) (.slice none n' c')).run Tryz.prog w=.ok (.bool a.isNone) w:=λw a n c n' c'=>Lib.run_eql_slice_nil w _ _ a n c n' c' Tryz.underlying39;have HL:=Lib.hid h.len;rcases a with _|ad
 ·have h0:l.length=0:=by
   rcases h.addr with h|⟨b,off,h⟩
   ·exact h
   ·simp at h
  obtain rfl:l=[]:=List.eq_nil_of_length_eq_zero h0;clear h h0 HL;go_enter Tryz.func61, Tryz.ntmps61;go_wp2_with fail;go_ret;exact⟨⟨_,rfl,Enc.Own.nil _ _ _ _ _⟩,bel⟩
 ·have HP:Hid (∀v w',sgE.Own 78 p w' w.heap.size v l->Below w.heap.size w w'->yS sgE 78 p l w (.returned v) w'):=λv w' h1 h2=>⟨⟨v,rfl,h1⟩,h2⟩;have HI:Hid (sgE.In (World.hide (w.alloc (.cells #[] 78)) (hid p (.slice (some ⟨w.heap.size,0,none⟩) 0 0))) l (some ad) c):=h.keep (zg ((Below.refl _ w).alloc (Nat.le_refl _) _) λk hk hq=>by
   rcases ze.1 hq with hq|hq
   ·exact hq
   ·have:=Option.some.inj hq;simp only at this;omega)
  have HO0:Hid (sgE.Own 78 p (w.alloc (.cells #[] 78)) w.heap.size (.slice (some ⟨w.heap.size,0,none⟩) 0 0) []):=⟨[],World.ownsRow_made w #[] 0 (Nat.le_refl _) (Nat.zero_le _) rfl,Enc.Vals.nil _⟩;clear h;generalize yS sgE 78 p l w=Po at HP⊢;generalize hn:l.length=n;have HN:=Lib.hid hn;go_enter Tryz.func61, Tryz.ntmps61;clear hn;go_wp2_with (at_builtin;go_must (refine xu (E:=sgE) Qm _ rfl _ _ rfl p w.heap.size _ rfl HO0.out (some ad) c HI.out (by rw[HN.out];rfl) ?ql (by simp) ?_));case ql=>have:=HL.out;simp;omega
  intro v' w1 hown hgrow hat
  have HO:Hid (sgE.Own 78 p w1 w.heap.size v' l):=Lib.hid (by simpa using hown);have HB:Hid (Below w.heap.size w w1):=((Below.refl _ w).alloc (Nat.le_refl _) _).grown hgrow (by simp) (by intro k hk;simp[Value.ownBlock]at hk;omega);clear hown hgrow hat
  obtain⟨a',c',hv,_⟩:=HO.out.slice HL.out;subst hv;go_wp2_with fail;first|exact HP.out _ _ HO.out HB.out|(go_ret;exact HP.out _ _ HO.out HB.out)
def ZR (t:TypeId) (size:Nat) (w:World) (e:Ending) (w':World):Prop:=∃v,e=.returned v/\w'.ownsRow w.heap.size t size v 0 []/\Below w.heap.size w w'
def q8 {τ:Type} (E:Enc τ) (t:TypeId) (p:Nat->Bool) (w:World) (l:List τ) (v:Value) (wr:World):Prop:=E.Own t p wr w.heap.size v l/\Below w.heap.size w wr
theorem zl {τ:Type} {E:Enc τ} {t:TypeId} {p:Nat->Bool} {w:World} {B:Nat} {v:Value} {l:List τ} (h:E.Own t p w B v l):∀j,v.ownBlock=some j->B<=j/\j<w.heap.size:=by obtain⟨xs,h1,_⟩:=h;exact h1.lt
theorem qr {p:Nat->Bool} {w wr:World} {v:Value} (hb:Below w.heap.size w wr) (hv:∀j,v.ownBlock=some j->w.heap.size<=j):Kp (World.hide w p) (World.hide wr (hid p v)) :=
 zg hb λk hk hq=>(ze.1 hq).elim id λe=>by have:=hv k e;omega
theorem zmD (n:Nat) (hn:n<=4294967296) (w:World):Calls Tryz.prog 274 #[.slice none 0 0,.int .i64 n] w (ZR 24 4 w):=by
 by_cases h0:n=0
 ·subst h0;show Calls _ _ _ _ λe w'=>ZR 24 4 w e w';go_enter Tryz.func274, Tryz.ntmps274;go_wp2_with fail;go_ret;exact⟨_,rfl,World.ownsRow_nil _ _ _ _,Below.refl _ _⟩
 ·obtain⟨i,h1,h2,h3,h4⟩:=info_parts (show (Tryz.prog.info? 24).map (λi=>(i.zero,i.size,i.bytes))=some (some (.agg #[.int .i64 0,.int .i64 0,.string .empty,.slice none 0 0]),4,56) from by kernel_rfl);have hpos:1<=n:=by omega
  have hge:=grownCap_ge w n 0 24;have hle:=grownCap_le_maxLen w n 0 24 (by unfold maxLen;omega);have hrun:∀ty,(Builtin.append_ #[22, 3] ty #[.slice none 0 0,.int .i64 n]).run Tryz.prog w=_:=λty=>Lib.run_append_nil_zeros (P:=Tryz.prog) w 22 3 ty 24 i _ .i64 .i64 Tryz.underlying22 Tryz.underlying3 h1 h2 n (by omega) (by omega) (by omega) (by rw[h4];omega);have HOwn:Hid ((w.drew.alloc (.cells (Builtin.zeroCells (Value.cells (.agg #[.int .i64 0,.int .i64 0,.string .empty,.slice none 0 0])) n++Builtin.zeroCells (Value.cells (.agg #[.int .i64 0,.int .i64 0,.string .empty,.slice none 0 0])) (grownCap w n 0 24 - n)) 24)).ownsRow w.heap.size 24 4 (.slice (some ⟨w.heap.size,0,none⟩) 0 (grownCap w n 0 24)) 0 []):=by refine World.ownsRow_made w.drew _ _ (Nat.le_refl _) hle ?_;rw[Array.size_append,size_zeroCells,size_zeroCells];show n*4+(grownCap w n 0 24 - n)*4=_;omega
  unfold maxLen at hle;generalize grownCap w n 0 24=gc at hge hle hrun HOwn;have Hrun:=Lib.hid hrun;clear hrun h0 h1 h2 h3 h4;show Calls _ _ _ _ λe w'=>ZR 24 4 w e w';go_enter Tryz.func274, Tryz.ntmps274;go_wp2_with (at_builtin;refine Lib.wpList_append_run _ rfl _ _ _ _ rfl _ _ rfl rfl _ _ (Hrun.out _) ?_);go_ret;exact⟨_,rfl,HOwn.out,bel⟩
theorem zi5 (p:Nat->Bool) (h s:List _) (ah ao:Option Addr) (ch co bo:Nat) (w:World) (c0:w.cell? ⟨bo,0,none⟩=some (.slice ah h.length ch)) (c1:w.cell? ⟨bo,1,none⟩=some (.slice ao s.length co)) (hH:exE.In (World.hide w p) h ah ch) (hS:exE.In (World.hide w p) s ao co) (hln:(h++s).length<=1073741824) :
 Calls Tryz.prog 253 #[.slice (some ⟨bo,0,none⟩) 2 2] w (yS exE 24 p (h++s) w):=by
 have hlh:=hH.len;have hls:=hS.len;have hlhs:h.length+s.length<=1073741824:=by rwa [List.length_append]at hln
 have C0:=Lib.hid c0;have C1:=Lib.hid c1;have HH:=Lib.hid hH;have HS:=Lib.hid hS;have HLn:=Lib.hid hln;clear hH hS hln;show Calls _ _ _ _ λe w'=>yS exE 24 p (h++s) w e w';go_enter Tryz.func253, Tryz.ntmps253;go_wp2_with fail;go_loop [11,3,5] (λi n _=>(i=.int .i64 0/\n=.int .i64 0)\/(i=.int .i64 1/\n=.int .i64 h.length)\/(i=.int .i64 2/\n=.int .i64 ((h.length+s.length:Nat):Int))) (λi _ _=>2-(intOf i).toNat);case atStart=>exact Or.inl ⟨rfl,rfl⟩
 case round =>
  rcases hrel with ⟨rfl,rfl⟩|⟨rfl,rfl⟩|⟨rfl,rfl⟩
  ·go_wp2_with fail;go_round;case rel=>exact Or.inr (Or.inl ⟨by go_num,by go_num⟩)
   case measure=>simp[intOf]
  ·go_wp2_with fail;go_round;case rel=>exact Or.inr (Or.inr ⟨by go_num,by go_num⟩)
   case measure=>simp[intOf]
  ·have HGr:=Lib.hid (zmD (h.length+s.length) (by omega) w);clear c0 c1;go_wp2_with fail;refine HGr.out.mono ?_;rintro e w1 ⟨v,rfl,hown,hb⟩;have HR:Hid (q8 exE 24 p w [] v w1):=⟨⟨[],hown,Enc.Vals.nil _⟩,hb⟩;clear hown hb;go_wp2_with fail;go_loopw [27,6,8] (λi v _ wr=>(i=.int .i64 0/\q8 exE 24 p w [] v wr)\/(i=.int .i64 1/\q8 exE 24 p w h v wr)\/(i=.int .i64 2/\q8 exE 24 p w (h++s) v wr)) (λi _ _ _=>2-(intOf i).toNat);case atStart=>exact Or.inl ⟨rfl,HR.out⟩
   case round =>
    rcases hrel with ⟨rfl,hR⟩|⟨rfl,hR⟩|⟨rfl,hR⟩
    ·obtain⟨hown,hb⟩:=hR;have c0:=(za hb) _ _ C0.out;have hzs:=hb.size;have HX:=Lib.hid hb;have HO:=Lib.hid hown;have HK:=Lib.hid (HH.out.keep (qr hb λj hj=>(zl hown j hj).1));clear hb;obtain⟨av,cv,hv,_⟩:=hown.slice (by simp);subst hv;clear hown;go_wp2_with (at_builtin;go_must (refine xu (E:=exE) Xk _ rfl (.tmp 31) (.tmp 32) rfl p w.heap.size _ rfl HO.out ah ch HK.out rfl (by first|(simp;omega)|simp) hzs ?_));intro v' w' hown' hgr hat
     have hS':Hid (q8 exE 24 p w h v' w'):=⟨by simpa using hown',HX.out.grown hgr hzs λj hj=>(zl HO.out j hj).1⟩;clear hown' hgr hat
     go_wp2_with fail;go_roundw;case rel=>exact Or.inr (Or.inl ⟨by go_num,hS'.out⟩)
     case measure=>simp[intOf]
    ·obtain⟨hown,hb⟩:=hR;have c0:=(za hb) _ _ C1.out;have hzs:=hb.size;have HX:=Lib.hid hb;have HO:=Lib.hid hown;have HK:=Lib.hid (HS.out.keep (qr hb λj hj=>(zl hown j hj).1));clear hb;obtain⟨av,cv,hv,_⟩:=hown.slice (by omega);subst hv;clear hown;go_wp2_with (at_builtin;go_must (refine xu (E:=exE) Xk _ rfl (.tmp 31) (.tmp 32) rfl p w.heap.size _ rfl HO.out ao co HK.out rfl hlhs hzs ?_));intro v' w' hown' hgr hat
     have hS':Hid (q8 exE 24 p w (h++s) v' w'):=⟨hown',HX.out.grown hgr hzs λj hj=>(zl HO.out j hj).1⟩;clear hown' hgr hat
     go_wp2_with fail;go_roundw;case rel=>exact Or.inr (Or.inr ⟨by go_num,hS'.out⟩)
     case measure=>simp[intOf]
    ·obtain⟨hown,hb⟩:=hR;have HE:=Lib.hid (⟨hown,hb⟩:_/\_);clear hb;obtain⟨av,cv,hv,_⟩:=hown.slice HLn.out;subst hv;clear hown;go_wp2_with fail;go_ret;exact⟨⟨_,rfl,HE.out.1⟩,HE.out.2⟩
theorem zmC (n:Nat) (hn:n<=4294967296) (w:World):Calls Tryz.prog 248 #[.slice none 0 0,.int .i64 n] w (ZR 85 5 w):=by
 by_cases h0:n=0
 ·subst h0;show Calls _ _ _ _ λe w'=>ZR 85 5 w e w';go_enter Tryz.func248, Tryz.ntmps248;go_wp2_with fail;go_ret;exact⟨_,rfl,World.ownsRow_nil _ _ _ _,Below.refl _ _⟩
 ·obtain⟨i,h1,h2,h3,h4⟩:=info_parts (show (Tryz.prog.info? 85).map (λi=>(i.zero,i.size,i.bytes))=some (some (.agg #[.string .empty,.int .i64 0,.int .i64 0,.string .empty,.slice none 0 0]),5,72) from by kernel_rfl);have hpos:1<=n:=by omega
  have hge:=grownCap_ge w n 0 85;have hle:=grownCap_le_maxLen w n 0 85 (by unfold maxLen;omega);have hrun:∀ty,(Builtin.append_ #[67, 3] ty #[.slice none 0 0,.int .i64 n]).run Tryz.prog w=_:=λty=>Lib.run_append_nil_zeros (P:=Tryz.prog) w 67 3 ty 85 i _ .i64 .i64 Tryz.underlying67 Tryz.underlying3 h1 h2 n (by omega) (by omega) (by omega) (by rw[h4];omega);have HOwn:Hid ((w.drew.alloc (.cells (Builtin.zeroCells (Value.cells (.agg #[.string .empty,.int .i64 0,.int .i64 0,.string .empty,.slice none 0 0])) n++Builtin.zeroCells (Value.cells (.agg #[.string .empty,.int .i64 0,.int .i64 0,.string .empty,.slice none 0 0])) (grownCap w n 0 85 - n)) 85)).ownsRow w.heap.size 85 5 (.slice (some ⟨w.heap.size,0,none⟩) 0 (grownCap w n 0 85)) 0 []):=by refine World.ownsRow_made w.drew _ _ (Nat.le_refl _) hle ?_;rw[Array.size_append,size_zeroCells,size_zeroCells];show n*5+(grownCap w n 0 85 - n)*5=_;omega
  unfold maxLen at hle;generalize grownCap w n 0 85=gc at hge hle hrun HOwn;have Hrun:=Lib.hid hrun;clear hrun h0 h1 h2 h3 h4;show Calls _ _ _ _ λe w'=>ZR 85 5 w e w';go_enter Tryz.func248, Tryz.ntmps248;go_wp2_with (at_builtin;refine Lib.wpList_append_run _ rfl _ _ _ _ rfl _ _ rfl rfl _ _ (Hrun.out _) ?_);go_ret;exact⟨_,rfl,HOwn.out,bel⟩
theorem zi4 (p:Nat->Bool) (h s:List _) (ah ao:Option Addr) (ch co bo:Nat) (w:World) (c0:w.cell? ⟨bo,0,none⟩=some (.slice ah h.length ch)) (c1:w.cell? ⟨bo,1,none⟩=some (.slice ao s.length co)) (hH:bdE.In (World.hide w p) h ah ch) (hS:bdE.In (World.hide w p) s ao co) (hln:(h++s).length<=1073741824) :
 Calls Tryz.prog 207 #[.slice (some ⟨bo,0,none⟩) 2 2] w (yS bdE 85 p (h++s) w):=by
 have hlh:=hH.len;have hls:=hS.len;have hlhs:h.length+s.length<=1073741824:=by rwa [List.length_append]at hln
 have C0:=Lib.hid c0;have C1:=Lib.hid c1;have HH:=Lib.hid hH;have HS:=Lib.hid hS;have HLn:=Lib.hid hln;clear hH hS hln;show Calls _ _ _ _ λe w'=>yS bdE 85 p (h++s) w e w';go_enter Tryz.func207, Tryz.ntmps207;go_wp2_with fail;go_loop [11,3,5] (λi n _=>(i=.int .i64 0/\n=.int .i64 0)\/(i=.int .i64 1/\n=.int .i64 h.length)\/(i=.int .i64 2/\n=.int .i64 ((h.length+s.length:Nat):Int))) (λi _ _=>2-(intOf i).toNat);case atStart=>exact Or.inl ⟨rfl,rfl⟩
 case round =>
  rcases hrel with ⟨rfl,rfl⟩|⟨rfl,rfl⟩|⟨rfl,rfl⟩
  ·go_wp2_with fail;go_round;case rel=>exact Or.inr (Or.inl ⟨by go_num,by go_num⟩)
   case measure=>simp[intOf]
  ·go_wp2_with fail;go_round;case rel=>exact Or.inr (Or.inr ⟨by go_num,by go_num⟩)
   case measure=>simp[intOf]
  ·have HGr:=Lib.hid (zmC (h.length+s.length) (by omega) w);clear c0 c1;go_wp2_with fail;refine HGr.out.mono ?_;rintro e w1 ⟨v,rfl,hown,hb⟩;have HR:Hid (q8 bdE 85 p w [] v w1):=⟨⟨[],hown,Enc.Vals.nil _⟩,hb⟩;clear hown hb;go_wp2_with fail;go_loopw [27,6,8] (λi v _ wr=>(i=.int .i64 0/\q8 bdE 85 p w [] v wr)\/(i=.int .i64 1/\q8 bdE 85 p w h v wr)\/(i=.int .i64 2/\q8 bdE 85 p w (h++s) v wr)) (λi _ _ _=>2-(intOf i).toNat);case atStart=>exact Or.inl ⟨rfl,HR.out⟩
   case round =>
    rcases hrel with ⟨rfl,hR⟩|⟨rfl,hR⟩|⟨rfl,hR⟩
    ·obtain⟨hown,hb⟩:=hR;have c0:=(za hb) _ _ C0.out;have hzs:=hb.size;have HX:=Lib.hid hb;have HO:=Lib.hid hown;have HK:=Lib.hid (HH.out.keep (qr hb λj hj=>(zl hown j hj).1));clear hb;obtain⟨av,cv,hv,_⟩:=hown.slice (by simp);subst hv;clear hown;go_wp2_with (at_builtin;go_must (refine xu (E:=bdE) zci _ rfl (.tmp 31) (.tmp 32) rfl p w.heap.size _ rfl HO.out ah ch HK.out rfl (by first|(simp;omega)|simp) hzs ?_));intro v' w' hown' hgr hat
     have hS':Hid (q8 bdE 85 p w h v' w'):=⟨by simpa using hown',HX.out.grown hgr hzs λj hj=>(zl HO.out j hj).1⟩;clear hown' hgr hat
     go_wp2_with fail;go_roundw;case rel=>exact Or.inr (Or.inl ⟨by go_num,hS'.out⟩)
     case measure=>simp[intOf]
    ·obtain⟨hown,hb⟩:=hR;have c0:=(za hb) _ _ C1.out;have hzs:=hb.size;have HX:=Lib.hid hb;have HO:=Lib.hid hown;have HK:=Lib.hid (HS.out.keep (qr hb λj hj=>(zl hown j hj).1));clear hb;obtain⟨av,cv,hv,_⟩:=hown.slice (by omega);subst hv;clear hown;go_wp2_with (at_builtin;go_must (refine xu (E:=bdE) zci _ rfl (.tmp 31) (.tmp 32) rfl p w.heap.size _ rfl HO.out ao co HK.out rfl hlhs hzs ?_));intro v' w' hown' hgr hat
     have hS':Hid (q8 bdE 85 p w (h++s) v' w'):=⟨hown',HX.out.grown hgr hzs λj hj=>(zl HO.out j hj).1⟩;clear hown' hgr hat
     go_wp2_with fail;go_roundw;case rel=>exact Or.inr (Or.inr ⟨by go_num,hS'.out⟩)
     case measure=>simp[intOf]
    ·obtain⟨hown,hb⟩:=hR;have HE:=Lib.hid (⟨hown,hb⟩:_/\_);clear hb;obtain⟨av,cv,hv,_⟩:=hown.slice HLn.out;subst hv;clear hown;go_wp2_with fail;go_ret;exact⟨⟨_,rfl,HE.out.1⟩,HE.out.2⟩
theorem zmE (n:Nat) (hn:n<=4294967296) (w:World):Calls Tryz.prog 218 #[.slice none 0 0,.int .i64 n] w (ZR 78 2 w):=by
 by_cases h0:n=0
 ·subst h0;show Calls _ _ _ _ λe w'=>ZR 78 2 w e w';go_enter Tryz.func218, Tryz.ntmps218;go_wp2_with fail;go_ret;exact⟨_,rfl,World.ownsRow_nil _ _ _ _,Below.refl _ _⟩
 ·obtain⟨i,h1,h2,h3,h4⟩:=info_parts (show (Tryz.prog.info? 78).map (λi=>(i.zero,i.size,i.bytes))=some (some (.agg #[.string .empty,.int .i64 0]),2,24) from by kernel_rfl);have hpos:1<=n:=by omega
  have hge:=grownCap_ge w n 0 78;have hle:=grownCap_le_maxLen w n 0 78 (by unfold maxLen;omega);have hrun:∀ty,(Builtin.append_ #[39, 3] ty #[.slice none 0 0,.int .i64 n]).run Tryz.prog w=_:=λty=>Lib.run_append_nil_zeros (P:=Tryz.prog) w 39 3 ty 78 i _ .i64 .i64 Tryz.underlying39 Tryz.underlying3 h1 h2 n (by omega) (by omega) (by omega) (by rw[h4];omega);have HOwn:Hid ((w.drew.alloc (.cells (Builtin.zeroCells (Value.cells (.agg #[.string .empty,.int .i64 0])) n++Builtin.zeroCells (Value.cells (.agg #[.string .empty,.int .i64 0])) (grownCap w n 0 78 - n)) 78)).ownsRow w.heap.size 78 2 (.slice (some ⟨w.heap.size,0,none⟩) 0 (grownCap w n 0 78)) 0 []):=by refine World.ownsRow_made w.drew _ _ (Nat.le_refl _) hle ?_;rw[Array.size_append,size_zeroCells,size_zeroCells];show n*2+(grownCap w n 0 78 - n)*2=_;omega
  unfold maxLen at hle;generalize grownCap w n 0 78=gc at hge hle hrun HOwn;have Hrun:=Lib.hid hrun;clear hrun h0 h1 h2 h3 h4;show Calls _ _ _ _ λe w'=>ZR 78 2 w e w';go_enter Tryz.func218, Tryz.ntmps218;go_wp2_with (at_builtin;refine Lib.wpList_append_run _ rfl _ _ _ _ rfl _ _ rfl rfl _ _ (Hrun.out _) ?_);go_ret;exact⟨_,rfl,HOwn.out,bel⟩
theorem zi6 (p:Nat->Bool) (h s:List _) (ah ao:Option Addr) (ch co bo:Nat) (w:World) (c0:w.cell? ⟨bo,0,none⟩=some (.slice ah h.length ch)) (c1:w.cell? ⟨bo,1,none⟩=some (.slice ao s.length co)) (hH:sgE.In (World.hide w p) h ah ch) (hS:sgE.In (World.hide w p) s ao co) (hln:(h++s).length<=1073741824) :
 Calls Tryz.prog 159 #[.slice (some ⟨bo,0,none⟩) 2 2] w (yS sgE 78 p (h++s) w):=by
 have hlh:=hH.len;have hls:=hS.len;have hlhs:h.length+s.length<=1073741824:=by rwa [List.length_append]at hln
 have C0:=Lib.hid c0;have C1:=Lib.hid c1;have HH:=Lib.hid hH;have HS:=Lib.hid hS;have HLn:=Lib.hid hln;clear hH hS hln;show Calls _ _ _ _ λe w'=>yS sgE 78 p (h++s) w e w';go_enter Tryz.func159, Tryz.ntmps159;go_wp2_with fail;go_loop [11,3,5] (λi n _=>(i=.int .i64 0/\n=.int .i64 0)\/(i=.int .i64 1/\n=.int .i64 h.length)\/(i=.int .i64 2/\n=.int .i64 ((h.length+s.length:Nat):Int))) (λi _ _=>2-(intOf i).toNat);case atStart=>exact Or.inl ⟨rfl,rfl⟩
 case round =>
  rcases hrel with ⟨rfl,rfl⟩|⟨rfl,rfl⟩|⟨rfl,rfl⟩
  ·go_wp2_with fail;go_round;case rel=>exact Or.inr (Or.inl ⟨by go_num,by go_num⟩)
   case measure=>simp[intOf]
  ·go_wp2_with fail;go_round;case rel=>exact Or.inr (Or.inr ⟨by go_num,by go_num⟩)
   case measure=>simp[intOf]
  ·have HGr:=Lib.hid (zmE (h.length+s.length) (by omega) w);clear c0 c1;go_wp2_with fail;refine HGr.out.mono ?_;rintro e w1 ⟨v,rfl,hown,hb⟩;have HR:Hid (q8 sgE 78 p w [] v w1):=⟨⟨[],hown,Enc.Vals.nil _⟩,hb⟩;clear hown hb;go_wp2_with fail;go_loopw [27,6,8] (λi v _ wr=>(i=.int .i64 0/\q8 sgE 78 p w [] v wr)\/(i=.int .i64 1/\q8 sgE 78 p w h v wr)\/(i=.int .i64 2/\q8 sgE 78 p w (h++s) v wr)) (λi _ _ _=>2-(intOf i).toNat);case atStart=>exact Or.inl ⟨rfl,HR.out⟩
   case round =>
    rcases hrel with ⟨rfl,hR⟩|⟨rfl,hR⟩|⟨rfl,hR⟩
    ·obtain⟨hown,hb⟩:=hR;have c0:=(za hb) _ _ C0.out;have hzs:=hb.size;have HX:=Lib.hid hb;have HO:=Lib.hid hown;have HK:=Lib.hid (HH.out.keep (qr hb λj hj=>(zl hown j hj).1));clear hb;obtain⟨av,cv,hv,_⟩:=hown.slice (by simp);subst hv;clear hown;go_wp2_with (at_builtin;go_must (refine xu (E:=sgE) Qm _ rfl (.tmp 31) (.tmp 32) rfl p w.heap.size _ rfl HO.out ah ch HK.out rfl (by first|(simp;omega)|simp) hzs ?_));intro v' w' hown' hgr hat
     have hS':Hid (q8 sgE 78 p w h v' w'):=⟨by simpa using hown',HX.out.grown hgr hzs λj hj=>(zl HO.out j hj).1⟩;clear hown' hgr hat
     go_wp2_with fail;go_roundw;case rel=>exact Or.inr (Or.inl ⟨by go_num,hS'.out⟩)
     case measure=>simp[intOf]
    ·obtain⟨hown,hb⟩:=hR;have c0:=(za hb) _ _ C1.out;have hzs:=hb.size;have HX:=Lib.hid hb;have HO:=Lib.hid hown;have HK:=Lib.hid (HS.out.keep (qr hb λj hj=>(zl hown j hj).1));clear hb;obtain⟨av,cv,hv,_⟩:=hown.slice (by omega);subst hv;clear hown;go_wp2_with (at_builtin;go_must (refine xu (E:=sgE) Qm _ rfl (.tmp 31) (.tmp 32) rfl p w.heap.size _ rfl HO.out ao co HK.out rfl hlhs hzs ?_));intro v' w' hown' hgr hat
     have hS':Hid (q8 sgE 78 p w (h++s) v' w'):=⟨hown',HX.out.grown hgr hzs λj hj=>(zl HO.out j hj).1⟩;clear hown' hgr hat
     go_wp2_with fail;go_roundw;case rel=>exact Or.inr (Or.inr ⟨by go_num,hS'.out⟩)
     case measure=>simp[intOf]
    ·obtain⟨hown,hb⟩:=hR;have HE:=Lib.hid (⟨hown,hb⟩:_/\_);clear hb;obtain⟨av,cv,hv,_⟩:=hown.slice HLn.out;subst hv;clear hown;go_wp2_with fail;go_ret;exact⟨⟨_,rfl,HE.out.1⟩,HE.out.2⟩
def YK (e:Ex):Bool:=decide (e.op=0/\e.n=0/\e.name.size=0/\e.args.length=0)
def qJ (s:Tq):Bool :=
 if s.op=1 then decide (s.args.length=0/\s.lo=0/\s.hi=0)
 else if s.op=2 then decide (s.args.length=2/\0<=s.lo/\s.lo<=s.hi/\s.hi<=16)
 else if s.op=3 then decide (s.args.length=1/\1<=s.lo/\s.lo<=s.hi/\s.hi<=16)
 else if s.op=4\/s.op=5 then decide (2<=s.args.length/\s.args.length<=8/\s.lo=0/\s.hi=0)
 else if s.op=6\/s.op=7 then decide (s.args.length=1/\s.lo=0/\s.hi=0)
 else false
def zS (op:Int):Bool:=op==1||op==6||op==7
noncomputable def xd (s:Tq):List ByteArray:=s.para λs l=>l.flatten++if s.op=6 then [s.name] else []
theorem ZO (s:Tq):xd s=(s.args.map xd).flatten++if s.op=6 then [s.name] else []:=by unfold xd;rw[Tq.para_eq]
noncomputable def XB (s:Tq):Bool:=match s.args with | []=>false|a::_=>(zG [2] s.expr).any λnm=>Lib.containsS (xd a) nm
noncomputable def xZ (s:Tq) (below:Bool):Int :=
 if qJ s=false\/(zS s.op=false/\YK s.expr=false)\/(s.op≠6/\s.name.size≠0) then 1
 else if s.op=6/\yW s.name.data.toList=false then 7
 else if zS s.op=true/\zZ s.expr≠0 then zZ s.expr
 else if s.op=6/\below=true then 13
 else if s.op=7/\XB s=true then 13
 else 0
def YN:List Int->Int
 | []=>0
 |e::l=>if e=0 then YN l else e
noncomputable def zC (s:Tq):Bool->Int:=s.para λs ls below=>if xZ s below=0 then YN (ls.map λf=>f (below||s.op==5)) else xZ s below
theorem qe (s:Tq) (below:Bool):zC s below=if xZ s below=0 then YN (s.args.map λa=>zC a (below||s.op==5)) else xZ s below:=by unfold zC;rw[Tq.para_eq];simp only[List.map_map];rfl
noncomputable def yG (s:Tq):Int:=if 8<s.depth\/100<s.nodes then 2 else zC s false
theorem YU {l:List Int}:YN l=0<->∀x∈l,x=0:=by
 induction l with
 |nil=>simp[YN]
 |cons a l ih=>rw[YN];split<;>simp_all
end Go.Proofs.YthojpomoflhbcaaGreatDoor
