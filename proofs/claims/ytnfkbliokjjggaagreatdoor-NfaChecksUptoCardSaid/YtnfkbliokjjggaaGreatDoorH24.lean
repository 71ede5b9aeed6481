/- The edges of two automata run beside each other are small. -/
import Derived.Test.YtnfkbliokjjggaaGreatDoorH15
import Derived.Test.YtnfkbliokjjggaaGreatDoorH13
import Derived.Test.YtnfkbliokjjggaaGreatDoorH17
set_option linter.unusedSimpArgs false
set_option linter.unusedVariables false
set_option linter.unnecessarySimpa false
namespace Go.Proofs.YtnfkbliokjjggaaGreatDoor
open Go.RowKit
theorem zdX {α:Type} {l:List α} {f g:α->Nat} {c:Nat} (h:∀x∈l,f x<=g x*c):(l.map f).sum<=(l.map g).sum*c:=by
 induction l with
 |nil=>simp
 |cons a l ih =>simp only[List.map_cons,List.sum_cons,Nat.add_mul];have:=h a (List.mem_cons_self ..);have:=ih λx hx=>h x (List.mem_cons_of_mem _ hx);omega
theorem XI (e:Ex):e.nodes.length=1+(e.args.map λa=>a.nodes.length).sum:=by rw[Ex.nodes_eq,List.length_cons,List.length_flatten,List.map_map];have:(List.length ∘ Ex.nodes)=λa:Ex=>a.nodes.length:=rfl;rw[this];omega
theorem zaZ (e:Ex):1<=e.nodes.length:=by rw[XI];omega
theorem XJ (nm:ByteArray) (b:Ex) (e:Ex):(yU nm b e).nodes.length<=e.nodes.length*b.nodes.length:=by
 have hb:=zaZ b
 induction e using Ex.ind with
 |h e ih =>
  rw[zbl];split
  ·have:=zaZ e
   calc b.nodes.length=1*b.nodes.length:=by omega
    _<=_:=Nat.mul_le_mul_right _ this
  ·rw[XI,XI e];simp only[Ex.args_mk,List.map_map];have h1:(e.args.map ((λa=>a.nodes.length) ∘ yU nm b)).sum<=(e.args.map λa=>a.nodes.length).sum*b.nodes.length:=zdX (f:=(λa:Ex=>a.nodes.length) ∘ yU nm b) λx hx=>ih x hx;rw[Nat.add_mul];omega
theorem zd2 (l:List xG) (g:Ex):xL l 0 g=g:=rfl
theorem zfR {l:List xG} {k:Nat} {g:Ex} (h:¬g.nodes.length<=400):xL l k g=g:=by
 cases k with
 |zero=>rfl
 |succ k=>rw[xL,if_neg h]
theorem zd1 {l:List xG} {k:Nat} {g:Ex} (hk:k<l.length) (h:g.nodes.length<=400):xL l (k+1) g=xL l k (yU (l[k]'hk).name (l[k]'hk).expr g):=by rw[xL,if_pos h,List.getElem?_eq_getElem hk]
theorem zb6 {l:List xG} (hl:∀b∈l,b.expr.nodes.length<=400):∀(k:Nat) (g:Ex),g.nodes.length<=160000->(xL l k g).nodes.length<=160000:=by
 intro k
 induction k with
 |zero=>intro g h;exact h
 |succ k ih =>
  intro g h;rw[xL];split
  ·rename_i h2;refine ih _ ?_;cases hk:l[k]? with
   |none=>exact h
   |some b =>
    have hb:=hl b (List.mem_of_getElem? hk);have:=XJ b.name b.expr g
    calc _<=g.nodes.length*b.expr.nodes.length:=this
     _<=400*400:=Nat.mul_le_mul h2 hb
     _<=_:=by decide
  ·exact h
theorem XM {g:Ex} (h:okX g=true):g.nodes.length<=400:=by
 unfold okX zD at h;split at h
 ·simp at h
 ·rename_i h2;simp only[not_and,not_or]at h2;have:=(h2 (by simpa using h)).2;omega
theorem zds {b:xG} (h:YT b=true):b.expr.nodes.length<=400:=by unfold YT at h;simp only[Bool.and_eq_true]at h;exact XM h.2
theorem Zw {n:zt} (h:zC n=true) {e:zk} (he:e∈n.edges):(∀g∈e.guards,g.nodes.length<=400)/\∀b∈e.sets,b.expr.nodes.length<=400:=by have:=zZ.1 ((zA.1 h).2.1 e he);exact⟨λg hg=>XM (this.2.1 g hg),λb hb=>zds (this.2.2 b hb)⟩
attribute [local go_sem ↓] Go.wp_at_zero Go.wp_at_succ
end Go.Proofs.YtnfkbliokjjggaaGreatDoor
