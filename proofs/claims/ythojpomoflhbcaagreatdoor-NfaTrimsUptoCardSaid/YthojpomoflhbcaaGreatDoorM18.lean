/- The edges of two automata run beside each other are small. -/
import Derived.Test.YthojpomoflhbcaaGreatDoorM13
import Derived.Test.YthojpomoflhbcaaGreatDoorM12
import Derived.Test.YthojpomoflhbcaaGreatDoorM15
set_option linter.unusedSimpArgs false
set_option linter.unusedVariables false
set_option linter.unnecessarySimpa false
namespace Go.Proofs.YthojpomoflhbcaaGreatDoor
end Go.Proofs.YthojpomoflhbcaaGreatDoor
namespace Go.Proofs.YthojpomoflhbcaaGreatDoor
open Go.RowKit
theorem sum_le_mul {α:Type} {l:List α} {f g:α→Nat} {c:Nat} (h:∀ x∈l,f x≤g x * c):(l.map f).sum≤(l.map g).sum * c:=by
 induction l with
 | nil=>simp
 | cons a l ih =>
  simp only[List.map_cons,List.sum_cons,Nat.add_mul]
  have:=h a (List.mem_cons_self ..)
  have:=ih fun x hx=>h x (List.mem_cons_of_mem _ hx)
  omega
theorem nodes_len (e:Ex):e.nodes.length=1+(e.args.map fun a=>a.nodes.length).sum:=by
 rw[Ex.nodes_eq,List.length_cons,List.length_flatten,List.map_map]
 have:(List.length ∘ Ex.nodes)=fun a:Ex=>a.nodes.length:=rfl
 rw[this];omega
theorem nodes_pos (e:Ex):1≤e.nodes.length:=by rw[nodes_len];omega
theorem nodes_subst (nm:ByteArray) (b:Ex) (e:Ex):(substS nm b e).nodes.length≤e.nodes.length * b.nodes.length:=by
 have hb:=nodes_pos b
 induction e using Ex.ind with
 | h e ih =>
  rw[substS_eq]
  split
  ·have:=nodes_pos e
   calc b.nodes.length=1 * b.nodes.length:=by omega
    _≤_:=Nat.mul_le_mul_right _ this
  ·rw[nodes_len,nodes_len e]
   simp only[Ex.args_mk,List.map_map]
   have h1:(e.args.map ((fun a=>a.nodes.length) ∘ substS nm b)).sum≤(e.args.map fun a=>a.nodes.length).sum * b.nodes.length:=sum_le_mul (f:=(fun a:Ex=>a.nodes.length) ∘ substS nm b) fun x hx=>ih x hx
   rw[Nat.add_mul];omega
theorem undoS_zero (l:List BindD) (g:Ex):undoS l 0 g=g:=rfl
theorem undoS_big {l:List BindD} {k:Nat} {g:Ex} (h:¬ g.nodes.length≤400):undoS l k g=g:=by
 cases k with
 | zero=>rfl
 | succ k=>rw[undoS,if_neg h]
theorem undoS_step {l:List BindD} {k:Nat} {g:Ex} (hk:k < l.length) (h:g.nodes.length≤400):undoS l (k+1) g=undoS l k (substS (l[k]'hk).name (l[k]'hk).expr g):=by
 rw[undoS,if_pos h,List.getElem?_eq_getElem hk]
theorem undoS_nodes {l:List BindD} (hl:∀ b∈l,b.expr.nodes.length≤400):∀ (k:Nat) (g:Ex),g.nodes.length≤160000→(undoS l k g).nodes.length≤160000:=by
 intro k
 induction k with
 | zero=>intro g h;exact h
 | succ k ih =>
  intro g h
  rw[undoS]
  split
  ·rename_i h2
   refine ih _ ?_
   cases hk:l[k]? with
   | none=>exact h
   | some b =>
    have hb:=hl b (List.mem_of_getElem? hk)
    have:=nodes_subst b.name b.expr g
    calc _≤g.nodes.length * b.expr.nodes.length:=this
     _≤400 * 400:=Nat.mul_le_mul h2 hb
     _≤_:=by decide
  ·exact h
theorem okX_nodes {g:Ex} (h:okX g=true):g.nodes.length≤400:=by
 unfold okX validS at h
 split at h
 ·simp at h
 ·rename_i h2
  simp only[not_and,not_or] at h2
  have:=(h2 (by simpa using h)).2
  omega
theorem okBd_nodes {b:BindD} (h:okBd b=true):b.expr.nodes.length≤400:=by
 unfold okBd at h
 simp only[Bool.and_eq_true] at h
 exact okX_nodes h.2
theorem ok_small {n:NfaD} (h:nfaOk n=true) {e:EdgeD} (he:e∈n.edges):(∀ g∈e.guards,g.nodes.length≤400)∧∀ b∈e.sets,b.expr.nodes.length≤400:=by
 have:=edgeOk_iff.1 ((nfaOk_iff.1 h).2.1 e he)
 exact⟨fun g hg=>okX_nodes (this.2.1 g hg),fun b hb=>okBd_nodes (this.2.2 b hb)⟩
end Go.Proofs.YthojpomoflhbcaaGreatDoor
namespace Go.Proofs.YthojpomoflhbcaaGreatDoor
open Go.RowKit
attribute [local go_sem ↓] Go.wp_at_zero Go.wp_at_succ
end Go.Proofs.YthojpomoflhbcaaGreatDoor
