/- ref32: Run. -/
import Derived.Test.YtebneadheaefdaaGreatDoorDR
import Derived.Test.YtebneadheaefdaaGreatDoorEA
import Derived.Deep.AppendLies
set_option linter.unusedSimpArgs false
set_option linter.unusedVariables false
set_option linter.unnecessarySimpa false
namespace Go.Proofs.YtebneadheaefdaaGreatDoor
open Go.RowKit
attribute [local go_sem ↓] Go.wp_at_zero Go.wp_at_succ
theorem IntsIn.heap {w w':World} {l:List Int} {a:Option Addr} {c:Nat} (h:IntsIn w l a c) (hb:∀ p:Addr,a=some p→p.block < w.heap.size→w'.heap[p.block]? = w.heap[p.block]?):IntsIn w' l a c:=by
 refine⟨h.1,h.2.1,h.2.2.imp id ?_⟩
 rintro ⟨b',o',ha,hq⟩
 refine⟨b',o',ha,fun i hi=>?_⟩
 obtain⟨v,hv,h1⟩:=hq i hi
 have h0:=hb _ ha (show b' < w.heap.size from World.block_lt_of_cell? _ _ h1)
 exact⟨v,hv,(World.cell?_of_block (a:=⟨b',o'+i * 1,none⟩) h0).trans h1⟩
def RowsP (w:World) (d:DesD) (rows:List Sigs) (b8:Nat) (ob:Option Nat) (k:Nat) (vs:List Value):Prop:=vs.length=k∧∀ t,t < k→∃ a c,vs[t]? = some (.slice a d.names.length c)∧IntsIn w (rowN d rows t) a c∧∀ p:Addr,a=some p→p.block < w.heap.size∧ob≠some p.block∧b8 < p.block
theorem RowsP.heap {w w':World} {d:DesD} {rows:List Sigs} {b8:Nat} {ob ob':Option Nat} {k:Nat} {vs:List Value} (h:RowsP w d rows b8 ob k vs) (hs:w.heap.size≤w'.heap.size) (hb:∀ q,q < w.heap.size→ob≠some q→b8 < q→w'.heap[q]? = w.heap[q]?) (ho:∀ q,q < w.heap.size→ob≠some q→ob'≠some q):RowsP w' d rows b8 ob' k vs:=by
 refine⟨h.1,fun t ht=>?_⟩
 obtain⟨a,c,h1,h2,h3⟩:=h.2 t ht
 refine⟨a,c,h1,h2.heap fun p hp hq=>hb _ hq (h3 p hp).2.1 (h3 p hp).2.2,fun p hp=>?_⟩
 obtain⟨g1,g2,g3⟩:=h3 p hp
 exact⟨by omega,ho _ g1 g2,g3⟩
theorem RowsP.keep {w w':World} {d:DesD} {rows:List Sigs} {b8:Nat} {ob:Option Nat} {k:Nat} {vs:List Value} (h:RowsP w d rows b8 ob k vs) (hb:Below w.heap.size w w'):RowsP w' d rows b8 ob k vs:=h.heap hb.size (fun q hq _ _=>hb.block q hq) (fun _ _ h=>h)
theorem RowsP.push {w:World} {d:DesD} {rows:List Sigs} {b8:Nat} {ob:Option Nat} {k:Nat} {vs:List Value} (h:RowsP w d rows b8 ob k vs) {a:Option Addr} {c:Nat} (hI:IntsIn w (rowN d rows k) a c) (hp:∀ p:Addr,a=some p→p.block < w.heap.size∧ob≠some p.block∧b8 < p.block):RowsP w d rows b8 ob (k+1) (vs++[.slice a d.names.length c]):=by
 refine⟨by simp[h.1],fun t ht=>?_⟩
 by_cases e:t=k
 ·subst e
  exact⟨a,c,by rw[List.getElem?_append_right (by rw[h.1];omega),h.1];simp,hI,hp⟩
 ·obtain⟨a',c',h1,h2,h3⟩:=h.2 t (by omega)
  exact⟨a',c',by rw[List.getElem?_append_left (by rw[h.1];omega)];exact h1,h2,h3⟩
end Go.Proofs.YtebneadheaefdaaGreatDoor
namespace Go.Proofs.YtebneadheaefdaaGreatDoor
open Go.RowKit
attribute [local go_sem ↓] Go.wp_at_zero Go.wp_at_succ
end Go.Proofs.YtebneadheaefdaaGreatDoor
