/- ref31: order, Valid, Order. -/
import Derived.Test.YtebneadheaefdaaGreatDoorDL
set_option linter.unusedSimpArgs false
set_option linter.unusedVariables false
set_option linter.unnecessarySimpa false
namespace Go.Proofs.YtebneadheaefdaaGreatDoor
open Go.RowKit
attribute [local go_sem ↓] Go.wp_at_zero Go.wp_at_succ
theorem DoneRow.set {w:World} {b n:Nat} {out:List Nat} (h:DoneRow w b n out) {q:Nat} (hq:q < n):DoneRow (w.setCell ⟨b,q,none⟩ (.bool true)) b n (out++[q]):=by
 refine(FRow.set h hq _).congr fun j hj=>?_
 by_cases e:j=q
 ·subst e
  rw[if_pos rfl]
  simp
 ·rw[if_neg e]
  congr 1
  rw[Bool.eq_iff_iff,List.contains_iff_mem,List.contains_iff_mem]
  simp[e]
end Go.Proofs.YtebneadheaefdaaGreatDoor
namespace Go.Proofs.YtebneadheaefdaaGreatDoor
open Go.RowKit
attribute [local go_sem ↓] Go.wp_at_zero Go.wp_at_succ
end Go.Proofs.YtebneadheaefdaaGreatDoor
