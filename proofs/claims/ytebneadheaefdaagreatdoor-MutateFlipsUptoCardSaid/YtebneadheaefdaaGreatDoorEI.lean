/- design.Width and ref31.Width for any name; law31: texts. -/
import Derived.Test.YtebneadheaefdaaGreatDoorDJ
import Derived.Test.YtebneadheaefdaaGreatDoorDE
set_option linter.unusedSimpArgs false
set_option linter.unusedVariables false
set_option linter.unnecessarySimpa false
namespace Go.Proofs.YtebneadheaefdaaGreatDoor
open Go.RowKit
attribute [local go_sem ↓] Go.wp_at_zero Go.wp_at_succ
theorem bytes_toList {x s:ByteArray}:x.toList=s.toList↔x=s:=by
 constructor
 ·intro h
  have h2:=(toList_eq_iff x s).1 (by simpa using h)
  exact ByteArray.ext (Array.ext' h2)
 ·intro h;rw[h]
end Go.Proofs.YtebneadheaefdaaGreatDoor
