/- exprtext: text of names and numbers; Print. -/
import Derived.Test.YtebneadheaefdaaGreatDoorEC
import Derived.Test.YtebneadheaefdaaGreatDoorDJ
set_option linter.unusedSimpArgs false
set_option linter.unusedVariables false
set_option linter.unnecessarySimpa false
namespace Go.Proofs.YtebneadheaefdaaGreatDoor
open Go.RowKit
attribute [local go_sem ↓] Go.wp_at_zero Go.wp_at_succ
end Go.Proofs.YtebneadheaefdaaGreatDoor
