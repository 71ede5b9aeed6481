/- ref09: plain, text. -/
import Derived.Test.YtihegbjlgpghbaaGreatDoorEM
set_option linter.unusedSimpArgs false
set_option linter.unusedVariables false
set_option linter.unnecessarySimpa false
namespace Go.Proofs.YtihegbjlgpghbaaGreatDoor
open Go.RowKit
attribute [local go_sem ↓] Go.wp_at_zero Go.wp_at_succ

end Go.Proofs.YtihegbjlgpghbaaGreatDoor

/- ref09.plain: inside; all valid expressions without arrays. -/
namespace Go.Proofs.YtihegbjlgpghbaaGreatDoor
open Go.RowKit
attribute [local go_sem ↓] Go.wp_at_zero Go.wp_at_succ

end Go.Proofs.YtihegbjlgpghbaaGreatDoor
