/- nfa.builder.and. -/
import Derived.Test.YtnfkbliokjjggaaGreatDoorH22
import Derived.BigQuiet
import Derived.Deep.RegionHeld3
set_option linter.unusedSimpArgs false
set_option linter.unusedVariables false
set_option linter.unnecessarySimpa false
namespace Go.Proofs.YtnfkbliokjjggaaGreatDoor
open Go.RowKit
attribute [local go_sem ↓] Go.wp_at_zero Go.wp_at_succ
def zbt (n:zt) (x:qn):Obj:=.cells #[.int .i64 n.states,.slice x.ae n.edges.length x.ce,.slice x.aa n.accept.length x.ca] 33 (0,0)
end Go.Proofs.YtnfkbliokjjggaaGreatDoor
