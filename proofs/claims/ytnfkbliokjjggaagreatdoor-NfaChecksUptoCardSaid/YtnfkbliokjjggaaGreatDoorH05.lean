/- The reference of expressions, its parts: they return the same plain functions. -/
import Derived.Test.YtnfkbliokjjggaaGreatDoorH03
import Derived.Test.YtnfkbliokjjggaaGreatDoorH04
set_option maxHeartbeats 4000000
set_option linter.unusedSimpArgs false
set_option linter.unusedVariables false
set_option linter.unnecessarySimpa false
namespace Go.Proofs.YtnfkbliokjjggaaGreatDoor
open Go.RowKit
theorem zdC (op:Int) (w:World) :
 Calls Tryz.prog 303 #[.int .i64 op] w λe w'=>e=.returned (.int .i64 (Qd op))/\w=w':=by
 go_enter Tryz.func303, Tryz.ntmps303;go_wp2;all_goals go_ret
 all_goals refine⟨?_,rfl⟩
 all_goals simp_all [Qd]
 all_goals omega
theorem zdK (op:Int) (w:World) :
 Calls Tryz.prog 302 #[.int .i64 op] w λe w'=>e=.returned (.bool (op==2||op==3||op==24))/\w=w':=by
 go_enter Tryz.func302, Tryz.ntmps302;go_wp2;all_goals go_ret
 all_goals refine⟨?_,rfl⟩
 all_goals congr 2
 all_goals simp_all [Bool.eq_iff_iff]
end Go.Proofs.YtnfkbliokjjggaaGreatDoor
