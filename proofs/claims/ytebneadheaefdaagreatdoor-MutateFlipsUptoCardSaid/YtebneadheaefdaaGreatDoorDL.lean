/- ref31: shown, wire, ready. -/
import Derived.Test.YtebneadheaefdaaGreatDoorDK
set_option linter.unusedSimpArgs false
set_option linter.unusedVariables false
set_option linter.unnecessarySimpa false
namespace Go.Proofs.YtebneadheaefdaaGreatDoor
open Go.RowKit
attribute [local go_sem ↓] Go.wp_at_zero Go.wp_at_succ
end Go.Proofs.YtebneadheaefdaaGreatDoor
namespace Go.Proofs.YtebneadheaefdaaGreatDoor
open Go.RowKit
attribute [local go_sem ↓] Go.wp_at_zero Go.wp_at_succ
def DoneRow (w:World) (b n:Nat) (out:List Nat):Prop:=FRow w b 4 n (fun j=>.bool (out.contains j))
end Go.Proofs.YtebneadheaefdaaGreatDoor
