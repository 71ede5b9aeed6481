/- law: count, Few. -/
import Derived.Test.YtebneadheaefdaaGreatDoorDC
set_option linter.unusedSimpArgs false
set_option linter.unusedVariables false
set_option linter.unnecessarySimpa false
namespace Go.Proofs.YtebneadheaefdaaGreatDoor
open Go.RowKit
end Go.Proofs.YtebneadheaefdaaGreatDoor
