/- The layer norm: a formula pushed down. -/
import Derived.Test.YtemhncjjiomppaaGreatDoorFb
namespace Go.Proofs.YtemhncjjiomppaaGreatDoor
open Go.RowKit
set_option linter.unusedVariables false
set_option maxRecDepth 100000
theorem Qim:Int.toNat 1=1:=rfl
end Go.Proofs.YtemhncjjiomppaaGreatDoor
