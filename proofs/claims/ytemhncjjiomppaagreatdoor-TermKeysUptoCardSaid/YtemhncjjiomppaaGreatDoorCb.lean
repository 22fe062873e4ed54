/- The layer cong: paths. -/
import Derived.Test.YtemhncjjiomppaaGreatDoorFa
import Derived.Test.YtemhncjjiomppaaGreatDoorVr
import Derived.Test.YtemhncjjiomppaaGreatDoorKx
import Derived.Test.YtemhncjjiomppaaGreatDoorKd
import Derived.Test.YtemhncjjiomppaaGreatDoorEz
namespace Go.Proofs.YtemhncjjiomppaaGreatDoor
open Go.RowKit
set_option linter.unusedVariables false
set_option maxRecDepth 100000
def keyOk (t:Tw):Prop:=Qau t∧t.fitT∧(keyB t).length≤140737488355328
end Go.Proofs.YtemhncjjiomppaaGreatDoor
