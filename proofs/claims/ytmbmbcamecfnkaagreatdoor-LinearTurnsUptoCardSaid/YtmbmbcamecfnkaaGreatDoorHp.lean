/- The layer kind: well formed types. -/
import Derived.Test.YtmbmbcamecfnkaaGreatDoorHj
import Derived.Test.YtmbmbcamecfnkaaGreatDoorUb
import Derived.Test.YtmbmbcamecfnkaaGreatDoorCc
import Derived.Test.YtmbmbcamecfnkaaGreatDoorHa
import Derived.Test.YtmbmbcamecfnkaaGreatDoorNw
import Derived.Test.YtmbmbcamecfnkaaGreatDoorKz
import Derived.Test.YtmbmbcamecfnkaaGreatDoorFa
import Derived.Test.YtmbmbcamecfnkaaGreatDoorVr
import Derived.Test.YtmbmbcamecfnkaaGreatDoorKx
import Derived.Test.YtmbmbcamecfnkaaGreatDoorTe
namespace Go.Proofs.YtmbmbcamecfnkaaGreatDoor
open Go.RowKit
set_option linter.unusedVariables false
set_option maxRecDepth 100000
theorem Yw.size_pos (t:Yw):1≤t.size:=by rw [t.size_eq]; omega
section
variable {D : List Dat} {K : List Kap}
end
section
variable {D : List Dat} {K : List Kap} {S : List Srt} {y : Yw}
end
end Go.Proofs.YtmbmbcamecfnkaaGreatDoor
