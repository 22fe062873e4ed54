/- The layer kind: names, and what goes in for them: all but one. -/
import Derived.Test.YtmbmbcamecfnkaaGreatDoorHp
import Derived.Test.YtmbmbcamecfnkaaGreatDoorNw
import Derived.Test.YtmbmbcamecfnkaaGreatDoorHa
import Derived.Test.YtmbmbcamecfnkaaGreatDoorKz
import Derived.Test.YtmbmbcamecfnkaaGreatDoorFa
import Derived.Test.YtmbmbcamecfnkaaGreatDoorVr
import Derived.Test.YtmbmbcamecfnkaaGreatDoorKx
namespace Go.Proofs.YtmbmbcamecfnkaaGreatDoor
open Go.RowKit
set_option linter.unusedVariables false
set_option maxRecDepth 100000
theorem Qht {l m:List PV} (h:SubsB l m):SubB (.agg l) (.agg m):=⟨fun H B v hv=>by
 obtain ⟨vs,rfl,h3⟩:=PRs.of_agg hv
 exact PRs.agg (h.prs h3)⟩
end Go.Proofs.YtmbmbcamecfnkaaGreatDoor
