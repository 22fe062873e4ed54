/- The layer cong: Same. -/
import Derived.Test.YtmbmbcamecfnkaaGreatDoorFa
import Derived.Test.YtmbmbcamecfnkaaGreatDoorVr
import Derived.Test.YtmbmbcamecfnkaaGreatDoorKx
import Derived.Test.YtmbmbcamecfnkaaGreatDoorKz
import Derived.Test.YtmbmbcamecfnkaaGreatDoorEz
import Derived.Test.YtmbmbcamecfnkaaGreatDoorVb
import Derived.Recover
namespace Go.Proofs.YtmbmbcamecfnkaaGreatDoor
open Go.RowKit
set_option linter.unusedVariables false
set_option maxRecDepth 100000
theorem Qnq {l m:List PV} (h:SubsB l m):SubB (.tup l) (.tup m):=⟨fun H B v hv=>by
 obtain ⟨vs,rfl,h1⟩:=PRs.of_tup hv
 have h2:=h.prs h1
 exact .tup (by simpa using h2.1) fun i u x hu hx=>h2.2 i u x (by simpa using hu) hx⟩
end Go.Proofs.YtmbmbcamecfnkaaGreatDoor
