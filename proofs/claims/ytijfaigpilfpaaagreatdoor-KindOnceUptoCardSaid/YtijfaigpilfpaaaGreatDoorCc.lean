/- The layer cong: Same. -/
import Derived.Test.YtijfaigpilfpaaaGreatDoorCa
import Derived.Test.YtijfaigpilfpaaaGreatDoorKd
import Derived.Test.YtijfaigpilfpaaaGreatDoorEz
import Derived.Test.YtijfaigpilfpaaaGreatDoorVc
namespace Go.Proofs.YtijfaigpilfpaaaGreatDoor
open Go.RowKit
set_option linter.unusedVariables false
set_option maxRecDepth 100000
theorem Qsi {l m:List PV} (h:SubsB l m):SubB (.tup l) (.tup m):=⟨fun H B v hv=>by
 obtain ⟨vs,rfl,h1⟩:=PRs.of_tup hv
 have h2:=h.prs h1
 exact .tup (by simpa using h2.1) fun i u x hu hx=>h2.2 i u x (by simpa using hu) hx⟩
end Go.Proofs.YtijfaigpilfpaaaGreatDoor
