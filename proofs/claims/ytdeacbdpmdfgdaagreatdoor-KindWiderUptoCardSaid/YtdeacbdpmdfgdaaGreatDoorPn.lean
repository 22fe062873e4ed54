/- The contracts of the layer num. -/
import Derived.Test.YtdeacbdpmdfgdaaGreatDoorPq
namespace Go.Proofs.YtdeacbdpmdfgdaaGreatDoor
open Go.RowKit
theorem cOf {E:Env} (hU:Up E):Contract Tryz.prog E 38 sOf:=cOfNN hU
theorem cRight {E:Env} (hU:Up E):Contract Tryz.prog E 90 Qkg:=Qr2 hU
end Go.Proofs.YtdeacbdpmdfgdaaGreatDoor
