/- Terms put for names: contracts of the maker. -/
import Derived.Test.YtmbmbcamecfnkaaGreatDoorTe
import Derived.Test.YtmbmbcamecfnkaaGreatDoorFa
import Derived.Test.YtmbmbcamecfnkaaGreatDoorVr
namespace Go.Proofs.YtmbmbcamecfnkaaGreatDoor
open Go.RowKit
set_option linter.unusedVariables false
set_option maxRecDepth 100000
theorem QoX {o:Nat} {x y:Lf} (h:x=y):SubB (.tl o x) (.tl o y):=by subst h; exact .refl _
end Go.Proofs.YtmbmbcamecfnkaaGreatDoor
