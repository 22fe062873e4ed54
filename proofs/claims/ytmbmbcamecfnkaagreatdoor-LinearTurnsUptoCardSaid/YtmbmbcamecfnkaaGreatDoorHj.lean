/- The layer kind: what a walk over a type knows; sorts; names twice. -/
import Derived.Test.YtmbmbcamecfnkaaGreatDoorHa
import Derived.Test.YtmbmbcamecfnkaaGreatDoorNw
import Derived.Test.YtmbmbcamecfnkaaGreatDoorKz
import Derived.Test.YtmbmbcamecfnkaaGreatDoorFa
import Derived.Test.YtmbmbcamecfnkaaGreatDoorVr
import Derived.Test.YtmbmbcamecfnkaaGreatDoorKx
import Derived.Test.YtmbmbcamecfnkaaGreatDoorTe
namespace Go.Proofs.YtmbmbcamecfnkaaGreatDoor
open Go.RowKit
set_option linter.unusedVariables false
set_option maxRecDepth 100000
theorem SubL.add:∀ {l m:List Lf},SubL l m→∀ {p q:List Lf},SubL p q→SubL (l++p) (m++q)
 | _,_,.nil,_,_,h=>h
 | _,_,.cons h hs,_,_,h'=>.cons h (hs.add h')
end Go.Proofs.YtmbmbcamecfnkaaGreatDoor
