/- The layer term: sizes; the kit's sameness of terms. -/
import Derived.Test.YtmbmbcamecfnkaaGreatDoorTe
namespace Go.Proofs.YtmbmbcamecfnkaaGreatDoor
open Go.RowKit
set_option linter.unusedVariables false
set_option maxRecDepth 100000
theorem Tw.ext {t u:Tw} (h1:t.kind=u.kind) (h2:t.name=u.name) (h3:t.neg=u.neg) (h4:t.digits=u.digits) (h5:t.kids=u.kids):t=u:=by
 rw [← t.eta,← u.eta,h1,h2,h3,h4,h5]
end Go.Proofs.YtmbmbcamecfnkaaGreatDoor
