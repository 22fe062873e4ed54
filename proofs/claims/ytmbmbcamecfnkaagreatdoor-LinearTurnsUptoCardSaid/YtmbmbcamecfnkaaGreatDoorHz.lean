/- The layer kind: terms put for names in a type. -/
import Derived.Test.YtmbmbcamecfnkaaGreatDoorHt
import Derived.Test.YtmbmbcamecfnkaaGreatDoorHp
import Derived.Test.YtmbmbcamecfnkaaGreatDoorNw
import Derived.Test.YtmbmbcamecfnkaaGreatDoorHa
import Derived.Test.YtmbmbcamecfnkaaGreatDoorKz
import Derived.Test.YtmbmbcamecfnkaaGreatDoorFa
import Derived.Test.YtmbmbcamecfnkaaGreatDoorVr
import Derived.Test.YtmbmbcamecfnkaaGreatDoorKx
namespace Go.Proofs.YtmbmbcamecfnkaaGreatDoor
open Go.RowKit
set_option linter.unusedVariables false
set_option linter.unusedSimpArgs false
set_option maxRecDepth 100000
theorem Qie (s:Sh):SubB (.f (.v (.slice none 0 0))) (.f (.dt s [])):=⟨fun H B v h=>by
 have:=h.val
 subst this
 exact .f (QgQ rfl trivial)⟩
end Go.Proofs.YtmbmbcamecfnkaaGreatDoor
