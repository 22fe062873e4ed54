/- The layer nat, as contracts of the pure run. -/
import Derived.Test.YtdeacbdpmdfgdaaGreatDoorPl
namespace Go.Proofs.YtdeacbdpmdfgdaaGreatDoor
open Go.RowKit
set_option linter.unusedVariables false
set_option maxRecDepth 100000
section
variable {E : Env}
theorem cTrimN:Contract Tryz.prog E 84 QmK:=by
 intro xs p r hs hp w H vs hf hE hvs
 unfold QmK at hs
 split at hs
 · rename_i x
   split at hs
   · rename_i l k hx
     cases hs
     have hk:=hp _ rfl
     obtain ⟨v,rfl,hv⟩:=Qnd hvs
     obtain ⟨h1,h2,h3⟩:=Qnq hx hv.rd hf
     refine (Qje v l w h1 (by omega) h3).mono ?_
     rintro e w' ⟨u,rfl,ho,hbl⟩
     exact ⟨_,u,rfl,QrB hf hbl,own_lP ho (zb_vB h3 h2)⟩
   · cases hs
 · cases hs
end
end Go.Proofs.YtdeacbdpmdfgdaaGreatDoor
