/- The layer norm: Push. -/
import Derived.Test.YtemhncjjiomppaaGreatDoorFd
namespace Go.Proofs.YtemhncjjiomppaaGreatDoor
open Go.RowKit
set_option linter.unusedVariables false
set_option maxRecDepth 100000
theorem Qt1 {D:List Dat} {S:List Srt} {t:Tw} {z:Except Int ByteArray} (hz:z=Qap D S t) (h:errE z=0):∃ s,z=.ok s:=by
 obtain e | s:=z
 · exact absurd h (Qjq hz.symm)
 · exact ⟨s,rfl⟩
end Go.Proofs.YtemhncjjiomppaaGreatDoor
