/- The layer norm: Push. -/
import Derived.Test.YtemhncjjiomppaaDoorFa
namespace Go.Proofs.YtemhncjjiomppaaDoor
open Go.RowKit
set_option linter.unusedVariables false
set_option maxRecDepth 100000
theorem Qot {D:List Dat} {S:List Srt} {t:Tw} {z:Except Int ByteArray} (hz:z=Qak D S t) (h:errE z=0):∃ s,z=.ok s:=by
 obtain e | s:=z
 · exact absurd h (QgU hz.symm)
 · exact ⟨s,rfl⟩
end Go.Proofs.YtemhncjjiomppaaDoor
