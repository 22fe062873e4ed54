/- The layer norm: Push. -/
import Derived.Test.YtpjjdngoblfleaaGreatFd
namespace Go.Proofs.YtpjjdngoblfleaaGreat
open Go.RowKit
set_option linter.unusedVariables false
set_option maxRecDepth 100000
theorem sort_is {D : List Dat} {S : List Srt} {t : Tw} {z : Except Int ByteArray} (hz : z = sortT D S t) (h : errE z = 0) : ∃ s, z = .ok s := by
 obtain e | s := z
 · exact absurd h (sortT_err hz.symm)
 · exact ⟨s, rfl⟩
end Go.Proofs.YtpjjdngoblfleaaGreat
