/- The layer term: Sort, told or the error. -/
import Derived.Test.YtpjjdngoblfleaaGreatTd
import Derived.Test.YtpjjdngoblfleaaGreatVc
namespace Go.Proofs.YtpjjdngoblfleaaGreat
open Go.RowKit
set_option linter.unusedVariables false
set_option maxRecDepth 100000
theorem SubB.sub {x y : PV} (h : SubB x y) : Sub x y := ⟨fun H v hv => h.out H _ v hv⟩
end Go.Proofs.YtpjjdngoblfleaaGreat
