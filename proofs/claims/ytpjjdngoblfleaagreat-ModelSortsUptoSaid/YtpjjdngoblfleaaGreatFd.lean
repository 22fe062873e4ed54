/- The layer norm: a formula pushed down. -/
import Derived.Test.YtpjjdngoblfleaaGreatFa
namespace Go.Proofs.YtpjjdngoblfleaaGreat
open Go.RowKit
set_option linter.unusedVariables false
set_option maxRecDepth 100000
theorem one_nat : Int.toNat 1 = 1 := rfl
end Go.Proofs.YtpjjdngoblfleaaGreat
