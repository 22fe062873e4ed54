/- The reference of chapter 7: Push of towers; the law's small functions. -/
import Derived.Test.YtpjjdngoblfleaaFd
namespace Go.Proofs.Ytpjjdngoblfleaa
open Go.RowKit
set_option linter.unusedVariables false
set_option maxRecDepth 100000

/-- A name. -/
def varT (s : ByteArray) : Tw := .mk 1 s false [] []
end Go.Proofs.Ytpjjdngoblfleaa
