/- The reference of chapter 7: Push of towers; the law's small functions. -/
import Derived.Test.YtpjjdngoblfleaaGreatFd
namespace Go.Proofs.YtpjjdngoblfleaaGreat
open Go.RowKit
set_option linter.unusedVariables false
set_option maxRecDepth 100000
def varT (s : ByteArray) : Tw := .mk 1 s false [] []
end Go.Proofs.YtpjjdngoblfleaaGreat
