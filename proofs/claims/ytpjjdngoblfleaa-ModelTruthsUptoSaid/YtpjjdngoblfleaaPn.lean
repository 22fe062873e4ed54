/- The contracts of the layer num. -/
import Derived.Test.YtpjjdngoblfleaaPr
namespace Go.Proofs.Ytpjjdngoblfleaa
open Go.RowKit

theorem cCmp {E : Env} (hU : Up E) : Contract Try.prog E 101 sCmp := cCmpNN hU
theorem cOf {E : Env} (hU : Up E) : Contract Try.prog E 19 sOf := cOfNN hU
theorem cRight {E : Env} (hU : Up E) : Contract Try.prog E 91 sRight := cRightN hU
end Go.Proofs.Ytpjjdngoblfleaa
