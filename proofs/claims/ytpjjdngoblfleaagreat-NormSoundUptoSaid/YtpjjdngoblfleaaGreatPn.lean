/- The contracts of the layer num. -/
import Derived.Test.YtpjjdngoblfleaaGreatPr
namespace Go.Proofs.YtpjjdngoblfleaaGreat
open Go.RowKit
theorem cCmp {E:Env} (hU:Up E):Contract Tryz.prog E 90 sCmp:=cCmpNN hU
theorem cOf {E:Env} (hU:Up E):Contract Tryz.prog E 52 sOf:=cOfNN hU
theorem cRight {E:Env} (hU:Up E):Contract Tryz.prog E 65 sRight:=cRightN hU
end Go.Proofs.YtpjjdngoblfleaaGreat
