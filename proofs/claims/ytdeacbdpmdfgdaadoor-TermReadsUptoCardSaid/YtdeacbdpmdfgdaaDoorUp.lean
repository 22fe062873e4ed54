/- Terms put for names: what becomes of sorts and of the names that stand. -/
import Derived.Test.YtdeacbdpmdfgdaaDoorUa
import Derived.Test.YtdeacbdpmdfgdaaDoorTe
namespace Go.Proofs.YtdeacbdpmdfgdaaDoor
open Go.RowKit
set_option linter.unusedVariables false
set_option maxRecDepth 100000
section
variable {D : List Dat} {S : List Srt} {l : List ByteArray} {ts : List Tw}
def varN (s:ByteArray):Tw:=.mk 1 s false [] []
end
end Go.Proofs.YtdeacbdpmdfgdaaDoor
