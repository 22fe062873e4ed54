/- The kit: copies of terms, like texts. -/
import Derived.Test.YtemhncjjiomppaaDoorFa
import Derived.Test.YtemhncjjiomppaaDoorTf
import Derived.Test.YtemhncjjiomppaaDoorUa
namespace Go.Proofs.YtemhncjjiomppaaDoor
open Go.RowKit
set_option linter.unusedVariables false
set_option maxRecDepth 100000
theorem QnM {m:List Tw} {i:Nat} (h:i<m.length):szL (m.take i)+(m.getD i Sh.tm.nil).size≤szL m:=by
 rw [QfQ h]; exact QdR m (i+1)
end Go.Proofs.YtemhncjjiomppaaDoor
