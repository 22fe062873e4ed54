/- What the rows of tied cards give: the table. -/
import Derived.Test.YtdjnlgkpnjdchaaDoorRowJ
import Derived.Test.YtdjnlgkpnjdchaaDoorEz
import Derived.Test.YtdjnlgkpnjdchaaDoorCards
import Derived.Test.YtdjnlgkpnjdchaaDoorTie
import Derived.ProofKit
import Derived.OpenShut
import Derived.LaidSub
import Derived.Deep.DeepHandedRow
import Derived.Lib.LaidTab
namespace Go.Proofs.YtdjnlgkpnjdchaaDoor
open Go.ChangeShapes Go.WideShapes Go.ChangeAt Go.RowKit
theorem gTabT : Tryd.prog.globalNamed "internal/strconv.uint64pow10" = some 1 := by kernel_rfl
theorem gTabTypeT:(Tryd.prog.globals[1]?).map (·.type)=some 277:=by kernel_rfl
theorem cellsTabT:Tryd.prog.cellsOf 277=20:=by kernel_rfl
theorem cellsU64T:Tryd.prog.cellsOf 143=1:=by kernel_rfl
set_option maxRecDepth 100000 in
theorem tabT {W : World} {laid : List (String × DataW Unit)} (hf : (laid.filter fun x => x.1 == "internal/strconv.uint64pow10") = [("internal/strconv.uint64pow10", Rows.laid_internal_strconv_uint64pow10)]) (h : laidMetH Tryd.prog laid W) : Tab W := by
 have := h.filter fun x => x.1 == "internal/strconv.uint64pow10"
 rw [hf,show (Rows.laid_internal_strconv_uint64pow10:DataW Unit)=Lib.tabData .u64 Lib.pow10Tab by kernel_rfl] at this
 exact Lib.tabIs_of_head (rest:=[]) gTabT gTabTypeT Tryd.underlying277 Tryd.underlying143 cellsU64T cellsTabT this
end Go.Proofs.YtdjnlgkpnjdchaaDoor
