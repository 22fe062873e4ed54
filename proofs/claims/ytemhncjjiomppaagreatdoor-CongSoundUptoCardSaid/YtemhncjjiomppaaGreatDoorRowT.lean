/- What the rows of tied cards give: the table. -/
import Derived.Test.YtemhncjjiomppaaGreatDoorRowJ
import Derived.Test.YtemhncjjiomppaaGreatDoorEz
import Derived.Test.YtemhncjjiomppaaGreatDoorCards
import Derived.Test.YtemhncjjiomppaaGreatDoorTie
import Derived.ProofKit
import Derived.OpenShut
import Derived.LaidSub
import Derived.Deep.DeepHandedRow
import Derived.Lib.LaidTab
set_option linter.unusedSimpArgs false
namespace Go.Proofs.YtemhncjjiomppaaGreatDoor
open Go.ChangeShapes Go.WideShapes Go.ChangeAt Go.RowKit
theorem gTabT : Tryz.prog.globalNamed "internal/strconv.uint64pow10" = some 1 := by kernel_rfl
theorem QqD:(Tryz.prog.globals[1]?).map (·.type)=some 260:=by kernel_rfl
theorem Qq3:Tryz.prog.cellsOf 260=20:=by kernel_rfl
theorem Qq1:Tryz.prog.cellsOf 131=1:=by kernel_rfl
set_option maxRecDepth 100000 in
theorem tabT {W : World} {laid : List (String × DataW Unit)} (hf : (laid.filter fun x => x.1 == "internal/strconv.uint64pow10") = [("internal/strconv.uint64pow10", Rows.laid_internal_strconv_uint64pow10)]) (h : laidMetH Tryz.prog laid W) : Tab W := by
 have := h.filter fun x => x.1 == "internal/strconv.uint64pow10"
 rw [hf,show (Rows.laid_internal_strconv_uint64pow10:DataW Unit)=Lib.tabData .u64 Lib.pow10Tab by kernel_rfl] at this
 exact Lib.tabIs_of_head (rest:=[]) gTabT QqD Tryz.underlying260 Tryz.underlying131 Qq1 Qq3 this
end Go.Proofs.YtemhncjjiomppaaGreatDoor
