/- what the rows give: arguments opened; the table; a world for the witness. -/
import Derived.Test.YtjfncepmpabcnaaGreatDoorBase
import Derived.Test.YtjfncepmpabcnaaGreatDoorText
import Derived.Test.YtjfncepmpabcnaaGreatDoorCards
import Derived.Test.YtjfncepmpabcnaaGreatDoorTie
import Derived.ProofKit
import Derived.OpenShut
import Derived.LaidSub
import Derived.Deep.DeepHandedRow
import Derived.Lib.LaidTab
namespace Go.Proofs.YtjfncepmpabcnaaGreatDoor
open Go.ChangeShapes Go.WideShapes Go.ChangeAt Go.RowKit

theorem own : ownKnob Tryz.prog.godebug = none := by kernel_rfl
theorem gTab : Tryz.prog.globalNamed "internal/strconv.uint64pow10" = some 1 := by kernel_rfl
theorem gTabType : (Tryz.prog.globals[1]?).map (·.type) = some 182 := by kernel_rfl
theorem cellsTab : Tryz.prog.cellsOf 182 = 20 := by kernel_rfl
theorem cellsU64 : Tryz.prog.cellsOf 72 = 1 := by kernel_rfl
set_option maxRecDepth 100000 in
theorem tab_one {W : World} {laid : List (String × DataW Unit)} (hf : (laid.filter fun x => x.1 == "internal/strconv.uint64pow10") = [("internal/strconv.uint64pow10", Rows.laid_internal_strconv_uint64pow10)]) (h : laidMetH Tryz.prog laid W) : Tab W := by
  have := h.filter fun x => x.1 == "internal/strconv.uint64pow10"
  rw [hf, show (Rows.laid_internal_strconv_uint64pow10 : DataW Unit) = Lib.tabData .u64 Lib.pow10Tab by kernel_rfl] at this
  exact Lib.tabIs_of_head (rest := []) gTab gTabType Tryz.underlying182 Tryz.underlying72 cellsU64 cellsTab this

end Go.Proofs.YtjfncepmpabcnaaGreatDoor
