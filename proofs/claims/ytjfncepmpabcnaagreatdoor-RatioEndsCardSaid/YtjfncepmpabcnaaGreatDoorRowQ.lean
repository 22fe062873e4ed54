/- Ratios that came in: arguments opened; what the rows give to the pure run. -/
import Derived.Test.YtjfncepmpabcnaaGreatDoorRow
import Derived.Test.YtjfncepmpabcnaaGreatDoorZBase
import Derived.Lib.SmallJoins
import Derived.Test.YtjfncepmpabcnaaGreatDoorQa
import Derived.HandedShaped
namespace Go.Proofs.YtjfncepmpabcnaaGreatDoor
open Go.ChangeShapes Go.WideShapes Go.ChangeAt Go.RowKit Go.Joins

/-- The memory as it came. -/
def H0 (W : World) : Hp := fun b j => W.cell? ⟨b, j, none⟩
theorem fro0 (W : World) : Fro (H0 W) W := fun _ _ _ h => h
set_option maxRecDepth 100000 in
theorem env_in {W : World} (ht : Tab W) (hs : W.ShapedOpen Tryz.prog) : EQ W (H0 W) :=
  ⟨ht, cell_of_shapedOpen_int (P := Tryz.prog) (g := 0) (t := 3) (zero := #[.int .i64 0]) hs (of_decide_eq_true (by kernel_rfl)) (by kernel_rfl) rfl (by kernel_rfl) (by kernel_rfl) Tryz.underlying3⟩

end Go.Proofs.YtjfncepmpabcnaaGreatDoor
