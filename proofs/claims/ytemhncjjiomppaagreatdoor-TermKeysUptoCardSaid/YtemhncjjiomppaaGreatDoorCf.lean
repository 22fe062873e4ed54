/- The law CongBack: a path turned round; two paths, one behind the other; an edge. -/
import Derived.Test.YtemhncjjiomppaaGreatDoorCc
import Derived.Test.YtemhncjjiomppaaGreatDoorCn
import Derived.Test.YtemhncjjiomppaaGreatDoorTf
import Derived.Test.YtemhncjjiomppaaGreatDoorNw
namespace Go.Proofs.YtemhncjjiomppaaGreatDoor
open Go.RowKit
set_option linter.unusedVariables false
set_option maxRecDepth 100000
mutual
theorem QdY:∀ t:Tw,nodW t≤11 * cntT t
 | .mk k n b d l=>by
  have:=QeE l
  rw [nodW,cntT]
  omega
theorem QeE:∀ l:List Tw,Qcq l≤11 * Qax l
 | []=>by rw [Qcq]; omega
 | t::l=>by
  have h1:=QdY t
  have h2:=QeE l
  rw [Qcq,Qax]
  omega
end
theorem QbY {t:Tw} (k:Qau t) (h:cntT t≤5000):keyOk t:=by
 have f:=QcN t (by omega)
 have h1:=QdY t
 have h2:=Qb4 t
 refine ⟨k,f,Nat.le_trans (Qfx t k f) (Nat.le_trans (Nat.mul_le_mul (Nat.le_trans h2 h) (Nat.add_le_add_right (Nat.le_trans h1 (Nat.mul_le_mul_left 11 h)) 60)) (by decide))⟩
end Go.Proofs.YtemhncjjiomppaaGreatDoor
