/- Whole numbers with a sign: what the sign and the size make; quotients rounded down; texts. No program in sight. -/
import Derived.Test.YtemhncjjiomppaaGreatDoorMath
namespace Go.Proofs.YtemhncjjiomppaaGreatDoor
def zOf (neg:Bool) (n:Nat):Int:=if neg then -(n:Int) else n
def zNeg (z:Int):Bool:=decide (z<0)
theorem QgH (neg:Bool) (n:Nat):(zOf neg n).natAbs=n:=by cases neg <;> simp [zOf]
theorem Qji (y z:Int):(y+z).natAbs≤y.natAbs+z.natAbs:=Int.natAbs_add_le y z
end Go.Proofs.YtemhncjjiomppaaGreatDoor
