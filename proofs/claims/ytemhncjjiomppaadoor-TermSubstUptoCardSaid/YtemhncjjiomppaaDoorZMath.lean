/- Whole numbers with a sign: what the sign and the size make; quotients rounded down; texts. No program in sight. -/
import Derived.Test.YtemhncjjiomppaaDoorMath
namespace Go.Proofs.YtemhncjjiomppaaDoor
def zOf (neg:Bool) (n:Nat):Int:=if neg then -(n:Int) else n
def zNeg (z:Int):Bool:=decide (z<0)
theorem QhC (neg:Bool) (n:Nat):(zOf neg n).natAbs=n:=by cases neg <;> simp [zOf]
theorem Qku (y z:Int):(y+z).natAbs≤y.natAbs+z.natAbs:=Int.natAbs_add_le y z
end Go.Proofs.YtemhncjjiomppaaDoor
