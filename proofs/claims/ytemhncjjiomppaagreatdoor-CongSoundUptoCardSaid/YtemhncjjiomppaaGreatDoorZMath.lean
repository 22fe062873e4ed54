/- Whole numbers with a sign: what the sign and the size make; quotients rounded down; texts. No program in sight. -/
import Derived.Test.YtemhncjjiomppaaGreatDoorMath
namespace Go.Proofs.YtemhncjjiomppaaGreatDoor
def zOf (neg:Bool) (n:Nat):Int:=if neg then -(n:Int) else n
def zNeg (z:Int):Bool:=decide (z<0)
theorem QeA (neg:Bool) (n:Nat):(zOf neg n).natAbs=n:=by cases neg <;> simp [zOf]
theorem Qdj (z:Int):zOf (zNeg z) z.natAbs=z:=by
 by_cases h:z<0
 · simp [zOf,zNeg,h]; omega
 · simp [zOf,zNeg,h]; omega
theorem Qfb {z:Int} (h:0≤z):zNeg z=false:=by simp [zNeg]; omega
theorem QhQ {z:Int} (h:z<0):zNeg z=true:=by simp [zNeg]; omega
theorem Qfz (n:Nat):zOf false n=n:=rfl
theorem QhP (n:Nat):zOf true n=-(n:Int):=rfl
theorem QoT (neg:Bool) (a b:Nat):zOf neg (a+b)=zOf neg a+zOf neg b:=by cases neg <;> simp [zOf]; omega
theorem QtC (s t:Bool) (a b:Nat):zOf (s != t) (a * b)=zOf s a * zOf t b:=by
 cases s <;> cases t <;> simp [zOf,Int.neg_mul,Int.mul_neg]
theorem Qhf {y z:Int} (h:zNeg y≠zNeg z) (hl:z.natAbs≤y.natAbs):zOf (zNeg y) (y.natAbs - z.natAbs)=y+z:=by
 by_cases hy:y<0
 · have hz:¬ z<0:=fun hz=>h (by rw [QhQ hy,QhQ hz])
   rw [QhQ hy,QhP]; omega
 · have hz:z<0:=Decidable.byContradiction fun hz=>h (by rw [Qfb (by omega),Qfb (by omega)])
   rw [Qfb (by omega),Qfz]; omega
theorem QtP (y z:Int):zOf (zNeg y != zNeg z) (y.natAbs * z.natAbs)=y * z:=by
 rw [QtC,Qdj,Qdj]
theorem QoP (y z:Int):(y+z).natAbs≤y.natAbs+z.natAbs:=Int.natAbs_add_le y z
theorem Qv2 (y z:Int):(y * z).natAbs=y.natAbs * z.natAbs:=Int.natAbs_mul y z
end Go.Proofs.YtemhncjjiomppaaGreatDoor
