/- Whole numbers with a sign: what the sign and the size make; quotients rounded down; texts. No program in sight. -/
import Derived.Test.YtpjjdngoblfleaaGreatMath
namespace Go.Proofs.YtpjjdngoblfleaaGreat
def zOf (neg:Bool) (n:Nat):Int:=if neg then -(n:Int) else n
def zNeg (z:Int):Bool:=decide (z<0)
theorem zOf_abs (neg:Bool) (n:Nat):(zOf neg n).natAbs=n:=by cases neg <;> simp [zOf]
theorem zNeg_of (neg:Bool) (n:Nat):zNeg (zOf neg n)=(neg && decide (0<n)):=by
 cases neg
 · simp [zOf,zNeg]
 · simp [zOf,zNeg]
theorem zOf_self (z:Int):zOf (zNeg z) z.natAbs=z:=by
 by_cases h:z<0
 · simp [zOf,zNeg,h]; omega
 · simp [zOf,zNeg,h]; omega
theorem zNeg_pos {z:Int} (h:0≤z):zNeg z=false:=by simp [zNeg]; omega
theorem zNeg_neg {z:Int} (h:z<0):zNeg z=true:=by simp [zNeg]; omega
theorem zOf_false (n:Nat):zOf false n=n:=rfl
theorem zOf_true (n:Nat):zOf true n=-(n:Int):=rfl
theorem zOf_add (neg:Bool) (a b:Nat):zOf neg (a+b)=zOf neg a+zOf neg b:=by cases neg <;> simp [zOf]; omega
theorem zOf_mul (s t:Bool) (a b:Nat):zOf (s != t) (a * b)=zOf s a * zOf t b:=by
 cases s <;> cases t <;> simp [zOf,Int.neg_mul,Int.mul_neg]
theorem plus_other {y z:Int} (h:zNeg y≠zNeg z) (hl:z.natAbs≤y.natAbs):zOf (zNeg y) (y.natAbs - z.natAbs)=y+z:=by
 by_cases hy:y<0
 · have hz:¬ z<0:=fun hz=>h (by rw [zNeg_neg hy,zNeg_neg hz])
   rw [zNeg_neg hy,zOf_true]; omega
 · have hz:z<0:=Decidable.byContradiction fun hz=>h (by rw [zNeg_pos (by omega),zNeg_pos (by omega)])
   rw [zNeg_pos (by omega),zOf_false]; omega
theorem times_z (y z:Int):zOf (zNeg y != zNeg z) (y.natAbs * z.natAbs)=y * z:=by
 rw [zOf_mul,zOf_self,zOf_self]
theorem abs_add_le (y z:Int):(y+z).natAbs≤y.natAbs+z.natAbs:=Int.natAbs_add_le y z
theorem abs_mul (y z:Int):(y * z).natAbs=y.natAbs * z.natAbs:=Int.natAbs_mul y z
end Go.Proofs.YtpjjdngoblfleaaGreat
