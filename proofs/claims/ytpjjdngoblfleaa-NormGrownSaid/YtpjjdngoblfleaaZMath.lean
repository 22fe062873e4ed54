/- Whole numbers with a sign: what the sign and the size make; quotients rounded down; texts. No program in sight. -/
import Derived.Test.YtpjjdngoblfleaaMath
namespace Go.Proofs.Ytpjjdngoblfleaa

/-- The number of a sign and a size. -/
def zOf (neg : Bool) (n : Nat) : Int := if neg then -(n : Int) else n
/-- Is it below 0? -/
def zNeg (z : Int) : Bool := decide (z < 0)

theorem zOf_abs (neg : Bool) (n : Nat) : (zOf neg n).natAbs = n := by cases neg <;> simp [zOf]
theorem zNeg_of (neg : Bool) (n : Nat) : zNeg (zOf neg n) = (neg && decide (0 < n)) := by
  cases neg
  · simp [zOf, zNeg]
  · simp [zOf, zNeg]
theorem zOf_self (z : Int) : zOf (zNeg z) z.natAbs = z := by
  by_cases h : z < 0
  · simp [zOf, zNeg, h]; omega
  · simp [zOf, zNeg, h]; omega
theorem zNeg_zero : zNeg 0 = false := rfl
theorem zNeg_pos {z : Int} (h : 0 ≤ z) : zNeg z = false := by simp [zNeg]; omega
theorem zNeg_neg {z : Int} (h : z < 0) : zNeg z = true := by simp [zNeg]; omega
theorem zOf_zero (neg : Bool) : zOf neg 0 = 0 := by cases neg <;> simp [zOf]
theorem zOf_false (n : Nat) : zOf false n = n := rfl
theorem zOf_true (n : Nat) : zOf true n = -(n : Int) := rfl
theorem zOf_add (neg : Bool) (a b : Nat) : zOf neg (a + b) = zOf neg a + zOf neg b := by cases neg <;> simp [zOf]; omega
theorem zOf_sub (neg : Bool) {a b : Nat} (h : b ≤ a) : zOf neg (a - b) = zOf neg a - zOf neg b := by cases neg <;> simp [zOf] <;> omega
theorem zOf_not (neg : Bool) (n : Nat) : zOf (!neg) n = -zOf neg n := by cases neg <;> simp [zOf]
theorem zOf_mul (s t : Bool) (a b : Nat) : zOf (s != t) (a * b) = zOf s a * zOf t b := by
  cases s <;> cases t <;> simp [zOf, Int.neg_mul, Int.mul_neg]
theorem plus_same {y z : Int} (h : zNeg y = zNeg z) : zOf (zNeg y) (y.natAbs + z.natAbs) = y + z := by
  rw [zOf_add, zOf_self, h, zOf_self]
theorem zNeg_iff {z : Int} : zNeg z = true ↔ z < 0 := by simp [zNeg]
theorem plus_other {y z : Int} (h : zNeg y ≠ zNeg z) (hl : z.natAbs ≤ y.natAbs) : zOf (zNeg y) (y.natAbs - z.natAbs) = y + z := by
  by_cases hy : y < 0
  · have hz : ¬ z < 0 := fun hz => h (by rw [zNeg_neg hy, zNeg_neg hz])
    rw [zNeg_neg hy, zOf_true]; omega
  · have hz : z < 0 := Decidable.byContradiction fun hz => h (by rw [zNeg_pos (by omega), zNeg_pos (by omega)])
    rw [zNeg_pos (by omega), zOf_false]; omega
theorem turned (z : Int) : zOf (!zNeg z) z.natAbs = -z := by rw [zOf_not, zOf_self]
theorem turned_neg (z : Int) : (!zNeg z && decide (0 < z.natAbs)) = zNeg (-z) := by
  rw [← turned z, zNeg_of]
theorem times_z (y z : Int) : zOf (zNeg y != zNeg z) (y.natAbs * z.natAbs) = y * z := by
  rw [zOf_mul, zOf_self, zOf_self]
theorem abs_add_le (y z : Int) : (y + z).natAbs ≤ y.natAbs + z.natAbs := Int.natAbs_add_le y z
theorem abs_mul (y z : Int) : (y * z).natAbs = y.natAbs * z.natAbs := Int.natAbs_mul y z

/-- What is a multiple and nearer to nought than once, is nought. -/
theorem mul_small {b d : Int} (h : b * d < b.natAbs) (h2 : -(b.natAbs : Int) < b * d) (_hb : b ≠ 0) : d = 0 := by
  have h3 : (b * d).natAbs < b.natAbs := by omega
  rw [Int.natAbs_mul] at h3
  have hb' : 0 < b.natAbs := by omega
  have h4 : d.natAbs < 1 := by
    refine Decidable.byContradiction fun hn => ?_
    have := Nat.mul_le_mul_left b.natAbs (show 1 ≤ d.natAbs by omega)
    omega
  omega
/-- The quotient rounded down, and the rest. -/
theorem fdm_range (a : Int) {b : Int} (hb : b ≠ 0) : (0 < b ∧ 0 ≤ Int.fmod a b ∧ Int.fmod a b < b) ∨ (b < 0 ∧ b < Int.fmod a b ∧ Int.fmod a b ≤ 0) := by
  rcases Int.lt_or_gt_of_ne hb with h0 | h0
  · right
    have h1 := @Int.fmod_eq_emod a b
    have h2 := Int.emod_nonneg a hb
    have h3 := Int.emod_lt a hb
    refine ⟨h0, ?_⟩
    rw [h1]
    split
    · rename_i hd
      rcases hd with hd | hd
      · omega
      · have := Int.emod_eq_zero_of_dvd hd; omega
    · rename_i hd
      have : a % b ≠ 0 := fun h => hd (.inr (Int.dvd_of_emod_eq_zero h))
      omega
  · left
    exact ⟨h0, Int.fmod_nonneg_of_pos a h0, Int.fmod_lt_of_pos a h0⟩
theorem fdm_unique {a b q r : Int} (hb : b ≠ 0) (h : q * b + r = a) (hr : (0 < b ∧ 0 ≤ r ∧ r < b) ∨ (b < 0 ∧ b < r ∧ r ≤ 0)) : q = Int.fdiv a b ∧ r = Int.fmod a b := by
  have e1 := Int.mul_fdiv_add_fmod a b
  have e2 := fdm_range a hb
  have e4 : b * (Int.fdiv a b - q) = r - Int.fmod a b := by rw [Int.mul_sub, Int.mul_comm b q]; omega
  have e5 := mul_small (b := b) (d := Int.fdiv a b - q) (by rw [e4]; omega) (by rw [e4]; omega) hb
  have e3 : q = Int.fdiv a b := by omega
  refine ⟨e3, ?_⟩
  rw [e5, Int.mul_zero] at e4
  omega
theorem fdm_eq (a b : Int) : Int.fdiv a b * b + Int.fmod a b = a := by rw [Int.mul_comm]; exact Int.mul_fdiv_add_fmod a b

theorem sgn_other {s t : Bool} (h : s ≠ t) : s = !t := by cases s <;> cases t <;> simp_all
theorem sgn_xor {s t : Bool} : ((s != t) != t) = s := by cases s <;> cases t <;> rfl
theorem zOf_by (s : Bool) (d : Nat) (z : Int) : zOf (s != zNeg z) d * z = zOf s (d * z.natAbs) := by
  conv => lhs; arg 2; rw [← zOf_self z]
  rw [← zOf_mul, sgn_xor]

/-- What the program reckons: sizes are divided; where the signs part and a rest is left, one less, and the rest from the other side. -/
theorem fdm_same {y z : Int} (hz : z ≠ 0) (h : zNeg y = zNeg z) : zOf (zNeg y != zNeg z) (y.natAbs / z.natAbs) = Int.fdiv y z ∧ zOf (zNeg z) (y.natAbs % z.natAbs) = Int.fmod y z := by
  have h1 := Nat.div_add_mod' y.natAbs z.natAbs
  have h2 := Nat.mod_lt y.natAbs (show 0 < z.natAbs by omega)
  rw [h, show (zNeg z != zNeg z) = false by simp, zOf_false]
  generalize y.natAbs / z.natAbs = d at *
  generalize y.natAbs % z.natAbs = m at *
  refine fdm_unique hz ?_ ?_
  · have e1 := zOf_by (zNeg z) d z
    rw [show (zNeg z != zNeg z) = false by simp, zOf_false] at e1
    rw [e1, ← zOf_add, h1, ← h, zOf_self]
  · by_cases h0 : z < 0
    · rw [zNeg_neg h0, zOf_true]; omega
    · rw [zNeg_pos (by omega), zOf_false]; omega
theorem fdm_other0 {y z : Int} (hz : z ≠ 0) (h0 : y.natAbs % z.natAbs = 0) : zOf (zNeg y != zNeg z) (y.natAbs / z.natAbs) = Int.fdiv y z ∧ zOf (zNeg z) (y.natAbs % z.natAbs) = Int.fmod y z := by
  have h1 := Nat.div_add_mod' y.natAbs z.natAbs
  rw [h0] at h1 ⊢
  generalize y.natAbs / z.natAbs = d at *
  refine fdm_unique hz ?_ ?_
  · rw [zOf_zero, Int.add_zero, zOf_by, show d * z.natAbs = y.natAbs by omega, zOf_self]
  · rw [zOf_zero]; omega
theorem fdm_other {y z : Int} (hz : z ≠ 0) (h : zNeg y ≠ zNeg z) (h0 : 0 < y.natAbs % z.natAbs) : zOf (zNeg y != zNeg z) (y.natAbs / z.natAbs) + -1 = Int.fdiv y z ∧ z + -zOf (zNeg z) (y.natAbs % z.natAbs) = Int.fmod y z := by
  have h1 := Nat.div_add_mod' y.natAbs z.natAbs
  have h2 := Nat.mod_lt y.natAbs (show 0 < z.natAbs by omega)
  generalize y.natAbs / z.natAbs = d at *
  generalize y.natAbs % z.natAbs = m at *
  refine fdm_unique hz ?_ ?_
  · have e1 := zOf_by (zNeg y) d z
    have e2 : y = zOf (zNeg y) (d * z.natAbs) + zOf (zNeg y) m := by rw [← zOf_add, h1, zOf_self]
    have e3 : zOf (zNeg y) m = -zOf (zNeg z) m := by rw [sgn_other h, zOf_not]
    rw [Int.add_mul, e1]
    omega
  · by_cases h0 : z < 0
    · rw [zNeg_neg h0, zOf_true]; omega
    · rw [zNeg_pos (by omega), zOf_false]; omega
theorem fdiv_abs (y : Int) {z : Int} (hz : z ≠ 0) : (Int.fdiv y z).natAbs ≤ y.natAbs + 1 := by
  by_cases h : zNeg y = zNeg z
  · rw [← (fdm_same hz h).1, zOf_abs]
    exact Nat.le_succ_of_le (Nat.div_le_self _ _)
  · have := Nat.div_le_self y.natAbs z.natAbs
    by_cases h0 : y.natAbs % z.natAbs = 0
    · rw [← (fdm_other0 hz h0).1, zOf_abs]; omega
    · rw [← (fdm_other hz h (by omega)).1]
      have := zOf_abs (zNeg y != zNeg z) (y.natAbs / z.natAbs)
      omega
theorem fmod_abs (y : Int) {z : Int} (hz : z ≠ 0) : (Int.fmod y z).natAbs < z.natAbs := by
  have := fdm_range y hz; omega

/-- The greatest common divisor of numbers. -/
def gcdL (l : List Int) : Nat := l.foldl (fun g z => Nat.gcd g z.natAbs) 0
def sumL (l : List Int) : Int := l.foldl (fun a z => a + z) 0
def prodL (l : List Int) : Int := l.foldl (fun a z => a * z) 1

end Go.Proofs.Ytpjjdngoblfleaa
