/- num: numbers put together. -/
import Derived.Test.YtjfncepmpabcnaaGreatDoorNumD
namespace Go.Proofs.YtjfncepmpabcnaaGreatDoor
open Go.RowKit
set_option linter.unusedSimpArgs false
set_option linter.unusedVariables false
attribute [local go_sem ↓] Go.wp_at_zero Go.wp_at_succ

theorem ZB.gcd {y z : Int} {a b : Nat} (h1 : ZB y a) (h2 : ZB z b) : ZB ((Nat.gcd y.natAbs z.natAbs : Nat) : Int) (a + b + 1) := by
  unfold ZB
  simp only [Int.natAbs_natCast]
  refine Nat.lt_of_le_of_lt ?_ (pow_add_le h1 h2)
  rcases Nat.eq_zero_or_pos y.natAbs with h | h
  · rw [h, Nat.gcd_zero_left]; omega
  · have := Nat.gcd_le_left z.natAbs h; omega

end Go.Proofs.YtjfncepmpabcnaaGreatDoor
