/- num: a number of 64 bits; the greatest common divisor of two. -/
import Derived.Test.YtjfncepmpabcnaaGreatDoorNatI
import Derived.Test.YtjfncepmpabcnaaGreatDoorZBase
import Derived.Test.YtjfncepmpabcnaaGreatDoorNatH
namespace Go.Proofs.YtjfncepmpabcnaaGreatDoor
open Go.RowKit
set_option linter.unusedSimpArgs false
set_option linter.unusedVariables false
attribute [local go_sem ↓] Go.wp_at_zero Go.wp_at_succ

theorem Box.belowB {w w' : World} {b B : Nat} {vs : List Value} (h : Box w b vs) (hb : Below B w w') (hB : b < B) : Box w' b vs :=
  ⟨fun j hj => (hb.cell (p := ⟨b, j, none⟩) hB).trans (h.cells j hj), fun j => (hb.frozen (p := ⟨b, j, none⟩) hB).trans (h.free j), Nat.lt_of_lt_of_le h.lt hb.size⟩
theorem small_len {o : List Nat} {nn N : Nat} (h : val 1000000000 o + 1000000000 ^ o.length * nn = N) (hN : N < 18446744073709551616) (h0 : 0 < nn) : o.length ≤ 2 := by
  refine Decidable.byContradiction fun hc => ?_
  have h1 : 1000000000 ^ 3 ≤ 1000000000 ^ o.length := Nat.pow_le_pow_right (by omega) (by omega)
  have h2 := Nat.mul_le_mul h1 (show 1 ≤ nn by omega)
  omega
theorem small_step {o : List Nat} {nn N : Nat} (h : val 1000000000 o + 1000000000 ^ o.length * nn = N) : val 1000000000 (o ++ [nn % 1000000000]) + 1000000000 ^ (o ++ [nn % 1000000000]).length * (nn / 1000000000) = N := by
  rw [val_snoc, List.length_append, List.length_singleton, Nat.pow_succ, ← h, Nat.mul_assoc, Nat.add_assoc, ← Nat.mul_add, Nat.mod_add_div]

theorem ZB.le {m n k : Nat} (h : ZB (n : Nat) k) (hm : m ≤ n) : ZB (m : Nat) k := by unfold ZB at *; simp only [Int.natAbs_natCast] at *; omega
end Go.Proofs.YtjfncepmpabcnaaGreatDoor
