/- nat: quotient and rest. -/
import Derived.Test.YtpjjdngoblfleaaNatE
import Derived.Deep.DeepCutAuto
import Derived.Deep.RegionLaw
namespace Go.Proofs.Ytpjjdngoblfleaa
open Go.RowKit
attribute [local go_sem ↓] Go.wp_at_zero Go.wp_at_succ

/-- What one more digit of the dividend makes. -/
theorem part_step {M Q R x : Nat} (hR : R < M) (hx : x < 1000000000) :
    x + 1000000000 * R < M * 1000000000 ∧ (x + 1000000000 * R) / M < 1000000000 ∧ (x + 1000000000 * R) % M < M ∧
      x + 1000000000 * (Q * M + R) = ((x + 1000000000 * R) / M + 1000000000 * Q) * M + (x + 1000000000 * R) % M := by
  have h1 : x + 1000000000 * R < M * 1000000000 := by
    have : 1000000000 * (R + 1) ≤ 1000000000 * M := Nat.mul_le_mul_left _ hR
    rw [Nat.mul_comm M]; omega
  refine ⟨h1, Nat.div_lt_of_lt_mul h1, Nat.mod_lt _ (by omega), ?_⟩
  have h2 := Nat.div_add_mod (x + 1000000000 * R) M
  rw [Nat.add_mul, Nat.mul_assoc]
  rw [Nat.mul_comm M] at h2
  omega

end Go.Proofs.Ytpjjdngoblfleaa
