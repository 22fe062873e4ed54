/- Decimal digits: what they are, how many, what they stand for. -/
import Derived.Test.YtjfncepmpabcnaaGreatDoorNatP
namespace Go.Proofs.YtjfncepmpabcnaaGreatDoor
open Go.RowKit

theorem dec_len {n k : Nat} (h : n < 1000000000 ^ k) : (Lib.decDigits n).length ≤ 9 * k + 1 := by
  rw [Lib.decDigits_length]
  refine nDigits_le _ _ ?_ (by omega)
  have : (1000000000 : Nat) ^ k ≤ 10 ^ (9 * k + 1) := by
    rw [show (1000000000 : Nat) = 10 ^ 9 from rfl, ← Nat.pow_mul]
    exact Nat.pow_le_pow_right (by omega) (by omega)
  omega


end Go.Proofs.YtjfncepmpabcnaaGreatDoor
