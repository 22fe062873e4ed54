/- nat: a number times a digit; quotients. -/
import Derived.Test.YtpjjdngoblfleaaNatD
namespace Go.Proofs.Ytpjjdngoblfleaa
open Go.RowKit
attribute [local go_sem ↓] Go.wp_at_zero Go.wp_at_succ

theorem search_end {M N x : Nat} (h1 : M * x ≤ N) (h2 : N < M * (x + 1)) : x = N / M := by
  have hM : 0 < M := by
    rcases Nat.eq_zero_or_pos M with h | h
    · subst h; omega
    · exact h
  symm
  exact Nat.div_eq_of_lt_le (by rw [Nat.mul_comm]; exact h1) (by rw [Nat.mul_comm]; exact h2)

end Go.Proofs.Ytpjjdngoblfleaa
