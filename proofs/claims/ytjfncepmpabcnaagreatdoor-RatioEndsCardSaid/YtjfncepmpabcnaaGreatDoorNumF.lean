/- num: sums, products, divisors; a number of 64 bits; denial, difference. -/
import Derived.Test.YtjfncepmpabcnaaGreatDoorNumE
namespace Go.Proofs.YtjfncepmpabcnaaGreatDoor
open Go.RowKit
set_option linter.unusedSimpArgs false
set_option linter.unusedVariables false
attribute [local go_sem ↓] Go.wp_at_zero Go.wp_at_succ

theorem wrap_neg {n : Int} (h1 : -9223372036854775808 ≤ n) (h2 : n ≤ 9223372036854775807) (h3 : n < 0) : IntKind.u64.wrap (-IntKind.u64.wrap n) = ((n.natAbs : Nat) : Int) := by
  simp only [IntKind.wrap]
  simp [IntKind.signed, IntKind.bits]
  omega
theorem NB.nil (w : World) (B : Nat) (e : TypeId) : NB w B e (.agg #[.slice none 0 0, .bool false]) 0 := ⟨_, rfl, World.ownsRow_nil _ _ _ _⟩

end Go.Proofs.YtjfncepmpabcnaaGreatDoor
