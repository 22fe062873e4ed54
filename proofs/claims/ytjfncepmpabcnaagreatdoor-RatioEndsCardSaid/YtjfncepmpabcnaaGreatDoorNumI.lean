/- num: quotient and rest. -/
import Derived.Test.YtjfncepmpabcnaaGreatDoorNumF
import Derived.Deep.DeepCutAuto
namespace Go.Proofs.YtjfncepmpabcnaaGreatDoor
open Go.RowKit
set_option linter.unusedSimpArgs false
set_option linter.unusedVariables false
attribute [local go_sem ↓] Go.wp_at_zero Go.wp_at_succ

theorem IO.nil (w : World) (B : Nat) (e : TypeId) : IO w B e (.agg #[.bool false, .slice none 0 0]) 0 := ⟨_, rfl, World.ownsRow_nil _ _ _ _⟩
end Go.Proofs.YtjfncepmpabcnaaGreatDoor
