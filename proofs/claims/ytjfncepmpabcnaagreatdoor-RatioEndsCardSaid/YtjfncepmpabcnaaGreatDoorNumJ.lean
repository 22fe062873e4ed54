/- num: right. -/
import Derived.Test.YtjfncepmpabcnaaGreatDoorNumF
namespace Go.Proofs.YtjfncepmpabcnaaGreatDoor
open Go.RowKit
set_option linter.unusedSimpArgs false
set_option linter.unusedVariables false
attribute [local go_sem ↓] Go.wp_at_zero Go.wp_at_succ

/-- Is a sign with limbs a right number? -/
def rightZ (neg : Bool) (l : List Nat) : Bool := rgtB l && (!neg || decide (0 < l.length))
theorem rightZ_of (z : Int) : rightZ (zNeg z) (digs 1000000000 z.natAbs) = true := by
  have h1 := (rgtB_iff _).2 (digs_rgt 1000000000 (by omega) z.natAbs)
  unfold rightZ
  rw [h1]
  by_cases h : z < 0
  · have h2 := digs_len0 z.natAbs
    have h3 : 0 < z.natAbs := by omega
    simp only [h3, decide_true, Bool.not_true] at h2
    have : 0 < (digs 1000000000 z.natAbs).length := by
      refine Decidable.byContradiction fun hc => ?_
      rw [show (digs 1000000000 z.natAbs).length = 0 by omega] at h2
      simp at h2
    simp [this]
  · rw [zNeg_pos (by omega)]; rfl
/-- What is right is THE one of what it stands for. -/
theorem rightZ_digs {neg : Bool} {l : List Nat} (h : rightZ neg l = true) : neg = zNeg (zV neg l) ∧ l = digs 1000000000 (zV neg l).natAbs := by
  unfold rightZ at h
  rw [Bool.and_eq_true] at h
  have h1 := (rgtB_iff l).1 h.1
  have h2 : l = digs 1000000000 (zV neg l).natAbs := by rw [zV, zOf_abs]; exact h1.digs (by omega)
  refine ⟨?_, h2⟩
  rw [zV, zNeg_of]
  cases neg
  · rfl
  · have h3 : 0 < l.length := by simpa using h.2
    have : 0 < val 1000000000 l := Nat.lt_of_lt_of_le (Nat.pow_pos (by omega)) (rgt_pow_le h1 h3)
    simp [this]

end Go.Proofs.YtjfncepmpabcnaaGreatDoor
