/- The law ModelTruths: whatever the data, bounds, terms, it returns true. -/
import Derived.Test.YtpjjdngoblfleaaGreatMt
namespace Go.Proofs.YtpjjdngoblfleaaGreat
open Go.RowKit
set_option linter.unusedVariables false
set_option maxRecDepth 100000
section
variable {D : List Dat} {B : List Bnd} {s t : Tw} {v w : Vw}
end
theorem great_no {D : List Dat} {B : List Bnd} {l : List Tw} (h : greatE D B l = false) : cntD D ≤ 600 ∧ cntB B ≤ 600 ∧ cntTL l ≤ 600 := by
 simp only [greatE, Bool.or_eq_false_iff, decide_eq_false_iff_not] at h
 obtain ⟨h1, h2, h3⟩ := h
 have e1 := capD_exact D 600 (by omega)
 have e2 := capB_exact B 600 (by omega)
 have e3 := capTL_exact l 600 (by omega)
 omega
theorem cntB_mem {B : List Bnd} {b : Bnd} (h : b ∈ B) : cntV b.value ≤ cntB B := by
 induction B with
 | nil => cases h
 | cons c B ih =>
  rw [cntB]
  rcases List.mem_cons.1 h with rfl | h
  · omega
  · have := ih h; omega
theorem cntD_mem {D : List Dat} {d : Dat} (h : d ∈ D) : cntK d.cons ≤ cntD D := by
 induction D with
 | nil => cases h
 | cons c B ih =>
  rw [cntD]
  rcases List.mem_cons.1 h with rfl | h
  · omega
  · have := ih h; omega
theorem fitB_of {B : List Bnd} (h : cntB B ≤ 600) : fitB 600 B := fun b hb => cntV_fit _ _ (Nat.le_trans (cntB_mem hb) h) (by decide)
theorem fitD_of {D : List Dat} (h : cntD D ≤ 600) : fitD D := fun d hd => by
 have h1 := cntD_mem hd
 have h2 := cntK_len d.cons
 omega
end Go.Proofs.YtpjjdngoblfleaaGreat
