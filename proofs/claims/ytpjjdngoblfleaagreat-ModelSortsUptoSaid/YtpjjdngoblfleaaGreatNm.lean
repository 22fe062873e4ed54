/- The law ModelSound: whatever the data, scope, values, term, it returns true. -/
import Derived.Test.YtpjjdngoblfleaaGreatMt
import Derived.Test.YtpjjdngoblfleaaGreatNw
namespace Go.Proofs.YtpjjdngoblfleaaGreat
open Go.RowKit
set_option linter.unusedVariables false
set_option maxRecDepth 100000
section
variable {D : List Dat} {B : List Bnd} {s t : Tw} {v w : Vw}
end
theorem great_no {D : List Dat} {B : List Bnd} {l : List Tw} (h : greatE D B l = false) : cntD D ≤ 600 ∧ cntB B ≤ 600 ∧ cntTL l ≤ 600 := by
 simp only [greatE, Bool.or_eq_false_iff, decide_eq_false_iff_not] at h
 obtain ⟨h1, h2, h3⟩ := h
 have e1 := capD_exact D 600 (by omega)
 have e2 := capB_exact B 600 (by omega)
 have e3 := capTL_exact l 600 (by omega)
 omega
end Go.Proofs.YtpjjdngoblfleaaGreat
namespace Go.Proofs.YtpjjdngoblfleaaGreat
open Go.RowKit
set_option linter.unusedVariables false
set_option maxRecDepth 100000
theorem cOfMM {E : Env} (hU : Up E) : Contract Tryz.prog E 8 sOfM := by
 refine contract_D [(26, sOfM)] [] Tryz.ntmps8 Tryz.func8 (by kernel_rfl) (by kernel_rfl) hU ⟨cOfM hU, trivial⟩ trivial ?_
 intro xs p r hs hp
 unfold sOfM at hs
 split at hs
 · rename_i D s x
   split at hs
   · rename_i v hv
     cases hs
     have hf := hp _ rfl
     refine ⟨[.f (.dt .dat D), .f (.v (.string s)), vlP v], [], .cons (.refl _) (.cons (.refl _) (.cons (vl_sub hv).sub .nil)), rfl, fun _ hsh => ?_⟩
     refine cast_rfl (p := Vw.fitV 400000 (Vw.mk v.kind v.neg v.digits v.truth v.name v.fields) ∧ ∀ (z1 : Bool), z1 = ofV D s (Vw.mk v.kind v.neg v.digits v.truth v.name v.fields) → true = true ∧ Sub (bV z1) (bV (ofV D s v))) ?kr ?_
     case kr => kernel_rfl
     refine ⟨?s0, fun z1 => fun hz1 => ⟨rfl, ?m0⟩⟩
     all_goals try simp only [Vw.eta] at *
     case s0 => exact hf
     case m0 => exact (subB_b hz1).sub
   · cases hs
 · cases hs
end Go.Proofs.YtpjjdngoblfleaaGreat
