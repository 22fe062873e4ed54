/- A function that catches what another one panics with: its contract, by pure runs of its parts. -/
import Derived.Test.YtpjjdngoblfleaaGreatVb
import Derived.Recover
namespace Go.Proofs.YtpjjdngoblfleaaGreat
set_option linter.unusedVariables false
open Go.RowKit
section
variable {P : Program} {w0 : Cx} {H0 : Hp} {m : Nat} {s : PS} {g : Gh} {a : Act} {w : World}
end
section
variable {P : Program}
theorem invoke_run {cf : FuncId} {vs args : Array Value} {w : World} (hf : plainF P cf = true) : (invoke (.fn (.func cf) vs) args).run P w = .ok (.enter cf (args ++ vs)) w := by
 unfold plainF at hf
 split at hf
 · rename_i fn hfn
   simp only [Bool.and_eq_true, Bool.not_eq_true'] at hf
   have hb : fn.body.isNone = false := by cases h : fn.body <;> simp_all
   have hn : ¬ fn.name = "runtime.NumGoroutine" := by simpa using hf.1
   have hb' : ¬ fn.body = none := fun hc => by rw [hc] at hb; cases hb
   simp [invoke, callFunc, hfn, hn, hb']
 · cases hf
end
end Go.Proofs.YtpjjdngoblfleaaGreat
