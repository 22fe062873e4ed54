/- The layer term: a function's sorts. -/
import Derived.Test.YtpjjdngoblfleaaGreatTa
namespace Go.Proofs.YtpjjdngoblfleaaGreat
open Go.RowKit
set_option linter.unusedVariables false
set_option maxRecDepth 100000
theorem w8 (n : Int) (h1 : 0 ≤ n) (h2 : n ≤ 255) : IntKind.u8.wrap n = n := by
 have : IntKind.u8.wrap n = n % 256 := by simp [IntKind.wrap, IntKind.bits, IntKind.signed]
 rw [this]; omega
theorem endU_need {n0 : Nat} {p : Prop} {o : Out} {t : Bool} {x : PV} {ob : List PO} (h : EndU n0 o.fin t x ob) : EndU n0 (Out.need p o).fin t x ob := h
end Go.Proofs.YtpjjdngoblfleaaGreat
