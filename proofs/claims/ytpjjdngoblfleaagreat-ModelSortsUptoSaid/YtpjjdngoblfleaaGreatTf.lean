/- The layer term: sizes; the kit's sameness of terms. -/
import Derived.Test.YtpjjdngoblfleaaGreatTe
namespace Go.Proofs.YtpjjdngoblfleaaGreat
open Go.RowKit
set_option linter.unusedVariables false
set_option maxRecDepth 100000
theorem Tw.ext {t u : Tw} (h1 : t.kind = u.kind) (h2 : t.name = u.name) (h3 : t.neg = u.neg) (h4 : t.digits = u.digits) (h5 : t.kids = u.kids) : t = u := by
 rw [← t.eta, ← u.eta, h1, h2, h3, h4, h5]
theorem b_iff {a b : Bool} (h : a = true ↔ b = true) : a = b := by cases a <;> cases b <;> simp_all
theorem take_next {α : Type} {l m : List α} {i : Nat} (d : α) (hl : i < l.length) (hm : i < m.length) (h : l.take i = m.take i) (hd : l.getD i d = m.getD i d) : l.take (i + 1) = m.take (i + 1) := by
 rw [List.getD_eq_getElem?_getD, List.getD_eq_getElem?_getD, List.getElem?_eq_getElem hl, List.getElem?_eq_getElem hm] at hd
 simp only [Option.getD_some] at hd
 rw [List.take_add_one, List.take_add_one, h, List.getElem?_eq_getElem hl, List.getElem?_eq_getElem hm, hd]
end Go.Proofs.YtpjjdngoblfleaaGreat
