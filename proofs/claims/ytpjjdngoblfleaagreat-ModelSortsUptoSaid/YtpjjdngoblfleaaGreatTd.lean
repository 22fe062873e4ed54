/- The layer term: a term's sort. -/
import Derived.Test.YtpjjdngoblfleaaGreatTc
namespace Go.Proofs.YtpjjdngoblfleaaGreat
open Go.RowKit
set_option linter.unusedVariables false
set_option maxRecDepth 100000
def tmP (t : Tw) : PV := .agg (wrapF (tmC t))
def tmOf : PV → Option Tw
 | .agg l => match leafs l with
  | some m => toTm m
  | none => none
 | _ => none
theorem wrapF_at : ∀ (l : List Lf) (i : Nat), (wrapF l)[i]? = (l[i]?).map PV.f
 | [], i => by simp [wrapF]
 | x :: l, 0 => by simp [wrapF]
 | x :: l, i + 1 => by simp [wrapF, wrapF_at l i]
theorem wrapF_len : ∀ (l : List Lf), (wrapF l).length = l.length
 | [] => rfl
 | x :: l => by simp [wrapF, wrapF_len l]
theorem tm_sub {x : PV} {t : Tw} (h : tmOf x = some t) : SubB x (tmP t) := by
 unfold tmOf at h
 split at h
 · rename_i l
   split at h
   · rename_i m hm
     have hs := toTm_sub h
     obtain ⟨h1, h2⟩ := leafs_at hm
     refine ⟨fun H B v hv => ?_⟩
     obtain ⟨vs, rfl, h3⟩ := PRs.of_agg hv
     refine PRs.agg ⟨by rw [h3.1, ← h1, wrapF_len, hs.len], fun i u y hu hy => ?_⟩
     rw [wrapF_at] at hy
     cases hc : (tmC t)[i]? with
     | none => rw [hc] at hy; cases hy
     | some z =>
      rw [hc] at hy
      cases hy
      obtain ⟨x, h4, h5⟩ := hs.at hc
      exact .f (h5 _ _ (h3.2 i u _ hu (h2 i x h4)).rd)
   · cases h
 · cases h
theorem getD_any {α : Type} {l : List α} {i : Nat} (h : i < l.length) (a b : α) : l.getD i a = l.getD i b := by
 rw [List.getD_eq_getElem?_getD, List.getD_eq_getElem?_getD, List.getElem?_eq_getElem h]; rfl
end Go.Proofs.YtpjjdngoblfleaaGreat
