/- Terms, in plain words: sizes, sorts. -/
import Derived.Test.YtpjjdngoblfleaaGreatPn
import Derived.Test.YtpjjdngoblfleaaGreatVr
namespace Go.Proofs.YtpjjdngoblfleaaGreat
open Go.RowKit
set_option linter.unusedVariables false
def bInt : ByteArray := ⟨#[105, 110, 116]⟩
def bBool : ByteArray := ⟨#[98, 111, 111, 108]⟩
def bTag : ByteArray := ⟨#[116, 97, 103]⟩
theorem Tw.eta : ∀ t : Tw, Tw.mk t.kind t.name t.neg t.digits t.kids = t
 | .mk _ _ _ _ _ => rfl
theorem Vw.eta : ∀ t : Vw, Vw.mk t.kind t.neg t.digits t.truth t.name t.fields = t
 | .mk _ _ _ _ _ _ => rfl
mutual
def Tw.size : Tw → Nat
 | .mk _ _ _ _ l => szL l + 1
def szL : List Tw → Nat
 | [] => 0
 | t :: l => t.size + szL l
end
theorem Tw.size_eq (t : Tw) : t.size = szL t.kids + 1 := by cases t; rfl
theorem szL_le {l : List Tw} {i : Nat} (h : i < l.length) : (l.getD i default).size ≤ szL l := by
 induction l generalizing i with
 | nil => simp at h
 | cons t l ih =>
  cases i with
  | zero => simp [szL]
  | succ i =>
   have := ih (i := i) (by simpa using h)
   simp only [List.getD_cons_succ, szL]
   omega
def valE {α : Type} (d : α) : Except Int α → α
 | .ok x => x
 | .error _ => d
def errE {α : Type} : Except Int α → Int
 | .ok _ => 0
 | .error e => e
theorem bs_l (a b : ByteArray) : (a.toList == b.toList) = decide (a = b) := by
 obtain ⟨a⟩ := a
 obtain ⟨b⟩ := b
 have ea : (⟨a⟩ : ByteArray) = ⟨a.toList.toArray⟩ := by simp
 have eb : (⟨b⟩ : ByteArray) = ⟨b.toList.toArray⟩ := by simp
 rw [ea, eb]
 refine bseq _ _ _ ?_
 congr 1
 simp
def allEq (l : List ByteArray) (s : ByteArray) : Bool := l.all fun x => decide (x = s)
def anyB {α : Type} (l : List α) (f : α → Bool) : Int := match l.findIdx? f with
 | some i => i
 | none => -1
theorem anyB_hit {α : Type} {l : List α} {f : α → Bool} {i : Nat} (d : α) (h : i < l.length) (hi : f (l.getD i d) = true) (hk : ∀ k, k < i → f (l.getD k d) = false) : anyB l f = i := by
 unfold anyB
 have e : l.findIdx? f = some i := by
  rw [List.findIdx?_eq_some_iff_getElem]
  refine ⟨h, ?_, fun j hj => ?_⟩
  · rw [List.getD_eq_getElem?_getD, List.getElem?_eq_getElem h] at hi; exact hi
  · have := hk j hj
    rw [List.getD_eq_getElem?_getD, List.getElem?_eq_getElem (by omega)] at this
    simpa using this
 rw [e]
theorem anyB_miss {α : Type} {l : List α} {f : α → Bool} (d : α) (hk : ∀ k, k < l.length → f (l.getD k d) = false) : anyB l f = -1 := by
 unfold anyB
 have e : l.findIdx? f = none := by
  rw [List.findIdx?_eq_none_iff]
  intro x hx
  obtain ⟨j, hj, rfl⟩ := List.getElem_of_mem hx
  have := hk j hj
  rwa [List.getD_eq_getElem?_getD, List.getElem?_eq_getElem hj] at this
 rw [e]
theorem wJ (n : Int) (h1 : -9223372036854775808 ≤ n) (h2 : n ≤ 9223372036854775807) : IntKind.i64.wrap n = n := wrapI n ⟨by omega, by omega⟩
def dataB (D : List Dat) (s : ByteArray) : Bool := !decide (s = bInt) && (!decide (s = bBool) && decide (0 ≤ anyB D fun d => decide (d.name = s)))
theorem drop_at {α : Type} (l : List α) (d : α) {i : Nat} (h : i < l.length) : l.drop i = l.getD i d :: l.drop (i + 1) := by
 rw [List.drop_eq_getElem_cons h, List.getD_eq_getElem?_getD, List.getElem?_eq_getElem h]; rfl
end Go.Proofs.YtpjjdngoblfleaaGreat
