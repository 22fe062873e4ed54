/- The layer norm: a formula pushed down. -/
import Derived.Test.YtpjjdngoblfleaaPn
import Derived.Test.YtpjjdngoblfleaaVr
import Derived.Test.YtpjjdngoblfleaaVc
namespace Go.Proofs.Ytpjjdngoblfleaa
open Go.RowKit
set_option linter.unusedVariables false

def bInt : ByteArray := ⟨#[105, 110, 116]⟩
def bBool : ByteArray := ⟨#[98, 111, 111, 108]⟩
def bTag : ByteArray := ⟨#[116, 97, 103]⟩
theorem Tw.eta : ∀ t : Tw, Tw.mk t.kind t.name t.neg t.digits t.kids = t
  | .mk _ _ _ _ _ => rfl
theorem Vw.eta : ∀ t : Vw, Vw.mk t.kind t.neg t.digits t.truth t.name t.fields = t
  | .mk _ _ _ _ _ _ => rfl
mutual
/-- How many parts a term has; terms. -/
def Tw.size : Tw → Nat
  | .mk _ _ _ _ l => szL l + 1
def szL : List Tw → Nat
  | [] => 0
  | t :: l => t.size + szL l
end
theorem Tw.size_eq (t : Tw) : t.size = szL t.kids + 1 := by cases t; rfl
theorem szL_le {l : List Tw} {i : Nat} (h : i < l.length) : (l.getD i default).size ≤ szL l := by
  induction l generalizing i with
  | nil => simp at h
  | cons t l ih =>
    cases i with
    | zero => simp [szL]
    | succ i =>
      have := ih (i := i) (by simpa using h)
      simp only [List.getD_cons_succ, szL]
      omega
def valE {α : Type} (d : α) : Except Int α → α
  | .ok x => x
  | .error _ => d
def errE {α : Type} : Except Int α → Int
  | .ok _ => 0
  | .error e => e
theorem bs_l (a b : ByteArray) : (a.toList == b.toList) = decide (a = b) := by
  obtain ⟨a⟩ := a
  obtain ⟨b⟩ := b
  have ea : (⟨a⟩ : ByteArray) = ⟨a.toList.toArray⟩ := by simp
  have eb : (⟨b⟩ : ByteArray) = ⟨b.toList.toArray⟩ := by simp
  rw [ea, eb]
  refine bseq _ _ _ ?_
  congr 1
  simp
/-- Is one of some? The first one. -/
def anyB {α : Type} (l : List α) (f : α → Bool) : Int := match l.findIdx? f with
  | some i => i
  | none => -1
theorem anyB_hit {α : Type} {l : List α} {f : α → Bool} {i : Nat} (d : α) (h : i < l.length) (hi : f (l.getD i d) = true) (hk : ∀ k, k < i → f (l.getD k d) = false) : anyB l f = i := by
  unfold anyB
  have e : l.findIdx? f = some i := by
    rw [List.findIdx?_eq_some_iff_getElem]
    refine ⟨h, ?_, fun j hj => ?_⟩
    · rw [List.getD_eq_getElem?_getD, List.getElem?_eq_getElem h] at hi; exact hi
    · have := hk j hj
      rw [List.getD_eq_getElem?_getD, List.getElem?_eq_getElem (by omega)] at this
      simpa using this
  rw [e]
theorem anyB_miss {α : Type} {l : List α} {f : α → Bool} (d : α) (hk : ∀ k, k < l.length → f (l.getD k d) = false) : anyB l f = -1 := by
  unfold anyB
  have e : l.findIdx? f = none := by
    rw [List.findIdx?_eq_none_iff]
    intro x hx
    obtain ⟨j, hj, rfl⟩ := List.getElem_of_mem hx
    have := hk j hj
    rwa [List.getD_eq_getElem?_getD, List.getElem?_eq_getElem hj] at this
  rw [e]
theorem wJ (n : Int) (h1 : -9223372036854775808 ≤ n) (h2 : n ≤ 9223372036854775807) : IntKind.i64.wrap n = n := wrapI n ⟨by omega, by omega⟩
/-- Sorts. -/
def dataB (D : List Dat) (s : ByteArray) : Bool := !decide (s = bInt) && (!decide (s = bBool) && decide (0 ≤ anyB D fun d => decide (d.name = s)))
theorem drop_at {α : Type} (l : List α) (d : α) {i : Nat} (h : i < l.length) : l.drop i = l.getD i d :: l.drop (i + 1) := by
  rw [List.drop_eq_getElem_cons h, List.getD_eq_getElem?_getD, List.getElem?_eq_getElem h]; rfl
end Go.Proofs.Ytpjjdngoblfleaa

namespace Go.Proofs.Ytpjjdngoblfleaa
open Go.RowKit
set_option linter.unusedVariables false
set_option maxRecDepth 100000

/-- A number of bits 64; a truth; a text; an error. -/
def iV (n : Int) : PV := .f (.v (.int .i64 n))
def bV (b : Bool) : PV := .f (.v (.bool b))
def sV (s : ByteArray) : PV := .f (.v (.string s))
theorem subB_b {n m : Bool} (h : n = m) : SubB (bV n) (bV m) := by subst h; exact .refl _
theorem subB_i {n m : Int} (h : n = m) : SubB (iV n) (iV m) := by subst h; exact .refl _
theorem short_row {s : Sh} {l : List s.T} (h : shortP (.f (.dt s l))) : l.length ≤ 9223372036854775807 := by
  have h' : l.length ≤ maxLen := h.1
  unfold maxLen at h'
  omega
def anyD (D : List Dat) (s : ByteArray) : Int := anyB D fun d => decide (d.name = s)
end Go.Proofs.Ytpjjdngoblfleaa

namespace Go.Proofs.Ytpjjdngoblfleaa
open Go.RowKit
set_option linter.unusedVariables false
set_option maxRecDepth 100000

theorem w8 (n : Int) (h1 : 0 ≤ n) (h2 : n ≤ 255) : IntKind.u8.wrap n = n := by
  have : IntKind.u8.wrap n = n % 256 := by simp [IntKind.wrap, IntKind.bits, IntKind.signed]
  rw [this]; omega
theorem endU_need {n0 : Nat} {p : Prop} {o : Out} {t : Bool} {x : PV} {ob : List PO} (h : EndU n0 o.fin t x ob) : EndU n0 (Out.need p o).fin t x ob := h
end Go.Proofs.Ytpjjdngoblfleaa

namespace Go.Proofs.Ytpjjdngoblfleaa
open Go.RowKit
set_option linter.unusedVariables false
set_option maxRecDepth 100000

/-- A term, by value. -/
def tmP (t : Tw) : PV := .agg (wrapF (tmC t))
def tmOf : PV → Option Tw
  | .agg l => match leafs l with
    | some m => toTm m
    | none => none
  | _ => none
theorem wrapF_at : ∀ (l : List Lf) (i : Nat), (wrapF l)[i]? = (l[i]?).map PV.f
  | [], i => by simp [wrapF]
  | x :: l, 0 => by simp [wrapF]
  | x :: l, i + 1 => by simp [wrapF, wrapF_at l i]
theorem wrapF_len : ∀ (l : List Lf), (wrapF l).length = l.length
  | [] => rfl
  | x :: l => by simp [wrapF, wrapF_len l]
theorem tm_sub {x : PV} {t : Tw} (h : tmOf x = some t) : SubB x (tmP t) := by
  unfold tmOf at h
  split at h
  · rename_i l
    split at h
    · rename_i m hm
      have hs := toTm_sub h
      obtain ⟨h1, h2⟩ := leafs_at hm
      refine ⟨fun H B v hv => ?_⟩
      obtain ⟨vs, rfl, h3⟩ := PRs.of_agg hv
      refine PRs.agg ⟨by rw [h3.1, ← h1, wrapF_len, hs.len], fun i u y hu hy => ?_⟩
      rw [wrapF_at] at hy
      cases hc : (tmC t)[i]? with
      | none => rw [hc] at hy; cases hy
      | some z =>
        rw [hc] at hy
        cases hy
        obtain ⟨x, h4, h5⟩ := hs.at hc
        exact .f (h5 _ _ (h3.2 i u _ hu (h2 i x h4)).rd)
    · cases h
  · cases h
theorem getD_any {α : Type} {l : List α} {i : Nat} (h : i < l.length) (a b : α) : l.getD i a = l.getD i b := by
  rw [List.getD_eq_getElem?_getD, List.getD_eq_getElem?_getD, List.getElem?_eq_getElem h]; rfl
end Go.Proofs.Ytpjjdngoblfleaa

namespace Go.Proofs.Ytpjjdngoblfleaa
open Go.RowKit
set_option linter.unusedVariables false
set_option maxRecDepth 100000

theorem SubB.sub {x y : PV} (h : SubB x y) : Sub x y := ⟨fun H v hv => h.out H _ v hv⟩
end Go.Proofs.Ytpjjdngoblfleaa

namespace Go.Proofs.Ytpjjdngoblfleaa
open Go.RowKit
set_option linter.unusedVariables false
set_option maxRecDepth 100000

theorem Tw.ext {t u : Tw} (h1 : t.kind = u.kind) (h2 : t.name = u.name) (h3 : t.neg = u.neg) (h4 : t.digits = u.digits) (h5 : t.kids = u.kids) : t = u := by
  rw [← t.eta, ← u.eta, h1, h2, h3, h4, h5]
theorem b_iff {a b : Bool} (h : a = true ↔ b = true) : a = b := by cases a <;> cases b <;> simp_all
theorem take_next {α : Type} {l m : List α} {i : Nat} (d : α) (hl : i < l.length) (hm : i < m.length) (h : l.take i = m.take i) (hd : l.getD i d = m.getD i d) : l.take (i + 1) = m.take (i + 1) := by
  rw [List.getD_eq_getElem?_getD, List.getD_eq_getElem?_getD, List.getElem?_eq_getElem hl, List.getElem?_eq_getElem hm] at hd
  simp only [Option.getD_some] at hd
  rw [List.take_add_one, List.take_add_one, h, List.getElem?_eq_getElem hl, List.getElem?_eq_getElem hm, hd]
end Go.Proofs.Ytpjjdngoblfleaa

namespace Go.Proofs.Ytpjjdngoblfleaa
open Go.RowKit
set_option linter.unusedVariables false
set_option maxRecDepth 100000

/-- A term of kids; the number 1; a term above another one. -/
def conT (k : Int) (l : List Tw) : Tw := .mk k ⟨#[]⟩ false [] l
theorem leaf_sub {l : List PV} {m M : List Lf} (hm : leafs l = some m) (hs : SubL m M) : SubB (.agg l) (.agg (wrapF M)) := by
  obtain ⟨h1, h2⟩ := leafs_at hm
  refine ⟨fun H B v hv => ?_⟩
  obtain ⟨vs, rfl, h3⟩ := PRs.of_agg hv
  refine PRs.agg ⟨by rw [h3.1, ← h1, wrapF_len, hs.len], fun i u y hu hy => ?_⟩
  rw [wrapF_at] at hy
  cases hc : M[i]? with
  | none => rw [hc] at hy; cases hy
  | some z =>
    rw [hc] at hy
    cases hy
    obtain ⟨x, h4, h5⟩ := hs.at hc
    exact .f (h5 _ _ (h3.2 i u _ hu (h2 i x h4)).rd)
theorem dt_sub {s : Sh} {x : Lf} {l : List s.T} (h : dtOf s x = some l) : SubB (.f x) (.f (.dt s l)) := ⟨fun H B v hv => .f (dtOf_rd h _ _ hv.rd)⟩
/-- Limbs of their own. -/
def sClone : Spec
  | [.f (.lr d m)] => some (some (d.length ≤ 400000), .one (.f (.lr d d.length)))
  | _ => none
theorem noNil {P : Program} {E : Env} : Contract2 P E nilKey (fun _ _ => none) := fun _ _ _ h => by cases h
theorem is_lr {d : List Nat} (h : ∀ x ∈ d, x < 4294967296) : SubB (.f (.is .u32 ([] ++ d.map Int.ofNat))) (.f (.lr d d.length)) := ⟨fun H B v hv => .f (rd_view (f := .is .u32 ([] ++ d.map Int.ofNat)) (k := 1) (n := d.length) (get := fun i => [.v (.int .u32 (([] ++ d.map Int.ofNat).getD i 0))]) (by rw [Lf.view, List.nil_append, List.length_map]) rfl ⟨Nat.le_refl _, h⟩ (Nat.le_refl _) (fun i hi => by
    have hi : i < d.length := hi
    rw [List.nil_append, List.getD_eq_getElem?_getD, List.getD_eq_getElem?_getD, List.getElem?_map, List.getElem?_eq_getElem hi]; rfl) hv.rd)⟩
theorem cClone {E : Env} (hU : Up E) : Contract Try.prog E 65 sClone := by
  refine contract_D [] [(nilKey, fun _ _ => none)] Try.ntmps65 Try.func65 (by kernel_rfl) (by kernel_rfl) hU trivial ⟨noNil, trivial⟩ ?_
  intro xs p r hs hp
  unfold sClone at hs
  split at hs
  · rename_i d m
    cases hs
    have hd := hp _ rfl
    refine ⟨[.f (.lr d m)], [], .cons (.refl _) .nil, rfl, fun hg hsh => ?_⟩
    have hgd : ∀ x ∈ d, x < 4294967296 := hg.1.1.2
    refine cast_rfl (p := (d.length = 0 → true = true ∧ Sub (PV.f (Lf.v (Value.slice none 0 0))) (PV.f (Lf.lr d d.length))) ∧ (0 + d.length ≤ 9223372036854775807 ∧ (0 + d.length) * 4 ≤ 140737488355328) ∧ true = true ∧ Sub (PV.f (Lf.is IntKind.u32 ([] ++ List.map Int.ofNat d))) (PV.f (Lf.lr d d.length))) ?kr ?_
    case kr => kernel_rfl
    refine ⟨fun hq0 => ⟨rfl, ?m0⟩, ⟨?s0, ⟨rfl, ?m1⟩⟩⟩
    case m0 =>
      obtain rfl : d = [] := List.length_eq_zero_iff.1 hq0
      exact ⟨fun H v hv => .f (hv.rd.val rfl ▸ nil_rd (k := 1) rfl ⟨Nat.le_refl _, fun x hx => by cases hx⟩)⟩
    case s0 => omega
    case m1 => exact (is_lr hgd).sub
  · cases hs

end Go.Proofs.Ytpjjdngoblfleaa

namespace Go.Proofs.Ytpjjdngoblfleaa
open Go.RowKit
set_option linter.unusedVariables false
set_option maxRecDepth 100000

theorem one_nat : Int.toNat 1 = 1 := rfl
end Go.Proofs.Ytpjjdngoblfleaa
