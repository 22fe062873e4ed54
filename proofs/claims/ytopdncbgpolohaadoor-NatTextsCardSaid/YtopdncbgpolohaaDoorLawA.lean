/- the kit's SameLimbs; same, few of the laws. -/
import Derived.Test.YtopdncbgpolohaaDoorNatI
namespace Go.Proofs.YtopdncbgpolohaaDoor
open Go.RowKit

/-- Are two lists one? -/
def eqB (l m : List Nat) : Bool := decide (l = m)
theorem eqB_len {l m : List Nat} (h : l.length ≠ m.length) : eqB l m = false := by
  simp only [eqB, decide_eq_false_iff_not]; intro e; exact h (by rw [e])
theorem eqB_at {l m : List Nat} {k : Nat} (h : dg l k ≠ dg m k) : eqB l m = false := by
  simp only [eqB, decide_eq_false_iff_not]; intro e; exact h (by rw [e])
theorem eqB_self (l : List Nat) : eqB l l = true := by simp [eqB]
theorem take_eq_succ {l m : List Nat} {k : Nat} (h : l.take k = m.take k) (hd : dg l k = dg m k) (hl : k < l.length) (hm : k < m.length) : l.take (k + 1) = m.take (k + 1) := by
  rw [List.take_succ_eq_append_getElem hl, List.take_succ_eq_append_getElem hm, h, ← dg_eq l k hl, ← dg_eq m k hm, hd]

set_option maxRecDepth 100000 in
set_option maxHeartbeats 1000000 in
theorem sameLimbs_any (v u : Value) (l m : List Nat) (w : World) (hv : RdI w v .u32 l) (hu : RdI w u .u32 m) (h1 : l.length ≤ 1000000000) :
    Calls Tryd.prog 23 #[v, u] w fun e w' => e = .returned (.bool (eqB l m)) ∧ ∃ n, w' = w.drewN n := by
  obtain ⟨ao, ac, rfl, _, _, _, hx⟩ := hv
  obtain ⟨bo, bc, rfl, _, _, _, hy⟩ := hu
  have HX := Lib.hid hx
  have HY := Lib.hid hy
  clear hx hy
  by_cases hlm : l.length = m.length
  · have hne : ((l.length : Int) != (m.length : Int)) = false := by simp [hlm]
    have HLM := Lib.hid hlm
    clear hlm
    go_enter Tryd.func23, Tryd.ntmps23
    go_wp2_with fail
    go_loopw [5] (fun i wr => ∃ (kk n : Nat), i = .int .i64 kk ∧ kk ≤ l.length ∧ l.take kk = m.take kk ∧ wr = w.drewN n) (fun i _ => l.length - (intOf i).toNat)
    case atStart => exact ⟨0, 0, rfl, by omega, by simp, rfl⟩
    case round =>
      obtain ⟨k, n, rfl, hk, hxs, rfl⟩ := hrel
      have HXS := Lib.hid hxs
      clear hxs
      by_cases hkl : k < l.length
      · obtain ⟨ad, had, hcell⟩ := HX.out k hkl
        subst had
        obtain ⟨bd, hbd, hcell2⟩ := HY.out k (by have := HLM.out; omega)
        subst hbd
        have hi0 : (0 : Int) ≤ (k : Int) := by omega
        have hi1 : (k : Int) < (l.length : Int) := by omega
        have hi2 : (k : Int) < (m.length : Int) := by have := HLM.out; omega
        have hkm : k < m.length := by omega
        by_cases hd : dg l k = dg m k
        · have hb : ((dg l k : Int) != (dg m k : Int)) = false := by simp [hd]
          have HD := Lib.hid hd
          clear hd
          go_wp2_with fail
          go_quiet (fail)
          go_wp2_with fail
          go_roundw
          case rel => exact ⟨k + 1, _, by go_num, by omega, take_eq_succ HXS.out HD.out hkl hkm, rfl⟩
          case measure => simp [intOf]; omega
        · have hb : ((dg l k : Int) != (dg m k : Int)) = true := by simp; omega
          have HD := Lib.hid hd
          clear hd
          go_wp2_with fail
          go_quiet (fail)
          go_wp2_with fail
          go_ret
          exact ⟨by rw [eqB_at HD.out]; rfl, _, World.drewN_drewN _ _ _⟩
      · go_wp2_with fail
        go_ret
        refine ⟨?_, _, rfl⟩
        have := HXS.out
        rw [List.take_of_length_le (by omega), List.take_of_length_le (by have := HLM.out; omega)] at this
        rw [this, eqB_self]; rfl
  · have hne : ((l.length : Int) != (m.length : Int)) = true := by simp; omega
    have HLM := Lib.hid hlm
    clear hlm
    go_enter Tryd.func23, Tryd.ntmps23
    go_wp2_with fail
    go_ret
    exact ⟨by rw [eqB_len HLM.out]; rfl, 0, rfl⟩

set_option maxHeartbeats 400000 in
theorem same_any (v u : Value) (l m : List Nat) (w : World) (hv : RdI w v .u32 l) (hu : RdI w u .u32 m) (h1 : l.length ≤ 1000000000) :
    Calls Tryd.prog 10 #[v, u] w fun e w' => e = .returned (.bool (eqB l m)) ∧ ∃ n, w' = w.drewN n := by
  have HV := Lib.hid hv
  have HU := Lib.hid hu
  clear hv hu
  go_enter Tryd.func10, Tryd.ntmps10
  go_wp2_with (go_at_call 23; refine (sameLimbs_any _ _ l m _ HV.out HU.out h1).mono ?_; rintro e w' ⟨rfl, n, rfl⟩)
  go_ret
  exact ⟨rfl, _, rfl⟩

/-- Are rows few and short? -/
def fewB (ls : List (List Nat)) : Bool := decide (∀ a ∈ ls, a.length ≤ 40) && decide (ls.length ≤ 8)
theorem fewB_long {ls : List (List Nat)} {k : Nat} (hk : k < ls.length) (h : 40 < (rowOf ls k).length) : fewB ls = false := by
  rw [Bool.eq_false_iff]
  intro hc
  simp [fewB] at hc
  have := hc.1 (rowOf ls k) (by rw [rowOf_eq ls k hk]; exact List.getElem_mem hk)
  omega
theorem fewB_end {ls : List (List Nat)} (h : ∀ k, k < ls.length → (rowOf ls k).length ≤ 40) : fewB ls = decide (ls.length ≤ 8) := by
  have : decide (∀ a ∈ ls, a.length ≤ 40) = true := by
    simp
    intro a ha
    obtain ⟨k, hk, rfl⟩ := List.getElem_of_mem ha
    have := h k hk
    rwa [rowOf_eq ls k hk] at this
  simp only [fewB, this, Bool.true_and]

set_option maxRecDepth 100000 in
set_option maxHeartbeats 1000000 in
theorem few_any (u : Value) (ls : List (List Nat)) (w : World) (hu : RdRows w u .u32 ls) :
    Calls Tryd.prog 9 #[u] w fun e w' => e = .returned (.bool (fewB ls)) ∧ w = w' := by
  obtain ⟨ao, ac, rfl, _, hm, hx⟩ := hu
  have HX := Lib.hid hx
  clear hx
  unfold maxLen at hm
  go_enter Tryd.func9, Tryd.ntmps9
  go_wp2_with fail
  go_loop [3] (fun i => ∃ kk : Nat, i = .int .i64 kk ∧ kk ≤ ls.length ∧ ∀ j, j < kk → (rowOf ls j).length ≤ 40) (fun i => ls.length - (intOf i).toNat)
  case atStart => exact ⟨0, rfl, by omega, fun j hj => by omega⟩
  case round =>
    obtain ⟨k, rfl, hk, hxs⟩ := hrel
    have HXS := Lib.hid hxs
    clear hxs
    by_cases hkl : k < ls.length
    · obtain ⟨ad, row, had, hcell, hrow⟩ := HX.out k hkl
      subst had
      obtain ⟨ro, rc, rfl, _, hrm, _, _⟩ := hrow
      by_cases h40 : (rowOf ls k).length ≤ 40
      · have hgt : ¬ (40 : Int) < ((rowOf ls k).length : Int) := by omega
        have H40 := Lib.hid h40
        go_wp2_with fail
        go_round
        case rel =>
          refine ⟨k + 1, by go_num, by omega, fun j hj => ?_⟩
          rcases Nat.lt_or_ge j k with h | h
          · exact HXS.out j h
          · obtain rfl : j = k := by omega
            exact H40.out
        case measure => simp [intOf]; omega
      · have hgt : (40 : Int) < ((rowOf ls k).length : Int) := by omega
        have H40 := Lib.hid h40
        go_wp2_with fail
        go_ret
        exact ⟨by rw [fewB_long hkl (by have := H40.out; omega)]; rfl, rfl⟩
    · have HE : Hid (fewB ls = decide (ls.length ≤ 8)) := fewB_end fun j hj => HXS.out j (by omega)
      go_wp2_with fail
      go_ret
      refine ⟨?_, rfl⟩
      have e : decide ((ls.length : Int) ≤ 8) = decide (ls.length ≤ 8) := by rw [decide_eq_decide]; omega
      rw [HE.out, ← e]; rfl

end Go.Proofs.YtopdncbgpolohaaDoor
