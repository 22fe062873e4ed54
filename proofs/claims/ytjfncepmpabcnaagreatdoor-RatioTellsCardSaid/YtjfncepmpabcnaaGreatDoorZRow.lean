/- numbers that came in: arguments opened. -/
import Derived.Test.YtjfncepmpabcnaaGreatDoorRow
import Derived.Test.YtjfncepmpabcnaaGreatDoorZBase
import Derived.Lib.SmallJoins
namespace Go.Proofs.YtjfncepmpabcnaaGreatDoor
open Go.ChangeShapes Go.WideShapes Go.ChangeAt Go.RowKit Go.Joins

theorem wts_cons {H : Type} {t : TypeId} {ts : List TypeId} {d : DataW H} {ds : List (DataW H)} (h : (DataW.weightsEach Tryz.prog (t :: ts) (d :: ds)).all (· ≤ reachBytes) = true) :
    (d.weights Tryz.prog t).all (· ≤ reachBytes) = true ∧ (DataW.weightsEach Tryz.prog ts ds).all (· ≤ reachBytes) = true := by
  rw [DataW.weightsEach, List.all_append, Bool.and_eq_true] at h
  exact h
theorem cellsInt : Tryz.prog.cellsOf 29 = 2 := by kernel_rfl
theorem bytesU32 : Tryz.prog.bytesOf 103 = 4 := by kernel_rfl

set_option maxRecDepth 100000 in
/-- A row of numbers that came in, within the reach. -/
theorem rd_tr {H : Type} {enc : TypeId × Value → H} {W : World} {v : Value} {n : Nat} {y : DataW H × List MemPlace} (h : DataW.trod enc Tryz.prog W 0 (fun _ => true) true n 27 [v] = some y) (hr : (y.1.weights Tryz.prog 27).all (· ≤ reachBytes) = true) :
    ∃ l, RdI W v .u32 l ∧ (∀ x ∈ l, x < 4294967296) ∧ l.length ≤ 140737488351232 := by
  rcases open_ints Tryz.underlying27 Tryz.underlying103 cellsU32 h with ⟨hcs, _⟩ | ⟨a, len', cap', zs, hcs, _, hl, hm, hz, hy, hcell, hwz⟩
  · simp at hcs
    subst hcs
    exact ⟨[], ⟨none, 0, rfl, by simp, by unfold maxLen; omega, fun _ => rfl, fun i hi => by simp at hi⟩, by simp, by simp⟩
  · simp at hcs
    subst hcs
    simp only [if_true] at hz
    have hb : ∀ z ∈ zs, 0 ≤ z ∧ z < 4294967296 := fun z h => by
      have h5 := hwz z h
      have e1 : IntKind.u32.min = 0 := rfl
      have e2 : IntKind.u32.max = 4294967295 := rfl
      simp [Lit.wf, e1, e2] at h5
      omega
    have hlen : ((zs.take len').map Int.toNat).length = len' := by simp; omega
    have hlz : zs.length * 4 ≤ 140737488351232 := by
      rw [hy] at hr
      simp only [DataW.weights, Tryz.underlying27, List.all_cons, Bool.and_eq_true, decide_eq_true_eq] at hr
      have h6 := hr.1
      rw [bytesU32] at h6
      have e3 : (lits (H := H) .u32 (zs.take len')).length + (lits (H := H) .u32 (zs.drop len')).length = zs.length := by simp [lits]; omega
      rw [e3] at h6
      exact h6
    refine ⟨(zs.take len').map Int.toNat, ⟨some a, cap', by rw [hlen], by omega, hm, (fun h => by cases h), fun i hi => ⟨a, rfl, ?_⟩⟩, fun x hx => ?_, by rw [hlen]; omega⟩
    · rw [hlen] at hi
      have hiz : i < zs.length := by omega
      rw [hcell i hiz, dg_eq _ _ (by rw [hlen]; exact hi)]
      have := hb zs[i] (List.getElem_mem _)
      simp only [List.getElem_map, List.getElem_take]
      rw [Int.toNat_of_nonneg this.1]
      simp [List.getD, hiz]
    · obtain ⟨z, hz', rfl⟩ := List.mem_map.1 hx
      have := hb z (List.mem_of_mem_take hz')
      omega
end Go.Proofs.YtjfncepmpabcnaaGreatDoor
