/- rows of rows that came in. -/
import Derived.Test.YtopdncbgpolohaaDoorRow
import Derived.Test.YtopdncbgpolohaaDoorNatG
import Derived.Deep.Matrix
namespace Go.Proofs.YtopdncbgpolohaaDoor
open Go.ChangeShapes Go.WideShapes Go.ChangeAt Go.RowKit

theorem cellsRow : Tryd.prog.cellsOf 26 = 1 := by kernel_rfl

theorem rd_ints {W : World} {ao : Option Addr} {len cap : Nat} {zs : List Int} (h1 : len ≤ cap) (h2 : cap ≤ maxLen) (h3 : zs.length = cap) (h4 : ∀ n ∈ zs, (Lit.int .u32 n).wf = true) (h5 : ao = none → cap = 0)
    (h6 : ∀ a', ao = some a' → ∀ c, c < cap → W.cell? (a'.add c) = some (.int .u32 (zs.getD c 0))) :
    RdI W (.slice ao len cap) .u32 ((zs.take len).map Int.toNat) ∧ ∀ x ∈ (zs.take len).map Int.toNat, x < 4294967296 := by
  have hb : ∀ z ∈ zs, 0 ≤ z ∧ z < 4294967296 := fun z h => by
    have h5 := h4 z h
    have e1 : IntKind.u32.min = 0 := rfl
    have e2 : IntKind.u32.max = 4294967295 := rfl
    simp [Lit.wf, e1, e2] at h5
    omega
  have hlen : ((zs.take len).map Int.toNat).length = len := by simp; omega
  refine ⟨⟨ao, cap, by rw [hlen], by omega, h2, h5, fun i hi => ?_⟩, fun x hx => ?_⟩
  · rw [hlen] at hi
    have hiz : i < zs.length := by omega
    cases ao with
    | none => have := h5 rfl; omega
    | some a =>
      refine ⟨a, rfl, ?_⟩
      rw [h6 a rfl i (by omega), dg_eq _ _ (by rw [hlen]; exact hi)]
      have := hb zs[i] (List.getElem_mem _)
      simp only [List.getElem_map, List.getElem_take]
      rw [Int.toNat_of_nonneg this.1]
      simp [List.getD, hiz]
  · obtain ⟨z, hz', rfl⟩ := List.mem_map.1 hx
    have := hb z (List.mem_of_mem_take hz')
    omega

set_option maxRecDepth 100000 in
theorem rows_in {H : Type} {enc : TypeId × Value → H} {W : World} {base : Nat} {v : Value} {d : DataW H} {p : List MemPlace} (hv : Value.okWide Tryd.prog W .any base 22 v) (h : DataW.Trod enc Tryd.prog W 0 (fun _ => true) true 22 v d p) :
    ∃ ls, RdRows W v .u32 ls ∧ ∀ l ∈ ls, ∀ x ∈ l, x < 4294967296 := by
  obtain ⟨a0, len, cap, rfl⟩ := okWide_slice Tryd.underlying22 hv
  obtain ⟨fuel, hf⟩ := h
  rcases Go.Deep.open_int_rows Tryd.underlying22 Tryd.underlying26 Tryd.underlying32 cellsRow cellsU32 hf with ⟨hcs, _⟩ | ⟨a, len', cap', A, L, C, Z, hcs, _, hl, hm, _, hx⟩
  · simp [Value.cells] at hcs
    obtain ⟨rfl, rfl, rfl⟩ := hcs
    exact ⟨[], ⟨none, 0, rfl, by simp, by unfold maxLen; omega, fun i hi => by simp at hi⟩, by simp⟩
  · simp [Value.cells] at hcs
    obtain ⟨rfl, rfl, rfl⟩ := hcs
    have hlen : ((List.range len).map fun r => ((Z r).take (L r)).map Int.toNat).length = len := by simp
    refine ⟨(List.range len).map fun r => ((Z r).take (L r)).map Int.toNat, ⟨some a, cap, by rw [hlen], by omega, hm, fun i hi => ?_⟩, fun l hl2 => ?_⟩
    · rw [hlen] at hi
      obtain ⟨hc, h1, h2, h3, h4, h5, h6⟩ := hx i (by omega)
      refine ⟨a, _, rfl, hc, ?_⟩
      rw [rowOf_eq _ i (by rw [hlen]; exact hi)]
      simp only [List.getElem_map, List.getElem_range]
      exact (rd_ints h1 h2 h3 h4 h5 fun a' ha => (h6 a' ha).2).1
    · obtain ⟨r, hr, rfl⟩ := List.mem_map.1 hl2
      obtain ⟨hc, h1, h2, h3, h4, h5, h6⟩ := hx r (by have := List.mem_range.1 hr; omega)
      exact (rd_ints h1 h2 h3 h4 h5 fun a' ha => (h6 a' ha).2).2

end Go.Proofs.YtopdncbgpolohaaDoor
