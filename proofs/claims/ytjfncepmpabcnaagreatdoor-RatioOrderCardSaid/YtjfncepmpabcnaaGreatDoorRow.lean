/- what the rows give: arguments opened; the table; a world for the witness. -/
import Derived.Test.YtjfncepmpabcnaaGreatDoorBase
import Derived.Test.YtjfncepmpabcnaaGreatDoorText
import Derived.Test.YtjfncepmpabcnaaGreatDoorCards
import Derived.Test.YtjfncepmpabcnaaGreatDoorTie
import Derived.ProofKit
import Derived.OpenShut
import Derived.LaidSub
import Derived.Deep.DeepHandedRow
import Derived.Lib.LaidTab
namespace Go.Proofs.YtjfncepmpabcnaaGreatDoor
open Go.ChangeShapes Go.WideShapes Go.ChangeAt Go.RowKit

theorem own : ownKnob Tryz.prog.godebug = none := by kernel_rfl
theorem laidOut : laidOutB Tryz.prog = true := by kernel_rfl
theorem gTab : Tryz.prog.globalNamed "internal/strconv.uint64pow10" = some 1 := by kernel_rfl
theorem gTabType : (Tryz.prog.globals[1]?).map (·.type) = some 182 := by kernel_rfl
theorem cellsTab : Tryz.prog.cellsOf 182 = 20 := by kernel_rfl
theorem cellsU64 : Tryz.prog.cellsOf 72 = 1 := by kernel_rfl
theorem cellsU32 : Tryz.prog.cellsOf 103 = 1 := by kernel_rfl

set_option maxRecDepth 100000 in
theorem tab_one {W : World} {laid : List (String × DataW Unit)} (hf : (laid.filter fun x => x.1 == "internal/strconv.uint64pow10") = [("internal/strconv.uint64pow10", Rows.laid_internal_strconv_uint64pow10)]) (h : laidMetH Tryz.prog laid W) : Tab W := by
  have := h.filter fun x => x.1 == "internal/strconv.uint64pow10"
  rw [hf, show (Rows.laid_internal_strconv_uint64pow10 : DataW Unit) = Lib.tabData .u64 Lib.pow10Tab by kernel_rfl] at this
  exact Lib.tabIs_of_head (rest := []) gTab gTabType Tryz.underlying182 Tryz.underlying72 cellsU64 cellsTab this

set_option maxRecDepth 100000 in
/-- A row of numbers that came in. -/
theorem rd_in {H : Type} {enc : TypeId × Value → H} {W : World} {base : Nat} {v : Value} {d : DataW H} {p : List MemPlace} (hv : Value.okWide Tryz.prog W .any base 27 v) (h : DataW.Trod enc Tryz.prog W 0 (fun _ => true) true 27 v d p) :
    ∃ l, RdI W v .u32 l ∧ ∀ x ∈ l, x < 4294967296 := by
  obtain ⟨a0, len, cap, rfl⟩ := okWide_slice Tryz.underlying27 hv
  obtain ⟨fuel, hf⟩ := h
  rcases open_ints Tryz.underlying27 Tryz.underlying103 cellsU32 hf with ⟨hcs, _⟩ | ⟨a, len', cap', zs, hcs, _, hl, hm, hz, _, hcell, hwz⟩
  · simp [Value.cells] at hcs
    obtain ⟨rfl, rfl, rfl⟩ := hcs
    exact ⟨[], ⟨none, 0, rfl, by simp, by unfold maxLen; omega, fun _ => rfl, fun i hi => by simp at hi⟩, by simp⟩
  · simp [Value.cells] at hcs
    obtain ⟨rfl, rfl, rfl⟩ := hcs
    simp only [if_true] at hz
    have hb : ∀ z ∈ zs, 0 ≤ z ∧ z < 4294967296 := fun z h => by
      have h5 := hwz z h
      have e1 : IntKind.u32.min = 0 := rfl
      have e2 : IntKind.u32.max = 4294967295 := rfl
      simp [Lit.wf, e1, e2] at h5
      omega
    have hlen : ((zs.take len).map Int.toNat).length = len := by simp; omega
    refine ⟨(zs.take len).map Int.toNat, ⟨some a, cap, by rw [hlen], by omega, hm, (fun h => by cases h), fun i hi => ⟨a, rfl, ?_⟩⟩, fun x hx => ?_⟩
    · rw [hlen] at hi
      have hiz : i < zs.length := by omega
      rw [hcell i hiz, dg_eq _ _ (by rw [hlen]; exact hi)]
      have := hb zs[i] (List.getElem_mem _)
      simp only [List.getElem_map, List.getElem_take]
      rw [Int.toNat_of_nonneg this.1]
      simp [List.getD, hiz]
    · obtain ⟨z, hz', rfl⟩ := List.mem_map.1 hx
      have := hb z (List.mem_of_mem_take hz')
      omega

theorem args_keep {H : Type} {enc : TypeId × Value → H} {W W' : World} {v : Value} {d : DataW H} {p : List MemPlace} (t : TypeId) (hr : Tryz.prog.readableRec t = true) (ht : t < Tryz.prog.types.size) (h : DataW.Trod enc Tryz.prog W 0 (fun _ => true) true t v d p)
    (hlt : ∀ x ∈ p, x.block < W.heap.size) (hb : Below W.heap.size W W') : DataW.Trod enc Tryz.prog W' 0 (fun b => decide (b < W.heap.size)) true t v d p :=
  Below.trod laidOut hr ht h hb hlt

/-- The cells of a table's datum. -/
def tabCells : DataW Unit → Array Value
  | .agg l => (l.map fun d => match d with | .lit (.int k n) => Value.int k n | _ => .nilIface).toArray
  | _ => #[]
def putTab (g : Nat) (d : DataW Unit) (h : Array Obj) : Array Obj := h.modify g fun
  | .cells _ t frozen => .cells (tabCells d) t frozen
  | o => o

end Go.Proofs.YtjfncepmpabcnaaGreatDoor
