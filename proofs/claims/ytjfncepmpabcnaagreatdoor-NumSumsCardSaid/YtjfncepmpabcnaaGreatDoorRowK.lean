/- A list of numbers that came in: the argument opened. -/
import Derived.Test.YtjfncepmpabcnaaGreatDoorRow
import Derived.Test.YtjfncepmpabcnaaGreatDoorZRow
import Derived.Test.YtjfncepmpabcnaaGreatDoorQa
import Derived.HandedShaped
import Derived.Deep.SlicePairs
namespace Go.Proofs.YtjfncepmpabcnaaGreatDoor
open Go.ChangeShapes Go.WideShapes Go.ChangeAt Go.RowKit Go.Joins

theorem cellsBool : Tryz.prog.cellsOf 4 = 1 := by kernel_rfl
theorem cellsLimbs : Tryz.prog.cellsOf 27 = 1 := by kernel_rfl
/-- The memory as it came. -/
def H0 (W : World) : Hp := fun b j => W.cell? ⟨b, j, none⟩
theorem fro0 (W : World) : Fro (H0 W) W := fun _ _ _ h => h
theorem lr_in {W : World} {v : Value} {l : List Nat} (h : RdI W v .u32 l) (hb : ∀ x ∈ l, x < 4294967296) : PR (H0 W) B0 v (.f (.lr l l.length)) := by
  obtain ⟨ao, cap, rfl, hc, hm, h0, hcell⟩ := h
  have key : ∃ b o, (0 < l.length → ao = some ⟨b, o, none⟩) := by
    by_cases hl : 0 < l.length
    · obtain ⟨ad, h1, h2⟩ := hcell 0 hl
      obtain ⟨b, o, sp⟩ := ad
      refine ⟨b, o, fun _ => ?_⟩
      rw [h1]
      cases sp with
      | none => rfl
      | some s =>
        exfalso
        unfold Addr.add World.cell? at h2
        simp at h2
        split at h2 <;> cases h2
    · exact ⟨0, 0, fun h => absurd h hl⟩
  obtain ⟨b, o, key⟩ := key
  refine .f (.slf (fun _ => rfl) (f := .lr l l.length) rfl ⟨Nat.le_refl _, hb⟩ hc hm h0 b o (fun i _ => .int .u32 (l.getD i 0 : Nat)) key (fun i hi j hj => ?_) (fun i hi => rfl) (fun i hi j x hx => ?_))
  · obtain ⟨ad, h1, h2⟩ := hcell i hi
    rw [key (by omega)] at h1
    cases h1
    have hj0 : j = 0 := by omega
    subst hj0
    rw [at_add] at h2
    simpa [H0, dg] using h2
  · match j, hx with
    | 0, hx => simp at hx; subst hx; exact .v _ rfl
    | j + 1, hx => simp at hx
end Go.Proofs.YtjfncepmpabcnaaGreatDoor

namespace Go.Proofs.YtjfncepmpabcnaaGreatDoor
open Go.ChangeShapes Go.WideShapes Go.ChangeAt Go.RowKit Go.Joins Go.Deep

theorem wts_all {H : Type} {e : TypeId} : ∀ {l : List (DataW H)}, (DataW.weightsAll Tryz.prog e l).all (· ≤ reachBytes) = true → ∀ d ∈ l, (d.weights Tryz.prog e).all (· ≤ reachBytes) = true
  | [], _, d, hd => by cases hd
  | x :: l, h, d, hd => by
    rw [DataW.weightsAll, List.all_append, Bool.and_eq_true] at h
    rcases List.mem_cons.1 hd with rfl | hd
    · exact h.1
    · exact wts_all h.2 d hd
theorem bytesInt : Tryz.prog.bytesOf 29 = 32 := by kernel_rfl
set_option maxRecDepth 100000 in
/-- A []api.Int that came in. -/
theorem nums_in {H : Type} {enc : TypeId × Value → H} {W : World} {base : Nat} {v : Value} {d : DataW H} {p : List MemPlace} (hv : Value.okWide Tryz.prog W .any base 22 v) (h : DataW.Trod enc Tryz.prog W 0 (fun _ => true) true 22 v d p)
    (hr : (d.weights Tryz.prog 22).all (· ≤ reachBytes) = true) :
    ∃ L, PR (H0 W) B0 v (.f (.zs L)) ∧ L.length ≤ 5000000000000 ∧ ∀ e ∈ L, e.2.2 = e.2.1.length ∧ e.2.2 ≤ 140737488351232 ∧ ∀ x ∈ e.2.1, x < 4294967296 := by
  obtain ⟨a0, len0, cap0, rfl⟩ := okWide_slice Tryz.underlying22 hv
  obtain ⟨fuel, hf⟩ := h
  rcases open_slice_pairs Tryz.underlying22 Tryz.underlying29 cellsInt rfl rfl cellsBool cellsLimbs hf with ⟨hcs, _⟩ | ⟨a, len, cap, m, n, V0, V1, D0, D1, P0, P1, hcs, _, hl, hm, hmm, hx, hi⟩
  · simp [Value.cells] at hcs
    obtain ⟨rfl, rfl, rfl⟩ := hcs
    refine ⟨[], .f (.slf (fun _ => rfl) (f := .zs []) (k := 2) (n := 0) (get := fun i => [.v (.bool (([] : List (Bool × List Nat × Nat)).getD i (false, [], 0)).1), .lr (([] : List (Bool × List Nat × Nat)).getD i (false, [], 0)).2.1 (([] : List (Bool × List Nat × Nat)).getD i (false, [], 0)).2.2]) rfl trivial (Nat.le_refl _) (by unfold maxLen; omega) (fun _ => rfl) 0 0 (fun _ _ => undef) (fun h => by omega) (fun i h => by omega) (fun i h => by omega) (fun i h => by omega)), by simp, by simp⟩
  · simp [Value.cells] at hcs
    obtain ⟨rfl, rfl, rfl⟩ := hcs
    simp only [if_true] at hmm
    subst hmm
    simp only [Prod.mk.injEq] at hx
    obtain ⟨rfl, -⟩ := hx
    simp only [DataW.weights, Tryz.underlying22, List.all_cons, List.all_append, Bool.and_eq_true, decide_eq_true_eq, List.length_map, List.length_range] at hr
    obtain ⟨hr0, hr1, -⟩ := hr
    rw [bytesInt] at hr0
    have e3 : reachBytes = 140737488351232 := rfl
    rw [e3] at hr0
    have each : ∀ i, i < len0 → ∃ q : Bool × List Nat, V0 i = .bool q.1 ∧ RdI W (V1 i) .u32 q.2 ∧ (∀ x ∈ q.2, x < 4294967296) ∧ q.2.length ≤ 140737488351232 := by
      intro i hil
      obtain ⟨h0, h1, h2, h3⟩ := hi i (by omega)
      obtain ⟨b, hb, _⟩ := DataW.trod_bool Tryz.underlying4 h2
      simp at hb
      have hw := wts_all hr1 (.agg [D0 i, D1 i]) (List.mem_map.2 ⟨i, List.mem_range.2 hil, rfl⟩)
      simp only [DataW.weights, Tryz.underlying29, List.map_cons, List.map_nil] at hw
      obtain ⟨l, k1, k2, k3⟩ := rd_tr h3 (wts_cons (wts_cons hw).2).1
      exact ⟨(b, l), hb, k1, k2, k3⟩
    obtain ⟨q, hq⟩ := choose_lt each
    obtain ⟨L, hL⟩ : ∃ L : List (Bool × List Nat × Nat), L = (List.range len0).map fun i => ((q i).1, (q i).2, (q i).2.length) := ⟨_, rfl⟩
    have hlen : L.length = len0 := by rw [hL]; simp
    have hat : ∀ i, i < len0 → L.getD i (false, [], 0) = ((q i).1, (q i).2, (q i).2.length) := by
      intro i hil
      rw [hL, List.getD_eq_getElem?_getD, List.getElem?_map, List.getElem?_range hil]; rfl
    have key : ∃ b o, 0 < len0 → a = ⟨b, o, none⟩ := by
      by_cases h0 : 0 < len0
      · obtain ⟨h1, -⟩ := hi 0 (by omega)
        obtain ⟨b, o, sp⟩ := a
        refine ⟨b, o, fun _ => ?_⟩
        cases sp with
        | none => rfl
        | some s =>
          exfalso
          unfold Addr.add World.cell? at h1
          simp at h1
          split at h1 <;> cases h1
      · exact ⟨0, 0, fun h => absurd h h0⟩
    obtain ⟨b, o, key⟩ := key
    have hin : ∀ e ∈ L, ∃ i, i < len0 ∧ e = ((q i).1, (q i).2, (q i).2.length) := fun e he => by
      rw [hL] at he
      obtain ⟨i, hil, rfl⟩ := List.mem_map.1 he
      exact ⟨i, List.mem_range.1 hil, rfl⟩
    clear hL
    subst hlen
    refine ⟨L, .f (.slf (fun _ => rfl) (f := .zs L) rfl trivial hl hm (fun h => by cases h) b o (fun i j => if j = 0 then V0 i else V1 i) (fun h => by rw [key h]) (fun i hil j hj => ?_) (fun i hil => rfl) (fun i hil j x hx => ?_)), by omega, fun e he => ?_⟩
    · obtain ⟨h1, h2, -⟩ := hi i (by omega)
      rw [key (by omega), at_add] at h1 h2
      match j, hj with
      | 0, _ => simpa [H0] using h1
      | 1, _ => simpa [H0, Nat.add_assoc] using h2
    · obtain ⟨g0, g1, g2, g3⟩ := hq i hil
      rw [hat i hil] at hx
      match j, hx with
      | 0, hx =>
        simp at hx; subst hx
        show Rd (H0 W) (V0 i) _
        rw [g0]
        exact .v _ rfl
      | 1, hx =>
        simp at hx; subst hx
        exact (lr_in g1 g2).rd
      | j + 2, hx => simp at hx
    · obtain ⟨i, hil, rfl⟩ := hin e he
      obtain ⟨g0, g1, g2, g3⟩ := hq i hil
      exact ⟨rfl, g3, g2⟩

end Go.Proofs.YtjfncepmpabcnaaGreatDoor
