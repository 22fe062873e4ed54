/- Ratios that came in: arguments opened; what the rows give to the pure run. -/
import Derived.Test.YtjfncepmpabcnaaGreatDoorRow
import Derived.Test.YtjfncepmpabcnaaGreatDoorZRow
import Derived.Test.YtjfncepmpabcnaaGreatDoorQa
import Derived.HandedShaped
namespace Go.Proofs.YtjfncepmpabcnaaGreatDoor
open Go.ChangeShapes Go.WideShapes Go.ChangeAt Go.RowKit Go.Joins

theorem cellsRatio : Tryz.prog.cellsOf 35 = 4 := by kernel_rfl
theorem cellsBool : Tryz.prog.cellsOf 4 = 1 := by kernel_rfl
theorem cellsLimbs : Tryz.prog.cellsOf 27 = 1 := by kernel_rfl
/-- The memory as it came. -/
def H0 (W : World) : Hp := fun b j => W.cell? ⟨b, j, none⟩
theorem fro0 (W : World) : Fro (H0 W) W := fun _ _ _ h => h
theorem lr_in {W : World} {v : Value} {l : List Nat} (h : RdI W v .u32 l) (hb : ∀ x ∈ l, x < 4294967296) : PR (H0 W) B0 v (.f (.lr l l.length)) := by
  obtain ⟨ao, cap, rfl, hc, hm, h0, hcell⟩ := h
  have key : ∃ b o, (0 < l.length → ao = some ⟨b, o, none⟩) := by
    by_cases hl : 0 < l.length
    · obtain ⟨ad, h1, h2⟩ := hcell 0 hl
      obtain ⟨b, o, sp⟩ := ad
      refine ⟨b, o, fun _ => ?_⟩
      rw [h1]
      cases sp with
      | none => rfl
      | some s =>
        exfalso
        unfold Addr.add World.cell? at h2
        simp at h2
        split at h2 <;> cases h2
    · exact ⟨0, 0, fun h => absurd h hl⟩
  obtain ⟨b, o, key⟩ := key
  refine .f (.slf (fun _ => rfl) (f := .lr l l.length) rfl ⟨Nat.le_refl _, hb⟩ hc hm h0 b o (fun i _ => .int .u32 (l.getD i 0 : Nat)) key (fun i hi j hj => ?_) (fun i hi => rfl) (fun i hi j x hx => ?_))
  · obtain ⟨ad, h1, h2⟩ := hcell i hi
    rw [key (by omega)] at h1
    cases h1
    have hj0 : j = 0 := by omega
    subst hj0
    rw [at_add] at h2
    simpa [H0, dg] using h2
  · match j, hx with
    | 0, hx => simp at hx; subst hx; exact .v _ rfl
    | j + 1, hx => simp at hx
set_option maxRecDepth 100000 in
/-- An api.Ratio that came in. -/
theorem ratio_in {H : Type} {enc : TypeId × Value → H} {W : World} {base : Nat} {v : Value} {d : DataW H} {p : List MemPlace} (hv : Value.okWide Tryz.prog W .any base 35 v) (h : DataW.Trod enc Tryz.prog W 0 (fun _ => true) true 35 v d p)
    (hr : (d.weights Tryz.prog 35).all (· ≤ reachBytes) = true) :
    ∃ n l n' l', PR (H0 W) B0 v (rawQ n l l.length n' l' l'.length) ∧ l.length ≤ 140737488351232 ∧ l'.length ≤ 140737488351232 := by
  obtain ⟨cs, rfl, hsz⟩ := okWide_struct Tryz.underlying35 hv
  obtain ⟨c0, c1, c2, c3, rfl⟩ := array4 (hsz.trans cellsRatio)
  obtain ⟨fuel, hf⟩ := h
  obtain ⟨y0, y1, n, hx, _, h0, h1⟩ := trod_struct2 Tryz.underlying35 hf
  simp only [Prod.mk.injEq] at hx
  obtain ⟨hx, -⟩ := hx
  subst hx
  dsimp only at h0 h1
  rw [cellsInt] at h0 h1
  simp only [Value.cells, List.drop_zero, List.drop_succ_cons, List.take_succ_cons, List.take_zero, List.drop_zero] at h0 h1
  obtain ⟨z0, z1, n0, hz, _, g0, g1⟩ := trod_struct2 Tryz.underlying29 h0
  obtain ⟨u0, u1, n1, hu, _, g2, g3⟩ := trod_struct2 Tryz.underlying29 h1
  dsimp only at g0 g1 g2 g3
  rw [cellsBool] at g0 g2
  rw [cellsLimbs] at g1 g3
  simp only [List.drop_zero, List.drop_succ_cons, List.take_succ_cons, List.take_zero, List.drop_zero] at g0 g1 g2 g3
  obtain ⟨b, hb, _⟩ := DataW.trod_bool Tryz.underlying4 g0
  obtain ⟨b', hb', _⟩ := DataW.trod_bool Tryz.underlying4 g2
  simp at hb hb'
  subst hb hb'
  subst hz hu
  simp only [DataW.weights, Tryz.underlying35, List.map_cons, List.map_nil] at hr
  have r0 := wts_cons hr
  have r1 := (wts_cons r0.2).1
  simp only [DataW.weights, Tryz.underlying29, List.map_cons, List.map_nil] at r0 r1
  obtain ⟨l, k1, k2, k3⟩ := rd_tr g1 (wts_cons (wts_cons r0.1).2).1
  obtain ⟨l', k4, k5, k6⟩ := rd_tr g3 (wts_cons (wts_cons r1).2).1
  exact ⟨b, l, b', l', (PRs.cons (.f (.v _ rfl)) (.cons (lr_in k1 k2) (.cons (.f (.v _ rfl)) (.cons (lr_in k4 k5) .nil)))).agg, k3, k6⟩
set_option maxRecDepth 100000 in
theorem env_in {W : World} (ht : Tab W) (hs : W.ShapedOpen Tryz.prog) : EQ W (H0 W) :=
  ⟨ht, cell_of_shapedOpen_int (P := Tryz.prog) (g := 0) (t := 3) (zero := #[.int .i64 0]) hs (of_decide_eq_true (by kernel_rfl)) (by kernel_rfl) rfl (by kernel_rfl) (by kernel_rfl) Tryz.underlying3⟩

end Go.Proofs.YtjfncepmpabcnaaGreatDoor
