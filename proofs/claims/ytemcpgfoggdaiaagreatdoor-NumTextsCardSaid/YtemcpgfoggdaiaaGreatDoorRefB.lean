/- The document's answer of layer 1: read. -/
import Derived.Test.YtemcpgfoggdaiaaGreatDoorRefA
import Derived.Test.YtemcpgfoggdaiaaGreatDoorNatG
namespace Go.Proofs.YtemcpgfoggdaiaaGreatDoor
open Go.RowKit

theorem dig_step {ds : List Nat} {x nn : Nat} (h : val 10 ds + 10 ^ ds.length * nn = x) : val 10 (ds ++ [nn % 10]) + 10 ^ (ds ++ [nn % 10]).length * (nn / 10) = x := by
  rw [val_snoc, List.length_append, List.length_singleton, Nat.pow_succ, Nat.mul_assoc, Nat.add_assoc, ← Nat.mul_add, Nat.mod_add_div, h]
theorem val_noughts (b k : Nat) (l : List Nat) : val b (List.replicate k 0 ++ l) = b ^ k * val b l := by
  have : ∀ n, val b (List.replicate n 0) = 0 := by intro n; induction n with | zero => rfl | succ n ih => rw [List.replicate_succ, val, ih]; omega
  rw [val_append, this, List.length_replicate, Nat.zero_add]
theorem digs10_len {n k : Nat} (h : n < 1000000000 ^ k) : (digs 10 n).length ≤ 9 * k := by
  refine digs_length_le _ (by omega) _ _ ?_
  rwa [show (1000000000 : Nat) = 10 ^ 9 from rfl, ← Nat.pow_mul] at h

set_option maxRecDepth 100000 in
set_option maxHeartbeats 4000000 in
theorem refRead_any (v : Value) (l : List Nat) (w : World) (hv : RdI w v .u32 l) (h1 : l.length ≤ 1000000) (h2 : ∀ x ∈ l, x < 4294967296) :
    Calls Tryz.prog 71 #[v] w fun e w' => ∃ u, e = .returned u ∧ RdI w' u .u8 (digs 10 (val 1000000000 l)) ∧ Below w.heap.size w w' := by
  have H2 := Lib.hid h2
  obtain ⟨ao, ac, rfl, _, hm, _, hx⟩ := hv
  have HX := Lib.hid hx
  clear hx h2
  unfold maxLen at hm
  obtain ⟨i0, hi, hz0, hz1, hz2⟩ := info_parts Tryz.infoU8
  go_enter Tryz.func71, Tryz.ntmps71
  go_wp2_with fail
  go_loopw [3, 4] (fun out i wr => ∃ (j : Nat), i = .int .i64 ((j : Int) - 1) ∧ j ≤ l.length ∧ RdI wr out .u8 (digs 10 (val 1000000000 (l.drop j))) ∧ Below w.heap.size w wr) (fun _ i _ => (intOf i + 1).toNat)
  case atStart => exact ⟨l.length, by go_num, by omega, by rw [List.drop_length, val, digs_zero]; exact ⟨none, 0, rfl, by simp, by unfold maxLen; omega, fun _ => rfl, fun i hi => by simp at hi⟩, Below.refl _ _⟩
  case round =>
    obtain ⟨j, rfl, hj, hout, hbl⟩ := hrel
    have HO := Lib.hid hout
    obtain ⟨oo, oc, rfl, _, hom, _, _⟩ := hout
    have HBL := Lib.hid hbl
    have hsr := hbl.size
    clear hbl
    by_cases hj0 : 0 < j
    · obtain ⟨i, rfl⟩ : ∃ i, j = i + 1 := ⟨j - 1, by omega⟩
      have hil : i < l.length := by omega
      obtain ⟨ad, rfl, hcell0⟩ := HX.out i hil
      have HCELL : Hid (w.cell? (ad.add i) = some (.int .u32 (dg l i : Nat))) := hcell0
      have hlt0 := World.block_lt_of_cell? w _ hcell0
      have HLT := Lib.hid hlt0
      clear hcell0 hlt0
      obtain ⟨N, hN⟩ : ∃ N, N = val 1000000000 (l.drop (i + 1)) := ⟨_, rfl⟩
      have HDR : Hid (val 1000000000 (l.drop i) = dg l i + 1000000000 * N) := by unfold Hid; rw [drop_dg l i hil, val, hN]
      have hNl : N < 1000000000 ^ (2 * l.length) := by
        rw [hN]
        exact Nat.lt_of_lt_of_le (val_lt_any _ fun x hx => H2.out x (List.mem_of_mem_drop hx)) (Nat.pow_le_pow_right (by omega) (by rw [List.length_drop]; omega))
      have hdl := digs10_len hNl
      rw [← hN] at HO ⊢
      clear hN hNl
      rw [show (((i + 1 : Nat) : Int) - 1) = (i : Int) by omega]
      rcases Nat.eq_zero_or_pos N with hz | hp
      · subst hz
        have hc : wr.cell? (ad.add i) = some (.int .u32 (dg l i : Nat)) := (HBL.out.cell HLT.out).trans HCELL.out
        have HOP : Hid (RdI wr (.slice oo (digs 10 0).length oc) .u8 []) := HO.out
        have HOPX : Hid (∀ x ∈ ([] : List Nat), x < 10) := by intro x hx; simp at hx
        have HOPL : Hid (([] : List Nat).length ≤ 100000000) := by unfold Hid; simp
        have HOPV : Hid (val 10 [] = 1000000000 * 0) := rfl
        have HBW : Hid (Below w.heap.size w wr) := HBL.out
        clear HO
        rw [digs_zero, List.length_nil] at HOP ⊢
        obtain ⟨wq, hwq⟩ : ∃ wq, wq = wr := ⟨_, rfl⟩
        subst hwq
        go_wp2_with fail
        have hsW := HBW.out.size
        go_loopw [5, 6] (fun d n wx => ∃ (ds : List Nat) (nn : Nat), n = .int .u32 nn ∧ nn < 4294967296 ∧ Own wx wq.heap.size 5 .u8 d ds ∧ (∀ x ∈ ds, x < 10) ∧ val 10 ds + 10 ^ ds.length * nn = dg l i ∧ ds.length ≤ 20 ∧ Below wq.heap.size wq wx) (fun _ n _ => (intOf n).toNat)
        case atStart => exact ⟨[], dg l i, rfl, dg_lt H2.out (by omega) i, World.ownsRow_nil _ _ _ _, by simp, by simp [val], by simp, Below.refl _ _⟩
        case round =>
          obtain ⟨ds, nn, rfl, hnn, hown, hdx, hdv, hdl, hbx⟩ := hrel
          have HDX := Lib.hid hdx
          have HDV := Lib.hid hdv
          have HBX := Lib.hid hbx
          have HOW := Lib.hid hown
          have hsx := hbx.size
          obtain ⟨eo, ec, rfl, _, _, _, _⟩ := hown.rd
          clear hown
          have HLI := Lib.hid (dg_lt H2.out (by omega) i)
          clear hdx hdv hbx
          by_cases hn0 : 0 < nn
          · have HXX : Hid ((nn : Int) % 10 = (nn % 10 : Nat)) := by unfold Hid; omega
            have hdl2 : ds.length + 1 ≤ 20 := by
              have h1 := HDV.out
              have h2 : 10 ^ ds.length * 1 ≤ 10 ^ ds.length * nn := Nat.mul_le_mul_left _ hn0
              have h3 : 10 ^ ds.length < 10 ^ 10 := by have := HLI.out; omega
              have := (Nat.pow_lt_pow_iff_right (by omega)).1 h3
              omega
            go_wp2_with (at_builtin; refine app1 rfl _ _ 87 rfl 5 .u8 i0 1 Tryz.underlying87 hi hz0 hz1 hz2 wq.heap.size _ ds rfl HOW.out _ (nn % 10) (by first | exact HXX.out | (rw [← HXX.out]; try rfl)) rfl rfl (by unfold maxLen; omega) (by omega) (by omega) ?_; intro v' w5 hown2 hb5)
            go_roundw
            case rel => exact ⟨ds ++ [nn % 10], nn / 10, by go_num, by omega, hown2, by intro x hx; rcases List.mem_append.1 hx with h | h; exact HDX.out x h; simp at h; omega, dig_step HDV.out, by simp; omega, HBX.out.trans (hb5.mono (by omega))⟩
            case measure => simp [intOf]; omega
          · obtain rfl : nn = 0 := by omega
            have HDE : Hid (val 10 ds = dg l i) := by have := HDV.out; unfold Hid; omega
            go_wp2_with fail
            refine (refPlus_any _ _ _ ds _ (HOP.out.keep HBX.out) HOW.out.rd HOPX.out HDX.out HOPL.out (by omega)).mono ?_
            rintro e w6 ⟨u, rfl, hu, hb6⟩
            rw [HDE.out, HOPV.out, Nat.add_comm, ← HDR.out] at hu
            go_wp2_with fail
            go_roundw
            case rel => exact ⟨i, by go_num, by omega, hu, (HBW.out.trans (HBX.out.mono hsW)).trans (hb6.mono (by omega))⟩
            case measure => simp [intOf] <;> omega

      · have hpl : 0 < (digs 10 N).length := by
          rcases Nat.eq_zero_or_pos (digs 10 N).length with h | h
          · have := val_digs 10 (by omega) N
            rw [List.length_eq_zero_iff.1 h] at this
            simp [val] at this; omega
          · exact h
        go_wp2_with (first | (at_make; refine mk0 rfl _ _ 87 rfl 5 .u8 i0 1 Tryz.underlying87 hi hz0 hz1 hz2 _ _ _ _ 9 rfl rfl rfl rfl (by omega) (by unfold maxLen; omega) ?_; intro w3 hown3 hb3; have hs3 := hb3.size) | (at_builtin; refine appL rfl _ _ 87 rfl 5 .u8 i0 1 Tryz.underlying87 hi hz0 hz1 hz2 wr.heap.size _ (List.replicate 9 0) rfl hown3 _ (digs 10 N) rfl (HO.out.keep hb3) (by simp; unfold maxLen; omega) (by simp; omega) (by omega) ?_; intro v4 w4 hown4 hb4; obtain ⟨vo, vc, rfl, _, _, _, _⟩ := hown4.rd; have HOP := Lib.hid hown4.rd; have HBW : Hid (Below w.heap.size w w4) := ((HBL.out.trans (hb3.mono hsr)).trans (hb4.mono hsr)); have hc : w4.cell? (ad.add i) = some (.int .u32 (dg l i : Nat)) := (HBW.out.cell HLT.out).trans HCELL.out; have HOPX : Hid (∀ x ∈ List.replicate 9 0 ++ digs 10 N, x < 10) := (by intro x hx; rcases List.mem_append.1 hx with h | h; (rw [List.eq_of_mem_replicate h]; omega); exact digs_lt _ (by omega) _ x h); have HOPL : Hid ((List.replicate 9 0 ++ digs 10 N).length ≤ 100000000) := (by unfold Hid; simp; omega); have HOPV : Hid (val 10 (List.replicate 9 0 ++ digs 10 N) = 1000000000 * N) := (by unfold Hid; rw [val_noughts, val_digs _ (by omega)]); clear hown3 hown4 hb3 hb4 HO))
        go_wp2_with fail
        have hsW := HBW.out.size
        go_loopw [5, 6] (fun d n wx => ∃ (ds : List Nat) (nn : Nat), n = .int .u32 nn ∧ nn < 4294967296 ∧ Own wx w4.heap.size 5 .u8 d ds ∧ (∀ x ∈ ds, x < 10) ∧ val 10 ds + 10 ^ ds.length * nn = dg l i ∧ ds.length ≤ 20 ∧ Below w4.heap.size w4 wx) (fun _ n _ => (intOf n).toNat)
        case atStart => exact ⟨[], dg l i, rfl, dg_lt H2.out (by omega) i, World.ownsRow_nil _ _ _ _, by simp, by simp [val], by simp, Below.refl _ _⟩
        case round =>
          obtain ⟨ds, nn, rfl, hnn, hown, hdx, hdv, hdl, hbx⟩ := hrel
          have HDX := Lib.hid hdx
          have HDV := Lib.hid hdv
          have HBX := Lib.hid hbx
          have HOW := Lib.hid hown
          have hsx := hbx.size
          obtain ⟨eo, ec, rfl, _, _, _, _⟩ := hown.rd
          clear hown
          have HLI := Lib.hid (dg_lt H2.out (by omega) i)
          clear hdx hdv hbx
          by_cases hn0 : 0 < nn
          · have HXX : Hid ((nn : Int) % 10 = (nn % 10 : Nat)) := by unfold Hid; omega
            have hdl2 : ds.length + 1 ≤ 20 := by
              have h1 := HDV.out
              have h2 : 10 ^ ds.length * 1 ≤ 10 ^ ds.length * nn := Nat.mul_le_mul_left _ hn0
              have h3 : 10 ^ ds.length < 10 ^ 10 := by have := HLI.out; omega
              have := (Nat.pow_lt_pow_iff_right (by omega)).1 h3
              omega
            go_wp2_with (at_builtin; refine app1 rfl _ _ 87 rfl 5 .u8 i0 1 Tryz.underlying87 hi hz0 hz1 hz2 w4.heap.size _ ds rfl HOW.out _ (nn % 10) (by first | exact HXX.out | (rw [← HXX.out]; try rfl)) rfl rfl (by unfold maxLen; omega) (by omega) (by omega) ?_; intro v' w5 hown2 hb5)
            go_roundw
            case rel => exact ⟨ds ++ [nn % 10], nn / 10, by go_num, by omega, hown2, by intro x hx; rcases List.mem_append.1 hx with h | h; exact HDX.out x h; simp at h; omega, dig_step HDV.out, by simp; omega, HBX.out.trans (hb5.mono (by omega))⟩
            case measure => simp [intOf]; omega
          · obtain rfl : nn = 0 := by omega
            have HDE : Hid (val 10 ds = dg l i) := by have := HDV.out; unfold Hid; omega
            go_wp2_with fail
            refine (refPlus_any _ _ _ ds _ (HOP.out.keep HBX.out) HOW.out.rd HOPX.out HDX.out HOPL.out (by omega)).mono ?_
            rintro e w6 ⟨u, rfl, hu, hb6⟩
            rw [HDE.out, HOPV.out, Nat.add_comm, ← HDR.out] at hu
            go_wp2_with fail
            go_roundw
            case rel => exact ⟨i, by go_num, by omega, hu, (HBW.out.trans (HBX.out.mono hsW)).trans (hb6.mono (by omega))⟩
            case measure => simp [intOf] <;> omega

    · obtain rfl : j = 0 := by omega
      go_wp2_with fail
      go_ret
      exact ⟨_, rfl, HO.out, HBL.out⟩

end Go.Proofs.YtemcpgfoggdaiaaGreatDoor
