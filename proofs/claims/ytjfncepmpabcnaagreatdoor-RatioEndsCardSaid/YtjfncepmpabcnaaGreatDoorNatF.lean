/- nat: quotient and rest. -/
import Derived.Test.YtjfncepmpabcnaaGreatDoorNatE
import Derived.Deep.DeepCutAuto
import Derived.Deep.RegionLaw
namespace Go.Proofs.YtjfncepmpabcnaaGreatDoor
open Go.RowKit
attribute [local go_sem ↓] Go.wp_at_zero Go.wp_at_succ

/-- What one more digit of the dividend makes. -/
theorem part_step {M Q R x : Nat} (hR : R < M) (hx : x < 1000000000) :
    x + 1000000000 * R < M * 1000000000 ∧ (x + 1000000000 * R) / M < 1000000000 ∧ (x + 1000000000 * R) % M < M ∧
      x + 1000000000 * (Q * M + R) = ((x + 1000000000 * R) / M + 1000000000 * Q) * M + (x + 1000000000 * R) % M := by
  have h1 : x + 1000000000 * R < M * 1000000000 := by
    have : 1000000000 * (R + 1) ≤ 1000000000 * M := Nat.mul_le_mul_left _ hR
    rw [Nat.mul_comm M]; omega
  refine ⟨h1, Nat.div_lt_of_lt_mul h1, Nat.mod_lt _ (by omega), ?_⟩
  have h2 := Nat.div_add_mod (x + 1000000000 * R) M
  rw [Nat.add_mul, Nat.mul_assoc]
  rw [Nat.mul_comm M] at h2
  omega

set_option maxRecDepth 100000 in
set_option maxHeartbeats 4000000 in
theorem parted_any (v u : Value) (l m : List Nat) (w : World) (hv : RdI w v .u64 l) (hu : RdI w u .u64 m) (hl : ∀ x ∈ l, x < 1000000000) (hm : Rgt 1000000000 m) (h1 : l.length ≤ 10000000) (h2 : m.length ≤ 10000000) (h3 : 0 < val 1000000000 m) :
    Calls Tryz.prog 113 #[.agg #[v], .agg #[u]] w fun e w' => ∃ q r, e = .returned (.tuple #[.agg #[q], .agg #[r]]) ∧ Own w' w.heap.size 72 .u64 q (digs 1000000000 (val 1000000000 l / val 1000000000 m)) ∧
      Own w' w.heap.size 72 .u64 r (digs 1000000000 (val 1000000000 l % val 1000000000 m)) ∧ Below w.heap.size w w' := by
  have hv' := Lib.hid hv
  have hu' := Lib.hid hu
  have HL := Lib.hid hl
  have HM := Lib.hid hm
  have H3 := Lib.hid h3
  obtain ⟨ao, ac, rfl, _, _, _, _⟩ := hv
  obtain ⟨bo, bc, rfl, _, _, _, _⟩ := hu
  clear hl hm h3
  obtain ⟨i0, hi, hz0, hz1, hz2⟩ := info_parts Tryz.infoU64
  go_enter Tryz.func113, Tryz.ntmps113
  go_wp2_with (at_make; refine mk0 rfl _ _ 114 rfl 72 .u64 i0 8 Tryz.underlying114 hi hz0 hz1 hz2 _ _ _ _ l.length rfl rfl rfl rfl (by omega) (by unfold maxLen; omega) ?_)
  intro w1 hown hb1
  obtain ⟨W, hW⟩ : ∃ W, W = (((w.alloc (Obj.cells #[Value.slice ao l.length ac] 116)).alloc (Obj.cells #[Value.slice bo m.length bc] 116)).alloc (Obj.cells #[Value.slice none 0 0] 116)).alloc (Obj.cells #[Value.slice none 0 0] 116) := ⟨_, rfl⟩
  have HB0 : Hid (Below w.heap.size w W) := by rw [hW]; exact (((((Below.refl _ _).alloc (Nat.le_refl _) _).alloc (by simp only [size_alloc] <;> omega) _).alloc (by simp only [size_alloc] <;> omega) _).alloc (by simp only [size_alloc] <;> omega) _)
  have HC0 : Hid (W.cell? ⟨w.heap.size, 0, none⟩ = some (Value.slice ao l.length ac)) := by unfold Hid; rw [hW]; simp (disch := first | omega | (simp only [size_alloc]; omega) | simp only [size_alloc]) only [cell_new, cell_old]; all_goals rfl
  have HC1 : Hid (W.cell? ⟨w.heap.size + 1, 0, none⟩ = some (Value.slice bo m.length bc)) := by unfold Hid; rw [hW]; simp (disch := first | omega | (simp only [size_alloc]; omega) | simp only [size_alloc]) only [cell_new, cell_old]; all_goals rfl
  have HC2 : Hid (W.cell? ⟨w.heap.size + 1 + 1, 0, none⟩ = some (Value.slice none 0 0)) := by unfold Hid; rw [hW]; simp (disch := first | omega | (simp only [size_alloc]; omega) | simp only [size_alloc]) only [cell_new, cell_old]; all_goals rfl
  have HF2 : Hid (W.frozen? ⟨w.heap.size + 1 + 1, 0, none⟩ = false) := by unfold Hid; rw [hW]; simp (disch := first | omega | (simp only [size_alloc]; omega) | simp only [size_alloc]) only [free_new, free_old]
  have HC3 : Hid (W.cell? ⟨w.heap.size + 1 + 1 + 1, 0, none⟩ = some (Value.slice none 0 0)) := by unfold Hid; rw [hW]; simp (disch := first | omega | (simp only [size_alloc]; omega) | simp only [size_alloc]) only [cell_new]; all_goals rfl
  have HF3 : Hid (W.frozen? ⟨w.heap.size + 1 + 1 + 1, 0, none⟩ = false) := by unfold Hid; rw [hW]; simp (disch := first | omega | (simp only [size_alloc]; omega) | simp only [size_alloc]) only [free_new]
  have HS : Hid (W.heap.size = w.heap.size + 1 + 1 + 1 + 1) := by unfold Hid; rw [hW]; simp only [size_alloc]
  rw [← hW] at hb1
  clear hW
  go_wp2_with fail
  go_loopw [7] (fun k wr => ∃ (k' : Int) (j R : Nat) (rv : Value) (ds : List Nat), k = .int .i64 k' ∧ k' + 1 = (j : Int) ∧ j ≤ l.length ∧ R < val 1000000000 m ∧ ds.length = l.length - j ∧ (∀ x ∈ ds, x < 1000000000) ∧
      val 1000000000 (l.drop j) = val 1000000000 ds * val 1000000000 m + R ∧
      Own wr (w.heap.size + 1 + 1 + 1 + 1) 72 .u64 (.slice (some ⟨w.heap.size + 1 + 1 + 1 + 1, 0, none⟩) l.length l.length) (List.replicate j 0 ++ ds) ∧
      Own wr (w.heap.size + 1 + 1 + 1 + 1 + 1) 72 .u64 rv (digs 1000000000 R) ∧ wr.cell? ⟨w.heap.size + 1 + 1 + 1, 0, none⟩ = some rv ∧ wr.frozen? ⟨w.heap.size + 1 + 1 + 1, 0, none⟩ = false ∧ Below (w.heap.size + 1 + 1 + 1) W wr) (fun k _ => (intOf k + 1).toNat)
  case atStart => exact ⟨_, l.length, 0, .slice none 0 0, [], rfl, by omega, by omega, H3.out, by simp, by simp, by simp [val], by simpa using hown, World.ownsRow_nil _ _ _ _, (hb1.cell (p := ⟨w.heap.size + 1 + 1 + 1, 0, none⟩) (by dsimp only; omega)).trans HC3.out, (hb1.frozen (p := ⟨w.heap.size + 1 + 1 + 1, 0, none⟩) (by dsimp only; omega)).trans HF3.out, hb1.mono (by omega)⟩
  case round =>
    obtain ⟨k', j, R, rv, ds, rfl, hkj, hj, hRM, hdl, hdx, hdv, hown, hrown, hrc, hrf, hbl⟩ := hrel
    have HB := Lib.hid (HB0.out.trans (hbl.mono (by omega)))
    have hsz := hown.lts.2
    have HRn := Lib.hid (hv'.out.keep HB.out)
    have HUn := Lib.hid (hu'.out.keep HB.out)
    have hc0 : wr.cell? ⟨w.heap.size, 0, none⟩ = some (Value.slice ao l.length ac) := (hbl.cell (p := ⟨w.heap.size, 0, none⟩) (by dsimp only; omega)).trans HC0.out
    have hc1 : wr.cell? ⟨w.heap.size + 1, 0, none⟩ = some (Value.slice bo m.length bc) := (hbl.cell (p := ⟨w.heap.size + 1, 0, none⟩) (by dsimp only; omega)).trans HC1.out
    have HDV := Lib.hid hdv
    have HDX := Lib.hid hdx
    have HDL := Lib.hid hdl
    have HOW := Lib.hid hown
    have HRO := Lib.hid hrown
    obtain ⟨ro, rc, rfl, _, hrm, _, _⟩ := hrown.rd
    clear hdv hdx hdl hown hrown
    by_cases hk0 : 0 ≤ k'
    · obtain ⟨i, rfl⟩ := Int.eq_ofNat_of_zero_le hk0
      obtain rfl : j = i + 1 := by omega
      have hRl : Hid ((digs 1000000000 R).length ≤ m.length) := by
        refine digs_length_le _ (by omega) _ _ ?_
        have := val_lt 1000000000 m HM.out.1
        omega
      have hxi := dg_lt HL.out (by omega) i
      have HAL : Hid (([dg l i] ++ digs 1000000000 R).length ≤ 1000000000) := by unfold Hid; simp; have := hRl.out; omega
      have HAX : Hid (∀ x ∈ [dg l i] ++ digs 1000000000 R, x ≤ 8589934592) := by
        intro x hx
        rcases List.mem_append.1 hx with h | h
        · simp at h; omega
        · have := digs_lt 1000000000 (by omega) R x h; omega
      have HAV : Hid (val 1000000000 ([dg l i] ++ digs 1000000000 R) = dg l i + 1000000000 * R) := by unfold Hid; simp only [List.singleton_append, val]; rw [val_digs _ (by omega)]
      go_wp2_with fail
      go_upto_region 5 with (fail)
      go_cut [] (fun wx => ∃ rv, Own wx (w.heap.size + 1 + 1 + 1 + 1 + 1) 72 .u64 rv (digs 1000000000 (dg l i + 1000000000 * R)) ∧ wx.cell? ⟨w.heap.size + 1 + 1 + 1, 0, none⟩ = some rv ∧ wx.frozen? ⟨w.heap.size + 1 + 1 + 1, 0, none⟩ = false ∧ Below (w.heap.size + 1 + 1 + 1) W wx ∧
        Own wx (w.heap.size + 1 + 1 + 1 + 1) 72 .u64 (.slice (some ⟨w.heap.size + 1 + 1 + 1 + 1, 0, none⟩) l.length l.length) (List.replicate (i + 1) 0 ++ ds))
      case first =>
        have hl0 : w.heap.size < wr.heap.size := by omega
        have hl1 : w.heap.size + 1 < wr.heap.size := by omega
        have hl3 : w.heap.size + 1 + 1 + 1 < wr.heap.size := by omega
        have hn3 := World.new_ne wr _ hrc
        have hn0 := World.new_ne wr _ hc0
        go_region_law (first | (go_simp; go_at_call 128; refine (at_any _ l i _ (HRn.out.keep (by (repeat (first | exact Below.refl _ _ | assumption | refine Below.drew ?_ | refine belowN ?_ _ | refine Below.alloc ?_ (by (first | omega | (simp only [size_alloc, size_drew, size_drewN, size_set]; omega) | simp only [size_alloc, size_drew, size_drewN, size_set])) _ | refine Below.setCell ?_ (by (first | omega | (simp only [size_alloc, size_drew, size_drewN, size_set]; omega) | simp only [size_alloc, size_drew, size_drewN, size_set])) _)))) (by omega) (by omega) (by omega)).mono ?_; rintro e w' ⟨rfl, rfl⟩) | (refine appS rfl _ _ 114 rfl 72 .u64 i0 8 Tryz.underlying114 hi hz0 hz1 hz2 wr.heap.size _ [dg l i] rfl (own_box _ _ _ _ _ _ rfl (Nat.le_refl _)).drew _ (digs 1000000000 R) rfl (HRO.out.rd.keep (by (repeat (first | exact Below.refl _ _ | assumption | refine Below.drew ?_ | refine belowN ?_ _ | refine Below.alloc ?_ (by (first | omega | (simp only [size_alloc, size_drew, size_drewN, size_set]; omega) | simp only [size_alloc, size_drew, size_drewN, size_set])) _ | refine Below.setCell ?_ (by (first | omega | (simp only [size_alloc, size_drew, size_drewN, size_set]; omega) | simp only [size_alloc, size_drew, size_drewN, size_set])) _)))) (by simp; unfold maxLen; have := hRl.out; omega) (by simp; have := hRl.out; omega) (by simp) ?_; intro v' w2 hown2 hbk) | (go_simp; go_at_call 134; refine (carried_any _ ([dg l i] ++ digs 1000000000 R) _ hown2.rd HAL.out HAX.out).mono ?_; rintro e w3 ⟨u, rfl, hu, hbk2⟩; have hB2 : Below wr.heap.size wr w2 := (by refine Below.trans ?_ (Below.mono hbk ?_) <;> first | ((repeat (first | exact Below.refl _ _ | assumption | refine Below.drew ?_ | refine belowN ?_ _ | refine Below.alloc ?_ (by (first | omega | (simp only [size_alloc, size_drew, size_drewN, size_set]; omega) | simp only [size_alloc, size_drew, size_drewN, size_set])) _ | refine Below.setCell ?_ (by (first | omega | (simp only [size_alloc, size_drew, size_drewN, size_set]; omega) | simp only [size_alloc, size_drew, size_drewN, size_set])) _)); done) | (first | omega | (simp only [size_alloc, size_drew, size_drewN, size_set]; omega) | simp only [size_alloc, size_drew, size_drewN, size_set])); have hB3 : Below wr.heap.size wr w3 := hB2.trans (hbk2.mono hB2.size); have hc3 := (hB3.cell (p := ⟨w.heap.size + 1 + 1 + 1, 0, none⟩) hl3).trans hrc; have hf3 := (hB3.frozen (p := ⟨w.heap.size + 1 + 1 + 1, 0, none⟩) hl3).trans hrf; have hs2 := hB2.size; rw [HAV.out] at hu; obtain ⟨uo, uc, rfl, _, _, _, _⟩ := hu.rd))
        all_goals
          go_wp2_with fail
          go_meet
          refine ⟨_, (hu.set ?_ _).low ?_, cell_same hc3, (free_same _ _ _ _ _ _).trans hf3, (hbl.trans (hB3.mono ?_)).setCell ?_ _, (HOW.out.keep hB3).set ?_ _⟩ <;> first | omega | (dsimp only; omega)
      case rest =>
        obtain ⟨rv2, hro2, hrc2, hrf2, hbl2, hown2⟩ := hcut
        obtain ⟨hp1, hp2, hp3, hp4⟩ := part_step (Q := val 1000000000 ds) hRM hxi
        obtain ⟨R1, hR1⟩ : ∃ R1, R1 = dg l i + 1000000000 * R := ⟨_, rfl⟩
        rw [← hR1] at hp1 hp2 hp3 hp4 hro2
        obtain ⟨q, hq⟩ : ∃ q, q = R1 / val 1000000000 m := ⟨_, rfl⟩
        rw [← hq] at hp2 hp4
        have HQ := Lib.hid hq
        have HP1 := Lib.hid hp1
        have HP3 := Lib.hid hp3
        have HP4 := Lib.hid hp4
        have HR1 := Lib.hid hR1
        obtain ⟨ro2, rc2, rfl, _, hrm2, _, _⟩ := hro2.rd
        have HB2 := Lib.hid (HB0.out.trans (hbl2.mono (by omega)))
        have HU2 := Lib.hid (hu'.out.keep HB2.out)
        have hcm : wc.cell? ⟨w.heap.size + 1, 0, none⟩ = some (Value.slice bo m.length bc) := (hbl2.cell (p := ⟨w.heap.size + 1, 0, none⟩) (by dsimp only; omega)).trans HC1.out
        have HVD : Hid (val 1000000000 (digs 1000000000 R1) / val 1000000000 m = q) := by unfold Hid; rw [val_digs _ (by omega), HQ.out]
        have HR1l : Hid ((digs 1000000000 R1).length ≤ m.length + 1) := by
          refine digs_length_le _ (by omega) _ _ ?_
          have e1 := val_lt 1000000000 m HM.out.1
          have e2 : val 1000000000 m * 1000000000 < 1000000000 ^ m.length * 1000000000 := Nat.mul_lt_mul_of_pos_right e1 (by omega)
          rw [← Nat.pow_succ] at e2
          exact Nat.lt_trans HP1.out e2
        have hsz2 := hown2.lts.2
        have HRO2 := Lib.hid hro2
        have HOW2 := Lib.hid hown2
        have HLT3 : Hid (w.heap.size + 1 + 1 + 1 < wc.heap.size) := by unfold Hid; omega
        have hii : (0 : Int) ≤ (i : Int) := by omega
        have hij : (i : Int) < (l.length : Int) := by omega
        have hil : i < l.length := by omega
        clear hq hp1 hp3 hp4 hR1 hro2 hown2
        go_wp2_with (go_at_call 145; refine (digit_any _ _ (digs 1000000000 R1) m _ HRO2.out.rd HU2.out (digs_rgt _ (by omega) _) HM.out (by have := HR1l.out; omega) (by omega) (by rw [val_digs _ (by omega)]; exact HP1.out)).mono ?_; rintro e w4 ⟨he, hbk⟩; rw [HVD.out] at he; subst he; have hdc := (HOW2.out.keep hbk).cell i (by simp; omega); have hdf := (HOW2.out.keep hbk).free i)
        obtain ⟨w5, hw5⟩ : ∃ w5, w5 = w4.setCell ⟨w.heap.size + 1 + 1 + 1 + 1, i, none⟩ (.int .u64 (q : Int)) := ⟨_, rfl⟩
        have hB5 : Below (w.heap.size + 1 + 1 + 1) W w5 := by rw [hw5]; exact (hbl2.trans (hbk.mono (by omega))).setCell (by dsimp only; omega) _
        have hcr5 : w5.cell? ⟨w.heap.size + 1 + 1 + 1, 0, none⟩ = some (Value.slice ro2 (digs 1000000000 R1).length rc2) := by rw [hw5, cell_ne _ _ _ _ _ _ (by omega)]; exact (hbk.cell (p := ⟨w.heap.size + 1 + 1 + 1, 0, none⟩) HLT3.out).trans hrc2
        have hfr5 : w5.frozen? ⟨w.heap.size + 1 + 1 + 1, 0, none⟩ = false := by rw [hw5, free_same]; exact (hbk.frozen (p := ⟨w.heap.size + 1 + 1 + 1, 0, none⟩) HLT3.out).trans hrf2
        have hcd5 : w5.cell? ⟨w.heap.size + 1 + 1 + 1 + 1, i, none⟩ = some (.int .u64 (q : Int)) := by rw [hw5]; exact cell_same hdc
        have hcm5 : w5.cell? ⟨w.heap.size + 1, 0, none⟩ = some (Value.slice bo m.length bc) := (hB5.cell (p := ⟨w.heap.size + 1, 0, none⟩) (by dsimp only; omega)).trans HC1.out
        have HOW5 : Hid (Own w5 (w.heap.size + 1 + 1 + 1 + 1) 72 .u64 (.slice (some ⟨w.heap.size + 1 + 1 + 1 + 1, 0, none⟩) l.length l.length) (List.replicate i 0 ++ q :: ds)) := by
          have := (HOW2.out.keep hbk).stored i q
          rw [← hw5] at this
          have e : (List.replicate (i + 1) 0 ++ ds).set i q = List.replicate i 0 ++ q :: ds := by
            rw [List.replicate_succ', List.append_assoc, List.set_append_right _ _ (by simp)]
            simp
          rw [e] at this; exact this
        have HRO5 : Hid (Own w5 (w.heap.size + 1 + 1 + 1 + 1 + 1) 72 .u64 (.slice ro2 (digs 1000000000 R1).length rc2) (digs 1000000000 R1)) := by unfold Hid; rw [hw5]; exact (HRO2.out.keep hbk).set (by dsimp only; omega) _
        have hsz5 := HOW5.out.lts.2
        rw [← hw5]
        clear hw5 hdc hdf hbk hrc2 hrf2 hcm
        have HU5 := Lib.hid (hu'.out.keep (HB0.out.trans (hB5.mono (by omega))))
        have HQM : Hid (val 1000000000 m * q ≤ R1) := by unfold Hid; rw [HQ.out]; exact Nat.mul_div_le _ _
        have HVM : Hid (val 1000000000 (digs 1000000000 R1) - val 1000000000 (digs 1000000000 (val 1000000000 m * q)) = R1 % val 1000000000 m) := by
          unfold Hid; rw [val_digs _ (by omega), val_digs _ (by omega), HQ.out]
          have := Nat.div_add_mod R1 (val 1000000000 m); omega
        have hl1 : w.heap.size + 1 < w5.heap.size := by omega
        have hl3 : w.heap.size + 1 + 1 + 1 < w5.heap.size := by omega
        have hl4 : w.heap.size + 1 + 1 + 1 + 1 < w5.heap.size := by omega
        go_region_law (first | (go_simp; go_at_call 146; refine (scaled_any _ m q _ (HU5.out.keep (by (repeat (first | exact Below.refl _ _ | assumption | refine Below.drew ?_ | refine belowN ?_ _ | refine Below.alloc ?_ (by (first | omega | (simp only [size_alloc, size_drew, size_drewN, size_set]; omega) | simp only [size_alloc, size_drew, size_drewN, size_set])) _ | refine Below.setCell ?_ (by (first | omega | (simp only [size_alloc, size_drew, size_drewN, size_set]; omega) | simp only [size_alloc, size_drew, size_drewN, size_set])) _)))) HM.out.1 hp2 (by omega)).mono ?_; rintro e w6 ⟨u, rfl, hu, hbk⟩; have hB6 : Below w5.heap.size w5 w6 := (by refine Below.trans ?_ (Below.mono hbk ?_) <;> first | ((repeat (first | exact Below.refl _ _ | assumption | refine Below.drew ?_ | refine belowN ?_ _ | refine Below.alloc ?_ (by (first | omega | (simp only [size_alloc, size_drew, size_drewN, size_set]; omega) | simp only [size_alloc, size_drew, size_drewN, size_set])) _ | refine Below.setCell ?_ (by (first | omega | (simp only [size_alloc, size_drew, size_drewN, size_set]; omega) | simp only [size_alloc, size_drew, size_drewN, size_set])) _)); done) | (first | omega | (simp only [size_drew]; omega) | simp only [size_alloc, size_drew, size_drewN, size_set])); have hcr6 := (hB6.cell (p := ⟨w.heap.size + 1 + 1 + 1, 0, none⟩) hl3).trans hcr5) | (go_simp; go_at_call 139; refine (less_any _ _ (digs 1000000000 R1) (digs 1000000000 (val 1000000000 m * q)) _ (HRO5.out.rd.keep hB6) hu.rd (digs_lt _ (by omega) _) (digs_lt _ (by omega) _) (by have := HR1l.out; omega) (digs_length_mono _ (by omega) HQM.out) (by rw [val_digs _ (by omega), val_digs _ (by omega)]; exact HQM.out)).mono ?_; rintro e w7 ⟨x, rfl, hx, hbk2⟩; have hB7 : Below w5.heap.size w5 w7 := hB6.trans (hbk2.mono hB6.size); have hcr7 := (hB7.cell (p := ⟨w.heap.size + 1 + 1 + 1, 0, none⟩) hl3).trans hcr5; have hfr7 := (hB7.frozen (p := ⟨w.heap.size + 1 + 1 + 1, 0, none⟩) hl3).trans hfr5; have hs6 := hB6.size; rw [HVM.out] at hx; obtain ⟨xo, xc, rfl, _, _, _, _⟩ := hx.rd))
        all_goals
          go_wp2_with fail
          go_roundw
          case rel =>
            have HE : val 1000000000 (l.drop i) = val 1000000000 (q :: ds) * val 1000000000 m + R1 % val 1000000000 m := by
              rw [drop_dg l i hil]
              simp only [val]
              rw [HDV.out, HR1.out]
              have := HP4.out
              rw [HR1.out] at this
              exact this
            refine ⟨_, i, R1 % val 1000000000 m, _, q :: ds, rfl, by omega, by omega, HP3.out, by simp [HDL.out]; omega, ?_, HE, (HOW5.out.keep hB7).set ?_ _, (hx.set ?_ _).low ?_, cell_same hcr7, (free_same _ _ _ _ _ _).trans hfr7, (hB5.trans (hB7.mono ?_)).setCell ?_ _⟩ <;> first | omega | (dsimp only; omega) | (intro x hx; rcases List.mem_cons.1 hx with h | h; (subst h; exact hp2); exact HDX.out x h)
          case measure => simp [intOf]
    · obtain rfl : j = 0 := by omega
      have HE : Hid (val 1000000000 ds = val 1000000000 l / val 1000000000 m ∧ R = val 1000000000 l % val 1000000000 m) := by
        have e := HDV.out
        rw [List.drop_zero] at e
        have e1 : val 1000000000 l / val 1000000000 m = val 1000000000 ds := by
          rw [e, Nat.mul_comm, Nat.mul_add_div H3.out, Nat.div_eq_of_lt hRM, Nat.add_zero]
        have e2 : val 1000000000 l % val 1000000000 m = R := by
          rw [e, Nat.mul_comm, Nat.mul_add_mod, Nat.mod_eq_of_lt hRM]
        exact ⟨e1.symm, e2.symm⟩
      have HOW0 : Hid (Own wr (w.heap.size + 1 + 1 + 1 + 1) 72 .u64 (.slice (some ⟨w.heap.size + 1 + 1 + 1 + 1, 0, none⟩) l.length l.length) ds) := by
        have := HOW.out
        rw [List.replicate_zero, List.nil_append] at this; exact this
      have hc2 : wr.cell? ⟨w.heap.size + 1 + 1, 0, none⟩ = some (Value.slice none 0 0) := (hbl.cell (p := ⟨w.heap.size + 1 + 1, 0, none⟩) (by dsimp only; omega)).trans HC2.out
      have hf2 : wr.frozen? ⟨w.heap.size + 1 + 1, 0, none⟩ = false := (hbl.frozen (p := ⟨w.heap.size + 1 + 1, 0, none⟩) (by dsimp only; omega)).trans HF2.out
      have hl2 : w.heap.size + 1 + 1 < wr.heap.size := by omega
      have hl3 : w.heap.size + 1 + 1 + 1 < wr.heap.size := by omega
      clear HOW
      go_wp2_with fail
      go_region_held3 (fun w' => w'.cell? ⟨w.heap.size + 1 + 1 + 1, 0, none⟩ = some (Value.slice ro (digs 1000000000 R).length rc)) ((go_split_ands; (first | (first | assumption | (simp (disch := (first | omega | (simp only [size_alloc, size_drew, size_drewN, size_set]; omega) | simp only [size_alloc, size_drew, size_drewN, size_set])) only [cell_ne, cell_same] <;> first | rfl | assumption)) | ((first | refine (hbk.cell ?_).trans ?_ | refine (hbk.frozen ?_).trans ?_) <;> first | (first | omega | (simp only [size_alloc, size_drew, size_drewN, size_set]; omega) | simp only [size_alloc, size_drew, size_drewN, size_set]) | (first | assumption | (simp (disch := (first | omega | (simp only [size_alloc, size_drew, size_drewN, size_set]; omega) | simp only [size_alloc, size_drew, size_drewN, size_set])) only [cell_drew, free_drew, cell_drewN, free_drewN, cell_new, cell_old, free_new, free_old, cell_ne, free_same, cell_same] <;> first | rfl | assumption))))))
        (first | (go_at_call 134; refine (carried_any _ ds _ (HOW0.out.rd.keep (by (repeat (first | exact Below.refl _ _ | assumption | refine Below.drew ?_ | refine belowN ?_ _ | refine Below.alloc ?_ (by (first | omega | (simp only [size_alloc, size_drew, size_drewN, size_set]; omega) | simp only [size_alloc, size_drew, size_drewN, size_set])) _ | refine Below.setCell ?_ (by (first | omega | (simp only [size_alloc, size_drew, size_drewN, size_set]; omega) | simp only [size_alloc, size_drew, size_drewN, size_set])) _)))) (by rw [HDL.out]; omega) (fun x hx => by have := HDX.out x hx; omega)).mono ?_; rintro e w2 ⟨u, rfl, hu, hbk⟩; have hB2 : Below wr.heap.size wr w2 := (by refine Below.trans ?_ (Below.mono hbk ?_) <;> first | ((repeat (first | exact Below.refl _ _ | assumption | refine Below.drew ?_ | refine belowN ?_ _ | refine Below.alloc ?_ (by (first | omega | (simp only [size_alloc, size_drew, size_drewN, size_set]; omega) | simp only [size_alloc, size_drew, size_drewN, size_set])) _ | refine Below.setCell ?_ (by (first | omega | (simp only [size_alloc, size_drew, size_drewN, size_set]; omega) | simp only [size_alloc, size_drew, size_drewN, size_set])) _)); done) | (first | omega | (simp only [size_drew]; omega) | simp only [size_alloc, size_drew, size_drewN, size_set])); have hc2b := (hB2.cell (p := ⟨w.heap.size + 1 + 1, 0, none⟩) hl2).trans hc2; have hf2b := (hB2.frozen (p := ⟨w.heap.size + 1 + 1, 0, none⟩) hl2).trans hf2; have hc3b := (hB2.cell (p := ⟨w.heap.size + 1 + 1 + 1, 0, none⟩) hl3).trans hrc; have hf3b := (hB2.frozen (p := ⟨w.heap.size + 1 + 1 + 1, 0, none⟩) hl3).trans hrf; obtain ⟨uo, uc, rfl, _, _, _, _⟩ := hu.rd))
      all_goals
        go_wp2_with fail
        refine bodyPost_ret (v := .tuple #[.agg #[Value.slice uo _ uc], .agg #[Value.slice ro _ rc]]) (by simp [results, Tryz.results113, go_sem, hc2b, hc3b]; exact ⟨rfl, rfl⟩) rfl ⟨_, _, rfl, ?_, ?_, ?_⟩
        · rw [← HE.out.1]
          refine ((hu.set ?_ _).set ?_ _).low ?_ <;> first | omega | (dsimp only [size_drew]; omega)
        · rw [← HE.out.2]
          refine ((((HRO.out.keep hB2).set ?_ _).set ?_ _).low ?_) <;> first | omega | (dsimp only; omega)
        · refine ((HB.out.trans (hB2.mono ?_)).setCell ?_ _).setCell ?_ _ <;> first | omega | (dsimp only; omega)

end Go.Proofs.YtjfncepmpabcnaaGreatDoor
