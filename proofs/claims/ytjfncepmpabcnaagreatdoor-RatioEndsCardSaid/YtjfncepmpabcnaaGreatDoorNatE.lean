/- nat: a number times a digit; quotients. -/
import Derived.Test.YtjfncepmpabcnaaGreatDoorNatD
namespace Go.Proofs.YtjfncepmpabcnaaGreatDoor
open Go.RowKit
attribute [local go_sem ↓] Go.wp_at_zero Go.wp_at_succ

set_option maxRecDepth 100000 in
set_option maxHeartbeats 2000000 in
theorem scaled_any (v : Value) (l : List Nat) (x : Nat) (w : World) (hv : RdI w v .u64 l) (hl : ∀ x ∈ l, x < 1000000000) (hx : x < 1000000000) (h1 : l.length ≤ 100000000) :
    Calls Tryz.prog 146 #[.agg #[v], .int .u64 x] w fun e w' => ∃ u, e = .returned (.agg #[u]) ∧ Own w' w.heap.size 72 .u64 u (digs 1000000000 (val 1000000000 l * x)) ∧ Below w.heap.size w w' := by
  have hv' := Lib.hid hv
  have HL := Lib.hid hl
  obtain ⟨ao, ac, rfl, _, _, _, _⟩ := hv
  clear hl
  have HX : Hid (∀ y ∈ [x], y ≤ 8589934592) := by intro y hy; simp at hy; omega
  have HV : Hid (val 1000000000 l * val 1000000000 (digs 1000000000 (val 1000000000 [x])) = val 1000000000 l * x) := by
    unfold Hid; rw [val_digs _ (by omega)]; simp [val]
  have HD : Hid ((digs 1000000000 (val 1000000000 [x])).length ≤ 1) := digs_length_le _ (by omega) _ _ (by simp [val]; omega)
  go_enter Tryz.func146, Tryz.ntmps146
  go_wp2_with fail
  obtain ⟨W, hW⟩ : ∃ W, W = (w.alloc (Obj.cells #[Value.slice ao l.length ac] 116)).alloc (Obj.cells #[Value.slice none 0 0] 116) := ⟨_, rfl⟩
  have HB0 : Hid (Below w.heap.size w W) := by rw [hW]; exact (((Below.refl _ _).alloc (Nat.le_refl _) _).alloc (by simp only [size_alloc] <;> omega) _)
  have HC0 : Hid (W.cell? ⟨w.heap.size, 0, none⟩ = some (Value.slice ao l.length ac)) := by unfold Hid; rw [hW]; simp (disch := first | omega | (simp only [size_alloc]; omega) | simp only [size_alloc]) only [cell_new, cell_old]; all_goals rfl
  have HC1 : Hid (W.cell? ⟨w.heap.size + 1, 0, none⟩ = some (Value.slice none 0 0)) := by unfold Hid; rw [hW]; simp (disch := first | omega | (simp only [size_alloc]; omega) | simp only [size_alloc]) only [cell_new]; all_goals rfl
  have HF1 : Hid (W.frozen? ⟨w.heap.size + 1, 0, none⟩ = false) := by unfold Hid; rw [hW]; simp (disch := first | omega | (simp only [size_alloc]; omega) | simp only [size_alloc]) only [free_new]
  have HS : Hid (W.heap.size = w.heap.size + 1 + 1) := by unfold Hid; rw [hW]; simp only [size_alloc]
  rw [← hW]
  clear hW
  have hc0 := HC0.out
  have hsW := HS.out
  have HSW := HS
  clear HS
  go_region_held3 (fun w' => w'.cell? ⟨w.heap.size, 0, none⟩ = some (Value.slice ao l.length ac)) ((go_split_ands; (first | (first | assumption | (simp (disch := (first | omega | (simp only [size_alloc, size_drew, size_drewN, size_set]; omega) | simp only [size_alloc, size_drew, size_drewN, size_set])) only [cell_drew, cell_old, cell_ne] <;> first | rfl | assumption)) | ((first | refine (hbk.cell ?_).trans ?_ | refine (hbk.frozen ?_).trans ?_) <;> first | (first | omega | (simp only [size_alloc, size_drew]; omega) | simp only [size_alloc, size_drew, size_drewN, size_set]) | (first | assumption | (simp (disch := (first | omega | (simp only [size_alloc, size_drew, size_drewN, size_set]; omega) | simp only [size_alloc, size_drew, size_drewN, size_set])) only [cell_drew, free_drew, cell_drewN, free_drewN, cell_new, cell_old, free_new, free_old, cell_ne, free_same, cell_same] <;> first | rfl | assumption))))))
    (first | (go_at_call 134; refine (carried_any _ [x] _ ?_ ?_ HX.out).mono ?_; (exact (rd_box _ _ _ _ _ hsW.symm).drew); (simp); rintro e w2 ⟨u, rfl, hu, hbk⟩; have hz2 : w.heap.size + 1 + 1 < w2.heap.size := (by have := hbk.size; simp only [size_alloc, size_drew] at this; omega); have hB2 : Below (w.heap.size + 1 + 1) W w2 := (by refine Below.trans ?_ (Below.mono hbk ?_) <;> first | ((repeat (first | exact Below.refl _ _ | assumption | refine Below.drew ?_ | refine belowN ?_ _ | refine Below.alloc ?_ (by (first | omega | (simp only [size_alloc, size_drew, size_drewN, size_set]; omega) | simp only [size_alloc, size_drew, size_drewN, size_set])) _ | refine Below.setCell ?_ (by (first | omega | (simp only [size_alloc, size_drew, size_drewN, size_set]; omega) | simp only [size_alloc, size_drew, size_drewN, size_set])) _)); done) | (first | omega | (simp only [size_alloc, size_drew]; omega) | simp only [size_alloc, size_drew, size_drewN, size_set]))) | (go_at_call 143; refine (times_any _ _ l (digs 1000000000 (val 1000000000 [x])) _ (hv'.out.keep (HB0.out.trans (hB2.mono (by omega)))) hu.rd HL.out (digs_lt _ (by omega) _) h1 (Nat.le_trans HD.out (by omega))).mono ?_; rintro e w3 ⟨u3, rfl, hu3, hbk⟩; have hB3 : Below (w.heap.size + 1 + 1) W w3 := (by refine Below.trans ?_ (Below.mono hbk ?_) <;> first | ((repeat (first | exact Below.refl _ _ | assumption | refine Below.drew ?_ | refine belowN ?_ _ | refine Below.alloc ?_ (by (first | omega | (simp only [size_alloc, size_drew, size_drewN, size_set]; omega) | simp only [size_alloc, size_drew, size_drewN, size_set])) _ | refine Below.setCell ?_ (by (first | omega | (simp only [size_alloc, size_drew, size_drewN, size_set]; omega) | simp only [size_alloc, size_drew, size_drewN, size_set])) _)); done) | (first | omega | (simp only [size_alloc, size_drew, size_drewN, size_set]; omega) | simp only [size_alloc, size_drew, size_drewN, size_set])); have hc0 : w3.cell? ⟨w.heap.size, 0, none⟩ = some (Value.slice ao l.length ac) := (hB3.cell (p := ⟨w.heap.size, 0, none⟩) (by (try dsimp only); omega)).trans HC0.out; have hc1 : w3.cell? ⟨w.heap.size + 1, 0, none⟩ = some (Value.slice none 0 0) := (hB3.cell (p := ⟨w.heap.size + 1, 0, none⟩) (by (try dsimp only); omega)).trans HC1.out; have hf1 : w3.frozen? ⟨w.heap.size + 1, 0, none⟩ = false := (hB3.frozen (p := ⟨w.heap.size + 1, 0, none⟩) (by (try dsimp only); omega)).trans HF1.out; rw [HV.out] at hu3; obtain ⟨uo, uc, rfl, _, _, _, _⟩ := hu3.rd))
  go_wp2_with fail
  refine bodyPost_ret (v := .agg #[Value.slice uo _ uc]) (by simp [results, Tryz.results146, go_sem, hc1]; rfl) rfl ⟨_, rfl, ?_, ?_⟩
  · exact (hu3.set (by dsimp only; omega) _).low (by omega)
  · exact (HB0.out.trans (hB3.mono (by omega))).setCell (by dsimp only; omega) _

theorem search_end {M N x : Nat} (h1 : M * x ≤ N) (h2 : N < M * (x + 1)) : x = N / M := by
  have hM : 0 < M := by
    rcases Nat.eq_zero_or_pos M with h | h
    · subst h; omega
    · exact h
  symm
  exact Nat.div_eq_of_lt_le (by rw [Nat.mul_comm]; exact h1) (by rw [Nat.mul_comm]; exact h2)

set_option maxRecDepth 100000 in
set_option maxHeartbeats 2000000 in
theorem digit_any (v u : Value) (l m : List Nat) (w : World) (hv : RdI w v .u64 l) (hu : RdI w u .u64 m) (hl : Rgt 1000000000 l) (hm : Rgt 1000000000 m) (h1 : l.length ≤ 100000000) (h2 : m.length ≤ 100000000) (h3 : val 1000000000 l < val 1000000000 m * 1000000000) :
    Calls Tryz.prog 145 #[.agg #[v], .agg #[u]] w fun e w' => e = .returned (.int .u64 (val 1000000000 l / val 1000000000 m : Nat)) ∧ Below w.heap.size w w' := by
  have hv' := Lib.hid hv
  have hu' := Lib.hid hu
  have HL := Lib.hid hl
  have HM := Lib.hid hm
  have H3 := Lib.hid h3
  obtain ⟨ao, ac, rfl, _, _, _, _⟩ := hv
  obtain ⟨bo, bc, rfl, _, _, _, _⟩ := hu
  clear hl hm h3
  go_enter Tryz.func145, Tryz.ntmps145
  go_wp2_with fail
  obtain ⟨W, hW⟩ : ∃ W, W = (w.alloc (Obj.cells #[Value.slice ao l.length ac] 116)).alloc (Obj.cells #[Value.slice bo m.length bc] 116) := ⟨_, rfl⟩
  have HB0 : Hid (Below w.heap.size w W) := by rw [hW]; exact (((Below.refl _ _).alloc (Nat.le_refl _) _).alloc (by simp only [size_alloc] <;> omega) _)
  have HC0 : Hid (W.cell? ⟨w.heap.size, 0, none⟩ = some (Value.slice ao l.length ac)) := by unfold Hid; rw [hW]; simp (disch := first | omega | (simp only [size_alloc]; omega) | simp only [size_alloc]) only [cell_new, cell_old]; all_goals rfl
  have HC1 : Hid (W.cell? ⟨w.heap.size + 1, 0, none⟩ = some (Value.slice bo m.length bc)) := by unfold Hid; rw [hW]; simp (disch := first | omega | (simp only [size_alloc]; omega) | simp only [size_alloc]) only [cell_new]; all_goals rfl
  have HS : Hid (W.heap.size = w.heap.size + 1 + 1) := by unfold Hid; rw [hW]; simp only [size_alloc]
  rw [← hW]
  clear hW
  have hb1 : Below (w.heap.size + 1 + 1) W W := Below.refl _ _
  go_loopw [5, 6] (fun lo hi wr => ∃ (a b : Nat), lo = .int .u64 a ∧ hi = .int .u64 b ∧ a ≤ b ∧ b ≤ 999999999 ∧ val 1000000000 m * a ≤ val 1000000000 l ∧ val 1000000000 l < val 1000000000 m * (b + 1) ∧ Below (w.heap.size + 1 + 1) W wr) (fun lo hi _ => (intOf hi - intOf lo).toNat)
  case atStart => exact ⟨0, 999999999, rfl, rfl, by omega, by omega, by omega, H3.out, hb1⟩
  case round =>
    obtain ⟨a, b, rfl, rfl, hab, hb9, hlo, hhi, hbl⟩ := hrel
    have HB := Lib.hid (HB0.out.trans (hbl.mono (by omega)))
    have hsz := hbl.size
    rw [HS.out] at hsz
    have HLO := Lib.hid hlo
    have HHI := Lib.hid hhi
    clear hlo hhi
    have hc0 : wr.cell? ⟨w.heap.size, 0, none⟩ = some (Value.slice ao l.length ac) := (hbl.cell (p := ⟨w.heap.size, 0, none⟩) (by (try dsimp only); omega)).trans HC0.out
    have hc1 : wr.cell? ⟨w.heap.size + 1, 0, none⟩ = some (Value.slice bo m.length bc) := (hbl.cell (p := ⟨w.heap.size + 1, 0, none⟩) (by (try dsimp only); omega)).trans HC1.out
    by_cases hlt : a < b
    · obtain ⟨mid, hmid⟩ : ∃ mid, mid = (a + b + 1) / 2 := ⟨_, rfl⟩
      have hm1 : a < mid := by omega
      have hm2 : mid ≤ b := by omega
      have hmi : ((a : Int) + (b : Int) + 1) / 2 = (mid : Int) := by omega
      have HMID := Lib.hid hmid
      clear hmid
      have HVM : Hid (val 1000000000 (digs 1000000000 (val 1000000000 m * mid)) = val 1000000000 m * mid) := val_digs _ (by omega) _
      have HDL : Hid ((digs 1000000000 (val 1000000000 m * mid)).length ≤ m.length + 1) := by
        refine digs_length_le _ (by omega) _ _ ?_
        have e1 := val_lt 1000000000 m HM.out.1
        have e2 : val 1000000000 m * mid < 1000000000 ^ m.length * 1000000000 := Nat.mul_lt_mul'' e1 (by omega)
        rw [← Nat.pow_succ] at e2
        exact e2
      by_cases hc : val 1000000000 m * mid ≤ val 1000000000 l
      all_goals
        have HCC := Lib.hid hc
        clear hc
      · have hle : cmpI (val 1000000000 (digs 1000000000 (val 1000000000 m * mid)) : Nat) (val 1000000000 l : Nat) ≤ 0 := by
          rw [HVM.out]; unfold cmpI; split
          · omega
          · split
            · have := HCC.out; omega
            · omega
        have hle2 : decide (cmpI (val 1000000000 (digs 1000000000 (val 1000000000 m * mid)) : Nat) (val 1000000000 l : Nat) ≤ 0) = true := by simp [hle]
        clear hle
        go_wp2_with fail
        go_region_held3 (fun w' => w'.cell? ⟨w.heap.size, 0, none⟩ = some (Value.slice ao l.length ac) ∧ w'.cell? ⟨w.heap.size + 1, 0, none⟩ = some (Value.slice bo m.length bc)) ((go_split_ands; refine ⟨?_, ?_⟩ <;> (first | (first | assumption | (simp (disch := (first | omega | (simp only [size_alloc, size_drew, size_drewN, size_set]; omega) | simp only [size_alloc, size_drew, size_drewN, size_set])) only [cell_drew, free_drew, cell_drewN, free_drewN, cell_new, cell_old, free_new, free_old, cell_ne, free_same, cell_same] <;> first | rfl | assumption)) | ((first | refine (hbk.cell ?_).trans ?_ | refine (hbk.frozen ?_).trans ?_) <;> first | (first | omega | (simp only [size_drew]; omega) | simp only [size_alloc, size_drew, size_drewN, size_set]) | (first | assumption | (simp (disch := (first | omega | (simp only [size_alloc, size_drew, size_drewN, size_set]; omega) | simp only [size_alloc, size_drew, size_drewN, size_set])) only [cell_drew, free_drew, cell_drewN, free_drewN, cell_new, cell_old, free_new, free_old, cell_ne, free_same, cell_same] <;> first | rfl | assumption))))))
          (first | (go_at_call 146; refine (scaled_any _ m mid _ (hu'.out.keep HB.out).drew HM.out.1 (by omega) h2).mono ?_; rintro e w2 ⟨u, rfl, hu, hbk⟩; have hz2 : w.heap.size + 1 + 1 ≤ w2.heap.size := (by have := hbk.size; simp only [size_drew] at this; omega); have hB2 : Below (w.heap.size + 1 + 1) W w2 := (by refine Below.trans ?_ (Below.mono hbk ?_) <;> first | ((repeat (first | exact Below.refl _ _ | assumption | refine Below.drew ?_ | refine belowN ?_ _ | refine Below.alloc ?_ (by (first | omega | (simp only [size_alloc, size_drew, size_drewN, size_set]; omega) | simp only [size_alloc, size_drew, size_drewN, size_set])) _ | refine Below.setCell ?_ (by (first | omega | (simp only [size_alloc, size_drew, size_drewN, size_set]; omega) | simp only [size_alloc, size_drew, size_drewN, size_set])) _)); done) | (first | omega | (simp only [size_alloc, size_drew, size_drewN, size_set]; omega) | simp only [size_alloc, size_drew, size_drewN, size_set]))) | (go_at_call 138; refine (compare_any _ _ (digs 1000000000 (val 1000000000 m * mid)) l _ hu.rd (hv'.out.keep (HB0.out.trans (hB2.mono (by omega)))) (digs_rgt _ (by omega) _) HL.out (Nat.le_trans HDL.out (by omega)) (by omega)).mono ?_; rintro e w3 ⟨rfl, hbk⟩; have hB3 : Below (w.heap.size + 1 + 1) W w3 := (by refine Below.trans ?_ (Below.mono hbk ?_) <;> first | ((repeat (first | exact Below.refl _ _ | assumption | refine Below.drew ?_ | refine belowN ?_ _ | refine Below.alloc ?_ (by (first | omega | (simp only [size_alloc, size_drew, size_drewN, size_set]; omega) | simp only [size_alloc, size_drew, size_drewN, size_set])) _ | refine Below.setCell ?_ (by (first | omega | (simp only [size_alloc, size_drew, size_drewN, size_set]; omega) | simp only [size_alloc, size_drew, size_drewN, size_set])) _)); done) | (first | omega | (simp only [size_alloc, size_drew, size_drewN, size_set]; omega) | simp only [size_alloc, size_drew, size_drewN, size_set]))))
        go_wp2_with fail
        go_roundw
        case rel => exact ⟨mid, b, rfl, rfl, by omega, hb9, HCC.out, HHI.out, hB3⟩
        case measure => simp [intOf]; omega
      · have hle : 0 < cmpI (val 1000000000 (digs 1000000000 (val 1000000000 m * mid)) : Nat) (val 1000000000 l : Nat) := by
          rw [HVM.out]; unfold cmpI; have := HCC.out; rw [if_neg (by omega), if_pos (by omega)]; omega
        have hle2 : decide (cmpI (val 1000000000 (digs 1000000000 (val 1000000000 m * mid)) : Nat) (val 1000000000 l : Nat) ≤ 0) = false := by simp; omega
        clear hle
        go_wp2_with fail
        go_region_held3 (fun w' => w'.cell? ⟨w.heap.size, 0, none⟩ = some (Value.slice ao l.length ac) ∧ w'.cell? ⟨w.heap.size + 1, 0, none⟩ = some (Value.slice bo m.length bc)) ((go_split_ands; refine ⟨?_, ?_⟩ <;> (first | (first | assumption | (simp (disch := (first | omega | (simp only [size_alloc, size_drew, size_drewN, size_set]; omega) | simp only [size_alloc, size_drew, size_drewN, size_set])) only [cell_drew, free_drew, cell_drewN, free_drewN, cell_new, cell_old, free_new, free_old, cell_ne, free_same, cell_same] <;> first | rfl | assumption)) | ((first | refine (hbk.cell ?_).trans ?_ | refine (hbk.frozen ?_).trans ?_) <;> first | (first | omega | (simp only [size_drew]; omega) | simp only [size_alloc, size_drew, size_drewN, size_set]) | (first | assumption | (simp (disch := (first | omega | (simp only [size_alloc, size_drew, size_drewN, size_set]; omega) | simp only [size_alloc, size_drew, size_drewN, size_set])) only [cell_drew, free_drew, cell_drewN, free_drewN, cell_new, cell_old, free_new, free_old, cell_ne, free_same, cell_same] <;> first | rfl | assumption))))))
          (first | (go_at_call 146; refine (scaled_any _ m mid _ (hu'.out.keep HB.out).drew HM.out.1 (by omega) h2).mono ?_; rintro e w2 ⟨u, rfl, hu, hbk⟩; have hz2 : w.heap.size + 1 + 1 ≤ w2.heap.size := (by have := hbk.size; simp only [size_drew] at this; omega); have hB2 : Below (w.heap.size + 1 + 1) W w2 := (by refine Below.trans ?_ (Below.mono hbk ?_) <;> first | ((repeat (first | exact Below.refl _ _ | assumption | refine Below.drew ?_ | refine belowN ?_ _ | refine Below.alloc ?_ (by (first | omega | (simp only [size_alloc, size_drew, size_drewN, size_set]; omega) | simp only [size_alloc, size_drew, size_drewN, size_set])) _ | refine Below.setCell ?_ (by (first | omega | (simp only [size_alloc, size_drew, size_drewN, size_set]; omega) | simp only [size_alloc, size_drew, size_drewN, size_set])) _)); done) | (first | omega | (simp only [size_alloc, size_drew, size_drewN, size_set]; omega) | simp only [size_alloc, size_drew, size_drewN, size_set]))) | (go_at_call 138; refine (compare_any _ _ (digs 1000000000 (val 1000000000 m * mid)) l _ hu.rd (hv'.out.keep (HB0.out.trans (hB2.mono (by omega)))) (digs_rgt _ (by omega) _) HL.out (Nat.le_trans HDL.out (by omega)) (by omega)).mono ?_; rintro e w3 ⟨rfl, hbk⟩; have hB3 : Below (w.heap.size + 1 + 1) W w3 := (by refine Below.trans ?_ (Below.mono hbk ?_) <;> first | ((repeat (first | exact Below.refl _ _ | assumption | refine Below.drew ?_ | refine belowN ?_ _ | refine Below.alloc ?_ (by (first | omega | (simp only [size_alloc, size_drew, size_drewN, size_set]; omega) | simp only [size_alloc, size_drew, size_drewN, size_set])) _ | refine Below.setCell ?_ (by (first | omega | (simp only [size_alloc, size_drew, size_drewN, size_set]; omega) | simp only [size_alloc, size_drew, size_drewN, size_set])) _)); done) | (first | omega | (simp only [size_alloc, size_drew, size_drewN, size_set]; omega) | simp only [size_alloc, size_drew, size_drewN, size_set]))))
        go_wp2_with fail
        go_roundw
        case rel => exact ⟨a, mid - 1, rfl, by go_num, by omega, by omega, HLO.out, by have := HCC.out; rw [show mid - 1 + 1 = mid from by omega]; omega, hB3⟩
        case measure => simp [intOf]; omega
    · have he : a = b := by omega
      subst he
      have HE : Hid (a = val 1000000000 l / val 1000000000 m) := search_end HLO.out HHI.out
      go_wp2_with fail
      go_ret
      exact ⟨by rw [← HE.out]; rfl, HB.out⟩

end Go.Proofs.YtjfncepmpabcnaaGreatDoor
