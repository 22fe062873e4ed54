/- The document's answer of layer 1: Add, Mul. -/
import Derived.Test.YtemcpgfoggdaiaaGreatDoorRefD
import Derived.Test.YtemcpgfoggdaiaaGreatDoorNatH
namespace Go.Proofs.YtemcpgfoggdaiaaGreatDoor
open Go.RowKit

set_option maxRecDepth 100000 in
set_option maxHeartbeats 4000000 in
theorem refAdd_any (u : Value) (ls : List (List Nat)) (w : World) (hu : RdRows w u .u32 ls) (h2 : wgt ls ≤ 100000) (h3 : ∀ l ∈ ls, ∀ x ∈ l, x < 4294967296) :
    Calls Tryz.prog 67 #[u] w fun e w' => ∃ u, e = .returned u ∧ Own w' w.heap.size 60 .u32 u (digs 1000000000 (sumV ls)) ∧ Below w.heap.size w w' := by
  have H3 := Lib.hid h3
  obtain ⟨bo, bc, rfl, _, hbm, hx⟩ := hu
  have HX := Lib.hid hx
  clear h3 hx
  unfold maxLen at hbm
  go_enter Tryz.func67, Tryz.ntmps67
  go_wp2_with fail
  go_loopw [3, 4] (fun out i wr => ∃ (k T : Nat), i = .int .i64 k ∧ k ≤ ls.length ∧ T = (ls.take k).foldl (fun n a => n + val 1000000000 a) 0 ∧ T < 1000000000 ^ (wgt (ls.take k) + 0) ∧ RdI wr out .u8 (digs 10 T) ∧ Below w.heap.size w wr) (fun _ i _ => ls.length - (intOf i).toNat)
  case atStart => exact ⟨0, 0, rfl, by omega, rfl, by simp [wgt], ⟨none, 0, rfl, by simp [digs_zero], by unfold maxLen; omega, fun _ => rfl, fun i hi => by simp [digs_zero] at hi⟩, Below.refl _ _⟩
  case round =>
    obtain ⟨k, T, rfl, hk, hT, hTl, hTr, hbl⟩ := hrel
    have HT := Lib.hid hT
    have HTB := Lib.hid hTl
    have HTR := Lib.hid hTr
    have HBL := Lib.hid hbl
    have hsr := hbl.size
    have hw6 := wgt_take_le ls k
    have HTL : Hid ((digs 10 T).length ≤ 1000000) := by have := digs10_len hTl; unfold Hid; omega
    obtain ⟨tto, ttc, rfl, _, _, _, _⟩ := hTr
    clear hT hTl
    by_cases hkl : k < ls.length
    · obtain ⟨ad, row, had, hcell, hrow⟩ := HX.out k hkl
      subst had
      have HROW := Lib.hid (hrow.keep hbl)
      obtain ⟨rro, rrc, rfl, _, _, _, _⟩ := hrow
      have hcr := (hbl.cell (World.block_lt_of_cell? w _ hcell)).trans hcell
      have HLX : Hid (∀ x ∈ rowOf ls k, x < 4294967296) := by
        refine H3.out _ ?_
        rw [rowOf_eq ls k hkl]; exact List.getElem_mem hkl
      have hw7 := wgt_mem ls k hkl
      have HRL : Hid ((digs 10 (val 1000000000 (rowOf ls k))).length ≤ 1000000) := by have := digs10_len (val_lt_any _ HLX.out); unfold Hid; omega
      clear hcell hbl
      go_wp2_with fail
      refine (refRead_any _ (rowOf ls k) _ HROW.out (by omega) HLX.out).mono ?_
      rintro e w5 ⟨x, rfl, hx5, hb5⟩
      go_wp2_with fail
      refine (refPlus_any _ _ (digs 10 T) (digs 10 (val 1000000000 (rowOf ls k))) _ (HTR.out.keep hb5) hx5 (digs_lt _ (by omega) _) (digs_lt _ (by omega) _) (Nat.le_trans HTL.out (by omega)) (Nat.le_trans HRL.out (by omega))).mono ?_
      rintro e w6 ⟨y, rfl, hy6, hb6⟩
      rw [val_digs _ (by omega), val_digs _ (by omega)] at hy6
      have hs5 := hb5.size
      go_wp2_with fail
      go_roundw
      case rel =>
        refine ⟨k + 1, _, by go_num, by omega, ?_, ?_, hy6, HBL.out.trans ((hb5.mono hsr).trans (hb6.mono (by omega)))⟩
        · rw [foldl_take_succ _ _ _ _ hkl, ← HT.out]
        · have e : wgt (ls.take (k + 1)) + 0 = wgt (ls.take k) + 0 + 2 * (rowOf ls k).length + 1 := by rw [wgt_take_succ _ _ hkl]; omega
          rw [e]
          exact add_lt_pow HTB.out (val_lt_any _ HLX.out)
      case measure => simp [intOf]; omega
    · have HE : Hid (T = sumV ls) := by have := HT.out; rw [List.take_of_length_le (by omega)] at this; exact this
      go_wp2_with fail
      refine (refWrite_any _ (digs 10 T) _ HTR.out (Nat.le_trans HTL.out (by omega)) (digs_rgt _ (by omega) _)).mono ?_
      rintro e w5 ⟨x, rfl, hx5, hb5⟩
      rw [val_digs _ (by omega), HE.out] at hx5
      go_wp2_with fail
      go_ret
      exact ⟨_, rfl, hx5.low hsr, HBL.out.trans (hb5.mono hsr)⟩

set_option maxRecDepth 100000 in
set_option maxHeartbeats 4000000 in
theorem refMul_any (u : Value) (ls : List (List Nat)) (w : World) (hu : RdRows w u .u32 ls) (h2 : wgt ls ≤ 100000) (h3 : ∀ l ∈ ls, ∀ x ∈ l, x < 4294967296) :
    Calls Tryz.prog 42 #[u] w fun e w' => ∃ u, e = .returned u ∧ Own w' w.heap.size 60 .u32 u (digs 1000000000 (prodV ls)) ∧ Below w.heap.size w w' := by
  have H3 := Lib.hid h3
  obtain ⟨bo, bc, rfl, _, hbm, hx⟩ := hu
  have HX := Lib.hid hx
  clear h3 hx
  unfold maxLen at hbm
  go_enter Tryz.func42, Tryz.ntmps42
  go_wp2_with fail
  have hone : RdI (w.alloc (.cells #[.int .u8 1] 5)) (.slice (some ⟨w.heap.size, 0, none⟩) 1 1) .u8 (digs 10 1) := by
    rw [show digs 10 1 = [1] by rw [digs_cons _ (by omega) _ (by omega)]; rfl]
    exact rd_box _ _ _ _ _ rfl
  have hb1 : Below w.heap.size w (w.alloc (.cells #[.int .u8 1] 5)) := (Below.refl _ _).alloc (Nat.le_refl _) _
  go_loopw [3, 4] (fun out i wr => ∃ (k T : Nat), i = .int .i64 k ∧ k ≤ ls.length ∧ T = (ls.take k).foldl (fun n a => n * val 1000000000 a) 1 ∧ T < 1000000000 ^ (wgt (ls.take k) + 1) ∧ RdI wr out .u8 (digs 10 T) ∧ Below w.heap.size w wr) (fun _ i _ => ls.length - (intOf i).toNat)
  case atStart => exact ⟨0, 1, rfl, by omega, rfl, by simp [wgt], hone, hb1⟩
  case round =>
    obtain ⟨k, T, rfl, hk, hT, hTl, hTr, hbl⟩ := hrel
    have HT := Lib.hid hT
    have HTB := Lib.hid hTl
    have HTR := Lib.hid hTr
    have HBL := Lib.hid hbl
    have hsr := hbl.size
    have hw6 := wgt_take_le ls k
    have HTL : Hid ((digs 10 T).length ≤ 1000000) := by have := digs10_len hTl; unfold Hid; omega
    obtain ⟨tto, ttc, rfl, _, _, _, _⟩ := hTr
    clear hT hTl
    by_cases hkl : k < ls.length
    · obtain ⟨ad, row, had, hcell, hrow⟩ := HX.out k hkl
      subst had
      have HROW := Lib.hid (hrow.keep hbl)
      obtain ⟨rro, rrc, rfl, _, _, _, _⟩ := hrow
      have hcr := (hbl.cell (World.block_lt_of_cell? w _ hcell)).trans hcell
      have HLX : Hid (∀ x ∈ rowOf ls k, x < 4294967296) := by
        refine H3.out _ ?_
        rw [rowOf_eq ls k hkl]; exact List.getElem_mem hkl
      have hw7 := wgt_mem ls k hkl
      have HRL : Hid ((digs 10 (val 1000000000 (rowOf ls k))).length ≤ 1000000) := by have := digs10_len (val_lt_any _ HLX.out); unfold Hid; omega
      clear hcell hbl
      go_wp2_with fail
      refine (refRead_any _ (rowOf ls k) _ HROW.out (by omega) HLX.out).mono ?_
      rintro e w5 ⟨x, rfl, hx5, hb5⟩
      go_wp2_with fail
      refine (refTimes_any _ _ (digs 10 T) (digs 10 (val 1000000000 (rowOf ls k))) _ (HTR.out.keep hb5) hx5 (digs_lt _ (by omega) _) (digs_lt _ (by omega) _) (Nat.le_trans HTL.out (by omega)) (Nat.le_trans HRL.out (by omega))).mono ?_
      rintro e w6 ⟨y, rfl, hy6, hb6⟩
      rw [val_digs _ (by omega), val_digs _ (by omega)] at hy6
      have hs5 := hb5.size
      go_wp2_with fail
      go_roundw
      case rel =>
        refine ⟨k + 1, _, by go_num, by omega, ?_, ?_, hy6, HBL.out.trans ((hb5.mono hsr).trans (hb6.mono (by omega)))⟩
        · rw [foldl_take_succ _ _ _ _ hkl, ← HT.out]
        · have e : wgt (ls.take (k + 1)) + 1 = wgt (ls.take k) + 1 + 2 * (rowOf ls k).length + 1 := by rw [wgt_take_succ _ _ hkl]; omega
          rw [e]
          exact mul_lt_pow HTB.out (val_lt_any _ HLX.out)
      case measure => simp [intOf]; omega
    · have HE : Hid (T = prodV ls) := by have := HT.out; rw [List.take_of_length_le (by omega)] at this; exact this
      go_wp2_with fail
      refine (refWrite_any _ (digs 10 T) _ HTR.out (Nat.le_trans HTL.out (by omega)) (digs_rgt _ (by omega) _)).mono ?_
      rintro e w5 ⟨x, rfl, hx5, hb5⟩
      rw [val_digs _ (by omega), HE.out] at hx5
      go_wp2_with fail
      go_ret
      exact ⟨_, rfl, hx5.low hsr, HBL.out.trans (hb5.mono hsr)⟩

end Go.Proofs.YtemcpgfoggdaiaaGreatDoor
