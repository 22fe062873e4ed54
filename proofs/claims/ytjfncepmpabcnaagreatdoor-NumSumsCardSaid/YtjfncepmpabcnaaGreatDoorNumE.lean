/- num: numbers put together. -/
import Derived.Test.YtjfncepmpabcnaaGreatDoorNumD
namespace Go.Proofs.YtjfncepmpabcnaaGreatDoor
open Go.RowKit
set_option linter.unusedSimpArgs false
set_option linter.unusedVariables false
attribute [local go_sem ↓] Go.wp_at_zero Go.wp_at_succ

set_option maxRecDepth 100000 in
set_option maxHeartbeats 4000000 in
theorem together_plus (v u : Value) (z0 : Int) (B k0 : Nat) (L : List (Bool × List Nat)) (w : World) (hv : NB w B 103 v z0) (hBB : B ≤ w.heap.size) (hu : RdZ w u L) (h1 : ZB z0 k0) (h2 : k0 + wgZ L ≤ 50000) :
    Calls Tryz.prog 54 #[v, .func (.func 55) #[] #[], u] w fun e w' => ∃ x, e = .returned x ∧ IO w' B 103 x (foldZ (fun a b => a + b) z0 L) ∧ Below w.heap.size w w' := by
  obtain ⟨ao, ac, rfl⟩ := hv.one
  obtain ⟨bo, bc, rfl, _, hbm, hx⟩ := hu
  have HN := Lib.hid hv
  have HX := Lib.hid hx
  have HK0 := Lib.hid h1
  unfold maxLen at hbm
  clear hv hx h1
  go_enter Tryz.func54, Tryz.ntmps54
  go_wp2_with fail
  have hB := Below.refl w.heap.size w
  have hbs := hB.size
  have hgf : w.heap.size ≤ w.heap.size := by omega
  have hgr : w.heap.size ≤ w.heap.size + 1 := by omega
  have hn_r_f : w.heap.size + 1 ≠ w.heap.size := by omega
  clear hbs
  refine wp_gen fun W1 hW => ?_
  have hm1 : w.heap.size ≤ W1.heap.size := by rw [hW]; (first | omega | (simp only [size_alloc, size_drew, size_drewN, size_set]; omega) | (simp only [size_alloc, size_drew, size_drewN, size_set]; done))
  have hB' : Below w.heap.size w W1 := by rw [hW]; (repeat (first | (with_reducible assumption) | exact Below.refl _ _ | (with_reducible refine Below.drew ?_) | (with_reducible refine belowN ?_ _) | (with_reducible refine bw_alloc ?_ _) | ((with_reducible refine bw_set ?_ ?_ _ _); (focus (with_reducible assumption)))))
  have hXf' : Box W1 (w.heap.size) [Value.slice ao (digs 1000000000 z0.natAbs).length ac, Value.bool (zNeg z0)] := by rw [hW]; (repeat (first | (with_reducible assumption) | (with_reducible refine Box.drew ?_) | (with_reducible refine Box.drewN ?_ _) | ((with_reducible refine Box.new _ _ ?_ ?_); (focus (first | (with_reducible exact rfl) | (simp only [size_alloc, size_drew, size_drewN, size_set]; done))); (focus (exact rfl))) | (with_reducible refine Box.alloc ?_ _) | ((with_reducible refine Box.put ?_ ?_ _ _ ?_); rotate_left) | ((with_reducible refine Box.set ?_ ?_ _ _); (focus (first | (with_reducible assumption) | (refine Ne.symm ?_; (with_reducible assumption))))) | (exact rfl)))
  have hXr' : Box W1 (w.heap.size + 1) [Value.bool false, Value.slice none 0 0] := by rw [hW]; (repeat (first | (with_reducible assumption) | (with_reducible refine Box.drew ?_) | (with_reducible refine Box.drewN ?_ _) | ((with_reducible refine Box.new _ _ ?_ ?_); (focus (first | (with_reducible exact rfl) | (simp only [size_alloc, size_drew, size_drewN, size_set]; done))); (focus (exact rfl))) | (with_reducible refine Box.alloc ?_ _) | ((with_reducible refine Box.put ?_ ?_ _ _ ?_); rotate_left) | ((with_reducible refine Box.set ?_ ?_ _ _); (focus (first | (with_reducible assumption) | (refine Ne.symm ?_; (with_reducible assumption))))) | (exact rfl)))
  clear hW
  clear hB
  have hB := hB'; have hXf := hXf'; have hXr := hXr'
  clear hB' hXf' hXr'
  have hcf_0 := hXf.c0; have hff_0 := hXf.free 0; have hcf_1 := hXf.c1; have hff_1 := hXf.free 1; have hcr_0 := hXr.c0; have hfr_0 := hXr.free 0; have hcr_1 := hXr.c1; have hfr_1 := hXr.free 1
  have hinf : w.heap.size < (w.heap.size + 1 + 1) := by omega
  have HN1 : Hid (NBX W1 B w.heap.size (w.heap.size + 1 + 1) 103 (.agg #[.slice ao (digs 1000000000 z0.natAbs).length ac, .bool (zNeg z0)]) z0) := (HN.out.x0 _).keep hB
  have hsz : (w.heap.size + 1 + 1) ≤ W1.heap.size := hXr.lt
  go_loopg [11] L.length (fun m i wr => ∃ (k : Nat) (T : Int) (fa fb : Value), i = .int .i64 k ∧ m = L.length - k ∧ k ≤ L.length ∧ T = foldZ (fun a b => a + b) z0 (L.take k) ∧ ZB T (k0 + wgZ (L.take k)) ∧ NBX wr B w.heap.size (w.heap.size + 1 + 1) 103 (.agg #[fa, fb]) T ∧ Below w.heap.size w wr ∧ (w.heap.size + 1 + 1) ≤ wr.heap.size ∧ Box wr (w.heap.size) [fa, fb] ∧ Box wr (w.heap.size + 1) [Value.bool false, Value.slice none 0 0])
  case atStart => exact ⟨0, z0, _, _, rfl, rfl, by omega, rfl, HK0.out.mono (by omega), HN1.out, hB, hsz, hXf, hXr⟩
  case round =>
    clear hsz
    clear hfr_1 hcr_1 hfr_0 hcr_0 hff_1 hcf_1 hff_0 hcf_0 hXr hXf hB
    obtain ⟨k, T, fa, fb, rfl, hm, hk, hT, hTB, hN, hB, hsz, hXf, hXr⟩ := hrel
    obtain ⟨fo, fc, hfe⟩ := hN.one
    obtain ⟨rfl, rfl⟩ : fa = .slice fo (digs 1000000000 T.natAbs).length fc ∧ fb = .bool (zNeg T) := by injection hfe with h; injection h with h; injection h with h1 h2; injection h2 with h2; exact ⟨h1, h2⟩
    have HT := Lib.hid hT
    have HTB := Lib.hid hTB
    have HN2 := Lib.hid hN
    have HM := Lib.hid hm
    have hw2 := wgZ_take_le L k
    clear hT hTB hN hfe hm
    have hcf_0 := hXf.c0; have hff_0 := hXf.free 0; have hcf_1 := hXf.c1; have hff_1 := hXf.free 1; have hcr_0 := hXr.c0; have hfr_0 := hXr.free 0; have hcr_1 := hXr.c1; have hfr_1 := hXr.free 1
    by_cases hkl : k < L.length
    · obtain ⟨ad, sl, had, hc0, hc1, hsl, hslx⟩ := HX.out k hkl
      subst had
      have hw1 := wgZ_at hkl
      have hcr0 := (hB.cell (World.block_lt_of_cell? w _ hc0)).trans hc0
      have hcr1 := (hB.cell (World.block_lt_of_cell? w _ hc1)).trans hc1
      obtain ⟨so, sc, rfl⟩ := rd_sl hsl
      have HIV : Hid (IV w (.agg #[.bool (sgnAt L k), .slice so (limAt L k).length sc]) (sgnAt L k) (limAt L k)) := ⟨_, rfl, hsl, hslx⟩
      have HZB : Hid (ZB (zV (sgnAt L k) (limAt L k)) ((limAt L k).length + 1)) := zV_zb _ _ hslx
      have hi0 : (0 : Int) ≤ (k : Int) := by omega
      have hi1 : (k : Int) < (L.length : Int) := by omega
      clear hc0 hc1 hsl hslx
      go_wp2_with fail
      have hbs := hB.size
      have hltf := hXf.lt
      have hltr := hXr.lt
      have hgx : w.heap.size ≤ wr.heap.size := by omega
      have hn_x_f : wr.heap.size ≠ w.heap.size := by omega
      have hn_x_r : wr.heap.size ≠ w.heap.size + 1 := by omega
      clear hbs hltf hltr
      refine wp_gen fun W2 hW => ?_
      have hm2 : wr.heap.size ≤ W2.heap.size := by rw [hW]; (first | omega | (simp only [size_alloc, size_drew, size_drewN, size_set]; omega) | (simp only [size_alloc, size_drew, size_drewN, size_set]; done))
      have hB' : Below w.heap.size w W2 := by rw [hW]; (repeat (first | (with_reducible assumption) | exact Below.refl _ _ | (with_reducible refine Below.drew ?_) | (with_reducible refine belowN ?_ _) | (with_reducible refine bw_alloc ?_ _) | ((with_reducible refine bw_set ?_ ?_ _ _); (focus (with_reducible assumption)))))
      have hXf' : Box W2 (w.heap.size) [Value.slice fo (digs 1000000000 T.natAbs).length fc, Value.bool (zNeg T)] := by rw [hW]; (repeat (first | (with_reducible assumption) | (with_reducible refine Box.drew ?_) | (with_reducible refine Box.drewN ?_ _) | ((with_reducible refine Box.new _ _ ?_ ?_); (focus (first | (with_reducible exact rfl) | (simp only [size_alloc, size_drew, size_drewN, size_set]; done))); (focus (exact rfl))) | (with_reducible refine Box.alloc ?_ _) | ((with_reducible refine Box.put ?_ ?_ _ _ ?_); rotate_left) | ((with_reducible refine Box.set ?_ ?_ _ _); (focus (first | (with_reducible assumption) | (refine Ne.symm ?_; (with_reducible assumption))))) | (exact rfl)))
      have hXr' : Box W2 (w.heap.size + 1) [Value.bool false, Value.slice none 0 0] := by rw [hW]; (repeat (first | (with_reducible assumption) | (with_reducible refine Box.drew ?_) | (with_reducible refine Box.drewN ?_ _) | ((with_reducible refine Box.new _ _ ?_ ?_); (focus (first | (with_reducible exact rfl) | (simp only [size_alloc, size_drew, size_drewN, size_set]; done))); (focus (exact rfl))) | (with_reducible refine Box.alloc ?_ _) | ((with_reducible refine Box.put ?_ ?_ _ _ ?_); rotate_left) | ((with_reducible refine Box.set ?_ ?_ _ _); (focus (first | (with_reducible assumption) | (refine Ne.symm ?_; (with_reducible assumption))))) | (exact rfl)))
      have hXx' : Box W2 (wr.heap.size) [Value.bool (sgnAt L k), Value.slice so (limAt L k).length sc] := by rw [hW]; (repeat (first | (with_reducible assumption) | (with_reducible refine Box.drew ?_) | (with_reducible refine Box.drewN ?_ _) | ((with_reducible refine Box.new _ _ ?_ ?_); (focus (first | (with_reducible exact rfl) | (simp only [size_alloc, size_drew, size_drewN, size_set]; done))); (focus (exact rfl))) | (with_reducible refine Box.alloc ?_ _) | ((with_reducible refine Box.put ?_ ?_ _ _ ?_); rotate_left) | ((with_reducible refine Box.set ?_ ?_ _ _); (focus (first | (with_reducible assumption) | (refine Ne.symm ?_; (with_reducible assumption))))) | (exact rfl)))
      have hL : Below wr.heap.size wr W2 := by rw [hW]; (repeat (first | (with_reducible assumption) | exact Below.refl _ _ | (with_reducible refine Below.drew ?_) | (with_reducible refine belowN ?_ _) | (with_reducible refine bw_alloc ?_ _) | ((with_reducible refine bw_set ?_ ?_ _ _); (focus (with_reducible assumption)))))
      replace HN2 := Lib.hid (HN2.out.keep hL)
      clear hL
      clear hW
      clear hfr_1 hcr_1 hfr_0 hcr_0 hff_1 hcf_1 hff_0 hcf_0 hXr hXf hB
      have hB := hB'; have hXf := hXf'; have hXr := hXr'; have hXx := hXx'
      clear hB' hXf' hXr' hXx'
      have hcf_0 := hXf.c0; have hff_0 := hXf.free 0; have hcf_1 := hXf.c1; have hff_1 := hXf.free 1; have hcr_0 := hXr.c0; have hfr_0 := hXr.free 0; have hcr_1 := hXr.c1; have hfr_1 := hXr.free 1; have hcx_0 := hXx.c0; have hcx_1 := hXx.c1
      clear hcr0 hcr1
      have hn2 := HN2.out
      go_region_with
        (first | (go_at_call 95; (with_reducible refine (numof_any _ (sgnAt L k) (limAt L k) _ ?_ ?_).mono ?_); (focus (refine IV.keep HIV.out ?_; (repeat (first | (with_reducible assumption) | exact Below.refl _ _ | (with_reducible refine Below.drew ?_) | (with_reducible refine belowN ?_ _) | (with_reducible refine bw_alloc ?_ _) | ((with_reducible refine bw_set ?_ ?_ _ _); (focus (with_reducible assumption))))))); (focus (omega)); rintro e w3 ⟨u, rfl, hu, hbk⟩; obtain ⟨uo, uc, rfl⟩ := hu.one; have hn3 : NBX w3 B w.heap.size (w.heap.size + 1 + 1) 103 (.agg #[.slice fo (digs 1000000000 T.natAbs).length fc, .bool (zNeg T)]) T := (by refine NBX.keep ?_ hbk; (repeat (first | (with_reducible assumption) | (with_reducible refine NBX.drew ?_) | (with_reducible refine NBX.alloc ?_ _) | ((with_reducible refine NBX.set ?_ ?_ ?_ _ _); (focus (with_reducible assumption)); (focus (with_reducible assumption)))))); have hmw3 : W2.heap.size ≤ w3.heap.size := (by refine Nat.le_trans ?_ hbk.size; (first | omega | (simp only [size_alloc, size_drew, size_drewN, size_set]; omega) | (simp only [size_alloc, size_drew, size_drewN, size_set]; done))); have hBw3 : Below w.heap.size w w3 := (by refine bw_below ?_ hbk; (repeat (first | (with_reducible assumption) | exact Below.refl _ _ | (with_reducible refine Below.drew ?_) | (with_reducible refine belowN ?_ _) | (with_reducible refine bw_alloc ?_ _) | ((with_reducible refine bw_set ?_ ?_ _ _); (focus (with_reducible assumption)))))); have hXfw3 : Box w3 (w.heap.size) [Value.slice fo (digs 1000000000 T.natAbs).length fc, Value.bool (zNeg T)] := (by refine Box.below ?_ hbk; (repeat (first | (with_reducible assumption) | (with_reducible refine Box.drew ?_) | (with_reducible refine Box.drewN ?_ _) | ((with_reducible refine Box.new _ _ ?_ ?_); (focus (first | (with_reducible exact rfl) | (simp only [size_alloc, size_drew, size_drewN, size_set]; done))); (focus (exact rfl))) | (with_reducible refine Box.alloc ?_ _) | ((with_reducible refine Box.put ?_ ?_ _ _ ?_); rotate_left) | ((with_reducible refine Box.set ?_ ?_ _ _); (focus (first | (with_reducible assumption) | (refine Ne.symm ?_; (with_reducible assumption))))) | (exact rfl)))); have hcf_0w3 := hXfw3.c0; have hff_0w3 := hXfw3.free 0; have hcf_1w3 := hXfw3.c1; have hff_1w3 := hXfw3.free 1; have hXrw3 : Box w3 (w.heap.size + 1) [Value.bool false, Value.slice none 0 0] := (by refine Box.below ?_ hbk; (repeat (first | (with_reducible assumption) | (with_reducible refine Box.drew ?_) | (with_reducible refine Box.drewN ?_ _) | ((with_reducible refine Box.new _ _ ?_ ?_); (focus (first | (with_reducible exact rfl) | (simp only [size_alloc, size_drew, size_drewN, size_set]; done))); (focus (exact rfl))) | (with_reducible refine Box.alloc ?_ _) | ((with_reducible refine Box.put ?_ ?_ _ _ ?_); rotate_left) | ((with_reducible refine Box.set ?_ ?_ _ _); (focus (first | (with_reducible assumption) | (refine Ne.symm ?_; (with_reducible assumption))))) | (exact rfl)))); have hcr_0w3 := hXrw3.c0; have hfr_0w3 := hXrw3.free 0; have hcr_1w3 := hXrw3.c1; have hfr_1w3 := hXrw3.free 1; have hXxw3 : Box w3 (wr.heap.size) [Value.bool (sgnAt L k), Value.slice so (limAt L k).length sc] := (by refine Box.below ?_ hbk; (repeat (first | (with_reducible assumption) | (with_reducible refine Box.drew ?_) | (with_reducible refine Box.drewN ?_ _) | ((with_reducible refine Box.new _ _ ?_ ?_); (focus (first | (with_reducible exact rfl) | (simp only [size_alloc, size_drew, size_drewN, size_set]; done))); (focus (exact rfl))) | (with_reducible refine Box.alloc ?_ _) | ((with_reducible refine Box.put ?_ ?_ _ _ ?_); rotate_left) | ((with_reducible refine Box.set ?_ ?_ _ _); (focus (first | (with_reducible assumption) | (refine Ne.symm ?_; (with_reducible assumption))))) | (exact rfl)))); have hcx_0w3 := hXxw3.c0; have hcx_1w3 := hXxw3.c1) | (go_at_call 55; (with_reducible refine (numPlus_any _ _ T (zV (sgnAt L k) (limAt L k)) _ _ (k0 + wgZ (L.take k)) ((limAt L k).length + 1) _ hn3.nb hu ?_ ?_ ?_).mono ?_); (focus (exact HTB.out)); (focus (exact HZB.out)); (focus (omega)); rintro e w4 ⟨q, rfl, hq, hbk⟩; obtain ⟨qo, qc, rfl⟩ := hq.one; have hn4 : NBX w4 B w.heap.size (w.heap.size + 1 + 1) 103 _ _ := (hq.x w.heap.size (show (w.heap.size + 1 + 1) ≤ _ by omega)).low (by omega); have hmw4 : w3.heap.size ≤ w4.heap.size := (by refine Nat.le_trans ?_ hbk.size; (first | omega | (simp only [size_alloc, size_drew, size_drewN, size_set]; omega) | (simp only [size_alloc, size_drew, size_drewN, size_set]; done))); have hBw4 : Below w.heap.size w w4 := (by refine bw_below ?_ hbk; (repeat (first | (with_reducible assumption) | exact Below.refl _ _ | (with_reducible refine Below.drew ?_) | (with_reducible refine belowN ?_ _) | (with_reducible refine bw_alloc ?_ _) | ((with_reducible refine bw_set ?_ ?_ _ _); (focus (with_reducible assumption)))))); have hXfw4 : Box w4 (w.heap.size) [Value.slice fo (digs 1000000000 T.natAbs).length fc, Value.bool (zNeg T)] := (by refine Box.below ?_ hbk; (repeat (first | (with_reducible assumption) | (with_reducible refine Box.drew ?_) | (with_reducible refine Box.drewN ?_ _) | ((with_reducible refine Box.new _ _ ?_ ?_); (focus (first | (with_reducible exact rfl) | (simp only [size_alloc, size_drew, size_drewN, size_set]; done))); (focus (exact rfl))) | (with_reducible refine Box.alloc ?_ _) | ((with_reducible refine Box.put ?_ ?_ _ _ ?_); rotate_left) | ((with_reducible refine Box.set ?_ ?_ _ _); (focus (first | (with_reducible assumption) | (refine Ne.symm ?_; (with_reducible assumption))))) | (exact rfl)))); have hcf_0w4 := hXfw4.c0; have hff_0w4 := hXfw4.free 0; have hcf_1w4 := hXfw4.c1; have hff_1w4 := hXfw4.free 1; have hXrw4 : Box w4 (w.heap.size + 1) [Value.bool false, Value.slice none 0 0] := (by refine Box.below ?_ hbk; (repeat (first | (with_reducible assumption) | (with_reducible refine Box.drew ?_) | (with_reducible refine Box.drewN ?_ _) | ((with_reducible refine Box.new _ _ ?_ ?_); (focus (first | (with_reducible exact rfl) | (simp only [size_alloc, size_drew, size_drewN, size_set]; done))); (focus (exact rfl))) | (with_reducible refine Box.alloc ?_ _) | ((with_reducible refine Box.put ?_ ?_ _ _ ?_); rotate_left) | ((with_reducible refine Box.set ?_ ?_ _ _); (focus (first | (with_reducible assumption) | (refine Ne.symm ?_; (with_reducible assumption))))) | (exact rfl)))); have hcr_0w4 := hXrw4.c0; have hfr_0w4 := hXrw4.free 0; have hcr_1w4 := hXrw4.c1; have hfr_1w4 := hXrw4.free 1; have hXxw4 : Box w4 (wr.heap.size) [Value.bool (sgnAt L k), Value.slice so (limAt L k).length sc] := (by refine Box.below ?_ hbk; (repeat (first | (with_reducible assumption) | (with_reducible refine Box.drew ?_) | (with_reducible refine Box.drewN ?_ _) | ((with_reducible refine Box.new _ _ ?_ ?_); (focus (first | (with_reducible exact rfl) | (simp only [size_alloc, size_drew, size_drewN, size_set]; done))); (focus (exact rfl))) | (with_reducible refine Box.alloc ?_ _) | ((with_reducible refine Box.put ?_ ?_ _ _ ?_); rotate_left) | ((with_reducible refine Box.set ?_ ?_ _ _); (focus (first | (with_reducible assumption) | (refine Ne.symm ?_; (with_reducible assumption))))) | (exact rfl)))); have hcx_0w4 := hXxw4.c0; have hcx_1w4 := hXxw4.c1))
      all_goals
        go_wp2_with fail
        go_roundg (L.length - (k + 1))
        case measure => have := HM.out; omega
        case rel =>
          refine ⟨k + 1, T + (zV (sgnAt L k) (limAt L k)), .slice qo (digs 1000000000 (T + (zV (sgnAt L k) (limAt L k))).natAbs).length qc, .bool (zNeg (T + (zV (sgnAt L k) (limAt L k)))), by go_num, rfl, by omega, by rw [foldZ_succ _ _ hkl, ← HT.out], ?_, ?_, ?_, ?_, ?_, ?_⟩
          · rw [wgZ_take_succ hkl]; exact (HTB.out.add HZB.out).mono (by omega)
          · (repeat (first | (with_reducible assumption) | (with_reducible refine NBX.drew ?_) | (with_reducible refine NBX.alloc ?_ _) | ((with_reducible refine NBX.set ?_ ?_ ?_ _ _); (focus (with_reducible assumption)); (focus (with_reducible assumption)))))
          · (repeat (first | (with_reducible assumption) | exact Below.refl _ _ | (with_reducible refine Below.drew ?_) | (with_reducible refine belowN ?_ _) | (with_reducible refine bw_alloc ?_ _) | ((with_reducible refine bw_set ?_ ?_ _ _); (focus (with_reducible assumption)))))
          · simp only [size_alloc, size_drew, size_drewN, size_set]; omega
          · (repeat (first | (with_reducible assumption) | (with_reducible refine Box.drew ?_) | (with_reducible refine Box.drewN ?_ _) | ((with_reducible refine Box.new _ _ ?_ ?_); (focus (first | (with_reducible exact rfl) | (simp only [size_alloc, size_drew, size_drewN, size_set]; done))); (focus (exact rfl))) | (with_reducible refine Box.alloc ?_ _) | ((with_reducible refine Box.put ?_ ?_ _ _ ?_); rotate_left) | ((with_reducible refine Box.set ?_ ?_ _ _); (focus (first | (with_reducible assumption) | (refine Ne.symm ?_; (with_reducible assumption))))) | (exact rfl)))
          · (repeat (first | (with_reducible assumption) | (with_reducible refine Box.drew ?_) | (with_reducible refine Box.drewN ?_ _) | ((with_reducible refine Box.new _ _ ?_ ?_); (focus (first | (with_reducible exact rfl) | (simp only [size_alloc, size_drew, size_drewN, size_set]; done))); (focus (exact rfl))) | (with_reducible refine Box.alloc ?_ _) | ((with_reducible refine Box.put ?_ ?_ _ _ ?_); rotate_left) | ((with_reducible refine Box.set ?_ ?_ _ _); (focus (first | (with_reducible assumption) | (refine Ne.symm ?_; (with_reducible assumption))))) | (exact rfl)))
    · have hkl' : k = L.length := by omega
      have HE : Hid (T = foldZ (fun a b => a + b) z0 L) := by have := HT.out; rw [List.take_of_length_le (by omega)] at this; exact this
      have HTS : Hid (ZB T 1000000) := HTB.out.mono (by omega)
      go_wp2_with fail
      refine (outX_any _ T B _ _ _ HN2.out HTS.out).mono ?_
      rintro e W2 ⟨q, rfl, hq, hb⟩
      rw [HE.out] at hq
      obtain ⟨qo, qc, rfl⟩ := hq.one
      have hL : Below wr.heap.size wr W2 := hb
      have hm2 := hL.size
      have hB' := bw_below hB hL
      have hXf' := hXf.below hL
      have hXr' := hXr.below hL
      clear hL hb
      clear hfr_1 hcr_1 hfr_0 hcr_0 hff_1 hcf_1 hff_0 hcf_0 hXr hXf hB
      have hB := hB'; have hXf := hXf'; have hXr := hXr'
      clear hB' hXf' hXr'
      have hcf_0 := hXf.c0; have hff_0 := hXf.free 0; have hcf_1 := hXf.c1; have hff_1 := hXf.free 1; have hcr_0 := hXr.c0; have hfr_0 := hXr.free 0; have hcr_1 := hXr.c1; have hfr_1 := hXr.free 1
      go_wp2_with fail
      have hinr : w.heap.size + 1 < (w.heap.size + 1 + 1) := by omega
      refine ret_gen fun W3 hW => ?_
      have hm3 : W2.heap.size ≤ W3.heap.size := by rw [hW]; (first | omega | (simp only [size_alloc, size_drew, size_drewN, size_set]; omega) | (simp only [size_alloc, size_drew, size_drewN, size_set]; done))
      have hB' : Below w.heap.size w W3 := by rw [hW]; (repeat (first | (with_reducible assumption) | exact Below.refl _ _ | (with_reducible refine Below.drew ?_) | (with_reducible refine belowN ?_ _) | (with_reducible refine bw_alloc ?_ _) | ((with_reducible refine bw_set ?_ ?_ _ _); (focus (with_reducible assumption)))))
      have hXr' : Box W3 (w.heap.size + 1) [Value.bool (zNeg (foldZ (fun a b => a + b) z0 L)), Value.slice qo (digs 1000000000 (foldZ (fun a b => a + b) z0 L).natAbs).length qc] := by rw [hW]; (repeat (first | (with_reducible assumption) | (with_reducible refine Box.drew ?_) | (with_reducible refine Box.drewN ?_ _) | ((with_reducible refine Box.new _ _ ?_ ?_); (focus (first | (with_reducible exact rfl) | (simp only [size_alloc, size_drew, size_drewN, size_set]; done))); (focus (exact rfl))) | (with_reducible refine Box.alloc ?_ _) | ((with_reducible refine Box.put ?_ ?_ _ _ ?_); rotate_left) | ((with_reducible refine Box.set ?_ ?_ _ _); (focus (first | (with_reducible assumption) | (refine Ne.symm ?_; (with_reducible assumption))))) | (exact rfl)))
      have hq' : IOX W3 B w.heap.size (w.heap.size + 1 + 1) 103 (.agg #[Value.bool (zNeg (foldZ (fun a b => a + b) z0 L)), .slice qo (digs 1000000000 (foldZ (fun a b => a + b) z0 L).natAbs).length qc]) (foldZ (fun a b => a + b) z0 L) := by rw [hW]; (repeat (first | (with_reducible assumption) | (with_reducible refine IOX.drew ?_) | (with_reducible refine IOX.alloc ?_ _) | ((with_reducible refine IOX.set ?_ ?_ ?_ _ _); (focus (with_reducible assumption)); (focus (with_reducible assumption)))))
      clear hW
      clear hfr_1 hcr_1 hfr_0 hcr_0 hff_1 hcf_1 hff_0 hcf_0 hXr hXf hB
      have hB := hB'; have hXr := hXr'
      clear hB' hXr'
      have hcr_0 := hXr.c0; have hfr_0 := hXr.free 0; have hcr_1 := hXr.c1; have hfr_1 := hXr.free 1
      refine bodyPost_ret (v := .agg #[Value.bool (zNeg (foldZ (fun a b => a + b) z0 L)), .slice qo (digs 1000000000 (foldZ (fun a b => a + b) z0 L).natAbs).length qc]) (by simp [results, Tryz.results54, go_sem, hcr_0, hcr_1]) rfl ?_
      exact ⟨_, rfl, hq'.io, hB⟩

set_option maxRecDepth 100000 in
set_option maxHeartbeats 4000000 in
theorem together_times (v u : Value) (z0 : Int) (B k0 : Nat) (L : List (Bool × List Nat)) (w : World) (hv : NB w B 103 v z0) (hBB : B ≤ w.heap.size) (hu : RdZ w u L) (h1 : ZB z0 k0) (h2 : k0 + wgZ L ≤ 50000) :
    Calls Tryz.prog 54 #[v, .func (.func 60) #[] #[], u] w fun e w' => ∃ x, e = .returned x ∧ IO w' B 103 x (foldZ (fun a b => a * b) z0 L) ∧ Below w.heap.size w w' := by
  obtain ⟨ao, ac, rfl⟩ := hv.one
  obtain ⟨bo, bc, rfl, _, hbm, hx⟩ := hu
  have HN := Lib.hid hv
  have HX := Lib.hid hx
  have HK0 := Lib.hid h1
  unfold maxLen at hbm
  clear hv hx h1
  go_enter Tryz.func54, Tryz.ntmps54
  go_wp2_with fail
  have hB := Below.refl w.heap.size w
  have hbs := hB.size
  have hgf : w.heap.size ≤ w.heap.size := by omega
  have hgr : w.heap.size ≤ w.heap.size + 1 := by omega
  have hn_r_f : w.heap.size + 1 ≠ w.heap.size := by omega
  clear hbs
  refine wp_gen fun W1 hW => ?_
  have hm1 : w.heap.size ≤ W1.heap.size := by rw [hW]; (first | omega | (simp only [size_alloc, size_drew, size_drewN, size_set]; omega) | (simp only [size_alloc, size_drew, size_drewN, size_set]; done))
  have hB' : Below w.heap.size w W1 := by rw [hW]; (repeat (first | (with_reducible assumption) | exact Below.refl _ _ | (with_reducible refine Below.drew ?_) | (with_reducible refine belowN ?_ _) | (with_reducible refine bw_alloc ?_ _) | ((with_reducible refine bw_set ?_ ?_ _ _); (focus (with_reducible assumption)))))
  have hXf' : Box W1 (w.heap.size) [Value.slice ao (digs 1000000000 z0.natAbs).length ac, Value.bool (zNeg z0)] := by rw [hW]; (repeat (first | (with_reducible assumption) | (with_reducible refine Box.drew ?_) | (with_reducible refine Box.drewN ?_ _) | ((with_reducible refine Box.new _ _ ?_ ?_); (focus (first | (with_reducible exact rfl) | (simp only [size_alloc, size_drew, size_drewN, size_set]; done))); (focus (exact rfl))) | (with_reducible refine Box.alloc ?_ _) | ((with_reducible refine Box.put ?_ ?_ _ _ ?_); rotate_left) | ((with_reducible refine Box.set ?_ ?_ _ _); (focus (first | (with_reducible assumption) | (refine Ne.symm ?_; (with_reducible assumption))))) | (exact rfl)))
  have hXr' : Box W1 (w.heap.size + 1) [Value.bool false, Value.slice none 0 0] := by rw [hW]; (repeat (first | (with_reducible assumption) | (with_reducible refine Box.drew ?_) | (with_reducible refine Box.drewN ?_ _) | ((with_reducible refine Box.new _ _ ?_ ?_); (focus (first | (with_reducible exact rfl) | (simp only [size_alloc, size_drew, size_drewN, size_set]; done))); (focus (exact rfl))) | (with_reducible refine Box.alloc ?_ _) | ((with_reducible refine Box.put ?_ ?_ _ _ ?_); rotate_left) | ((with_reducible refine Box.set ?_ ?_ _ _); (focus (first | (with_reducible assumption) | (refine Ne.symm ?_; (with_reducible assumption))))) | (exact rfl)))
  clear hW
  clear hB
  have hB := hB'; have hXf := hXf'; have hXr := hXr'
  clear hB' hXf' hXr'
  have hcf_0 := hXf.c0; have hff_0 := hXf.free 0; have hcf_1 := hXf.c1; have hff_1 := hXf.free 1; have hcr_0 := hXr.c0; have hfr_0 := hXr.free 0; have hcr_1 := hXr.c1; have hfr_1 := hXr.free 1
  have hinf : w.heap.size < (w.heap.size + 1 + 1) := by omega
  have HN1 : Hid (NBX W1 B w.heap.size (w.heap.size + 1 + 1) 103 (.agg #[.slice ao (digs 1000000000 z0.natAbs).length ac, .bool (zNeg z0)]) z0) := (HN.out.x0 _).keep hB
  have hsz : (w.heap.size + 1 + 1) ≤ W1.heap.size := hXr.lt
  go_loopg [11] L.length (fun m i wr => ∃ (k : Nat) (T : Int) (fa fb : Value), i = .int .i64 k ∧ m = L.length - k ∧ k ≤ L.length ∧ T = foldZ (fun a b => a * b) z0 (L.take k) ∧ ZB T (k0 + wgZ (L.take k)) ∧ NBX wr B w.heap.size (w.heap.size + 1 + 1) 103 (.agg #[fa, fb]) T ∧ Below w.heap.size w wr ∧ (w.heap.size + 1 + 1) ≤ wr.heap.size ∧ Box wr (w.heap.size) [fa, fb] ∧ Box wr (w.heap.size + 1) [Value.bool false, Value.slice none 0 0])
  case atStart => exact ⟨0, z0, _, _, rfl, rfl, by omega, rfl, HK0.out.mono (by omega), HN1.out, hB, hsz, hXf, hXr⟩
  case round =>
    clear hsz
    clear hfr_1 hcr_1 hfr_0 hcr_0 hff_1 hcf_1 hff_0 hcf_0 hXr hXf hB
    obtain ⟨k, T, fa, fb, rfl, hm, hk, hT, hTB, hN, hB, hsz, hXf, hXr⟩ := hrel
    obtain ⟨fo, fc, hfe⟩ := hN.one
    obtain ⟨rfl, rfl⟩ : fa = .slice fo (digs 1000000000 T.natAbs).length fc ∧ fb = .bool (zNeg T) := by injection hfe with h; injection h with h; injection h with h1 h2; injection h2 with h2; exact ⟨h1, h2⟩
    have HT := Lib.hid hT
    have HTB := Lib.hid hTB
    have HN2 := Lib.hid hN
    have HM := Lib.hid hm
    have hw2 := wgZ_take_le L k
    clear hT hTB hN hfe hm
    have hcf_0 := hXf.c0; have hff_0 := hXf.free 0; have hcf_1 := hXf.c1; have hff_1 := hXf.free 1; have hcr_0 := hXr.c0; have hfr_0 := hXr.free 0; have hcr_1 := hXr.c1; have hfr_1 := hXr.free 1
    by_cases hkl : k < L.length
    · obtain ⟨ad, sl, had, hc0, hc1, hsl, hslx⟩ := HX.out k hkl
      subst had
      have hw1 := wgZ_at hkl
      have hcr0 := (hB.cell (World.block_lt_of_cell? w _ hc0)).trans hc0
      have hcr1 := (hB.cell (World.block_lt_of_cell? w _ hc1)).trans hc1
      obtain ⟨so, sc, rfl⟩ := rd_sl hsl
      have HIV : Hid (IV w (.agg #[.bool (sgnAt L k), .slice so (limAt L k).length sc]) (sgnAt L k) (limAt L k)) := ⟨_, rfl, hsl, hslx⟩
      have HZB : Hid (ZB (zV (sgnAt L k) (limAt L k)) ((limAt L k).length + 1)) := zV_zb _ _ hslx
      have hi0 : (0 : Int) ≤ (k : Int) := by omega
      have hi1 : (k : Int) < (L.length : Int) := by omega
      clear hc0 hc1 hsl hslx
      go_wp2_with fail
      have hbs := hB.size
      have hltf := hXf.lt
      have hltr := hXr.lt
      have hgx : w.heap.size ≤ wr.heap.size := by omega
      have hn_x_f : wr.heap.size ≠ w.heap.size := by omega
      have hn_x_r : wr.heap.size ≠ w.heap.size + 1 := by omega
      clear hbs hltf hltr
      refine wp_gen fun W2 hW => ?_
      have hm2 : wr.heap.size ≤ W2.heap.size := by rw [hW]; (first | omega | (simp only [size_alloc, size_drew, size_drewN, size_set]; omega) | (simp only [size_alloc, size_drew, size_drewN, size_set]; done))
      have hB' : Below w.heap.size w W2 := by rw [hW]; (repeat (first | (with_reducible assumption) | exact Below.refl _ _ | (with_reducible refine Below.drew ?_) | (with_reducible refine belowN ?_ _) | (with_reducible refine bw_alloc ?_ _) | ((with_reducible refine bw_set ?_ ?_ _ _); (focus (with_reducible assumption)))))
      have hXf' : Box W2 (w.heap.size) [Value.slice fo (digs 1000000000 T.natAbs).length fc, Value.bool (zNeg T)] := by rw [hW]; (repeat (first | (with_reducible assumption) | (with_reducible refine Box.drew ?_) | (with_reducible refine Box.drewN ?_ _) | ((with_reducible refine Box.new _ _ ?_ ?_); (focus (first | (with_reducible exact rfl) | (simp only [size_alloc, size_drew, size_drewN, size_set]; done))); (focus (exact rfl))) | (with_reducible refine Box.alloc ?_ _) | ((with_reducible refine Box.put ?_ ?_ _ _ ?_); rotate_left) | ((with_reducible refine Box.set ?_ ?_ _ _); (focus (first | (with_reducible assumption) | (refine Ne.symm ?_; (with_reducible assumption))))) | (exact rfl)))
      have hXr' : Box W2 (w.heap.size + 1) [Value.bool false, Value.slice none 0 0] := by rw [hW]; (repeat (first | (with_reducible assumption) | (with_reducible refine Box.drew ?_) | (with_reducible refine Box.drewN ?_ _) | ((with_reducible refine Box.new _ _ ?_ ?_); (focus (first | (with_reducible exact rfl) | (simp only [size_alloc, size_drew, size_drewN, size_set]; done))); (focus (exact rfl))) | (with_reducible refine Box.alloc ?_ _) | ((with_reducible refine Box.put ?_ ?_ _ _ ?_); rotate_left) | ((with_reducible refine Box.set ?_ ?_ _ _); (focus (first | (with_reducible assumption) | (refine Ne.symm ?_; (with_reducible assumption))))) | (exact rfl)))
      have hXx' : Box W2 (wr.heap.size) [Value.bool (sgnAt L k), Value.slice so (limAt L k).length sc] := by rw [hW]; (repeat (first | (with_reducible assumption) | (with_reducible refine Box.drew ?_) | (with_reducible refine Box.drewN ?_ _) | ((with_reducible refine Box.new _ _ ?_ ?_); (focus (first | (with_reducible exact rfl) | (simp only [size_alloc, size_drew, size_drewN, size_set]; done))); (focus (exact rfl))) | (with_reducible refine Box.alloc ?_ _) | ((with_reducible refine Box.put ?_ ?_ _ _ ?_); rotate_left) | ((with_reducible refine Box.set ?_ ?_ _ _); (focus (first | (with_reducible assumption) | (refine Ne.symm ?_; (with_reducible assumption))))) | (exact rfl)))
      have hL : Below wr.heap.size wr W2 := by rw [hW]; (repeat (first | (with_reducible assumption) | exact Below.refl _ _ | (with_reducible refine Below.drew ?_) | (with_reducible refine belowN ?_ _) | (with_reducible refine bw_alloc ?_ _) | ((with_reducible refine bw_set ?_ ?_ _ _); (focus (with_reducible assumption)))))
      replace HN2 := Lib.hid (HN2.out.keep hL)
      clear hL
      clear hW
      clear hfr_1 hcr_1 hfr_0 hcr_0 hff_1 hcf_1 hff_0 hcf_0 hXr hXf hB
      have hB := hB'; have hXf := hXf'; have hXr := hXr'; have hXx := hXx'
      clear hB' hXf' hXr' hXx'
      have hcf_0 := hXf.c0; have hff_0 := hXf.free 0; have hcf_1 := hXf.c1; have hff_1 := hXf.free 1; have hcr_0 := hXr.c0; have hfr_0 := hXr.free 0; have hcr_1 := hXr.c1; have hfr_1 := hXr.free 1; have hcx_0 := hXx.c0; have hcx_1 := hXx.c1
      clear hcr0 hcr1
      have hn2 := HN2.out
      go_region_with
        (first | (go_at_call 95; (with_reducible refine (numof_any _ (sgnAt L k) (limAt L k) _ ?_ ?_).mono ?_); (focus (refine IV.keep HIV.out ?_; (repeat (first | (with_reducible assumption) | exact Below.refl _ _ | (with_reducible refine Below.drew ?_) | (with_reducible refine belowN ?_ _) | (with_reducible refine bw_alloc ?_ _) | ((with_reducible refine bw_set ?_ ?_ _ _); (focus (with_reducible assumption))))))); (focus (omega)); rintro e w3 ⟨u, rfl, hu, hbk⟩; obtain ⟨uo, uc, rfl⟩ := hu.one; have hn3 : NBX w3 B w.heap.size (w.heap.size + 1 + 1) 103 (.agg #[.slice fo (digs 1000000000 T.natAbs).length fc, .bool (zNeg T)]) T := (by refine NBX.keep ?_ hbk; (repeat (first | (with_reducible assumption) | (with_reducible refine NBX.drew ?_) | (with_reducible refine NBX.alloc ?_ _) | ((with_reducible refine NBX.set ?_ ?_ ?_ _ _); (focus (with_reducible assumption)); (focus (with_reducible assumption)))))); have hmw3 : W2.heap.size ≤ w3.heap.size := (by refine Nat.le_trans ?_ hbk.size; (first | omega | (simp only [size_alloc, size_drew, size_drewN, size_set]; omega) | (simp only [size_alloc, size_drew, size_drewN, size_set]; done))); have hBw3 : Below w.heap.size w w3 := (by refine bw_below ?_ hbk; (repeat (first | (with_reducible assumption) | exact Below.refl _ _ | (with_reducible refine Below.drew ?_) | (with_reducible refine belowN ?_ _) | (with_reducible refine bw_alloc ?_ _) | ((with_reducible refine bw_set ?_ ?_ _ _); (focus (with_reducible assumption)))))); have hXfw3 : Box w3 (w.heap.size) [Value.slice fo (digs 1000000000 T.natAbs).length fc, Value.bool (zNeg T)] := (by refine Box.below ?_ hbk; (repeat (first | (with_reducible assumption) | (with_reducible refine Box.drew ?_) | (with_reducible refine Box.drewN ?_ _) | ((with_reducible refine Box.new _ _ ?_ ?_); (focus (first | (with_reducible exact rfl) | (simp only [size_alloc, size_drew, size_drewN, size_set]; done))); (focus (exact rfl))) | (with_reducible refine Box.alloc ?_ _) | ((with_reducible refine Box.put ?_ ?_ _ _ ?_); rotate_left) | ((with_reducible refine Box.set ?_ ?_ _ _); (focus (first | (with_reducible assumption) | (refine Ne.symm ?_; (with_reducible assumption))))) | (exact rfl)))); have hcf_0w3 := hXfw3.c0; have hff_0w3 := hXfw3.free 0; have hcf_1w3 := hXfw3.c1; have hff_1w3 := hXfw3.free 1; have hXrw3 : Box w3 (w.heap.size + 1) [Value.bool false, Value.slice none 0 0] := (by refine Box.below ?_ hbk; (repeat (first | (with_reducible assumption) | (with_reducible refine Box.drew ?_) | (with_reducible refine Box.drewN ?_ _) | ((with_reducible refine Box.new _ _ ?_ ?_); (focus (first | (with_reducible exact rfl) | (simp only [size_alloc, size_drew, size_drewN, size_set]; done))); (focus (exact rfl))) | (with_reducible refine Box.alloc ?_ _) | ((with_reducible refine Box.put ?_ ?_ _ _ ?_); rotate_left) | ((with_reducible refine Box.set ?_ ?_ _ _); (focus (first | (with_reducible assumption) | (refine Ne.symm ?_; (with_reducible assumption))))) | (exact rfl)))); have hcr_0w3 := hXrw3.c0; have hfr_0w3 := hXrw3.free 0; have hcr_1w3 := hXrw3.c1; have hfr_1w3 := hXrw3.free 1; have hXxw3 : Box w3 (wr.heap.size) [Value.bool (sgnAt L k), Value.slice so (limAt L k).length sc] := (by refine Box.below ?_ hbk; (repeat (first | (with_reducible assumption) | (with_reducible refine Box.drew ?_) | (with_reducible refine Box.drewN ?_ _) | ((with_reducible refine Box.new _ _ ?_ ?_); (focus (first | (with_reducible exact rfl) | (simp only [size_alloc, size_drew, size_drewN, size_set]; done))); (focus (exact rfl))) | (with_reducible refine Box.alloc ?_ _) | ((with_reducible refine Box.put ?_ ?_ _ _ ?_); rotate_left) | ((with_reducible refine Box.set ?_ ?_ _ _); (focus (first | (with_reducible assumption) | (refine Ne.symm ?_; (with_reducible assumption))))) | (exact rfl)))); have hcx_0w3 := hXxw3.c0; have hcx_1w3 := hXxw3.c1) | (go_at_call 60; (with_reducible refine (times_z_any _ _ T (zV (sgnAt L k) (limAt L k)) _ _ (k0 + wgZ (L.take k)) ((limAt L k).length + 1) _ hn3.nb hu ?_ ?_ ?_).mono ?_); (focus (exact HTB.out)); (focus (exact HZB.out)); (focus (omega)); rintro e w4 ⟨q, rfl, hq, hbk⟩; obtain ⟨qo, qc, rfl⟩ := hq.one; have hn4 : NBX w4 B w.heap.size (w.heap.size + 1 + 1) 103 _ _ := (hq.x w.heap.size (show (w.heap.size + 1 + 1) ≤ _ by omega)).low (by omega); have hmw4 : w3.heap.size ≤ w4.heap.size := (by refine Nat.le_trans ?_ hbk.size; (first | omega | (simp only [size_alloc, size_drew, size_drewN, size_set]; omega) | (simp only [size_alloc, size_drew, size_drewN, size_set]; done))); have hBw4 : Below w.heap.size w w4 := (by refine bw_below ?_ hbk; (repeat (first | (with_reducible assumption) | exact Below.refl _ _ | (with_reducible refine Below.drew ?_) | (with_reducible refine belowN ?_ _) | (with_reducible refine bw_alloc ?_ _) | ((with_reducible refine bw_set ?_ ?_ _ _); (focus (with_reducible assumption)))))); have hXfw4 : Box w4 (w.heap.size) [Value.slice fo (digs 1000000000 T.natAbs).length fc, Value.bool (zNeg T)] := (by refine Box.below ?_ hbk; (repeat (first | (with_reducible assumption) | (with_reducible refine Box.drew ?_) | (with_reducible refine Box.drewN ?_ _) | ((with_reducible refine Box.new _ _ ?_ ?_); (focus (first | (with_reducible exact rfl) | (simp only [size_alloc, size_drew, size_drewN, size_set]; done))); (focus (exact rfl))) | (with_reducible refine Box.alloc ?_ _) | ((with_reducible refine Box.put ?_ ?_ _ _ ?_); rotate_left) | ((with_reducible refine Box.set ?_ ?_ _ _); (focus (first | (with_reducible assumption) | (refine Ne.symm ?_; (with_reducible assumption))))) | (exact rfl)))); have hcf_0w4 := hXfw4.c0; have hff_0w4 := hXfw4.free 0; have hcf_1w4 := hXfw4.c1; have hff_1w4 := hXfw4.free 1; have hXrw4 : Box w4 (w.heap.size + 1) [Value.bool false, Value.slice none 0 0] := (by refine Box.below ?_ hbk; (repeat (first | (with_reducible assumption) | (with_reducible refine Box.drew ?_) | (with_reducible refine Box.drewN ?_ _) | ((with_reducible refine Box.new _ _ ?_ ?_); (focus (first | (with_reducible exact rfl) | (simp only [size_alloc, size_drew, size_drewN, size_set]; done))); (focus (exact rfl))) | (with_reducible refine Box.alloc ?_ _) | ((with_reducible refine Box.put ?_ ?_ _ _ ?_); rotate_left) | ((with_reducible refine Box.set ?_ ?_ _ _); (focus (first | (with_reducible assumption) | (refine Ne.symm ?_; (with_reducible assumption))))) | (exact rfl)))); have hcr_0w4 := hXrw4.c0; have hfr_0w4 := hXrw4.free 0; have hcr_1w4 := hXrw4.c1; have hfr_1w4 := hXrw4.free 1; have hXxw4 : Box w4 (wr.heap.size) [Value.bool (sgnAt L k), Value.slice so (limAt L k).length sc] := (by refine Box.below ?_ hbk; (repeat (first | (with_reducible assumption) | (with_reducible refine Box.drew ?_) | (with_reducible refine Box.drewN ?_ _) | ((with_reducible refine Box.new _ _ ?_ ?_); (focus (first | (with_reducible exact rfl) | (simp only [size_alloc, size_drew, size_drewN, size_set]; done))); (focus (exact rfl))) | (with_reducible refine Box.alloc ?_ _) | ((with_reducible refine Box.put ?_ ?_ _ _ ?_); rotate_left) | ((with_reducible refine Box.set ?_ ?_ _ _); (focus (first | (with_reducible assumption) | (refine Ne.symm ?_; (with_reducible assumption))))) | (exact rfl)))); have hcx_0w4 := hXxw4.c0; have hcx_1w4 := hXxw4.c1))
      all_goals
        go_wp2_with fail
        go_roundg (L.length - (k + 1))
        case measure => have := HM.out; omega
        case rel =>
          refine ⟨k + 1, T * (zV (sgnAt L k) (limAt L k)), .slice qo (digs 1000000000 (T * (zV (sgnAt L k) (limAt L k))).natAbs).length qc, .bool (zNeg (T * (zV (sgnAt L k) (limAt L k)))), by go_num, rfl, by omega, by rw [foldZ_succ _ _ hkl, ← HT.out], ?_, ?_, ?_, ?_, ?_, ?_⟩
          · rw [wgZ_take_succ hkl]; exact (HTB.out.mul HZB.out).mono (by omega)
          · (repeat (first | (with_reducible assumption) | (with_reducible refine NBX.drew ?_) | (with_reducible refine NBX.alloc ?_ _) | ((with_reducible refine NBX.set ?_ ?_ ?_ _ _); (focus (with_reducible assumption)); (focus (with_reducible assumption)))))
          · (repeat (first | (with_reducible assumption) | exact Below.refl _ _ | (with_reducible refine Below.drew ?_) | (with_reducible refine belowN ?_ _) | (with_reducible refine bw_alloc ?_ _) | ((with_reducible refine bw_set ?_ ?_ _ _); (focus (with_reducible assumption)))))
          · simp only [size_alloc, size_drew, size_drewN, size_set]; omega
          · (repeat (first | (with_reducible assumption) | (with_reducible refine Box.drew ?_) | (with_reducible refine Box.drewN ?_ _) | ((with_reducible refine Box.new _ _ ?_ ?_); (focus (first | (with_reducible exact rfl) | (simp only [size_alloc, size_drew, size_drewN, size_set]; done))); (focus (exact rfl))) | (with_reducible refine Box.alloc ?_ _) | ((with_reducible refine Box.put ?_ ?_ _ _ ?_); rotate_left) | ((with_reducible refine Box.set ?_ ?_ _ _); (focus (first | (with_reducible assumption) | (refine Ne.symm ?_; (with_reducible assumption))))) | (exact rfl)))
          · (repeat (first | (with_reducible assumption) | (with_reducible refine Box.drew ?_) | (with_reducible refine Box.drewN ?_ _) | ((with_reducible refine Box.new _ _ ?_ ?_); (focus (first | (with_reducible exact rfl) | (simp only [size_alloc, size_drew, size_drewN, size_set]; done))); (focus (exact rfl))) | (with_reducible refine Box.alloc ?_ _) | ((with_reducible refine Box.put ?_ ?_ _ _ ?_); rotate_left) | ((with_reducible refine Box.set ?_ ?_ _ _); (focus (first | (with_reducible assumption) | (refine Ne.symm ?_; (with_reducible assumption))))) | (exact rfl)))
    · have hkl' : k = L.length := by omega
      have HE : Hid (T = foldZ (fun a b => a * b) z0 L) := by have := HT.out; rw [List.take_of_length_le (by omega)] at this; exact this
      have HTS : Hid (ZB T 1000000) := HTB.out.mono (by omega)
      go_wp2_with fail
      refine (outX_any _ T B _ _ _ HN2.out HTS.out).mono ?_
      rintro e W2 ⟨q, rfl, hq, hb⟩
      rw [HE.out] at hq
      obtain ⟨qo, qc, rfl⟩ := hq.one
      have hL : Below wr.heap.size wr W2 := hb
      have hm2 := hL.size
      have hB' := bw_below hB hL
      have hXf' := hXf.below hL
      have hXr' := hXr.below hL
      clear hL hb
      clear hfr_1 hcr_1 hfr_0 hcr_0 hff_1 hcf_1 hff_0 hcf_0 hXr hXf hB
      have hB := hB'; have hXf := hXf'; have hXr := hXr'
      clear hB' hXf' hXr'
      have hcf_0 := hXf.c0; have hff_0 := hXf.free 0; have hcf_1 := hXf.c1; have hff_1 := hXf.free 1; have hcr_0 := hXr.c0; have hfr_0 := hXr.free 0; have hcr_1 := hXr.c1; have hfr_1 := hXr.free 1
      go_wp2_with fail
      have hinr : w.heap.size + 1 < (w.heap.size + 1 + 1) := by omega
      refine ret_gen fun W3 hW => ?_
      have hm3 : W2.heap.size ≤ W3.heap.size := by rw [hW]; (first | omega | (simp only [size_alloc, size_drew, size_drewN, size_set]; omega) | (simp only [size_alloc, size_drew, size_drewN, size_set]; done))
      have hB' : Below w.heap.size w W3 := by rw [hW]; (repeat (first | (with_reducible assumption) | exact Below.refl _ _ | (with_reducible refine Below.drew ?_) | (with_reducible refine belowN ?_ _) | (with_reducible refine bw_alloc ?_ _) | ((with_reducible refine bw_set ?_ ?_ _ _); (focus (with_reducible assumption)))))
      have hXr' : Box W3 (w.heap.size + 1) [Value.bool (zNeg (foldZ (fun a b => a * b) z0 L)), Value.slice qo (digs 1000000000 (foldZ (fun a b => a * b) z0 L).natAbs).length qc] := by rw [hW]; (repeat (first | (with_reducible assumption) | (with_reducible refine Box.drew ?_) | (with_reducible refine Box.drewN ?_ _) | ((with_reducible refine Box.new _ _ ?_ ?_); (focus (first | (with_reducible exact rfl) | (simp only [size_alloc, size_drew, size_drewN, size_set]; done))); (focus (exact rfl))) | (with_reducible refine Box.alloc ?_ _) | ((with_reducible refine Box.put ?_ ?_ _ _ ?_); rotate_left) | ((with_reducible refine Box.set ?_ ?_ _ _); (focus (first | (with_reducible assumption) | (refine Ne.symm ?_; (with_reducible assumption))))) | (exact rfl)))
      have hq' : IOX W3 B w.heap.size (w.heap.size + 1 + 1) 103 (.agg #[Value.bool (zNeg (foldZ (fun a b => a * b) z0 L)), .slice qo (digs 1000000000 (foldZ (fun a b => a * b) z0 L).natAbs).length qc]) (foldZ (fun a b => a * b) z0 L) := by rw [hW]; (repeat (first | (with_reducible assumption) | (with_reducible refine IOX.drew ?_) | (with_reducible refine IOX.alloc ?_ _) | ((with_reducible refine IOX.set ?_ ?_ ?_ _ _); (focus (with_reducible assumption)); (focus (with_reducible assumption)))))
      clear hW
      clear hfr_1 hcr_1 hfr_0 hcr_0 hff_1 hcf_1 hff_0 hcf_0 hXr hXf hB
      have hB := hB'; have hXr := hXr'
      clear hB' hXr'
      have hcr_0 := hXr.c0; have hfr_0 := hXr.free 0; have hcr_1 := hXr.c1; have hfr_1 := hXr.free 1
      refine bodyPost_ret (v := .agg #[Value.bool (zNeg (foldZ (fun a b => a * b) z0 L)), .slice qo (digs 1000000000 (foldZ (fun a b => a * b) z0 L).natAbs).length qc]) (by simp [results, Tryz.results54, go_sem, hcr_0, hcr_1]) rfl ?_
      exact ⟨_, rfl, hq'.io, hB⟩

theorem ZB.gcd {y z : Int} {a b : Nat} (h1 : ZB y a) (h2 : ZB z b) : ZB ((Nat.gcd y.natAbs z.natAbs : Nat) : Int) (a + b + 1) := by
  unfold ZB
  simp only [Int.natAbs_natCast]
  refine Nat.lt_of_le_of_lt ?_ (pow_add_le h1 h2)
  rcases Nat.eq_zero_or_pos y.natAbs with h | h
  · rw [h, Nat.gcd_zero_left]; omega
  · have := Nat.gcd_le_left z.natAbs h; omega

set_option maxRecDepth 100000 in
set_option maxHeartbeats 4000000 in
theorem together_gcd (v u : Value) (z0 : Int) (B k0 : Nat) (L : List (Bool × List Nat)) (w : World) (hv : NB w B 103 v z0) (hBB : B ≤ w.heap.size) (hu : RdZ w u L) (h1 : ZB z0 k0) (h2 : k0 + wgZ L ≤ 50000) :
    Calls Tryz.prog 54 #[v, .func (.func 63) #[] #[], u] w fun e w' => ∃ x, e = .returned x ∧ IO w' B 103 x (foldZ (fun a b => ((Nat.gcd a.natAbs b.natAbs : Nat) : Int)) z0 L) ∧ Below w.heap.size w w' := by
  obtain ⟨ao, ac, rfl⟩ := hv.one
  obtain ⟨bo, bc, rfl, _, hbm, hx⟩ := hu
  have HN := Lib.hid hv
  have HX := Lib.hid hx
  have HK0 := Lib.hid h1
  unfold maxLen at hbm
  clear hv hx h1
  go_enter Tryz.func54, Tryz.ntmps54
  go_wp2_with fail
  have hB := Below.refl w.heap.size w
  have hbs := hB.size
  have hgf : w.heap.size ≤ w.heap.size := by omega
  have hgr : w.heap.size ≤ w.heap.size + 1 := by omega
  have hn_r_f : w.heap.size + 1 ≠ w.heap.size := by omega
  clear hbs
  refine wp_gen fun W1 hW => ?_
  have hm1 : w.heap.size ≤ W1.heap.size := by rw [hW]; (first | omega | (simp only [size_alloc, size_drew, size_drewN, size_set]; omega) | (simp only [size_alloc, size_drew, size_drewN, size_set]; done))
  have hB' : Below w.heap.size w W1 := by rw [hW]; (repeat (first | (with_reducible assumption) | exact Below.refl _ _ | (with_reducible refine Below.drew ?_) | (with_reducible refine belowN ?_ _) | (with_reducible refine bw_alloc ?_ _) | ((with_reducible refine bw_set ?_ ?_ _ _); (focus (with_reducible assumption)))))
  have hXf' : Box W1 (w.heap.size) [Value.slice ao (digs 1000000000 z0.natAbs).length ac, Value.bool (zNeg z0)] := by rw [hW]; (repeat (first | (with_reducible assumption) | (with_reducible refine Box.drew ?_) | (with_reducible refine Box.drewN ?_ _) | ((with_reducible refine Box.new _ _ ?_ ?_); (focus (first | (with_reducible exact rfl) | (simp only [size_alloc, size_drew, size_drewN, size_set]; done))); (focus (exact rfl))) | (with_reducible refine Box.alloc ?_ _) | ((with_reducible refine Box.put ?_ ?_ _ _ ?_); rotate_left) | ((with_reducible refine Box.set ?_ ?_ _ _); (focus (first | (with_reducible assumption) | (refine Ne.symm ?_; (with_reducible assumption))))) | (exact rfl)))
  have hXr' : Box W1 (w.heap.size + 1) [Value.bool false, Value.slice none 0 0] := by rw [hW]; (repeat (first | (with_reducible assumption) | (with_reducible refine Box.drew ?_) | (with_reducible refine Box.drewN ?_ _) | ((with_reducible refine Box.new _ _ ?_ ?_); (focus (first | (with_reducible exact rfl) | (simp only [size_alloc, size_drew, size_drewN, size_set]; done))); (focus (exact rfl))) | (with_reducible refine Box.alloc ?_ _) | ((with_reducible refine Box.put ?_ ?_ _ _ ?_); rotate_left) | ((with_reducible refine Box.set ?_ ?_ _ _); (focus (first | (with_reducible assumption) | (refine Ne.symm ?_; (with_reducible assumption))))) | (exact rfl)))
  clear hW
  clear hB
  have hB := hB'; have hXf := hXf'; have hXr := hXr'
  clear hB' hXf' hXr'
  have hcf_0 := hXf.c0; have hff_0 := hXf.free 0; have hcf_1 := hXf.c1; have hff_1 := hXf.free 1; have hcr_0 := hXr.c0; have hfr_0 := hXr.free 0; have hcr_1 := hXr.c1; have hfr_1 := hXr.free 1
  have hinf : w.heap.size < (w.heap.size + 1 + 1) := by omega
  have HN1 : Hid (NBX W1 B w.heap.size (w.heap.size + 1 + 1) 103 (.agg #[.slice ao (digs 1000000000 z0.natAbs).length ac, .bool (zNeg z0)]) z0) := (HN.out.x0 _).keep hB
  have hsz : (w.heap.size + 1 + 1) ≤ W1.heap.size := hXr.lt
  go_loopg [11] L.length (fun m i wr => ∃ (k : Nat) (T : Int) (fa fb : Value), i = .int .i64 k ∧ m = L.length - k ∧ k ≤ L.length ∧ T = foldZ (fun a b => ((Nat.gcd a.natAbs b.natAbs : Nat) : Int)) z0 (L.take k) ∧ ZB T (k0 + wgZ (L.take k)) ∧ NBX wr B w.heap.size (w.heap.size + 1 + 1) 103 (.agg #[fa, fb]) T ∧ Below w.heap.size w wr ∧ (w.heap.size + 1 + 1) ≤ wr.heap.size ∧ Box wr (w.heap.size) [fa, fb] ∧ Box wr (w.heap.size + 1) [Value.bool false, Value.slice none 0 0])
  case atStart => exact ⟨0, z0, _, _, rfl, rfl, by omega, rfl, HK0.out.mono (by omega), HN1.out, hB, hsz, hXf, hXr⟩
  case round =>
    clear hsz
    clear hfr_1 hcr_1 hfr_0 hcr_0 hff_1 hcf_1 hff_0 hcf_0 hXr hXf hB
    obtain ⟨k, T, fa, fb, rfl, hm, hk, hT, hTB, hN, hB, hsz, hXf, hXr⟩ := hrel
    obtain ⟨fo, fc, hfe⟩ := hN.one
    obtain ⟨rfl, rfl⟩ : fa = .slice fo (digs 1000000000 T.natAbs).length fc ∧ fb = .bool (zNeg T) := by injection hfe with h; injection h with h; injection h with h1 h2; injection h2 with h2; exact ⟨h1, h2⟩
    have HT := Lib.hid hT
    have HTB := Lib.hid hTB
    have HN2 := Lib.hid hN
    have HM := Lib.hid hm
    have hw2 := wgZ_take_le L k
    clear hT hTB hN hfe hm
    have hcf_0 := hXf.c0; have hff_0 := hXf.free 0; have hcf_1 := hXf.c1; have hff_1 := hXf.free 1; have hcr_0 := hXr.c0; have hfr_0 := hXr.free 0; have hcr_1 := hXr.c1; have hfr_1 := hXr.free 1
    by_cases hkl : k < L.length
    · obtain ⟨ad, sl, had, hc0, hc1, hsl, hslx⟩ := HX.out k hkl
      subst had
      have hw1 := wgZ_at hkl
      have hcr0 := (hB.cell (World.block_lt_of_cell? w _ hc0)).trans hc0
      have hcr1 := (hB.cell (World.block_lt_of_cell? w _ hc1)).trans hc1
      obtain ⟨so, sc, rfl⟩ := rd_sl hsl
      have HIV : Hid (IV w (.agg #[.bool (sgnAt L k), .slice so (limAt L k).length sc]) (sgnAt L k) (limAt L k)) := ⟨_, rfl, hsl, hslx⟩
      have HZB : Hid (ZB (zV (sgnAt L k) (limAt L k)) ((limAt L k).length + 1)) := zV_zb _ _ hslx
      have hi0 : (0 : Int) ≤ (k : Int) := by omega
      have hi1 : (k : Int) < (L.length : Int) := by omega
      clear hc0 hc1 hsl hslx
      go_wp2_with fail
      have hbs := hB.size
      have hltf := hXf.lt
      have hltr := hXr.lt
      have hgx : w.heap.size ≤ wr.heap.size := by omega
      have hn_x_f : wr.heap.size ≠ w.heap.size := by omega
      have hn_x_r : wr.heap.size ≠ w.heap.size + 1 := by omega
      clear hbs hltf hltr
      refine wp_gen fun W2 hW => ?_
      have hm2 : wr.heap.size ≤ W2.heap.size := by rw [hW]; (first | omega | (simp only [size_alloc, size_drew, size_drewN, size_set]; omega) | (simp only [size_alloc, size_drew, size_drewN, size_set]; done))
      have hB' : Below w.heap.size w W2 := by rw [hW]; (repeat (first | (with_reducible assumption) | exact Below.refl _ _ | (with_reducible refine Below.drew ?_) | (with_reducible refine belowN ?_ _) | (with_reducible refine bw_alloc ?_ _) | ((with_reducible refine bw_set ?_ ?_ _ _); (focus (with_reducible assumption)))))
      have hXf' : Box W2 (w.heap.size) [Value.slice fo (digs 1000000000 T.natAbs).length fc, Value.bool (zNeg T)] := by rw [hW]; (repeat (first | (with_reducible assumption) | (with_reducible refine Box.drew ?_) | (with_reducible refine Box.drewN ?_ _) | ((with_reducible refine Box.new _ _ ?_ ?_); (focus (first | (with_reducible exact rfl) | (simp only [size_alloc, size_drew, size_drewN, size_set]; done))); (focus (exact rfl))) | (with_reducible refine Box.alloc ?_ _) | ((with_reducible refine Box.put ?_ ?_ _ _ ?_); rotate_left) | ((with_reducible refine Box.set ?_ ?_ _ _); (focus (first | (with_reducible assumption) | (refine Ne.symm ?_; (with_reducible assumption))))) | (exact rfl)))
      have hXr' : Box W2 (w.heap.size + 1) [Value.bool false, Value.slice none 0 0] := by rw [hW]; (repeat (first | (with_reducible assumption) | (with_reducible refine Box.drew ?_) | (with_reducible refine Box.drewN ?_ _) | ((with_reducible refine Box.new _ _ ?_ ?_); (focus (first | (with_reducible exact rfl) | (simp only [size_alloc, size_drew, size_drewN, size_set]; done))); (focus (exact rfl))) | (with_reducible refine Box.alloc ?_ _) | ((with_reducible refine Box.put ?_ ?_ _ _ ?_); rotate_left) | ((with_reducible refine Box.set ?_ ?_ _ _); (focus (first | (with_reducible assumption) | (refine Ne.symm ?_; (with_reducible assumption))))) | (exact rfl)))
      have hXx' : Box W2 (wr.heap.size) [Value.bool (sgnAt L k), Value.slice so (limAt L k).length sc] := by rw [hW]; (repeat (first | (with_reducible assumption) | (with_reducible refine Box.drew ?_) | (with_reducible refine Box.drewN ?_ _) | ((with_reducible refine Box.new _ _ ?_ ?_); (focus (first | (with_reducible exact rfl) | (simp only [size_alloc, size_drew, size_drewN, size_set]; done))); (focus (exact rfl))) | (with_reducible refine Box.alloc ?_ _) | ((with_reducible refine Box.put ?_ ?_ _ _ ?_); rotate_left) | ((with_reducible refine Box.set ?_ ?_ _ _); (focus (first | (with_reducible assumption) | (refine Ne.symm ?_; (with_reducible assumption))))) | (exact rfl)))
      have hL : Below wr.heap.size wr W2 := by rw [hW]; (repeat (first | (with_reducible assumption) | exact Below.refl _ _ | (with_reducible refine Below.drew ?_) | (with_reducible refine belowN ?_ _) | (with_reducible refine bw_alloc ?_ _) | ((with_reducible refine bw_set ?_ ?_ _ _); (focus (with_reducible assumption)))))
      replace HN2 := Lib.hid (HN2.out.keep hL)
      clear hL
      clear hW
      clear hfr_1 hcr_1 hfr_0 hcr_0 hff_1 hcf_1 hff_0 hcf_0 hXr hXf hB
      have hB := hB'; have hXf := hXf'; have hXr := hXr'; have hXx := hXx'
      clear hB' hXf' hXr' hXx'
      have hcf_0 := hXf.c0; have hff_0 := hXf.free 0; have hcf_1 := hXf.c1; have hff_1 := hXf.free 1; have hcr_0 := hXr.c0; have hfr_0 := hXr.free 0; have hcr_1 := hXr.c1; have hfr_1 := hXr.free 1; have hcx_0 := hXx.c0; have hcx_1 := hXx.c1
      clear hcr0 hcr1
      have hn2 := HN2.out
      go_region_with
        (first | (go_at_call 95; (with_reducible refine (numof_any _ (sgnAt L k) (limAt L k) _ ?_ ?_).mono ?_); (focus (refine IV.keep HIV.out ?_; (repeat (first | (with_reducible assumption) | exact Below.refl _ _ | (with_reducible refine Below.drew ?_) | (with_reducible refine belowN ?_ _) | (with_reducible refine bw_alloc ?_ _) | ((with_reducible refine bw_set ?_ ?_ _ _); (focus (with_reducible assumption))))))); (focus (omega)); rintro e w3 ⟨u, rfl, hu, hbk⟩; obtain ⟨uo, uc, rfl⟩ := hu.one; have hn3 : NBX w3 B w.heap.size (w.heap.size + 1 + 1) 103 (.agg #[.slice fo (digs 1000000000 T.natAbs).length fc, .bool (zNeg T)]) T := (by refine NBX.keep ?_ hbk; (repeat (first | (with_reducible assumption) | (with_reducible refine NBX.drew ?_) | (with_reducible refine NBX.alloc ?_ _) | ((with_reducible refine NBX.set ?_ ?_ ?_ _ _); (focus (with_reducible assumption)); (focus (with_reducible assumption)))))); have hmw3 : W2.heap.size ≤ w3.heap.size := (by refine Nat.le_trans ?_ hbk.size; (first | omega | (simp only [size_alloc, size_drew, size_drewN, size_set]; omega) | (simp only [size_alloc, size_drew, size_drewN, size_set]; done))); have hBw3 : Below w.heap.size w w3 := (by refine bw_below ?_ hbk; (repeat (first | (with_reducible assumption) | exact Below.refl _ _ | (with_reducible refine Below.drew ?_) | (with_reducible refine belowN ?_ _) | (with_reducible refine bw_alloc ?_ _) | ((with_reducible refine bw_set ?_ ?_ _ _); (focus (with_reducible assumption)))))); have hXfw3 : Box w3 (w.heap.size) [Value.slice fo (digs 1000000000 T.natAbs).length fc, Value.bool (zNeg T)] := (by refine Box.below ?_ hbk; (repeat (first | (with_reducible assumption) | (with_reducible refine Box.drew ?_) | (with_reducible refine Box.drewN ?_ _) | ((with_reducible refine Box.new _ _ ?_ ?_); (focus (first | (with_reducible exact rfl) | (simp only [size_alloc, size_drew, size_drewN, size_set]; done))); (focus (exact rfl))) | (with_reducible refine Box.alloc ?_ _) | ((with_reducible refine Box.put ?_ ?_ _ _ ?_); rotate_left) | ((with_reducible refine Box.set ?_ ?_ _ _); (focus (first | (with_reducible assumption) | (refine Ne.symm ?_; (with_reducible assumption))))) | (exact rfl)))); have hcf_0w3 := hXfw3.c0; have hff_0w3 := hXfw3.free 0; have hcf_1w3 := hXfw3.c1; have hff_1w3 := hXfw3.free 1; have hXrw3 : Box w3 (w.heap.size + 1) [Value.bool false, Value.slice none 0 0] := (by refine Box.below ?_ hbk; (repeat (first | (with_reducible assumption) | (with_reducible refine Box.drew ?_) | (with_reducible refine Box.drewN ?_ _) | ((with_reducible refine Box.new _ _ ?_ ?_); (focus (first | (with_reducible exact rfl) | (simp only [size_alloc, size_drew, size_drewN, size_set]; done))); (focus (exact rfl))) | (with_reducible refine Box.alloc ?_ _) | ((with_reducible refine Box.put ?_ ?_ _ _ ?_); rotate_left) | ((with_reducible refine Box.set ?_ ?_ _ _); (focus (first | (with_reducible assumption) | (refine Ne.symm ?_; (with_reducible assumption))))) | (exact rfl)))); have hcr_0w3 := hXrw3.c0; have hfr_0w3 := hXrw3.free 0; have hcr_1w3 := hXrw3.c1; have hfr_1w3 := hXrw3.free 1; have hXxw3 : Box w3 (wr.heap.size) [Value.bool (sgnAt L k), Value.slice so (limAt L k).length sc] := (by refine Box.below ?_ hbk; (repeat (first | (with_reducible assumption) | (with_reducible refine Box.drew ?_) | (with_reducible refine Box.drewN ?_ _) | ((with_reducible refine Box.new _ _ ?_ ?_); (focus (first | (with_reducible exact rfl) | (simp only [size_alloc, size_drew, size_drewN, size_set]; done))); (focus (exact rfl))) | (with_reducible refine Box.alloc ?_ _) | ((with_reducible refine Box.put ?_ ?_ _ _ ?_); rotate_left) | ((with_reducible refine Box.set ?_ ?_ _ _); (focus (first | (with_reducible assumption) | (refine Ne.symm ?_; (with_reducible assumption))))) | (exact rfl)))); have hcx_0w3 := hXxw3.c0; have hcx_1w3 := hXxw3.c1) | (go_at_call 63; (with_reducible refine (gcdStep_any _ _ T (zV (sgnAt L k) (limAt L k)) _ _ _ hn3.nb hu ?_ ?_).mono ?_); (focus (exact HTB.out.mono (by omega))); (focus (exact HZB.out.mono (by omega))); rintro e w4 ⟨q, rfl, hq, hbk⟩; obtain ⟨qo, qc, rfl⟩ := hq.one; have hn4 : NBX w4 B w.heap.size (w.heap.size + 1 + 1) 103 _ _ := (hq.x w.heap.size (show (w.heap.size + 1 + 1) ≤ _ by omega)).low (by omega); have hmw4 : w3.heap.size ≤ w4.heap.size := (by refine Nat.le_trans ?_ hbk.size; (first | omega | (simp only [size_alloc, size_drew, size_drewN, size_set]; omega) | (simp only [size_alloc, size_drew, size_drewN, size_set]; done))); have hBw4 : Below w.heap.size w w4 := (by refine bw_below ?_ hbk; (repeat (first | (with_reducible assumption) | exact Below.refl _ _ | (with_reducible refine Below.drew ?_) | (with_reducible refine belowN ?_ _) | (with_reducible refine bw_alloc ?_ _) | ((with_reducible refine bw_set ?_ ?_ _ _); (focus (with_reducible assumption)))))); have hXfw4 : Box w4 (w.heap.size) [Value.slice fo (digs 1000000000 T.natAbs).length fc, Value.bool (zNeg T)] := (by refine Box.below ?_ hbk; (repeat (first | (with_reducible assumption) | (with_reducible refine Box.drew ?_) | (with_reducible refine Box.drewN ?_ _) | ((with_reducible refine Box.new _ _ ?_ ?_); (focus (first | (with_reducible exact rfl) | (simp only [size_alloc, size_drew, size_drewN, size_set]; done))); (focus (exact rfl))) | (with_reducible refine Box.alloc ?_ _) | ((with_reducible refine Box.put ?_ ?_ _ _ ?_); rotate_left) | ((with_reducible refine Box.set ?_ ?_ _ _); (focus (first | (with_reducible assumption) | (refine Ne.symm ?_; (with_reducible assumption))))) | (exact rfl)))); have hcf_0w4 := hXfw4.c0; have hff_0w4 := hXfw4.free 0; have hcf_1w4 := hXfw4.c1; have hff_1w4 := hXfw4.free 1; have hXrw4 : Box w4 (w.heap.size + 1) [Value.bool false, Value.slice none 0 0] := (by refine Box.below ?_ hbk; (repeat (first | (with_reducible assumption) | (with_reducible refine Box.drew ?_) | (with_reducible refine Box.drewN ?_ _) | ((with_reducible refine Box.new _ _ ?_ ?_); (focus (first | (with_reducible exact rfl) | (simp only [size_alloc, size_drew, size_drewN, size_set]; done))); (focus (exact rfl))) | (with_reducible refine Box.alloc ?_ _) | ((with_reducible refine Box.put ?_ ?_ _ _ ?_); rotate_left) | ((with_reducible refine Box.set ?_ ?_ _ _); (focus (first | (with_reducible assumption) | (refine Ne.symm ?_; (with_reducible assumption))))) | (exact rfl)))); have hcr_0w4 := hXrw4.c0; have hfr_0w4 := hXrw4.free 0; have hcr_1w4 := hXrw4.c1; have hfr_1w4 := hXrw4.free 1; have hXxw4 : Box w4 (wr.heap.size) [Value.bool (sgnAt L k), Value.slice so (limAt L k).length sc] := (by refine Box.below ?_ hbk; (repeat (first | (with_reducible assumption) | (with_reducible refine Box.drew ?_) | (with_reducible refine Box.drewN ?_ _) | ((with_reducible refine Box.new _ _ ?_ ?_); (focus (first | (with_reducible exact rfl) | (simp only [size_alloc, size_drew, size_drewN, size_set]; done))); (focus (exact rfl))) | (with_reducible refine Box.alloc ?_ _) | ((with_reducible refine Box.put ?_ ?_ _ _ ?_); rotate_left) | ((with_reducible refine Box.set ?_ ?_ _ _); (focus (first | (with_reducible assumption) | (refine Ne.symm ?_; (with_reducible assumption))))) | (exact rfl)))); have hcx_0w4 := hXxw4.c0; have hcx_1w4 := hXxw4.c1))
      all_goals
        go_wp2_with fail
        go_roundg (L.length - (k + 1))
        case measure => have := HM.out; omega
        case rel =>
          refine ⟨k + 1, ((Nat.gcd (Int.natAbs T) (Int.natAbs (zV (sgnAt L k) (limAt L k))) : Nat) : Int), .slice qo (digs 1000000000 (((Nat.gcd (Int.natAbs T) (Int.natAbs (zV (sgnAt L k) (limAt L k))) : Nat) : Int)).natAbs).length qc, .bool (zNeg (((Nat.gcd (Int.natAbs T) (Int.natAbs (zV (sgnAt L k) (limAt L k))) : Nat) : Int))), by go_num, rfl, by omega, by rw [foldZ_succ _ _ hkl, ← HT.out], ?_, ?_, ?_, ?_, ?_, ?_⟩
          · rw [wgZ_take_succ hkl]; exact (HTB.out.gcd HZB.out).mono (by omega)
          · (repeat (first | (with_reducible assumption) | (with_reducible refine NBX.drew ?_) | (with_reducible refine NBX.alloc ?_ _) | ((with_reducible refine NBX.set ?_ ?_ ?_ _ _); (focus (with_reducible assumption)); (focus (with_reducible assumption)))))
          · (repeat (first | (with_reducible assumption) | exact Below.refl _ _ | (with_reducible refine Below.drew ?_) | (with_reducible refine belowN ?_ _) | (with_reducible refine bw_alloc ?_ _) | ((with_reducible refine bw_set ?_ ?_ _ _); (focus (with_reducible assumption)))))
          · simp only [size_alloc, size_drew, size_drewN, size_set]; omega
          · (repeat (first | (with_reducible assumption) | (with_reducible refine Box.drew ?_) | (with_reducible refine Box.drewN ?_ _) | ((with_reducible refine Box.new _ _ ?_ ?_); (focus (first | (with_reducible exact rfl) | (simp only [size_alloc, size_drew, size_drewN, size_set]; done))); (focus (exact rfl))) | (with_reducible refine Box.alloc ?_ _) | ((with_reducible refine Box.put ?_ ?_ _ _ ?_); rotate_left) | ((with_reducible refine Box.set ?_ ?_ _ _); (focus (first | (with_reducible assumption) | (refine Ne.symm ?_; (with_reducible assumption))))) | (exact rfl)))
          · (repeat (first | (with_reducible assumption) | (with_reducible refine Box.drew ?_) | (with_reducible refine Box.drewN ?_ _) | ((with_reducible refine Box.new _ _ ?_ ?_); (focus (first | (with_reducible exact rfl) | (simp only [size_alloc, size_drew, size_drewN, size_set]; done))); (focus (exact rfl))) | (with_reducible refine Box.alloc ?_ _) | ((with_reducible refine Box.put ?_ ?_ _ _ ?_); rotate_left) | ((with_reducible refine Box.set ?_ ?_ _ _); (focus (first | (with_reducible assumption) | (refine Ne.symm ?_; (with_reducible assumption))))) | (exact rfl)))
    · have hkl' : k = L.length := by omega
      have HE : Hid (T = foldZ (fun a b => ((Nat.gcd a.natAbs b.natAbs : Nat) : Int)) z0 L) := by have := HT.out; rw [List.take_of_length_le (by omega)] at this; exact this
      have HTS : Hid (ZB T 1000000) := HTB.out.mono (by omega)
      go_wp2_with fail
      refine (outX_any _ T B _ _ _ HN2.out HTS.out).mono ?_
      rintro e W2 ⟨q, rfl, hq, hb⟩
      rw [HE.out] at hq
      obtain ⟨qo, qc, rfl⟩ := hq.one
      have hL : Below wr.heap.size wr W2 := hb
      have hm2 := hL.size
      have hB' := bw_below hB hL
      have hXf' := hXf.below hL
      have hXr' := hXr.below hL
      clear hL hb
      clear hfr_1 hcr_1 hfr_0 hcr_0 hff_1 hcf_1 hff_0 hcf_0 hXr hXf hB
      have hB := hB'; have hXf := hXf'; have hXr := hXr'
      clear hB' hXf' hXr'
      have hcf_0 := hXf.c0; have hff_0 := hXf.free 0; have hcf_1 := hXf.c1; have hff_1 := hXf.free 1; have hcr_0 := hXr.c0; have hfr_0 := hXr.free 0; have hcr_1 := hXr.c1; have hfr_1 := hXr.free 1
      go_wp2_with fail
      have hinr : w.heap.size + 1 < (w.heap.size + 1 + 1) := by omega
      refine ret_gen fun W3 hW => ?_
      have hm3 : W2.heap.size ≤ W3.heap.size := by rw [hW]; (first | omega | (simp only [size_alloc, size_drew, size_drewN, size_set]; omega) | (simp only [size_alloc, size_drew, size_drewN, size_set]; done))
      have hB' : Below w.heap.size w W3 := by rw [hW]; (repeat (first | (with_reducible assumption) | exact Below.refl _ _ | (with_reducible refine Below.drew ?_) | (with_reducible refine belowN ?_ _) | (with_reducible refine bw_alloc ?_ _) | ((with_reducible refine bw_set ?_ ?_ _ _); (focus (with_reducible assumption)))))
      have hXr' : Box W3 (w.heap.size + 1) [Value.bool (zNeg (foldZ (fun a b => ((Nat.gcd a.natAbs b.natAbs : Nat) : Int)) z0 L)), Value.slice qo (digs 1000000000 (foldZ (fun a b => ((Nat.gcd a.natAbs b.natAbs : Nat) : Int)) z0 L).natAbs).length qc] := by rw [hW]; (repeat (first | (with_reducible assumption) | (with_reducible refine Box.drew ?_) | (with_reducible refine Box.drewN ?_ _) | ((with_reducible refine Box.new _ _ ?_ ?_); (focus (first | (with_reducible exact rfl) | (simp only [size_alloc, size_drew, size_drewN, size_set]; done))); (focus (exact rfl))) | (with_reducible refine Box.alloc ?_ _) | ((with_reducible refine Box.put ?_ ?_ _ _ ?_); rotate_left) | ((with_reducible refine Box.set ?_ ?_ _ _); (focus (first | (with_reducible assumption) | (refine Ne.symm ?_; (with_reducible assumption))))) | (exact rfl)))
      have hq' : IOX W3 B w.heap.size (w.heap.size + 1 + 1) 103 (.agg #[Value.bool (zNeg (foldZ (fun a b => ((Nat.gcd a.natAbs b.natAbs : Nat) : Int)) z0 L)), .slice qo (digs 1000000000 (foldZ (fun a b => ((Nat.gcd a.natAbs b.natAbs : Nat) : Int)) z0 L).natAbs).length qc]) (foldZ (fun a b => ((Nat.gcd a.natAbs b.natAbs : Nat) : Int)) z0 L) := by rw [hW]; (repeat (first | (with_reducible assumption) | (with_reducible refine IOX.drew ?_) | (with_reducible refine IOX.alloc ?_ _) | ((with_reducible refine IOX.set ?_ ?_ ?_ _ _); (focus (with_reducible assumption)); (focus (with_reducible assumption)))))
      clear hW
      clear hfr_1 hcr_1 hfr_0 hcr_0 hff_1 hcf_1 hff_0 hcf_0 hXr hXf hB
      have hB := hB'; have hXr := hXr'
      clear hB' hXr'
      have hcr_0 := hXr.c0; have hfr_0 := hXr.free 0; have hcr_1 := hXr.c1; have hfr_1 := hXr.free 1
      refine bodyPost_ret (v := .agg #[Value.bool (zNeg (foldZ (fun a b => ((Nat.gcd a.natAbs b.natAbs : Nat) : Int)) z0 L)), .slice qo (digs 1000000000 (foldZ (fun a b => ((Nat.gcd a.natAbs b.natAbs : Nat) : Int)) z0 L).natAbs).length qc]) (by simp [results, Tryz.results54, go_sem, hcr_0, hcr_1]) rfl ?_
      exact ⟨_, rfl, hq'.io, hB⟩

end Go.Proofs.YtjfncepmpabcnaaGreatDoor
