/- num: denial, difference, order, right. -/
import Derived.Test.YtemcpgfoggdaiaaGreatDoorNumF
namespace Go.Proofs.YtemcpgfoggdaiaaGreatDoor
open Go.RowKit
set_option linter.unusedSimpArgs false
set_option linter.unusedVariables false
attribute [local go_sem ↓] Go.wp_at_zero Go.wp_at_succ

set_option maxRecDepth 100000 in
set_option maxHeartbeats 1000000 in
theorem numNeg_any (v : Value) (y : Int) (k : Nat) (w : World) (hv : IZ w v y k) (hk : k ≤ 100000) :
    Calls Tryz.prog 21 #[v] w fun e w' => ∃ x, e = .returned x ∧ IO w' w.heap.size 60 x (-y) ∧ Below w.heap.size w w' := by
  obtain ⟨m, hm⟩ : ∃ m, m = -y := ⟨_, rfl⟩
  have HK : Hid (ZB m 1000000) := by rw [hm]; exact hv.zb.neg.mono (by omega)
  have HM := Lib.hid hm
  clear hm
  obtain ⟨na, la, hA, hla, hy⟩ := hv
  obtain ⟨ao, ac, rfl⟩ := hA.sh
  have HA := Lib.hid hA
  have HY := Lib.hid hy
  clear hA hy
  go_enter Tryz.func21, Tryz.ntmps21
  go_wp2_with fail
  have hB := Below.refl w.heap.size w
  have hbs := hB.size
  have hga : w.heap.size ≤ w.heap.size := by omega
  have hgr : w.heap.size ≤ w.heap.size + 1 := by omega
  have hn_r_a : w.heap.size + 1 ≠ w.heap.size := by omega
  clear hbs
  refine calls_gen fun W1 hW => ?_
  have hm1 : w.heap.size ≤ W1.heap.size := by rw [hW]; (first | omega | (simp only [size_alloc, size_drew, size_drewN, size_set]; omega) | (simp only [size_alloc, size_drew, size_drewN, size_set]; done))
  have hB' : Below w.heap.size w W1 := by rw [hW]; (repeat (first | (with_reducible assumption) | exact Below.refl _ _ | (with_reducible refine Below.drew ?_) | (with_reducible refine belowN ?_ _) | (with_reducible refine bw_alloc ?_ _) | ((with_reducible refine bw_set ?_ ?_ _ _); (focus (with_reducible assumption)))))
  have hXa' : Box W1 (w.heap.size) [Value.bool na, Value.slice ao la.length ac] := by rw [hW]; (repeat (first | (with_reducible assumption) | (with_reducible refine Box.drew ?_) | (with_reducible refine Box.drewN ?_ _) | ((with_reducible refine Box.new _ _ ?_ ?_); (focus (first | (with_reducible exact rfl) | (simp only [size_alloc, size_drew, size_drewN, size_set]; done))); (focus (exact rfl))) | (with_reducible refine Box.alloc ?_ _) | ((with_reducible refine Box.put ?_ ?_ _ _ ?_); rotate_left) | ((with_reducible refine Box.set ?_ ?_ _ _); (focus (first | (with_reducible assumption) | (refine Ne.symm ?_; (with_reducible assumption))))) | (exact rfl)))
  have hXr' : Box W1 (w.heap.size + 1) [Value.bool false, Value.slice none 0 0] := by rw [hW]; (repeat (first | (with_reducible assumption) | (with_reducible refine Box.drew ?_) | (with_reducible refine Box.drewN ?_ _) | ((with_reducible refine Box.new _ _ ?_ ?_); (focus (first | (with_reducible exact rfl) | (simp only [size_alloc, size_drew, size_drewN, size_set]; done))); (focus (exact rfl))) | (with_reducible refine Box.alloc ?_ _) | ((with_reducible refine Box.put ?_ ?_ _ _ ?_); rotate_left) | ((with_reducible refine Box.set ?_ ?_ _ _); (focus (first | (with_reducible assumption) | (refine Ne.symm ?_; (with_reducible assumption))))) | (exact rfl)))
  clear hW
  clear hB
  have hB := hB'; have hXa := hXa'; have hXr := hXr'
  clear hB' hXa' hXr'
  have hca_0 := hXa.c0; have hca_1 := hXa.c1; have hcr_0 := hXr.c0; have hfr_0 := hXr.free 0; have hcr_1 := hXr.c1; have hfr_1 := hXr.free 1
  have hW1x : w.heap.size + 1 + 1 ≤ W1.heap.size := hXr.lt
  refine (numof_any _ na la _ (HA.out.keep hB) (by omega)).mono ?_
  rintro e W2 ⟨u, rfl, hu, hb⟩
  rw [HY.out] at hu
  obtain ⟨uo, uc, rfl⟩ := hu.one
  have HU := Lib.hid (hu.x w.heap.size hW1x)
  clear hu
  have hL : Below W1.heap.size W1 W2 := hb
  have hm2 := hL.size
  have hB' := bw_below hB hL
  have hXa' := hXa.below hL
  have hXr' := hXr.below hL
  clear hL hb
  clear hfr_1 hcr_1 hfr_0 hcr_0 hca_1 hca_0 hXr hXa hB
  have hB := hB'; have hXa := hXa'; have hXr := hXr'
  clear hB' hXa' hXr'
  have hca_0 := hXa.c0; have hca_1 := hXa.c1; have hcr_0 := hXr.c0; have hfr_0 := hXr.free 0; have hcr_1 := hXr.c1; have hfr_1 := hXr.free 1
  go_wp2_with fail
  refine (turnedX_any _ y _ _ _ _ HU.out).mono ?_
  rintro e W3 ⟨u2, rfl, hu2, hb⟩
  rw [← HM.out] at hu2
  obtain ⟨uo2, uc2, rfl⟩ := hu2.one
  have HU2 := Lib.hid hu2
  clear hu2
  have hL : Below W2.heap.size W2 W3 := hb
  have hm3 := hL.size
  have hB' := bw_below hB hL
  have hXa' := hXa.below hL
  have hXr' := hXr.below hL
  clear hL hb
  clear hfr_1 hcr_1 hfr_0 hcr_0 hca_1 hca_0 hXr hXa hB
  have hB := hB'; have hXa := hXa'; have hXr := hXr'
  clear hB' hXa' hXr'
  have hca_0 := hXa.c0; have hca_1 := hXa.c1; have hcr_0 := hXr.c0; have hfr_0 := hXr.free 0; have hcr_1 := hXr.c1; have hfr_1 := hXr.free 1
  go_wp2_with fail
  refine (outX_any _ m _ _ _ _ HU2.out HK.out).mono ?_
  rintro e W4 ⟨q, rfl, hq, hb⟩
  obtain ⟨qo, qc, rfl⟩ := hq.one
  have HQ := Lib.hid hq
  clear hq
  have hL : Below W3.heap.size W3 W4 := hb
  have hm4 := hL.size
  have hB' := bw_below hB hL
  have hXa' := hXa.below hL
  have hXr' := hXr.below hL
  clear hL hb
  clear hfr_1 hcr_1 hfr_0 hcr_0 hca_1 hca_0 hXr hXa hB
  have hB := hB'; have hXa := hXa'; have hXr := hXr'
  clear hB' hXa' hXr'
  have hca_0 := hXa.c0; have hca_1 := hXa.c1; have hcr_0 := hXr.c0; have hfr_0 := hXr.free 0; have hcr_1 := hXr.c1; have hfr_1 := hXr.free 1
  go_wp2_with fail
  have hinr : w.heap.size + 1 < w.heap.size + 1 + 1 := by omega
  have hq0 := HQ.out
  refine ret_gen fun W5 hW => ?_
  have hm5 : W4.heap.size ≤ W5.heap.size := by rw [hW]; (first | omega | (simp only [size_alloc, size_drew, size_drewN, size_set]; omega) | (simp only [size_alloc, size_drew, size_drewN, size_set]; done))
  have hB' : Below w.heap.size w W5 := by rw [hW]; (repeat (first | (with_reducible assumption) | exact Below.refl _ _ | (with_reducible refine Below.drew ?_) | (with_reducible refine belowN ?_ _) | (with_reducible refine bw_alloc ?_ _) | ((with_reducible refine bw_set ?_ ?_ _ _); (focus (with_reducible assumption)))))
  have hXr' : Box W5 (w.heap.size + 1) [Value.bool (zNeg (m)), Value.slice qo (digs 1000000000 (m).natAbs).length qc] := by rw [hW]; (repeat (first | (with_reducible assumption) | (with_reducible refine Box.drew ?_) | (with_reducible refine Box.drewN ?_ _) | ((with_reducible refine Box.new _ _ ?_ ?_); (focus (first | (with_reducible exact rfl) | (simp only [size_alloc, size_drew, size_drewN, size_set]; done))); (focus (exact rfl))) | (with_reducible refine Box.alloc ?_ _) | ((with_reducible refine Box.put ?_ ?_ _ _ ?_); rotate_left) | ((with_reducible refine Box.set ?_ ?_ _ _); (focus (first | (with_reducible assumption) | (refine Ne.symm ?_; (with_reducible assumption))))) | (exact rfl)))
  have hq' : IOX W5 W1.heap.size w.heap.size (w.heap.size + 1 + 1) 60 (.agg #[Value.bool (zNeg (m)), Value.slice qo (digs 1000000000 (m).natAbs).length qc]) m := by rw [hW]; (repeat (first | (with_reducible assumption) | (with_reducible refine IOX.drew ?_) | (with_reducible refine IOX.alloc ?_ _) | ((with_reducible refine IOX.set ?_ ?_ ?_ _ _); (focus (with_reducible assumption)); (focus (with_reducible assumption)))))
  clear hW
  clear hfr_1 hcr_1 hfr_0 hcr_0 hca_1 hca_0 hXr hXa hB
  have hB := hB'; have hXr := hXr'
  clear hB' hXr'
  have hcr_0 := hXr.c0; have hfr_0 := hXr.free 0; have hcr_1 := hXr.c1; have hfr_1 := hXr.free 1
  refine bodyPost_ret (v := .agg #[Value.bool (zNeg (m)), Value.slice qo (digs 1000000000 (m).natAbs).length qc]) (by simp [results, Tryz.results21, go_sem, hcr_0, hcr_1]) rfl ?_
  rw [← HM.out]
  exact ⟨_, rfl, hq'.io.low (by omega), hB⟩

set_option maxRecDepth 100000 in
set_option maxHeartbeats 4000000 in
theorem numSub_any (v u : Value) (y z : Int) (k1 k2 : Nat) (w : World) (hv : IZ w v y k1) (hu : IZ w u z k2) (hk : k1 + k2 ≤ 90000) :
    Calls Tryz.prog 22 #[v, u] w fun e w' => ∃ x, e = .returned x ∧ IO w' w.heap.size 60 x (y - z) ∧ Below w.heap.size w w' := by
  have HKY := Lib.hid hv.zb
  have HKZ := Lib.hid hu.zb
  obtain ⟨m, hm⟩ : ∃ m, m = -z := ⟨_, rfl⟩
  obtain ⟨d, hd⟩ : ∃ d, d = y - z := ⟨_, rfl⟩
  have HKM : Hid (ZB m (k2 + 1)) := by rw [hm]; exact hu.zb.neg
  have HKS : Hid (ZB d 1000000) := by rw [hd]; exact (hv.zb.sub hu.zb).mono (by omega)
  have HD : Hid (y + m = d) := by rw [hm, hd, Int.sub_eq_add_neg]; exact rfl
  have HM := Lib.hid hm
  have HDD := Lib.hid hd
  clear hm hd
  obtain ⟨na, la, hA, hla, hy⟩ := hv
  obtain ⟨ao, ac, rfl⟩ := hA.sh
  have HA := Lib.hid hA
  have HY := Lib.hid hy
  clear hA hy
  obtain ⟨nb, lb, hC, hlb, hz⟩ := hu
  obtain ⟨bo, bc, rfl⟩ := hC.sh
  have HC := Lib.hid hC
  have HZ := Lib.hid hz
  clear hC hz
  go_enter Tryz.func22, Tryz.ntmps22
  go_wp2_with fail
  have hB := Below.refl w.heap.size w
  have hbs := hB.size
  have hga : w.heap.size ≤ w.heap.size := by omega
  have hgb : w.heap.size ≤ w.heap.size + 1 := by omega
  have hn_b_a : w.heap.size + 1 ≠ w.heap.size := by omega
  have hgr : w.heap.size ≤ w.heap.size + 1 + 1 := by omega
  have hn_r_a : w.heap.size + 1 + 1 ≠ w.heap.size := by omega
  have hn_r_b : w.heap.size + 1 + 1 ≠ w.heap.size + 1 := by omega
  clear hbs
  refine wp_gen fun W1 hW => ?_
  have hm1 : w.heap.size ≤ W1.heap.size := by rw [hW]; (first | omega | (simp only [size_alloc, size_drew, size_drewN, size_set]; omega) | (simp only [size_alloc, size_drew, size_drewN, size_set]; done))
  have hB' : Below w.heap.size w W1 := by rw [hW]; (repeat (first | (with_reducible assumption) | exact Below.refl _ _ | (with_reducible refine Below.drew ?_) | (with_reducible refine belowN ?_ _) | (with_reducible refine bw_alloc ?_ _) | ((with_reducible refine bw_set ?_ ?_ _ _); (focus (with_reducible assumption)))))
  have hXa' : Box W1 (w.heap.size) [Value.bool na, Value.slice ao la.length ac] := by rw [hW]; (repeat (first | (with_reducible assumption) | (with_reducible refine Box.drew ?_) | (with_reducible refine Box.drewN ?_ _) | ((with_reducible refine Box.new _ _ ?_ ?_); (focus (first | (with_reducible exact rfl) | (simp only [size_alloc, size_drew, size_drewN, size_set]; done))); (focus (exact rfl))) | (with_reducible refine Box.alloc ?_ _) | ((with_reducible refine Box.put ?_ ?_ _ _ ?_); rotate_left) | ((with_reducible refine Box.set ?_ ?_ _ _); (focus (first | (with_reducible assumption) | (refine Ne.symm ?_; (with_reducible assumption))))) | (exact rfl)))
  have hXb' : Box W1 (w.heap.size + 1) [Value.bool nb, Value.slice bo lb.length bc] := by rw [hW]; (repeat (first | (with_reducible assumption) | (with_reducible refine Box.drew ?_) | (with_reducible refine Box.drewN ?_ _) | ((with_reducible refine Box.new _ _ ?_ ?_); (focus (first | (with_reducible exact rfl) | (simp only [size_alloc, size_drew, size_drewN, size_set]; done))); (focus (exact rfl))) | (with_reducible refine Box.alloc ?_ _) | ((with_reducible refine Box.put ?_ ?_ _ _ ?_); rotate_left) | ((with_reducible refine Box.set ?_ ?_ _ _); (focus (first | (with_reducible assumption) | (refine Ne.symm ?_; (with_reducible assumption))))) | (exact rfl)))
  have hXr' : Box W1 (w.heap.size + 1 + 1) [Value.bool false, Value.slice none 0 0] := by rw [hW]; (repeat (first | (with_reducible assumption) | (with_reducible refine Box.drew ?_) | (with_reducible refine Box.drewN ?_ _) | ((with_reducible refine Box.new _ _ ?_ ?_); (focus (first | (with_reducible exact rfl) | (simp only [size_alloc, size_drew, size_drewN, size_set]; done))); (focus (exact rfl))) | (with_reducible refine Box.alloc ?_ _) | ((with_reducible refine Box.put ?_ ?_ _ _ ?_); rotate_left) | ((with_reducible refine Box.set ?_ ?_ _ _); (focus (first | (with_reducible assumption) | (refine Ne.symm ?_; (with_reducible assumption))))) | (exact rfl)))
  clear hW
  clear hB
  have hB := hB'; have hXa := hXa'; have hXb := hXb'; have hXr := hXr'
  clear hB' hXa' hXb' hXr'
  have hca_0 := hXa.c0; have hca_1 := hXa.c1; have hcb_0 := hXb.c0; have hcb_1 := hXb.c1; have hcr_0 := hXr.c0; have hfr_0 := hXr.free 0; have hcr_1 := hXr.c1; have hfr_1 := hXr.free 1
  have hW1x : w.heap.size + 1 + 1 + 1 ≤ W1.heap.size := hXr.lt
  go_region_held3 (fun w' => w'.cell? ⟨w.heap.size, 0, none⟩ = some (Value.bool na) ∧ w'.cell? ⟨w.heap.size, 1, none⟩ = some (Value.slice ao la.length ac) ∧ w'.cell? ⟨w.heap.size + 1, 0, none⟩ = some (Value.bool nb) ∧ w'.cell? ⟨w.heap.size + 1, 1, none⟩ = some (Value.slice bo lb.length bc)) ((go_split_ands; ((repeat' apply And.intro) <;> (first | (with_reducible assumption) | ((repeat (first | (with_reducible assumption) | (with_reducible refine cs_drew ?_) | (with_reducible refine cs_drewN ?_ _) | (with_reducible refine cs_alloc ?_ _) | ((with_reducible refine cs_put ?_ ?_); rotate_left) | ((with_reducible refine cs_off ?_ ?_); (focus (decide))) | ((with_reducible refine cs_set ?_ ?_); (focus (first | (with_reducible assumption) | (refine Ne.symm ?_; (with_reducible assumption))))))); done) | (refine cs_below hbk ?_; ((repeat (first | (with_reducible assumption) | (with_reducible refine cs_drew ?_) | (with_reducible refine cs_drewN ?_ _) | (with_reducible refine cs_alloc ?_ _) | ((with_reducible refine cs_put ?_ ?_); rotate_left) | ((with_reducible refine cs_off ?_ ?_); (focus (decide))) | ((with_reducible refine cs_set ?_ ?_); (focus (first | (with_reducible assumption) | (refine Ne.symm ?_; (with_reducible assumption))))))); done))))))
    (first | (go_at_call 49; (with_reducible refine (numof_any (.agg #[.bool na, .slice ao la.length ac]) na la _ ?_ ?_).mono ?_); (focus (refine IV.keep HA.out ?_; (repeat (first | (with_reducible assumption) | exact Below.refl _ _ | (with_reducible refine Below.drew ?_) | (with_reducible refine belowN ?_ _) | (with_reducible refine bw_alloc ?_ _) | ((with_reducible refine bw_set ?_ ?_ _ _); (focus (with_reducible assumption))))))); (focus (omega)); rintro e w2 ⟨u, rfl, hx, hbk⟩; rw [HY.out] at hx; obtain ⟨uo, uc, rfl⟩ := hx.one; have hmw2 : W1.heap.size ≤ w2.heap.size := (by refine Nat.le_trans ?_ hbk.size; (first | omega | (simp only [size_alloc, size_drew, size_drewN, size_set]; omega) | (simp only [size_alloc, size_drew, size_drewN, size_set]; done))); have hBw2 : Below w.heap.size w w2 := (by refine bw_below ?_ hbk; (repeat (first | (with_reducible assumption) | exact Below.refl _ _ | (with_reducible refine Below.drew ?_) | (with_reducible refine belowN ?_ _) | (with_reducible refine bw_alloc ?_ _) | ((with_reducible refine bw_set ?_ ?_ _ _); (focus (with_reducible assumption)))))); have hXaw2 : Box w2 (w.heap.size) [Value.bool na, Value.slice ao la.length ac] := (by refine Box.below ?_ hbk; (repeat (first | (with_reducible assumption) | (with_reducible refine Box.drew ?_) | (with_reducible refine Box.drewN ?_ _) | ((with_reducible refine Box.new _ _ ?_ ?_); (focus (first | (with_reducible exact rfl) | (simp only [size_alloc, size_drew, size_drewN, size_set]; done))); (focus (exact rfl))) | (with_reducible refine Box.alloc ?_ _) | ((with_reducible refine Box.put ?_ ?_ _ _ ?_); rotate_left) | ((with_reducible refine Box.set ?_ ?_ _ _); (focus (first | (with_reducible assumption) | (refine Ne.symm ?_; (with_reducible assumption))))) | (exact rfl)))); have hca_0w2 := hXaw2.c0; have hca_1w2 := hXaw2.c1; have hXbw2 : Box w2 (w.heap.size + 1) [Value.bool nb, Value.slice bo lb.length bc] := (by refine Box.below ?_ hbk; (repeat (first | (with_reducible assumption) | (with_reducible refine Box.drew ?_) | (with_reducible refine Box.drewN ?_ _) | ((with_reducible refine Box.new _ _ ?_ ?_); (focus (first | (with_reducible exact rfl) | (simp only [size_alloc, size_drew, size_drewN, size_set]; done))); (focus (exact rfl))) | (with_reducible refine Box.alloc ?_ _) | ((with_reducible refine Box.put ?_ ?_ _ _ ?_); rotate_left) | ((with_reducible refine Box.set ?_ ?_ _ _); (focus (first | (with_reducible assumption) | (refine Ne.symm ?_; (with_reducible assumption))))) | (exact rfl)))); have hcb_0w2 := hXbw2.c0; have hcb_1w2 := hXbw2.c1; have hXrw2 : Box w2 (w.heap.size + 1 + 1) [Value.bool false, Value.slice none 0 0] := (by refine Box.below ?_ hbk; (repeat (first | (with_reducible assumption) | (with_reducible refine Box.drew ?_) | (with_reducible refine Box.drewN ?_ _) | ((with_reducible refine Box.new _ _ ?_ ?_); (focus (first | (with_reducible exact rfl) | (simp only [size_alloc, size_drew, size_drewN, size_set]; done))); (focus (exact rfl))) | (with_reducible refine Box.alloc ?_ _) | ((with_reducible refine Box.put ?_ ?_ _ _ ?_); rotate_left) | ((with_reducible refine Box.set ?_ ?_ _ _); (focus (first | (with_reducible assumption) | (refine Ne.symm ?_; (with_reducible assumption))))) | (exact rfl)))); have hcr_0w2 := hXrw2.c0; have hfr_0w2 := hXrw2.free 0; have hcr_1w2 := hXrw2.c1; have hfr_1w2 := hXrw2.free 1) | (go_at_call 49; (with_reducible refine (numof_any (.agg #[.bool nb, .slice bo lb.length bc]) nb lb _ ?_ ?_).mono ?_); (focus (refine IV.keep HC.out ?_; (repeat (first | (with_reducible assumption) | exact Below.refl _ _ | (with_reducible refine Below.drew ?_) | (with_reducible refine belowN ?_ _) | (with_reducible refine bw_alloc ?_ _) | ((with_reducible refine bw_set ?_ ?_ _ _); (focus (with_reducible assumption))))))); (focus (omega)); rintro e w3 ⟨u2, rfl, hz, hbk⟩; rw [HZ.out] at hz; obtain ⟨uo2, uc2, rfl⟩ := hz.one; have hx3 := hx.keep hbk; have hmw3 : w2.heap.size ≤ w3.heap.size := (by refine Nat.le_trans ?_ hbk.size; (first | omega | (simp only [size_alloc, size_drew, size_drewN, size_set]; omega) | (simp only [size_alloc, size_drew, size_drewN, size_set]; done))); have hBw3 : Below w.heap.size w w3 := (by refine bw_below ?_ hbk; (repeat (first | (with_reducible assumption) | exact Below.refl _ _ | (with_reducible refine Below.drew ?_) | (with_reducible refine belowN ?_ _) | (with_reducible refine bw_alloc ?_ _) | ((with_reducible refine bw_set ?_ ?_ _ _); (focus (with_reducible assumption)))))); have hXaw3 : Box w3 (w.heap.size) [Value.bool na, Value.slice ao la.length ac] := (by refine Box.below ?_ hbk; (repeat (first | (with_reducible assumption) | (with_reducible refine Box.drew ?_) | (with_reducible refine Box.drewN ?_ _) | ((with_reducible refine Box.new _ _ ?_ ?_); (focus (first | (with_reducible exact rfl) | (simp only [size_alloc, size_drew, size_drewN, size_set]; done))); (focus (exact rfl))) | (with_reducible refine Box.alloc ?_ _) | ((with_reducible refine Box.put ?_ ?_ _ _ ?_); rotate_left) | ((with_reducible refine Box.set ?_ ?_ _ _); (focus (first | (with_reducible assumption) | (refine Ne.symm ?_; (with_reducible assumption))))) | (exact rfl)))); have hca_0w3 := hXaw3.c0; have hca_1w3 := hXaw3.c1; have hXbw3 : Box w3 (w.heap.size + 1) [Value.bool nb, Value.slice bo lb.length bc] := (by refine Box.below ?_ hbk; (repeat (first | (with_reducible assumption) | (with_reducible refine Box.drew ?_) | (with_reducible refine Box.drewN ?_ _) | ((with_reducible refine Box.new _ _ ?_ ?_); (focus (first | (with_reducible exact rfl) | (simp only [size_alloc, size_drew, size_drewN, size_set]; done))); (focus (exact rfl))) | (with_reducible refine Box.alloc ?_ _) | ((with_reducible refine Box.put ?_ ?_ _ _ ?_); rotate_left) | ((with_reducible refine Box.set ?_ ?_ _ _); (focus (first | (with_reducible assumption) | (refine Ne.symm ?_; (with_reducible assumption))))) | (exact rfl)))); have hcb_0w3 := hXbw3.c0; have hcb_1w3 := hXbw3.c1; have hXrw3 : Box w3 (w.heap.size + 1 + 1) [Value.bool false, Value.slice none 0 0] := (by refine Box.below ?_ hbk; (repeat (first | (with_reducible assumption) | (with_reducible refine Box.drew ?_) | (with_reducible refine Box.drewN ?_ _) | ((with_reducible refine Box.new _ _ ?_ ?_); (focus (first | (with_reducible exact rfl) | (simp only [size_alloc, size_drew, size_drewN, size_set]; done))); (focus (exact rfl))) | (with_reducible refine Box.alloc ?_ _) | ((with_reducible refine Box.put ?_ ?_ _ _ ?_); rotate_left) | ((with_reducible refine Box.set ?_ ?_ _ _); (focus (first | (with_reducible assumption) | (refine Ne.symm ?_; (with_reducible assumption))))) | (exact rfl)))); have hcr_0w3 := hXrw3.c0; have hfr_0w3 := hXrw3.free 0; have hcr_1w3 := hXrw3.c1; have hfr_1w3 := hXrw3.free 1) | (go_at_call 50; (with_reducible refine (turned_any _ z _ _ hz).mono ?_); rintro e w4 ⟨u3, rfl, ht, hbk⟩; rw [← HM.out] at ht; obtain ⟨uo3, uc3, rfl⟩ := ht.one; have hx4 := hx3.keep hbk; have hmw4 : w3.heap.size ≤ w4.heap.size := (by refine Nat.le_trans ?_ hbk.size; (first | omega | (simp only [size_alloc, size_drew, size_drewN, size_set]; omega) | (simp only [size_alloc, size_drew, size_drewN, size_set]; done))); have hBw4 : Below w.heap.size w w4 := (by refine bw_below ?_ hbk; (repeat (first | (with_reducible assumption) | exact Below.refl _ _ | (with_reducible refine Below.drew ?_) | (with_reducible refine belowN ?_ _) | (with_reducible refine bw_alloc ?_ _) | ((with_reducible refine bw_set ?_ ?_ _ _); (focus (with_reducible assumption)))))); have hXaw4 : Box w4 (w.heap.size) [Value.bool na, Value.slice ao la.length ac] := (by refine Box.below ?_ hbk; (repeat (first | (with_reducible assumption) | (with_reducible refine Box.drew ?_) | (with_reducible refine Box.drewN ?_ _) | ((with_reducible refine Box.new _ _ ?_ ?_); (focus (first | (with_reducible exact rfl) | (simp only [size_alloc, size_drew, size_drewN, size_set]; done))); (focus (exact rfl))) | (with_reducible refine Box.alloc ?_ _) | ((with_reducible refine Box.put ?_ ?_ _ _ ?_); rotate_left) | ((with_reducible refine Box.set ?_ ?_ _ _); (focus (first | (with_reducible assumption) | (refine Ne.symm ?_; (with_reducible assumption))))) | (exact rfl)))); have hca_0w4 := hXaw4.c0; have hca_1w4 := hXaw4.c1; have hXbw4 : Box w4 (w.heap.size + 1) [Value.bool nb, Value.slice bo lb.length bc] := (by refine Box.below ?_ hbk; (repeat (first | (with_reducible assumption) | (with_reducible refine Box.drew ?_) | (with_reducible refine Box.drewN ?_ _) | ((with_reducible refine Box.new _ _ ?_ ?_); (focus (first | (with_reducible exact rfl) | (simp only [size_alloc, size_drew, size_drewN, size_set]; done))); (focus (exact rfl))) | (with_reducible refine Box.alloc ?_ _) | ((with_reducible refine Box.put ?_ ?_ _ _ ?_); rotate_left) | ((with_reducible refine Box.set ?_ ?_ _ _); (focus (first | (with_reducible assumption) | (refine Ne.symm ?_; (with_reducible assumption))))) | (exact rfl)))); have hcb_0w4 := hXbw4.c0; have hcb_1w4 := hXbw4.c1; have hXrw4 : Box w4 (w.heap.size + 1 + 1) [Value.bool false, Value.slice none 0 0] := (by refine Box.below ?_ hbk; (repeat (first | (with_reducible assumption) | (with_reducible refine Box.drew ?_) | (with_reducible refine Box.drewN ?_ _) | ((with_reducible refine Box.new _ _ ?_ ?_); (focus (first | (with_reducible exact rfl) | (simp only [size_alloc, size_drew, size_drewN, size_set]; done))); (focus (exact rfl))) | (with_reducible refine Box.alloc ?_ _) | ((with_reducible refine Box.put ?_ ?_ _ _ ?_); rotate_left) | ((with_reducible refine Box.set ?_ ?_ _ _); (focus (first | (with_reducible assumption) | (refine Ne.symm ?_; (with_reducible assumption))))) | (exact rfl)))); have hcr_0w4 := hXrw4.c0; have hfr_0w4 := hXrw4.free 0; have hcr_1w4 := hXrw4.c1; have hfr_1w4 := hXrw4.free 1) | (go_at_call 38; (with_reducible refine (numPlus_any _ _ y m _ _ (k1 + 1) (k2 + 1) _ hx4 ht HKY.out HKM.out ?_).mono ?_); (focus (omega)); rintro e w5 ⟨u4, rfl, hp, hbk⟩; rw [HD.out] at hp; obtain ⟨uo4, uc4, rfl⟩ := hp.one; have hmw5 : w4.heap.size ≤ w5.heap.size := (by refine Nat.le_trans ?_ hbk.size; (first | omega | (simp only [size_alloc, size_drew, size_drewN, size_set]; omega) | (simp only [size_alloc, size_drew, size_drewN, size_set]; done))); have hBw5 : Below w.heap.size w w5 := (by refine bw_below ?_ hbk; (repeat (first | (with_reducible assumption) | exact Below.refl _ _ | (with_reducible refine Below.drew ?_) | (with_reducible refine belowN ?_ _) | (with_reducible refine bw_alloc ?_ _) | ((with_reducible refine bw_set ?_ ?_ _ _); (focus (with_reducible assumption)))))); have hXaw5 : Box w5 (w.heap.size) [Value.bool na, Value.slice ao la.length ac] := (by refine Box.below ?_ hbk; (repeat (first | (with_reducible assumption) | (with_reducible refine Box.drew ?_) | (with_reducible refine Box.drewN ?_ _) | ((with_reducible refine Box.new _ _ ?_ ?_); (focus (first | (with_reducible exact rfl) | (simp only [size_alloc, size_drew, size_drewN, size_set]; done))); (focus (exact rfl))) | (with_reducible refine Box.alloc ?_ _) | ((with_reducible refine Box.put ?_ ?_ _ _ ?_); rotate_left) | ((with_reducible refine Box.set ?_ ?_ _ _); (focus (first | (with_reducible assumption) | (refine Ne.symm ?_; (with_reducible assumption))))) | (exact rfl)))); have hca_0w5 := hXaw5.c0; have hca_1w5 := hXaw5.c1; have hXbw5 : Box w5 (w.heap.size + 1) [Value.bool nb, Value.slice bo lb.length bc] := (by refine Box.below ?_ hbk; (repeat (first | (with_reducible assumption) | (with_reducible refine Box.drew ?_) | (with_reducible refine Box.drewN ?_ _) | ((with_reducible refine Box.new _ _ ?_ ?_); (focus (first | (with_reducible exact rfl) | (simp only [size_alloc, size_drew, size_drewN, size_set]; done))); (focus (exact rfl))) | (with_reducible refine Box.alloc ?_ _) | ((with_reducible refine Box.put ?_ ?_ _ _ ?_); rotate_left) | ((with_reducible refine Box.set ?_ ?_ _ _); (focus (first | (with_reducible assumption) | (refine Ne.symm ?_; (with_reducible assumption))))) | (exact rfl)))); have hcb_0w5 := hXbw5.c0; have hcb_1w5 := hXbw5.c1; have hXrw5 : Box w5 (w.heap.size + 1 + 1) [Value.bool false, Value.slice none 0 0] := (by refine Box.below ?_ hbk; (repeat (first | (with_reducible assumption) | (with_reducible refine Box.drew ?_) | (with_reducible refine Box.drewN ?_ _) | ((with_reducible refine Box.new _ _ ?_ ?_); (focus (first | (with_reducible exact rfl) | (simp only [size_alloc, size_drew, size_drewN, size_set]; done))); (focus (exact rfl))) | (with_reducible refine Box.alloc ?_ _) | ((with_reducible refine Box.put ?_ ?_ _ _ ?_); rotate_left) | ((with_reducible refine Box.set ?_ ?_ _ _); (focus (first | (with_reducible assumption) | (refine Ne.symm ?_; (with_reducible assumption))))) | (exact rfl)))); have hcr_0w5 := hXrw5.c0; have hfr_0w5 := hXrw5.free 0; have hcr_1w5 := hXrw5.c1; have hfr_1w5 := hXrw5.free 1) | (go_at_call 30; (with_reducible refine (out_any _ d _ _ hp HKS.out).mono ?_); rintro e w6 ⟨q, rfl, hq, hbk⟩; obtain ⟨qo, qc, rfl⟩ := hq.one; have hqx := hq.x w.heap.size (show w.heap.size + 1 + 1 + 1 ≤ _ by omega); have hmw6 : w5.heap.size ≤ w6.heap.size := (by refine Nat.le_trans ?_ hbk.size; (first | omega | (simp only [size_alloc, size_drew, size_drewN, size_set]; omega) | (simp only [size_alloc, size_drew, size_drewN, size_set]; done))); have hBw6 : Below w.heap.size w w6 := (by refine bw_below ?_ hbk; (repeat (first | (with_reducible assumption) | exact Below.refl _ _ | (with_reducible refine Below.drew ?_) | (with_reducible refine belowN ?_ _) | (with_reducible refine bw_alloc ?_ _) | ((with_reducible refine bw_set ?_ ?_ _ _); (focus (with_reducible assumption)))))); have hXaw6 : Box w6 (w.heap.size) [Value.bool na, Value.slice ao la.length ac] := (by refine Box.below ?_ hbk; (repeat (first | (with_reducible assumption) | (with_reducible refine Box.drew ?_) | (with_reducible refine Box.drewN ?_ _) | ((with_reducible refine Box.new _ _ ?_ ?_); (focus (first | (with_reducible exact rfl) | (simp only [size_alloc, size_drew, size_drewN, size_set]; done))); (focus (exact rfl))) | (with_reducible refine Box.alloc ?_ _) | ((with_reducible refine Box.put ?_ ?_ _ _ ?_); rotate_left) | ((with_reducible refine Box.set ?_ ?_ _ _); (focus (first | (with_reducible assumption) | (refine Ne.symm ?_; (with_reducible assumption))))) | (exact rfl)))); have hca_0w6 := hXaw6.c0; have hca_1w6 := hXaw6.c1; have hXbw6 : Box w6 (w.heap.size + 1) [Value.bool nb, Value.slice bo lb.length bc] := (by refine Box.below ?_ hbk; (repeat (first | (with_reducible assumption) | (with_reducible refine Box.drew ?_) | (with_reducible refine Box.drewN ?_ _) | ((with_reducible refine Box.new _ _ ?_ ?_); (focus (first | (with_reducible exact rfl) | (simp only [size_alloc, size_drew, size_drewN, size_set]; done))); (focus (exact rfl))) | (with_reducible refine Box.alloc ?_ _) | ((with_reducible refine Box.put ?_ ?_ _ _ ?_); rotate_left) | ((with_reducible refine Box.set ?_ ?_ _ _); (focus (first | (with_reducible assumption) | (refine Ne.symm ?_; (with_reducible assumption))))) | (exact rfl)))); have hcb_0w6 := hXbw6.c0; have hcb_1w6 := hXbw6.c1; have hXrw6 : Box w6 (w.heap.size + 1 + 1) [Value.bool false, Value.slice none 0 0] := (by refine Box.below ?_ hbk; (repeat (first | (with_reducible assumption) | (with_reducible refine Box.drew ?_) | (with_reducible refine Box.drewN ?_ _) | ((with_reducible refine Box.new _ _ ?_ ?_); (focus (first | (with_reducible exact rfl) | (simp only [size_alloc, size_drew, size_drewN, size_set]; done))); (focus (exact rfl))) | (with_reducible refine Box.alloc ?_ _) | ((with_reducible refine Box.put ?_ ?_ _ _ ?_); rotate_left) | ((with_reducible refine Box.set ?_ ?_ _ _); (focus (first | (with_reducible assumption) | (refine Ne.symm ?_; (with_reducible assumption))))) | (exact rfl)))); have hcr_0w6 := hXrw6.c0; have hfr_0w6 := hXrw6.free 0; have hcr_1w6 := hXrw6.c1; have hfr_1w6 := hXrw6.free 1))
  go_wp2_with fail
  have hinr : w.heap.size + 1 + 1 < w.heap.size + 1 + 1 + 1 := by omega
  refine ret_gen fun W2 hW => ?_
  have hm2 : w6.heap.size ≤ W2.heap.size := by rw [hW]; (first | omega | (simp only [size_alloc, size_drew, size_drewN, size_set]; omega) | (simp only [size_alloc, size_drew, size_drewN, size_set]; done))
  have hB' : Below w.heap.size w W2 := by rw [hW]; (repeat (first | (with_reducible assumption) | exact Below.refl _ _ | (with_reducible refine Below.drew ?_) | (with_reducible refine belowN ?_ _) | (with_reducible refine bw_alloc ?_ _) | ((with_reducible refine bw_set ?_ ?_ _ _); (focus (with_reducible assumption)))))
  have hXr' : Box W2 (w.heap.size + 1 + 1) [Value.bool (zNeg (d)), Value.slice qo (digs 1000000000 (d).natAbs).length qc] := by rw [hW]; (repeat (first | (with_reducible assumption) | (with_reducible refine Box.drew ?_) | (with_reducible refine Box.drewN ?_ _) | ((with_reducible refine Box.new _ _ ?_ ?_); (focus (first | (with_reducible exact rfl) | (simp only [size_alloc, size_drew, size_drewN, size_set]; done))); (focus (exact rfl))) | (with_reducible refine Box.alloc ?_ _) | ((with_reducible refine Box.put ?_ ?_ _ _ ?_); rotate_left) | ((with_reducible refine Box.set ?_ ?_ _ _); (focus (first | (with_reducible assumption) | (refine Ne.symm ?_; (with_reducible assumption))))) | (exact rfl)))
  have hq' : IOX W2 w4.heap.size w.heap.size (w.heap.size + 1 + 1 + 1) 60 (.agg #[Value.bool (zNeg (d)), Value.slice qo (digs 1000000000 (d).natAbs).length qc]) d := by rw [hW]; (repeat (first | (with_reducible assumption) | (with_reducible refine IOX.drew ?_) | (with_reducible refine IOX.alloc ?_ _) | ((with_reducible refine IOX.set ?_ ?_ ?_ _ _); (focus (with_reducible assumption)); (focus (with_reducible assumption)))))
  clear hW
  clear hfr_1 hcr_1 hfr_0 hcr_0 hcb_1 hcb_0 hca_1 hca_0 hXr hXb hXa hB
  have hB := hB'; have hXr := hXr'
  clear hB' hXr'
  have hcr_0 := hXr.c0; have hfr_0 := hXr.free 0; have hcr_1 := hXr.c1; have hfr_1 := hXr.free 1
  refine bodyPost_ret (v := .agg #[Value.bool (zNeg (d)), Value.slice qo (digs 1000000000 (d).natAbs).length qc]) (by simp [results, Tryz.results22, go_sem, hcr_0, hcr_1]) rfl ?_
  rw [← HDD.out]
  exact ⟨_, rfl, hq'.io.low (by omega), hB⟩

end Go.Proofs.YtemcpgfoggdaiaaGreatDoor
