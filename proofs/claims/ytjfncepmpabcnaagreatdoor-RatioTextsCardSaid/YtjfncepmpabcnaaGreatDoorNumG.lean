/- num: denial, difference, order, right. -/
import Derived.Test.YtjfncepmpabcnaaGreatDoorNumF
namespace Go.Proofs.YtjfncepmpabcnaaGreatDoor
open Go.RowKit
set_option linter.unusedSimpArgs false
set_option linter.unusedVariables false
attribute [local go_sem ↓] Go.wp_at_zero Go.wp_at_succ

set_option maxRecDepth 100000 in
set_option maxHeartbeats 1000000 in
theorem numNeg_any (v : Value) (y : Int) (k : Nat) (w : World) (hv : IZ w v y k) (hk : k ≤ 100000) :
    Calls Tryz.prog 91 #[v] w fun e w' => ∃ x, e = .returned x ∧ IO w' w.heap.size 103 x (-y) ∧ Below w.heap.size w w' := by
  obtain ⟨m, hm⟩ : ∃ m, m = -y := ⟨_, rfl⟩
  have HK : Hid (ZB m 1000000) := by rw [hm]; exact hv.zb.neg.mono (by omega)
  have HM := Lib.hid hm
  clear hm
  obtain ⟨na, la, hA, hla, hy⟩ := hv
  obtain ⟨ao, ac, rfl⟩ := hA.sh
  have HA := Lib.hid hA
  have HY := Lib.hid hy
  clear hA hy
  go_enter Tryz.func91, Tryz.ntmps91
  go_wp2_with fail
  have hB := Below.refl w.heap.size w
  have hbs := hB.size
  have hga : w.heap.size ≤ w.heap.size := by omega
  have hgr : w.heap.size ≤ w.heap.size + 1 := by omega
  have hn_r_a : w.heap.size + 1 ≠ w.heap.size := by omega
  clear hbs
  refine calls_gen fun W1 hW => ?_
  have hm1 : w.heap.size ≤ W1.heap.size := by rw [hW]; (first | omega | (simp only [size_alloc, size_drew, size_drewN, size_set]; omega) | (simp only [size_alloc, size_drew, size_drewN, size_set]; done))
  have hB' : Below w.heap.size w W1 := by rw [hW]; (repeat (first | (with_reducible assumption) | exact Below.refl _ _ | (with_reducible refine Below.drew ?_) | (with_reducible refine belowN ?_ _) | (with_reducible refine bw_alloc ?_ _) | ((with_reducible refine bw_set ?_ ?_ _ _); (focus (with_reducible assumption)))))
  have hXa' : Box W1 (w.heap.size) [Value.bool na, Value.slice ao la.length ac] := by rw [hW]; (repeat (first | (with_reducible assumption) | (with_reducible refine Box.drew ?_) | (with_reducible refine Box.drewN ?_ _) | ((with_reducible refine Box.new _ _ ?_ ?_); (focus (first | (with_reducible exact rfl) | (simp only [size_alloc, size_drew, size_drewN, size_set]; done))); (focus (exact rfl))) | (with_reducible refine Box.alloc ?_ _) | ((with_reducible refine Box.put ?_ ?_ _ _ ?_); rotate_left) | ((with_reducible refine Box.set ?_ ?_ _ _); (focus (first | (with_reducible assumption) | (refine Ne.symm ?_; (with_reducible assumption))))) | (exact rfl)))
  have hXr' : Box W1 (w.heap.size + 1) [Value.bool false, Value.slice none 0 0] := by rw [hW]; (repeat (first | (with_reducible assumption) | (with_reducible refine Box.drew ?_) | (with_reducible refine Box.drewN ?_ _) | ((with_reducible refine Box.new _ _ ?_ ?_); (focus (first | (with_reducible exact rfl) | (simp only [size_alloc, size_drew, size_drewN, size_set]; done))); (focus (exact rfl))) | (with_reducible refine Box.alloc ?_ _) | ((with_reducible refine Box.put ?_ ?_ _ _ ?_); rotate_left) | ((with_reducible refine Box.set ?_ ?_ _ _); (focus (first | (with_reducible assumption) | (refine Ne.symm ?_; (with_reducible assumption))))) | (exact rfl)))
  clear hW
  clear hB
  have hB := hB'; have hXa := hXa'; have hXr := hXr'
  clear hB' hXa' hXr'
  have hca_0 := hXa.c0; have hca_1 := hXa.c1; have hcr_0 := hXr.c0; have hfr_0 := hXr.free 0; have hcr_1 := hXr.c1; have hfr_1 := hXr.free 1
  have hW1x : w.heap.size + 1 + 1 ≤ W1.heap.size := hXr.lt
  refine (numof_any _ na la _ (HA.out.keep hB) (by omega)).mono ?_
  rintro e W2 ⟨u, rfl, hu, hb⟩
  rw [HY.out] at hu
  obtain ⟨uo, uc, rfl⟩ := hu.one
  have HU := Lib.hid (hu.x w.heap.size hW1x)
  clear hu
  have hL : Below W1.heap.size W1 W2 := hb
  have hm2 := hL.size
  have hB' := bw_below hB hL
  have hXa' := hXa.below hL
  have hXr' := hXr.below hL
  clear hL hb
  clear hfr_1 hcr_1 hfr_0 hcr_0 hca_1 hca_0 hXr hXa hB
  have hB := hB'; have hXa := hXa'; have hXr := hXr'
  clear hB' hXa' hXr'
  have hca_0 := hXa.c0; have hca_1 := hXa.c1; have hcr_0 := hXr.c0; have hfr_0 := hXr.free 0; have hcr_1 := hXr.c1; have hfr_1 := hXr.free 1
  go_wp2_with fail
  refine (turnedX_any _ y _ _ _ _ HU.out).mono ?_
  rintro e W3 ⟨u2, rfl, hu2, hb⟩
  rw [← HM.out] at hu2
  obtain ⟨uo2, uc2, rfl⟩ := hu2.one
  have HU2 := Lib.hid hu2
  clear hu2
  have hL : Below W2.heap.size W2 W3 := hb
  have hm3 := hL.size
  have hB' := bw_below hB hL
  have hXa' := hXa.below hL
  have hXr' := hXr.below hL
  clear hL hb
  clear hfr_1 hcr_1 hfr_0 hcr_0 hca_1 hca_0 hXr hXa hB
  have hB := hB'; have hXa := hXa'; have hXr := hXr'
  clear hB' hXa' hXr'
  have hca_0 := hXa.c0; have hca_1 := hXa.c1; have hcr_0 := hXr.c0; have hfr_0 := hXr.free 0; have hcr_1 := hXr.c1; have hfr_1 := hXr.free 1
  go_wp2_with fail
  refine (outX_any _ m _ _ _ _ HU2.out HK.out).mono ?_
  rintro e W4 ⟨q, rfl, hq, hb⟩
  obtain ⟨qo, qc, rfl⟩ := hq.one
  have HQ := Lib.hid hq
  clear hq
  have hL : Below W3.heap.size W3 W4 := hb
  have hm4 := hL.size
  have hB' := bw_below hB hL
  have hXa' := hXa.below hL
  have hXr' := hXr.below hL
  clear hL hb
  clear hfr_1 hcr_1 hfr_0 hcr_0 hca_1 hca_0 hXr hXa hB
  have hB := hB'; have hXa := hXa'; have hXr := hXr'
  clear hB' hXa' hXr'
  have hca_0 := hXa.c0; have hca_1 := hXa.c1; have hcr_0 := hXr.c0; have hfr_0 := hXr.free 0; have hcr_1 := hXr.c1; have hfr_1 := hXr.free 1
  go_wp2_with fail
  have hinr : w.heap.size + 1 < w.heap.size + 1 + 1 := by omega
  have hq0 := HQ.out
  refine ret_gen fun W5 hW => ?_
  have hm5 : W4.heap.size ≤ W5.heap.size := by rw [hW]; (first | omega | (simp only [size_alloc, size_drew, size_drewN, size_set]; omega) | (simp only [size_alloc, size_drew, size_drewN, size_set]; done))
  have hB' : Below w.heap.size w W5 := by rw [hW]; (repeat (first | (with_reducible assumption) | exact Below.refl _ _ | (with_reducible refine Below.drew ?_) | (with_reducible refine belowN ?_ _) | (with_reducible refine bw_alloc ?_ _) | ((with_reducible refine bw_set ?_ ?_ _ _); (focus (with_reducible assumption)))))
  have hXr' : Box W5 (w.heap.size + 1) [Value.bool (zNeg (m)), Value.slice qo (digs 1000000000 (m).natAbs).length qc] := by rw [hW]; (repeat (first | (with_reducible assumption) | (with_reducible refine Box.drew ?_) | (with_reducible refine Box.drewN ?_ _) | ((with_reducible refine Box.new _ _ ?_ ?_); (focus (first | (with_reducible exact rfl) | (simp only [size_alloc, size_drew, size_drewN, size_set]; done))); (focus (exact rfl))) | (with_reducible refine Box.alloc ?_ _) | ((with_reducible refine Box.put ?_ ?_ _ _ ?_); rotate_left) | ((with_reducible refine Box.set ?_ ?_ _ _); (focus (first | (with_reducible assumption) | (refine Ne.symm ?_; (with_reducible assumption))))) | (exact rfl)))
  have hq' : IOX W5 W1.heap.size w.heap.size (w.heap.size + 1 + 1) 103 (.agg #[Value.bool (zNeg (m)), Value.slice qo (digs 1000000000 (m).natAbs).length qc]) m := by rw [hW]; (repeat (first | (with_reducible assumption) | (with_reducible refine IOX.drew ?_) | (with_reducible refine IOX.alloc ?_ _) | ((with_reducible refine IOX.set ?_ ?_ ?_ _ _); (focus (with_reducible assumption)); (focus (with_reducible assumption)))))
  clear hW
  clear hfr_1 hcr_1 hfr_0 hcr_0 hca_1 hca_0 hXr hXa hB
  have hB := hB'; have hXr := hXr'
  clear hB' hXr'
  have hcr_0 := hXr.c0; have hfr_0 := hXr.free 0; have hcr_1 := hXr.c1; have hfr_1 := hXr.free 1
  refine bodyPost_ret (v := .agg #[Value.bool (zNeg (m)), Value.slice qo (digs 1000000000 (m).natAbs).length qc]) (by simp [results, Tryz.results91, go_sem, hcr_0, hcr_1]) rfl ?_
  rw [← HM.out]
  exact ⟨_, rfl, hq'.io.low (by omega), hB⟩

end Go.Proofs.YtjfncepmpabcnaaGreatDoor
