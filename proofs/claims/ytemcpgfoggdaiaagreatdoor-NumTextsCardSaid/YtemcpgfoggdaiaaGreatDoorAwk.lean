/- num's law: awake. -/
import Derived.Test.YtemcpgfoggdaiaaGreatDoorNumL
import Derived.Test.YtemcpgfoggdaiaaGreatDoorNumK
namespace Go.Proofs.YtemcpgfoggdaiaaGreatDoor
open Go.RowKit
set_option linter.unusedSimpArgs false
set_option linter.unusedVariables false
attribute [local go_sem ↓] Go.wp_at_zero Go.wp_at_succ

theorem par0 : Hid (okZ (⟨#[45, 48]⟩ : ByteArray).data.toList = false) := by unfold Hid; decide
theorem par1 : Hid (okZ (⟨#[43, 49]⟩ : ByteArray).data.toList = false) := by unfold Hid; decide

set_option maxRecDepth 100000 in
set_option maxHeartbeats 4000000 in
theorem awake2_any (w : World) (htab : Tab w) : Calls Tryz.prog 6 #[] w fun e w' => e = .returned (.bool true) ∧ Below w.heap.size w w' := by
  have HT := Lib.hid htab
  clear htab
  go_enter Tryz.func6, Tryz.ntmps6
  go_wp2_with fail
  have hB := Below.refl w.heap.size w
  refine (numOf_any (-7) _ (by decide) (by decide)).mono ?_
  rintro e W1 ⟨ua0, rfl, hua0, hb⟩
  have hL : Below w.heap.size w W1 := hb
  have hm1 := hL.size
  have hB' := bw_below hB hL
  have Ua0 := Lib.hid hua0
  have FUa0' := Fr.refl (w.heap.size) W1
  clear hL hb hua0
  clear hB
  have hB := hB'; have FUa0 := FUa0'
  clear hB' FUa0'
  go_wp2_with fail
  refine (numOf_any (2) _ (by decide) (by decide)).mono ?_
  rintro e W2 ⟨ub0, rfl, hub0, hb⟩
  have hL : Below W1.heap.size W1 W2 := hb
  have hm2 := hL.size
  have hB' := bw_below hB hL
  have FUa0' := FUa0.below hL
  have Ub0 := Lib.hid hub0
  have FUb0' := Fr.refl (W1.heap.size) W2
  clear hL hb hub0
  clear FUa0 hB
  have hB := hB'; have FUa0 := FUa0'; have FUb0 := FUb0'
  clear hB' FUa0' FUb0'
  go_wp2_with fail
  refine (div_law (y := (-7)) (x := (2)) (q := (-4)) (r := (1)) ((Ua0.out.fr FUa0).i2.iz (zb1 (by decide))) ((Ub0.out.fr FUb0).i2.iz (zb1 (by decide))) (by decide) (by decide) (by decide) (by decide)).mono ?_
  rintro e W3 ⟨q0, r0, rfl, hq0, hr0, hb⟩
  obtain ⟨qn0, qo0, ql0, qc0, rfl⟩ := hq0.opq
  obtain ⟨rn0, ro0, rl0, rc0, rfl⟩ := hr0.opq
  have hL : Below W2.heap.size W2 W3 := hb
  have hm3 := hL.size
  have hB' := bw_below hB hL
  have FUa0' := FUa0.below hL
  have FUb0' := FUb0.below hL
  have Q0 := Lib.hid hq0
  have FQ0' := Fr.refl (W2.heap.size) W3
  have R0 := Lib.hid hr0
  have FR0' := Fr.refl (W2.heap.size) W3
  clear hL hb hq0 hr0
  clear FUb0 FUa0 hB
  have hB := hB'; have FUa0 := FUa0'; have FUb0 := FUb0'; have FQ0 := FQ0'; have FR0 := FR0'
  clear hB' FUa0' FUb0' FQ0' FR0'
  go_wp2_with fail
  have hbs := hB.size
  have hszQ0 := FQ0.size
  have hszR0 := FR0.size
  have hgq0 : w.heap.size ≤ W3.heap.size := hbs
  have hd_Q0_q0 : W3.heap.size < W2.heap.size ∨ W3.heap.size ≤ W3.heap.size := .inr (hszQ0)
  have hd_R0_q0 : W3.heap.size < W2.heap.size ∨ W3.heap.size ≤ W3.heap.size := .inr (hszR0)
  have hgr0 : w.heap.size ≤ W3.heap.size + 1 := blk_le hbs 1
  have hn_r0_q0 : W3.heap.size + 1 ≠ W3.heap.size := blk_ne0 1 (by decide)
  have hd_Q0_r0 : W3.heap.size + 1 < W2.heap.size ∨ W3.heap.size ≤ W3.heap.size + 1 := .inr (blk_le hszQ0 1)
  have hd_R0_r0 : W3.heap.size + 1 < W2.heap.size ∨ W3.heap.size ≤ W3.heap.size + 1 := .inr (blk_le hszR0 1)
  clear hbs hszQ0 hszR0
  refine calls_gen fun W4 hW => ?_
  have hm4 : W3.heap.size ≤ W4.heap.size := by rw [hW]; (first | (simp only [size_alloc, size_drew, size_drewN, size_set]; (repeat (first | exact Nat.le_refl _ | refine Nat.le_succ_of_le ?_)); done) | omega | (simp only [size_alloc, size_drew, size_drewN, size_set]; omega) | (simp only [size_alloc, size_drew, size_drewN, size_set]; done))
  have hB' : Below w.heap.size w W4 := by rw [hW]; (repeat (first | (with_reducible assumption) | exact Below.refl _ _ | (with_reducible refine Below.drew ?_) | (with_reducible refine belowN ?_ _) | (with_reducible refine bw_alloc ?_ _) | ((with_reducible refine bw_set ?_ ?_ _ _); (focus (with_reducible assumption)))))
  have hXq0' : Box W4 (W3.heap.size) [Value.bool qn0, Value.slice qo0 ql0 qc0] := by rw [hW]; (repeat (first | (with_reducible assumption) | (with_reducible refine Box.drew ?_) | (with_reducible refine Box.drewN ?_ _) | ((with_reducible refine Box.new _ _ ?_ ?_); (focus (first | (with_reducible exact rfl) | (simp only [size_alloc, size_drew, size_drewN, size_set]; done))); (focus (exact rfl))) | (with_reducible refine Box.alloc ?_ _) | ((with_reducible refine Box.put ?_ ?_ _ _ ?_); rotate_left) | ((with_reducible refine Box.set ?_ ?_ _ _); (focus (first | (with_reducible assumption) | (refine Ne.symm ?_; (with_reducible assumption))))) | (exact rfl)))
  have hXr0' : Box W4 (W3.heap.size + 1) [Value.bool rn0, Value.slice ro0 rl0 rc0] := by rw [hW]; (repeat (first | (with_reducible assumption) | (with_reducible refine Box.drew ?_) | (with_reducible refine Box.drewN ?_ _) | ((with_reducible refine Box.new _ _ ?_ ?_); (focus (first | (with_reducible exact rfl) | (simp only [size_alloc, size_drew, size_drewN, size_set]; done))); (focus (exact rfl))) | (with_reducible refine Box.alloc ?_ _) | ((with_reducible refine Box.put ?_ ?_ _ _ ?_); rotate_left) | ((with_reducible refine Box.set ?_ ?_ _ _); (focus (first | (with_reducible assumption) | (refine Ne.symm ?_; (with_reducible assumption))))) | (exact rfl)))
  have FQ0' : Fr W3 (W2.heap.size) W4 := by rw [hW]; (repeat (first | (with_reducible assumption) | exact Fr.refl _ _ | (with_reducible refine Fr.drew ?_) | (with_reducible refine Fr.drewN ?_ _) | (with_reducible refine Fr.alloc ?_ _) | ((with_reducible refine Fr.set ?_ ?_ _); (focus (with_reducible assumption)))))
  have FR0' : Fr W3 (W2.heap.size) W4 := by rw [hW]; (repeat (first | (with_reducible assumption) | exact Fr.refl _ _ | (with_reducible refine Fr.drew ?_) | (with_reducible refine Fr.drewN ?_ _) | (with_reducible refine Fr.alloc ?_ _) | ((with_reducible refine Fr.set ?_ ?_ _); (focus (with_reducible assumption)))))
  clear hW
  clear FR0 FQ0 FUb0 FUa0 hB
  have hB := hB'; have hXq0 := hXq0'; have hXr0 := hXr0'; have FQ0 := FQ0'; have FR0 := FR0'
  clear hB' hXq0' hXr0' FQ0' FR0'
  have hcq0_0 := hXq0.c0; have hcq0_1 := hXq0.c1; have hcr0_0 := hXr0.c0; have hcr0_1 := hXr0.c1
  refine (numOf_any (7) _ (by decide) (by decide)).mono ?_
  rintro e W5 ⟨ua1, rfl, hua1, hb⟩
  have hL : Below W4.heap.size W4 W5 := hb
  have hm5 := hL.size
  have hB' := bw_below hB hL
  have hXq0' := hXq0.below hL
  have hXr0' := hXr0.below hL
  have FQ0' := FQ0.below hL
  have FR0' := FR0.below hL
  have Ua1 := Lib.hid hua1
  have hd_Ua1_q0 : W3.heap.size < W4.heap.size ∨ W5.heap.size ≤ W3.heap.size := .inl hXq0.lt
  have hd_Ua1_r0 : W3.heap.size + 1 < W4.heap.size ∨ W5.heap.size ≤ W3.heap.size + 1 := .inl hXr0.lt
  have FUa1' := Fr.refl (W4.heap.size) W5
  clear hL hb hua1
  clear hcr0_1 hcr0_0 hcq0_1 hcq0_0 FR0 FQ0 hXr0 hXq0 hB
  have hB := hB'; have hXq0 := hXq0'; have hXr0 := hXr0'; have FQ0 := FQ0'; have FR0 := FR0'; have FUa1 := FUa1'
  clear hB' hXq0' hXr0' FQ0' FR0' FUa1'
  have hcq0_0 := hXq0.c0; have hcq0_1 := hXq0.c1; have hcr0_0 := hXr0.c0; have hcr0_1 := hXr0.c1
  go_wp2_with fail
  refine (numOf_any (-2) _ (by decide) (by decide)).mono ?_
  rintro e W6 ⟨ub1, rfl, hub1, hb⟩
  have hL : Below W5.heap.size W5 W6 := hb
  have hm6 := hL.size
  have hB' := bw_below hB hL
  have hXq0' := hXq0.below hL
  have hXr0' := hXr0.below hL
  have FQ0' := FQ0.below hL
  have FR0' := FR0.below hL
  have FUa1' := FUa1.below hL
  have Ub1 := Lib.hid hub1
  have hd_Ub1_q0 : W3.heap.size < W5.heap.size ∨ W6.heap.size ≤ W3.heap.size := .inl hXq0.lt
  have hd_Ub1_r0 : W3.heap.size + 1 < W5.heap.size ∨ W6.heap.size ≤ W3.heap.size + 1 := .inl hXr0.lt
  have FUb1' := Fr.refl (W5.heap.size) W6
  clear hL hb hub1
  clear hcr0_1 hcr0_0 hcq0_1 hcq0_0 FUa1 FR0 FQ0 hXr0 hXq0 hB
  have hB := hB'; have hXq0 := hXq0'; have hXr0 := hXr0'; have FQ0 := FQ0'; have FR0 := FR0'; have FUa1 := FUa1'; have FUb1 := FUb1'
  clear hB' hXq0' hXr0' FQ0' FR0' FUa1' FUb1'
  have hcq0_0 := hXq0.c0; have hcq0_1 := hXq0.c1; have hcr0_0 := hXr0.c0; have hcr0_1 := hXr0.c1
  go_wp2_with fail
  refine (div_law (y := (7)) (x := (-2)) (q := (-4)) (r := (-1)) ((Ua1.out.fr FUa1).i2.iz (zb1 (by decide))) ((Ub1.out.fr FUb1).i2.iz (zb1 (by decide))) (by decide) (by decide) (by decide) (by decide)).mono ?_
  rintro e W7 ⟨q1, r1, rfl, hq1, hr1, hb⟩
  obtain ⟨qn1, qo1, ql1, qc1, rfl⟩ := hq1.opq
  obtain ⟨rn1, ro1, rl1, rc1, rfl⟩ := hr1.opq
  have hL : Below W6.heap.size W6 W7 := hb
  have hm7 := hL.size
  have hB' := bw_below hB hL
  have hXq0' := hXq0.below hL
  have hXr0' := hXr0.below hL
  have FQ0' := FQ0.below hL
  have FR0' := FR0.below hL
  have FUa1' := FUa1.below hL
  have FUb1' := FUb1.below hL
  have Q1 := Lib.hid hq1
  have hd_Q1_q0 : W3.heap.size < W6.heap.size ∨ W7.heap.size ≤ W3.heap.size := .inl hXq0.lt
  have hd_Q1_r0 : W3.heap.size + 1 < W6.heap.size ∨ W7.heap.size ≤ W3.heap.size + 1 := .inl hXr0.lt
  have FQ1' := Fr.refl (W6.heap.size) W7
  have R1 := Lib.hid hr1
  have hd_R1_q0 : W3.heap.size < W6.heap.size ∨ W7.heap.size ≤ W3.heap.size := .inl hXq0.lt
  have hd_R1_r0 : W3.heap.size + 1 < W6.heap.size ∨ W7.heap.size ≤ W3.heap.size + 1 := .inl hXr0.lt
  have FR1' := Fr.refl (W6.heap.size) W7
  clear hL hb hq1 hr1
  clear hcr0_1 hcr0_0 hcq0_1 hcq0_0 FUb1 FUa1 FR0 FQ0 hXr0 hXq0 hB
  have hB := hB'; have hXq0 := hXq0'; have hXr0 := hXr0'; have FQ0 := FQ0'; have FR0 := FR0'; have FUa1 := FUa1'; have FUb1 := FUb1'; have FQ1 := FQ1'; have FR1 := FR1'
  clear hB' hXq0' hXr0' FQ0' FR0' FUa1' FUb1' FQ1' FR1'
  have hcq0_0 := hXq0.c0; have hcq0_1 := hXq0.c1; have hcr0_0 := hXr0.c0; have hcr0_1 := hXr0.c1
  go_wp2_with fail
  have hbs := hB.size
  have hltq0 := hXq0.lt
  have hltr0 := hXr0.lt
  have hszQ0 := FQ0.size
  have hszR0 := FR0.size
  have hszQ1 := FQ1.size
  have hszR1 := FR1.size
  have hgq1 : w.heap.size ≤ W7.heap.size := hbs
  have hn_q1_q0 : W7.heap.size ≠ W3.heap.size := Nat.ne_of_gt hltq0
  have hn_q1_r0 : W7.heap.size ≠ W3.heap.size + 1 := Nat.ne_of_gt hltr0
  have hd_Q0_q1 : W7.heap.size < W2.heap.size ∨ W3.heap.size ≤ W7.heap.size := .inr (hszQ0)
  have hd_R0_q1 : W7.heap.size < W2.heap.size ∨ W3.heap.size ≤ W7.heap.size := .inr (hszR0)
  have hd_Q1_q1 : W7.heap.size < W6.heap.size ∨ W7.heap.size ≤ W7.heap.size := .inr (hszQ1)
  have hd_R1_q1 : W7.heap.size < W6.heap.size ∨ W7.heap.size ≤ W7.heap.size := .inr (hszR1)
  have hgr1 : w.heap.size ≤ W7.heap.size + 1 := blk_le hbs 1
  have hn_r1_q0 : W7.heap.size + 1 ≠ W3.heap.size := blk_ne hltq0 1
  have hn_r1_r0 : W7.heap.size + 1 ≠ W3.heap.size + 1 := blk_ne hltr0 1
  have hn_r1_q1 : W7.heap.size + 1 ≠ W7.heap.size := blk_ne0 1 (by decide)
  have hd_Q0_r1 : W7.heap.size + 1 < W2.heap.size ∨ W3.heap.size ≤ W7.heap.size + 1 := .inr (blk_le hszQ0 1)
  have hd_R0_r1 : W7.heap.size + 1 < W2.heap.size ∨ W3.heap.size ≤ W7.heap.size + 1 := .inr (blk_le hszR0 1)
  have hd_Q1_r1 : W7.heap.size + 1 < W6.heap.size ∨ W7.heap.size ≤ W7.heap.size + 1 := .inr (blk_le hszQ1 1)
  have hd_R1_r1 : W7.heap.size + 1 < W6.heap.size ∨ W7.heap.size ≤ W7.heap.size + 1 := .inr (blk_le hszR1 1)
  clear hbs hltq0 hltr0 hszQ0 hszR0 hszQ1 hszR1
  refine calls_gen fun W8 hW => ?_
  have hm8 : W7.heap.size ≤ W8.heap.size := by rw [hW]; (first | (simp only [size_alloc, size_drew, size_drewN, size_set]; (repeat (first | exact Nat.le_refl _ | refine Nat.le_succ_of_le ?_)); done) | omega | (simp only [size_alloc, size_drew, size_drewN, size_set]; omega) | (simp only [size_alloc, size_drew, size_drewN, size_set]; done))
  have hB' : Below w.heap.size w W8 := by rw [hW]; (repeat (first | (with_reducible assumption) | exact Below.refl _ _ | (with_reducible refine Below.drew ?_) | (with_reducible refine belowN ?_ _) | (with_reducible refine bw_alloc ?_ _) | ((with_reducible refine bw_set ?_ ?_ _ _); (focus (with_reducible assumption)))))
  have hXq0' : Box W8 (W3.heap.size) [Value.bool qn0, Value.slice qo0 ql0 qc0] := by rw [hW]; (repeat (first | (with_reducible assumption) | (with_reducible refine Box.drew ?_) | (with_reducible refine Box.drewN ?_ _) | ((with_reducible refine Box.new _ _ ?_ ?_); (focus (first | (with_reducible exact rfl) | (simp only [size_alloc, size_drew, size_drewN, size_set]; done))); (focus (exact rfl))) | (with_reducible refine Box.alloc ?_ _) | ((with_reducible refine Box.put ?_ ?_ _ _ ?_); rotate_left) | ((with_reducible refine Box.set ?_ ?_ _ _); (focus (first | (with_reducible assumption) | (refine Ne.symm ?_; (with_reducible assumption))))) | (exact rfl)))
  have hXr0' : Box W8 (W3.heap.size + 1) [Value.bool rn0, Value.slice ro0 rl0 rc0] := by rw [hW]; (repeat (first | (with_reducible assumption) | (with_reducible refine Box.drew ?_) | (with_reducible refine Box.drewN ?_ _) | ((with_reducible refine Box.new _ _ ?_ ?_); (focus (first | (with_reducible exact rfl) | (simp only [size_alloc, size_drew, size_drewN, size_set]; done))); (focus (exact rfl))) | (with_reducible refine Box.alloc ?_ _) | ((with_reducible refine Box.put ?_ ?_ _ _ ?_); rotate_left) | ((with_reducible refine Box.set ?_ ?_ _ _); (focus (first | (with_reducible assumption) | (refine Ne.symm ?_; (with_reducible assumption))))) | (exact rfl)))
  have hXq1' : Box W8 (W7.heap.size) [Value.bool qn1, Value.slice qo1 ql1 qc1] := by rw [hW]; (repeat (first | (with_reducible assumption) | (with_reducible refine Box.drew ?_) | (with_reducible refine Box.drewN ?_ _) | ((with_reducible refine Box.new _ _ ?_ ?_); (focus (first | (with_reducible exact rfl) | (simp only [size_alloc, size_drew, size_drewN, size_set]; done))); (focus (exact rfl))) | (with_reducible refine Box.alloc ?_ _) | ((with_reducible refine Box.put ?_ ?_ _ _ ?_); rotate_left) | ((with_reducible refine Box.set ?_ ?_ _ _); (focus (first | (with_reducible assumption) | (refine Ne.symm ?_; (with_reducible assumption))))) | (exact rfl)))
  have hXr1' : Box W8 (W7.heap.size + 1) [Value.bool rn1, Value.slice ro1 rl1 rc1] := by rw [hW]; (repeat (first | (with_reducible assumption) | (with_reducible refine Box.drew ?_) | (with_reducible refine Box.drewN ?_ _) | ((with_reducible refine Box.new _ _ ?_ ?_); (focus (first | (with_reducible exact rfl) | (simp only [size_alloc, size_drew, size_drewN, size_set]; done))); (focus (exact rfl))) | (with_reducible refine Box.alloc ?_ _) | ((with_reducible refine Box.put ?_ ?_ _ _ ?_); rotate_left) | ((with_reducible refine Box.set ?_ ?_ _ _); (focus (first | (with_reducible assumption) | (refine Ne.symm ?_; (with_reducible assumption))))) | (exact rfl)))
  have FQ0' : Fr W3 (W2.heap.size) W8 := by rw [hW]; (repeat (first | (with_reducible assumption) | exact Fr.refl _ _ | (with_reducible refine Fr.drew ?_) | (with_reducible refine Fr.drewN ?_ _) | (with_reducible refine Fr.alloc ?_ _) | ((with_reducible refine Fr.set ?_ ?_ _); (focus (with_reducible assumption)))))
  have FR0' : Fr W3 (W2.heap.size) W8 := by rw [hW]; (repeat (first | (with_reducible assumption) | exact Fr.refl _ _ | (with_reducible refine Fr.drew ?_) | (with_reducible refine Fr.drewN ?_ _) | (with_reducible refine Fr.alloc ?_ _) | ((with_reducible refine Fr.set ?_ ?_ _); (focus (with_reducible assumption)))))
  have FQ1' : Fr W7 (W6.heap.size) W8 := by rw [hW]; (repeat (first | (with_reducible assumption) | exact Fr.refl _ _ | (with_reducible refine Fr.drew ?_) | (with_reducible refine Fr.drewN ?_ _) | (with_reducible refine Fr.alloc ?_ _) | ((with_reducible refine Fr.set ?_ ?_ _); (focus (with_reducible assumption)))))
  have FR1' : Fr W7 (W6.heap.size) W8 := by rw [hW]; (repeat (first | (with_reducible assumption) | exact Fr.refl _ _ | (with_reducible refine Fr.drew ?_) | (with_reducible refine Fr.drewN ?_ _) | (with_reducible refine Fr.alloc ?_ _) | ((with_reducible refine Fr.set ?_ ?_ _); (focus (with_reducible assumption)))))
  clear hW
  clear hcr0_1 hcr0_0 hcq0_1 hcq0_0 FR1 FQ1 FUb1 FUa1 FR0 FQ0 hXr0 hXq0 hB
  have hB := hB'; have hXq0 := hXq0'; have hXr0 := hXr0'; have hXq1 := hXq1'; have hXr1 := hXr1'; have FQ0 := FQ0'; have FR0 := FR0'; have FQ1 := FQ1'; have FR1 := FR1'
  clear hB' hXq0' hXr0' hXq1' hXr1' FQ0' FR0' FQ1' FR1'
  have hcq0_0 := hXq0.c0; have hcq0_1 := hXq0.c1; have hcr0_0 := hXr0.c0; have hcr0_1 := hXr0.c1; have hcq1_0 := hXq1.c0; have hcq1_1 := hXq1.c1; have hcr1_0 := hXr1.c0; have hcr1_1 := hXr1.c1
  refine (numOf_any (-7) _ (by decide) (by decide)).mono ?_
  rintro e W9 ⟨ua2, rfl, hua2, hb⟩
  have hL : Below W8.heap.size W8 W9 := hb
  have hm9 := hL.size
  have hB' := bw_below hB hL
  have hXq0' := hXq0.below hL
  have hXr0' := hXr0.below hL
  have hXq1' := hXq1.below hL
  have hXr1' := hXr1.below hL
  have FQ0' := FQ0.below hL
  have FR0' := FR0.below hL
  have FQ1' := FQ1.below hL
  have FR1' := FR1.below hL
  have Ua2 := Lib.hid hua2
  have hd_Ua2_q0 : W3.heap.size < W8.heap.size ∨ W9.heap.size ≤ W3.heap.size := .inl hXq0.lt
  have hd_Ua2_r0 : W3.heap.size + 1 < W8.heap.size ∨ W9.heap.size ≤ W3.heap.size + 1 := .inl hXr0.lt
  have hd_Ua2_q1 : W7.heap.size < W8.heap.size ∨ W9.heap.size ≤ W7.heap.size := .inl hXq1.lt
  have hd_Ua2_r1 : W7.heap.size + 1 < W8.heap.size ∨ W9.heap.size ≤ W7.heap.size + 1 := .inl hXr1.lt
  have FUa2' := Fr.refl (W8.heap.size) W9
  clear hL hb hua2
  clear hcr1_1 hcr1_0 hcq1_1 hcq1_0 hcr0_1 hcr0_0 hcq0_1 hcq0_0 FR1 FQ1 FR0 FQ0 hXr1 hXq1 hXr0 hXq0 hB
  have hB := hB'; have hXq0 := hXq0'; have hXr0 := hXr0'; have hXq1 := hXq1'; have hXr1 := hXr1'; have FQ0 := FQ0'; have FR0 := FR0'; have FQ1 := FQ1'; have FR1 := FR1'; have FUa2 := FUa2'
  clear hB' hXq0' hXr0' hXq1' hXr1' FQ0' FR0' FQ1' FR1' FUa2'
  have hcq0_0 := hXq0.c0; have hcq0_1 := hXq0.c1; have hcr0_0 := hXr0.c0; have hcr0_1 := hXr0.c1; have hcq1_0 := hXq1.c0; have hcq1_1 := hXq1.c1; have hcr1_0 := hXr1.c0; have hcr1_1 := hXr1.c1
  go_wp2_with fail
  refine (numOf_any (-2) _ (by decide) (by decide)).mono ?_
  rintro e W10 ⟨ub2, rfl, hub2, hb⟩
  have hL : Below W9.heap.size W9 W10 := hb
  have hm10 := hL.size
  have hB' := bw_below hB hL
  have hXq0' := hXq0.below hL
  have hXr0' := hXr0.below hL
  have hXq1' := hXq1.below hL
  have hXr1' := hXr1.below hL
  have FQ0' := FQ0.below hL
  have FR0' := FR0.below hL
  have FQ1' := FQ1.below hL
  have FR1' := FR1.below hL
  have FUa2' := FUa2.below hL
  have Ub2 := Lib.hid hub2
  have hd_Ub2_q0 : W3.heap.size < W9.heap.size ∨ W10.heap.size ≤ W3.heap.size := .inl hXq0.lt
  have hd_Ub2_r0 : W3.heap.size + 1 < W9.heap.size ∨ W10.heap.size ≤ W3.heap.size + 1 := .inl hXr0.lt
  have hd_Ub2_q1 : W7.heap.size < W9.heap.size ∨ W10.heap.size ≤ W7.heap.size := .inl hXq1.lt
  have hd_Ub2_r1 : W7.heap.size + 1 < W9.heap.size ∨ W10.heap.size ≤ W7.heap.size + 1 := .inl hXr1.lt
  have FUb2' := Fr.refl (W9.heap.size) W10
  clear hL hb hub2
  clear hcr1_1 hcr1_0 hcq1_1 hcq1_0 hcr0_1 hcr0_0 hcq0_1 hcq0_0 FUa2 FR1 FQ1 FR0 FQ0 hXr1 hXq1 hXr0 hXq0 hB
  have hB := hB'; have hXq0 := hXq0'; have hXr0 := hXr0'; have hXq1 := hXq1'; have hXr1 := hXr1'; have FQ0 := FQ0'; have FR0 := FR0'; have FQ1 := FQ1'; have FR1 := FR1'; have FUa2 := FUa2'; have FUb2 := FUb2'
  clear hB' hXq0' hXr0' hXq1' hXr1' FQ0' FR0' FQ1' FR1' FUa2' FUb2'
  have hcq0_0 := hXq0.c0; have hcq0_1 := hXq0.c1; have hcr0_0 := hXr0.c0; have hcr0_1 := hXr0.c1; have hcq1_0 := hXq1.c0; have hcq1_1 := hXq1.c1; have hcr1_0 := hXr1.c0; have hcr1_1 := hXr1.c1
  go_wp2_with fail
  refine (div_law (y := (-7)) (x := (-2)) (q := (3)) (r := (-1)) ((Ua2.out.fr FUa2).i2.iz (zb1 (by decide))) ((Ub2.out.fr FUb2).i2.iz (zb1 (by decide))) (by decide) (by decide) (by decide) (by decide)).mono ?_
  rintro e W11 ⟨q2, r2, rfl, hq2, hr2, hb⟩
  obtain ⟨qn2, qo2, ql2, qc2, rfl⟩ := hq2.opq
  obtain ⟨rn2, ro2, rl2, rc2, rfl⟩ := hr2.opq
  have hL : Below W10.heap.size W10 W11 := hb
  have hm11 := hL.size
  have hB' := bw_below hB hL
  have hXq0' := hXq0.below hL
  have hXr0' := hXr0.below hL
  have hXq1' := hXq1.below hL
  have hXr1' := hXr1.below hL
  have FQ0' := FQ0.below hL
  have FR0' := FR0.below hL
  have FQ1' := FQ1.below hL
  have FR1' := FR1.below hL
  have FUa2' := FUa2.below hL
  have FUb2' := FUb2.below hL
  have Q2 := Lib.hid hq2
  have hd_Q2_q0 : W3.heap.size < W10.heap.size ∨ W11.heap.size ≤ W3.heap.size := .inl hXq0.lt
  have hd_Q2_r0 : W3.heap.size + 1 < W10.heap.size ∨ W11.heap.size ≤ W3.heap.size + 1 := .inl hXr0.lt
  have hd_Q2_q1 : W7.heap.size < W10.heap.size ∨ W11.heap.size ≤ W7.heap.size := .inl hXq1.lt
  have hd_Q2_r1 : W7.heap.size + 1 < W10.heap.size ∨ W11.heap.size ≤ W7.heap.size + 1 := .inl hXr1.lt
  have FQ2' := Fr.refl (W10.heap.size) W11
  have R2 := Lib.hid hr2
  have hd_R2_q0 : W3.heap.size < W10.heap.size ∨ W11.heap.size ≤ W3.heap.size := .inl hXq0.lt
  have hd_R2_r0 : W3.heap.size + 1 < W10.heap.size ∨ W11.heap.size ≤ W3.heap.size + 1 := .inl hXr0.lt
  have hd_R2_q1 : W7.heap.size < W10.heap.size ∨ W11.heap.size ≤ W7.heap.size := .inl hXq1.lt
  have hd_R2_r1 : W7.heap.size + 1 < W10.heap.size ∨ W11.heap.size ≤ W7.heap.size + 1 := .inl hXr1.lt
  have FR2' := Fr.refl (W10.heap.size) W11
  clear hL hb hq2 hr2
  clear hcr1_1 hcr1_0 hcq1_1 hcq1_0 hcr0_1 hcr0_0 hcq0_1 hcq0_0 FUb2 FUa2 FR1 FQ1 FR0 FQ0 hXr1 hXq1 hXr0 hXq0 hB
  have hB := hB'; have hXq0 := hXq0'; have hXr0 := hXr0'; have hXq1 := hXq1'; have hXr1 := hXr1'; have FQ0 := FQ0'; have FR0 := FR0'; have FQ1 := FQ1'; have FR1 := FR1'; have FUa2 := FUa2'; have FUb2 := FUb2'; have FQ2 := FQ2'; have FR2 := FR2'
  clear hB' hXq0' hXr0' hXq1' hXr1' FQ0' FR0' FQ1' FR1' FUa2' FUb2' FQ2' FR2'
  have hcq0_0 := hXq0.c0; have hcq0_1 := hXq0.c1; have hcr0_0 := hXr0.c0; have hcr0_1 := hXr0.c1; have hcq1_0 := hXq1.c0; have hcq1_1 := hXq1.c1; have hcr1_0 := hXr1.c0; have hcr1_1 := hXr1.c1
  go_wp2_with fail
  have hbs := hB.size
  have hltq0 := hXq0.lt
  have hltr0 := hXr0.lt
  have hltq1 := hXq1.lt
  have hltr1 := hXr1.lt
  have hszQ0 := FQ0.size
  have hszR0 := FR0.size
  have hszQ1 := FQ1.size
  have hszR1 := FR1.size
  have hszQ2 := FQ2.size
  have hszR2 := FR2.size
  have hgq2 : w.heap.size ≤ W11.heap.size := hbs
  have hn_q2_q0 : W11.heap.size ≠ W3.heap.size := Nat.ne_of_gt hltq0
  have hn_q2_r0 : W11.heap.size ≠ W3.heap.size + 1 := Nat.ne_of_gt hltr0
  have hn_q2_q1 : W11.heap.size ≠ W7.heap.size := Nat.ne_of_gt hltq1
  have hn_q2_r1 : W11.heap.size ≠ W7.heap.size + 1 := Nat.ne_of_gt hltr1
  have hd_Q0_q2 : W11.heap.size < W2.heap.size ∨ W3.heap.size ≤ W11.heap.size := .inr (hszQ0)
  have hd_R0_q2 : W11.heap.size < W2.heap.size ∨ W3.heap.size ≤ W11.heap.size := .inr (hszR0)
  have hd_Q1_q2 : W11.heap.size < W6.heap.size ∨ W7.heap.size ≤ W11.heap.size := .inr (hszQ1)
  have hd_R1_q2 : W11.heap.size < W6.heap.size ∨ W7.heap.size ≤ W11.heap.size := .inr (hszR1)
  have hd_Q2_q2 : W11.heap.size < W10.heap.size ∨ W11.heap.size ≤ W11.heap.size := .inr (hszQ2)
  have hd_R2_q2 : W11.heap.size < W10.heap.size ∨ W11.heap.size ≤ W11.heap.size := .inr (hszR2)
  have hgr2 : w.heap.size ≤ W11.heap.size + 1 := blk_le hbs 1
  have hn_r2_q0 : W11.heap.size + 1 ≠ W3.heap.size := blk_ne hltq0 1
  have hn_r2_r0 : W11.heap.size + 1 ≠ W3.heap.size + 1 := blk_ne hltr0 1
  have hn_r2_q1 : W11.heap.size + 1 ≠ W7.heap.size := blk_ne hltq1 1
  have hn_r2_r1 : W11.heap.size + 1 ≠ W7.heap.size + 1 := blk_ne hltr1 1
  have hn_r2_q2 : W11.heap.size + 1 ≠ W11.heap.size := blk_ne0 1 (by decide)
  have hd_Q0_r2 : W11.heap.size + 1 < W2.heap.size ∨ W3.heap.size ≤ W11.heap.size + 1 := .inr (blk_le hszQ0 1)
  have hd_R0_r2 : W11.heap.size + 1 < W2.heap.size ∨ W3.heap.size ≤ W11.heap.size + 1 := .inr (blk_le hszR0 1)
  have hd_Q1_r2 : W11.heap.size + 1 < W6.heap.size ∨ W7.heap.size ≤ W11.heap.size + 1 := .inr (blk_le hszQ1 1)
  have hd_R1_r2 : W11.heap.size + 1 < W6.heap.size ∨ W7.heap.size ≤ W11.heap.size + 1 := .inr (blk_le hszR1 1)
  have hd_Q2_r2 : W11.heap.size + 1 < W10.heap.size ∨ W11.heap.size ≤ W11.heap.size + 1 := .inr (blk_le hszQ2 1)
  have hd_R2_r2 : W11.heap.size + 1 < W10.heap.size ∨ W11.heap.size ≤ W11.heap.size + 1 := .inr (blk_le hszR2 1)
  clear hbs hltq0 hltr0 hltq1 hltr1 hszQ0 hszR0 hszQ1 hszR1 hszQ2 hszR2
  refine calls_gen fun W12 hW => ?_
  have hm12 : W11.heap.size ≤ W12.heap.size := by rw [hW]; (first | (simp only [size_alloc, size_drew, size_drewN, size_set]; (repeat (first | exact Nat.le_refl _ | refine Nat.le_succ_of_le ?_)); done) | omega | (simp only [size_alloc, size_drew, size_drewN, size_set]; omega) | (simp only [size_alloc, size_drew, size_drewN, size_set]; done))
  have hB' : Below w.heap.size w W12 := by rw [hW]; (repeat (first | (with_reducible assumption) | exact Below.refl _ _ | (with_reducible refine Below.drew ?_) | (with_reducible refine belowN ?_ _) | (with_reducible refine bw_alloc ?_ _) | ((with_reducible refine bw_set ?_ ?_ _ _); (focus (with_reducible assumption)))))
  have hXq0' : Box W12 (W3.heap.size) [Value.bool qn0, Value.slice qo0 ql0 qc0] := by rw [hW]; (repeat (first | (with_reducible assumption) | (with_reducible refine Box.drew ?_) | (with_reducible refine Box.drewN ?_ _) | ((with_reducible refine Box.new _ _ ?_ ?_); (focus (first | (with_reducible exact rfl) | (simp only [size_alloc, size_drew, size_drewN, size_set]; done))); (focus (exact rfl))) | (with_reducible refine Box.alloc ?_ _) | ((with_reducible refine Box.put ?_ ?_ _ _ ?_); rotate_left) | ((with_reducible refine Box.set ?_ ?_ _ _); (focus (first | (with_reducible assumption) | (refine Ne.symm ?_; (with_reducible assumption))))) | (exact rfl)))
  have hXr0' : Box W12 (W3.heap.size + 1) [Value.bool rn0, Value.slice ro0 rl0 rc0] := by rw [hW]; (repeat (first | (with_reducible assumption) | (with_reducible refine Box.drew ?_) | (with_reducible refine Box.drewN ?_ _) | ((with_reducible refine Box.new _ _ ?_ ?_); (focus (first | (with_reducible exact rfl) | (simp only [size_alloc, size_drew, size_drewN, size_set]; done))); (focus (exact rfl))) | (with_reducible refine Box.alloc ?_ _) | ((with_reducible refine Box.put ?_ ?_ _ _ ?_); rotate_left) | ((with_reducible refine Box.set ?_ ?_ _ _); (focus (first | (with_reducible assumption) | (refine Ne.symm ?_; (with_reducible assumption))))) | (exact rfl)))
  have hXq1' : Box W12 (W7.heap.size) [Value.bool qn1, Value.slice qo1 ql1 qc1] := by rw [hW]; (repeat (first | (with_reducible assumption) | (with_reducible refine Box.drew ?_) | (with_reducible refine Box.drewN ?_ _) | ((with_reducible refine Box.new _ _ ?_ ?_); (focus (first | (with_reducible exact rfl) | (simp only [size_alloc, size_drew, size_drewN, size_set]; done))); (focus (exact rfl))) | (with_reducible refine Box.alloc ?_ _) | ((with_reducible refine Box.put ?_ ?_ _ _ ?_); rotate_left) | ((with_reducible refine Box.set ?_ ?_ _ _); (focus (first | (with_reducible assumption) | (refine Ne.symm ?_; (with_reducible assumption))))) | (exact rfl)))
  have hXr1' : Box W12 (W7.heap.size + 1) [Value.bool rn1, Value.slice ro1 rl1 rc1] := by rw [hW]; (repeat (first | (with_reducible assumption) | (with_reducible refine Box.drew ?_) | (with_reducible refine Box.drewN ?_ _) | ((with_reducible refine Box.new _ _ ?_ ?_); (focus (first | (with_reducible exact rfl) | (simp only [size_alloc, size_drew, size_drewN, size_set]; done))); (focus (exact rfl))) | (with_reducible refine Box.alloc ?_ _) | ((with_reducible refine Box.put ?_ ?_ _ _ ?_); rotate_left) | ((with_reducible refine Box.set ?_ ?_ _ _); (focus (first | (with_reducible assumption) | (refine Ne.symm ?_; (with_reducible assumption))))) | (exact rfl)))
  have hXq2' : Box W12 (W11.heap.size) [Value.bool qn2, Value.slice qo2 ql2 qc2] := by rw [hW]; (repeat (first | (with_reducible assumption) | (with_reducible refine Box.drew ?_) | (with_reducible refine Box.drewN ?_ _) | ((with_reducible refine Box.new _ _ ?_ ?_); (focus (first | (with_reducible exact rfl) | (simp only [size_alloc, size_drew, size_drewN, size_set]; done))); (focus (exact rfl))) | (with_reducible refine Box.alloc ?_ _) | ((with_reducible refine Box.put ?_ ?_ _ _ ?_); rotate_left) | ((with_reducible refine Box.set ?_ ?_ _ _); (focus (first | (with_reducible assumption) | (refine Ne.symm ?_; (with_reducible assumption))))) | (exact rfl)))
  have hXr2' : Box W12 (W11.heap.size + 1) [Value.bool rn2, Value.slice ro2 rl2 rc2] := by rw [hW]; (repeat (first | (with_reducible assumption) | (with_reducible refine Box.drew ?_) | (with_reducible refine Box.drewN ?_ _) | ((with_reducible refine Box.new _ _ ?_ ?_); (focus (first | (with_reducible exact rfl) | (simp only [size_alloc, size_drew, size_drewN, size_set]; done))); (focus (exact rfl))) | (with_reducible refine Box.alloc ?_ _) | ((with_reducible refine Box.put ?_ ?_ _ _ ?_); rotate_left) | ((with_reducible refine Box.set ?_ ?_ _ _); (focus (first | (with_reducible assumption) | (refine Ne.symm ?_; (with_reducible assumption))))) | (exact rfl)))
  have FQ0' : Fr W3 (W2.heap.size) W12 := by rw [hW]; (repeat (first | (with_reducible assumption) | exact Fr.refl _ _ | (with_reducible refine Fr.drew ?_) | (with_reducible refine Fr.drewN ?_ _) | (with_reducible refine Fr.alloc ?_ _) | ((with_reducible refine Fr.set ?_ ?_ _); (focus (with_reducible assumption)))))
  have FR0' : Fr W3 (W2.heap.size) W12 := by rw [hW]; (repeat (first | (with_reducible assumption) | exact Fr.refl _ _ | (with_reducible refine Fr.drew ?_) | (with_reducible refine Fr.drewN ?_ _) | (with_reducible refine Fr.alloc ?_ _) | ((with_reducible refine Fr.set ?_ ?_ _); (focus (with_reducible assumption)))))
  have FQ1' : Fr W7 (W6.heap.size) W12 := by rw [hW]; (repeat (first | (with_reducible assumption) | exact Fr.refl _ _ | (with_reducible refine Fr.drew ?_) | (with_reducible refine Fr.drewN ?_ _) | (with_reducible refine Fr.alloc ?_ _) | ((with_reducible refine Fr.set ?_ ?_ _); (focus (with_reducible assumption)))))
  have FR1' : Fr W7 (W6.heap.size) W12 := by rw [hW]; (repeat (first | (with_reducible assumption) | exact Fr.refl _ _ | (with_reducible refine Fr.drew ?_) | (with_reducible refine Fr.drewN ?_ _) | (with_reducible refine Fr.alloc ?_ _) | ((with_reducible refine Fr.set ?_ ?_ _); (focus (with_reducible assumption)))))
  have FQ2' : Fr W11 (W10.heap.size) W12 := by rw [hW]; (repeat (first | (with_reducible assumption) | exact Fr.refl _ _ | (with_reducible refine Fr.drew ?_) | (with_reducible refine Fr.drewN ?_ _) | (with_reducible refine Fr.alloc ?_ _) | ((with_reducible refine Fr.set ?_ ?_ _); (focus (with_reducible assumption)))))
  have FR2' : Fr W11 (W10.heap.size) W12 := by rw [hW]; (repeat (first | (with_reducible assumption) | exact Fr.refl _ _ | (with_reducible refine Fr.drew ?_) | (with_reducible refine Fr.drewN ?_ _) | (with_reducible refine Fr.alloc ?_ _) | ((with_reducible refine Fr.set ?_ ?_ _); (focus (with_reducible assumption)))))
  clear hW
  clear hcr1_1 hcr1_0 hcq1_1 hcq1_0 hcr0_1 hcr0_0 hcq0_1 hcq0_0 FR2 FQ2 FUb2 FUa2 FR1 FQ1 FR0 FQ0 hXr1 hXq1 hXr0 hXq0 hB
  have hB := hB'; have hXq0 := hXq0'; have hXr0 := hXr0'; have hXq1 := hXq1'; have hXr1 := hXr1'; have hXq2 := hXq2'; have hXr2 := hXr2'; have FQ0 := FQ0'; have FR0 := FR0'; have FQ1 := FQ1'; have FR1 := FR1'; have FQ2 := FQ2'; have FR2 := FR2'
  clear hB' hXq0' hXr0' hXq1' hXr1' hXq2' hXr2' FQ0' FR0' FQ1' FR1' FQ2' FR2'
  have hcq0_0 := hXq0.c0; have hcq0_1 := hXq0.c1; have hcr0_0 := hXr0.c0; have hcr0_1 := hXr0.c1; have hcq1_0 := hXq1.c0; have hcq1_1 := hXq1.c1; have hcr1_0 := hXr1.c0; have hcr1_1 := hXr1.c1; have hcq2_0 := hXq2.c0; have hcq2_1 := hXq2.c1; have hcr2_0 := hXr2.c0; have hcr2_1 := hXr2.c1
  refine (numParse_any ⟨#[45, 48]⟩ _ (by decide)).mono ?_
  rintro e W13 ⟨p0, rfl, hp0, hb⟩
  rw [par0.out]
  obtain ⟨pn0, po0, pl0, pc0, rfl⟩ := hp0.opq
  clear hp0
  have hL : Below W12.heap.size W12 W13 := hb
  have hm13 := hL.size
  have hB' := bw_below hB hL
  have hXq0' := hXq0.below hL
  have hXr0' := hXr0.below hL
  have hXq1' := hXq1.below hL
  have hXr1' := hXr1.below hL
  have hXq2' := hXq2.below hL
  have hXr2' := hXr2.below hL
  have FQ0' := FQ0.below hL
  have FR0' := FR0.below hL
  have FQ1' := FQ1.below hL
  have FR1' := FR1.below hL
  have FQ2' := FQ2.below hL
  have FR2' := FR2.below hL
  clear hL hb
  clear hcr2_1 hcr2_0 hcq2_1 hcq2_0 hcr1_1 hcr1_0 hcq1_1 hcq1_0 hcr0_1 hcr0_0 hcq0_1 hcq0_0 FR2 FQ2 FR1 FQ1 FR0 FQ0 hXr2 hXq2 hXr1 hXq1 hXr0 hXq0 hB
  have hB := hB'; have hXq0 := hXq0'; have hXr0 := hXr0'; have hXq1 := hXq1'; have hXr1 := hXr1'; have hXq2 := hXq2'; have hXr2 := hXr2'; have FQ0 := FQ0'; have FR0 := FR0'; have FQ1 := FQ1'; have FR1 := FR1'; have FQ2 := FQ2'; have FR2 := FR2'
  clear hB' hXq0' hXr0' hXq1' hXr1' hXq2' hXr2' FQ0' FR0' FQ1' FR1' FQ2' FR2'
  have hcq0_0 := hXq0.c0; have hcq0_1 := hXq0.c1; have hcr0_0 := hXr0.c0; have hcr0_1 := hXr0.c1; have hcq1_0 := hXq1.c0; have hcq1_1 := hXq1.c1; have hcr1_0 := hXr1.c0; have hcr1_1 := hXr1.c1; have hcq2_0 := hXq2.c0; have hcq2_1 := hXq2.c1; have hcr2_0 := hXr2.c0; have hcr2_1 := hXr2.c1
  go_wp2_with fail
  refine calls_gen fun W14 hW => ?_
  have hm14 : W13.heap.size ≤ W14.heap.size := by rw [hW]; (first | (simp only [size_alloc, size_drew, size_drewN, size_set]; (repeat (first | exact Nat.le_refl _ | refine Nat.le_succ_of_le ?_)); done) | omega | (simp only [size_alloc, size_drew, size_drewN, size_set]; omega) | (simp only [size_alloc, size_drew, size_drewN, size_set]; done))
  have hB' : Below w.heap.size w W14 := by rw [hW]; (repeat (first | (with_reducible assumption) | exact Below.refl _ _ | (with_reducible refine Below.drew ?_) | (with_reducible refine belowN ?_ _) | (with_reducible refine bw_alloc ?_ _) | ((with_reducible refine bw_set ?_ ?_ _ _); (focus (with_reducible assumption)))))
  have hXq0' : Box W14 (W3.heap.size) [Value.bool qn0, Value.slice qo0 ql0 qc0] := by rw [hW]; (repeat (first | (with_reducible assumption) | (with_reducible refine Box.drew ?_) | (with_reducible refine Box.drewN ?_ _) | ((with_reducible refine Box.new _ _ ?_ ?_); (focus (first | (with_reducible exact rfl) | (simp only [size_alloc, size_drew, size_drewN, size_set]; done))); (focus (exact rfl))) | (with_reducible refine Box.alloc ?_ _) | ((with_reducible refine Box.put ?_ ?_ _ _ ?_); rotate_left) | ((with_reducible refine Box.set ?_ ?_ _ _); (focus (first | (with_reducible assumption) | (refine Ne.symm ?_; (with_reducible assumption))))) | (exact rfl)))
  have hXr0' : Box W14 (W3.heap.size + 1) [Value.bool rn0, Value.slice ro0 rl0 rc0] := by rw [hW]; (repeat (first | (with_reducible assumption) | (with_reducible refine Box.drew ?_) | (with_reducible refine Box.drewN ?_ _) | ((with_reducible refine Box.new _ _ ?_ ?_); (focus (first | (with_reducible exact rfl) | (simp only [size_alloc, size_drew, size_drewN, size_set]; done))); (focus (exact rfl))) | (with_reducible refine Box.alloc ?_ _) | ((with_reducible refine Box.put ?_ ?_ _ _ ?_); rotate_left) | ((with_reducible refine Box.set ?_ ?_ _ _); (focus (first | (with_reducible assumption) | (refine Ne.symm ?_; (with_reducible assumption))))) | (exact rfl)))
  have hXq1' : Box W14 (W7.heap.size) [Value.bool qn1, Value.slice qo1 ql1 qc1] := by rw [hW]; (repeat (first | (with_reducible assumption) | (with_reducible refine Box.drew ?_) | (with_reducible refine Box.drewN ?_ _) | ((with_reducible refine Box.new _ _ ?_ ?_); (focus (first | (with_reducible exact rfl) | (simp only [size_alloc, size_drew, size_drewN, size_set]; done))); (focus (exact rfl))) | (with_reducible refine Box.alloc ?_ _) | ((with_reducible refine Box.put ?_ ?_ _ _ ?_); rotate_left) | ((with_reducible refine Box.set ?_ ?_ _ _); (focus (first | (with_reducible assumption) | (refine Ne.symm ?_; (with_reducible assumption))))) | (exact rfl)))
  have hXr1' : Box W14 (W7.heap.size + 1) [Value.bool rn1, Value.slice ro1 rl1 rc1] := by rw [hW]; (repeat (first | (with_reducible assumption) | (with_reducible refine Box.drew ?_) | (with_reducible refine Box.drewN ?_ _) | ((with_reducible refine Box.new _ _ ?_ ?_); (focus (first | (with_reducible exact rfl) | (simp only [size_alloc, size_drew, size_drewN, size_set]; done))); (focus (exact rfl))) | (with_reducible refine Box.alloc ?_ _) | ((with_reducible refine Box.put ?_ ?_ _ _ ?_); rotate_left) | ((with_reducible refine Box.set ?_ ?_ _ _); (focus (first | (with_reducible assumption) | (refine Ne.symm ?_; (with_reducible assumption))))) | (exact rfl)))
  have hXq2' : Box W14 (W11.heap.size) [Value.bool qn2, Value.slice qo2 ql2 qc2] := by rw [hW]; (repeat (first | (with_reducible assumption) | (with_reducible refine Box.drew ?_) | (with_reducible refine Box.drewN ?_ _) | ((with_reducible refine Box.new _ _ ?_ ?_); (focus (first | (with_reducible exact rfl) | (simp only [size_alloc, size_drew, size_drewN, size_set]; done))); (focus (exact rfl))) | (with_reducible refine Box.alloc ?_ _) | ((with_reducible refine Box.put ?_ ?_ _ _ ?_); rotate_left) | ((with_reducible refine Box.set ?_ ?_ _ _); (focus (first | (with_reducible assumption) | (refine Ne.symm ?_; (with_reducible assumption))))) | (exact rfl)))
  have hXr2' : Box W14 (W11.heap.size + 1) [Value.bool rn2, Value.slice ro2 rl2 rc2] := by rw [hW]; (repeat (first | (with_reducible assumption) | (with_reducible refine Box.drew ?_) | (with_reducible refine Box.drewN ?_ _) | ((with_reducible refine Box.new _ _ ?_ ?_); (focus (first | (with_reducible exact rfl) | (simp only [size_alloc, size_drew, size_drewN, size_set]; done))); (focus (exact rfl))) | (with_reducible refine Box.alloc ?_ _) | ((with_reducible refine Box.put ?_ ?_ _ _ ?_); rotate_left) | ((with_reducible refine Box.set ?_ ?_ _ _); (focus (first | (with_reducible assumption) | (refine Ne.symm ?_; (with_reducible assumption))))) | (exact rfl)))
  have FQ0' : Fr W3 (W2.heap.size) W14 := by rw [hW]; (repeat (first | (with_reducible assumption) | exact Fr.refl _ _ | (with_reducible refine Fr.drew ?_) | (with_reducible refine Fr.drewN ?_ _) | (with_reducible refine Fr.alloc ?_ _) | ((with_reducible refine Fr.set ?_ ?_ _); (focus (with_reducible assumption)))))
  have FR0' : Fr W3 (W2.heap.size) W14 := by rw [hW]; (repeat (first | (with_reducible assumption) | exact Fr.refl _ _ | (with_reducible refine Fr.drew ?_) | (with_reducible refine Fr.drewN ?_ _) | (with_reducible refine Fr.alloc ?_ _) | ((with_reducible refine Fr.set ?_ ?_ _); (focus (with_reducible assumption)))))
  have FQ1' : Fr W7 (W6.heap.size) W14 := by rw [hW]; (repeat (first | (with_reducible assumption) | exact Fr.refl _ _ | (with_reducible refine Fr.drew ?_) | (with_reducible refine Fr.drewN ?_ _) | (with_reducible refine Fr.alloc ?_ _) | ((with_reducible refine Fr.set ?_ ?_ _); (focus (with_reducible assumption)))))
  have FR1' : Fr W7 (W6.heap.size) W14 := by rw [hW]; (repeat (first | (with_reducible assumption) | exact Fr.refl _ _ | (with_reducible refine Fr.drew ?_) | (with_reducible refine Fr.drewN ?_ _) | (with_reducible refine Fr.alloc ?_ _) | ((with_reducible refine Fr.set ?_ ?_ _); (focus (with_reducible assumption)))))
  have FQ2' : Fr W11 (W10.heap.size) W14 := by rw [hW]; (repeat (first | (with_reducible assumption) | exact Fr.refl _ _ | (with_reducible refine Fr.drew ?_) | (with_reducible refine Fr.drewN ?_ _) | (with_reducible refine Fr.alloc ?_ _) | ((with_reducible refine Fr.set ?_ ?_ _); (focus (with_reducible assumption)))))
  have FR2' : Fr W11 (W10.heap.size) W14 := by rw [hW]; (repeat (first | (with_reducible assumption) | exact Fr.refl _ _ | (with_reducible refine Fr.drew ?_) | (with_reducible refine Fr.drewN ?_ _) | (with_reducible refine Fr.alloc ?_ _) | ((with_reducible refine Fr.set ?_ ?_ _); (focus (with_reducible assumption)))))
  clear hW
  clear hcr2_1 hcr2_0 hcq2_1 hcq2_0 hcr1_1 hcr1_0 hcq1_1 hcq1_0 hcr0_1 hcr0_0 hcq0_1 hcq0_0 FR2 FQ2 FR1 FQ1 FR0 FQ0 hXr2 hXq2 hXr1 hXq1 hXr0 hXq0 hB
  have hB := hB'; have hXq0 := hXq0'; have hXr0 := hXr0'; have hXq1 := hXq1'; have hXr1 := hXr1'; have hXq2 := hXq2'; have hXr2 := hXr2'; have FQ0 := FQ0'; have FR0 := FR0'; have FQ1 := FQ1'; have FR1 := FR1'; have FQ2 := FQ2'; have FR2 := FR2'
  clear hB' hXq0' hXr0' hXq1' hXr1' hXq2' hXr2' FQ0' FR0' FQ1' FR1' FQ2' FR2'
  have hcq0_0 := hXq0.c0; have hcq0_1 := hXq0.c1; have hcr0_0 := hXr0.c0; have hcr0_1 := hXr0.c1; have hcq1_0 := hXq1.c0; have hcq1_1 := hXq1.c1; have hcr1_0 := hXr1.c0; have hcr1_1 := hXr1.c1; have hcq2_0 := hXq2.c0; have hcq2_1 := hXq2.c1; have hcr2_0 := hXr2.c0; have hcr2_1 := hXr2.c1
  refine (numParse_any ⟨#[43, 49]⟩ _ (by decide)).mono ?_
  rintro e W15 ⟨p1, rfl, hp1, hb⟩
  rw [par1.out]
  obtain ⟨pn1, po1, pl1, pc1, rfl⟩ := hp1.opq
  clear hp1
  have hL : Below W14.heap.size W14 W15 := hb
  have hm15 := hL.size
  have hB' := bw_below hB hL
  have hXq0' := hXq0.below hL
  have hXr0' := hXr0.below hL
  have hXq1' := hXq1.below hL
  have hXr1' := hXr1.below hL
  have hXq2' := hXq2.below hL
  have hXr2' := hXr2.below hL
  have FQ0' := FQ0.below hL
  have FR0' := FR0.below hL
  have FQ1' := FQ1.below hL
  have FR1' := FR1.below hL
  have FQ2' := FQ2.below hL
  have FR2' := FR2.below hL
  clear hL hb
  clear hcr2_1 hcr2_0 hcq2_1 hcq2_0 hcr1_1 hcr1_0 hcq1_1 hcq1_0 hcr0_1 hcr0_0 hcq0_1 hcq0_0 FR2 FQ2 FR1 FQ1 FR0 FQ0 hXr2 hXq2 hXr1 hXq1 hXr0 hXq0 hB
  have hB := hB'; have hXq0 := hXq0'; have hXr0 := hXr0'; have hXq1 := hXq1'; have hXr1 := hXr1'; have hXq2 := hXq2'; have hXr2 := hXr2'; have FQ0 := FQ0'; have FR0 := FR0'; have FQ1 := FQ1'; have FR1 := FR1'; have FQ2 := FQ2'; have FR2 := FR2'
  clear hB' hXq0' hXr0' hXq1' hXr1' hXq2' hXr2' FQ0' FR0' FQ1' FR1' FQ2' FR2'
  have hcq0_0 := hXq0.c0; have hcq0_1 := hXq0.c1; have hcr0_0 := hXr0.c0; have hcr0_1 := hXr0.c1; have hcq1_0 := hXq1.c0; have hcq1_1 := hXq1.c1; have hcr1_0 := hXr1.c0; have hcr1_1 := hXr1.c1; have hcq2_0 := hXq2.c0; have hcq2_1 := hXq2.c1; have hcr2_0 := hXr2.c0; have hcr2_1 := hXr2.c1
  go_wp2_with fail
  refine wp_gen fun WR hWR => ?_
  have hBR : Below w.heap.size w WR := by rw [hWR]; (repeat (first | (with_reducible assumption) | exact Below.refl _ _ | (with_reducible refine Below.drew ?_) | (with_reducible refine belowN ?_ _) | (with_reducible refine bw_alloc ?_ _) | ((with_reducible refine bw_set ?_ ?_ _ _); (focus (with_reducible assumption)))))
  have hXRq0 : Box WR (W3.heap.size) [Value.bool qn0, Value.slice qo0 ql0 qc0] := by rw [hWR]; (repeat (first | (with_reducible assumption) | (with_reducible refine Box.drew ?_) | (with_reducible refine Box.drewN ?_ _) | ((with_reducible refine Box.new _ _ ?_ ?_); (focus (first | (with_reducible exact rfl) | (simp only [size_alloc, size_drew, size_drewN, size_set]; done))); (focus (exact rfl))) | (with_reducible refine Box.alloc ?_ _) | ((with_reducible refine Box.put ?_ ?_ _ _ ?_); rotate_left) | ((with_reducible refine Box.set ?_ ?_ _ _); (focus (first | (with_reducible assumption) | (refine Ne.symm ?_; (with_reducible assumption))))) | (exact rfl)))
  have hXRr0 : Box WR (W3.heap.size + 1) [Value.bool rn0, Value.slice ro0 rl0 rc0] := by rw [hWR]; (repeat (first | (with_reducible assumption) | (with_reducible refine Box.drew ?_) | (with_reducible refine Box.drewN ?_ _) | ((with_reducible refine Box.new _ _ ?_ ?_); (focus (first | (with_reducible exact rfl) | (simp only [size_alloc, size_drew, size_drewN, size_set]; done))); (focus (exact rfl))) | (with_reducible refine Box.alloc ?_ _) | ((with_reducible refine Box.put ?_ ?_ _ _ ?_); rotate_left) | ((with_reducible refine Box.set ?_ ?_ _ _); (focus (first | (with_reducible assumption) | (refine Ne.symm ?_; (with_reducible assumption))))) | (exact rfl)))
  have hXRq1 : Box WR (W7.heap.size) [Value.bool qn1, Value.slice qo1 ql1 qc1] := by rw [hWR]; (repeat (first | (with_reducible assumption) | (with_reducible refine Box.drew ?_) | (with_reducible refine Box.drewN ?_ _) | ((with_reducible refine Box.new _ _ ?_ ?_); (focus (first | (with_reducible exact rfl) | (simp only [size_alloc, size_drew, size_drewN, size_set]; done))); (focus (exact rfl))) | (with_reducible refine Box.alloc ?_ _) | ((with_reducible refine Box.put ?_ ?_ _ _ ?_); rotate_left) | ((with_reducible refine Box.set ?_ ?_ _ _); (focus (first | (with_reducible assumption) | (refine Ne.symm ?_; (with_reducible assumption))))) | (exact rfl)))
  have hXRr1 : Box WR (W7.heap.size + 1) [Value.bool rn1, Value.slice ro1 rl1 rc1] := by rw [hWR]; (repeat (first | (with_reducible assumption) | (with_reducible refine Box.drew ?_) | (with_reducible refine Box.drewN ?_ _) | ((with_reducible refine Box.new _ _ ?_ ?_); (focus (first | (with_reducible exact rfl) | (simp only [size_alloc, size_drew, size_drewN, size_set]; done))); (focus (exact rfl))) | (with_reducible refine Box.alloc ?_ _) | ((with_reducible refine Box.put ?_ ?_ _ _ ?_); rotate_left) | ((with_reducible refine Box.set ?_ ?_ _ _); (focus (first | (with_reducible assumption) | (refine Ne.symm ?_; (with_reducible assumption))))) | (exact rfl)))
  have hXRq2 : Box WR (W11.heap.size) [Value.bool qn2, Value.slice qo2 ql2 qc2] := by rw [hWR]; (repeat (first | (with_reducible assumption) | (with_reducible refine Box.drew ?_) | (with_reducible refine Box.drewN ?_ _) | ((with_reducible refine Box.new _ _ ?_ ?_); (focus (first | (with_reducible exact rfl) | (simp only [size_alloc, size_drew, size_drewN, size_set]; done))); (focus (exact rfl))) | (with_reducible refine Box.alloc ?_ _) | ((with_reducible refine Box.put ?_ ?_ _ _ ?_); rotate_left) | ((with_reducible refine Box.set ?_ ?_ _ _); (focus (first | (with_reducible assumption) | (refine Ne.symm ?_; (with_reducible assumption))))) | (exact rfl)))
  have hXRr2 : Box WR (W11.heap.size + 1) [Value.bool rn2, Value.slice ro2 rl2 rc2] := by rw [hWR]; (repeat (first | (with_reducible assumption) | (with_reducible refine Box.drew ?_) | (with_reducible refine Box.drewN ?_ _) | ((with_reducible refine Box.new _ _ ?_ ?_); (focus (first | (with_reducible exact rfl) | (simp only [size_alloc, size_drew, size_drewN, size_set]; done))); (focus (exact rfl))) | (with_reducible refine Box.alloc ?_ _) | ((with_reducible refine Box.put ?_ ?_ _ _ ?_); rotate_left) | ((with_reducible refine Box.set ?_ ?_ _ _); (focus (first | (with_reducible assumption) | (refine Ne.symm ?_; (with_reducible assumption))))) | (exact rfl)))
  have FRQ0 : Fr W3 (W2.heap.size) WR := by rw [hWR]; (repeat (first | (with_reducible assumption) | exact Fr.refl _ _ | (with_reducible refine Fr.drew ?_) | (with_reducible refine Fr.drewN ?_ _) | (with_reducible refine Fr.alloc ?_ _) | ((with_reducible refine Fr.set ?_ ?_ _); (focus (with_reducible assumption)))))
  have FRR0 : Fr W3 (W2.heap.size) WR := by rw [hWR]; (repeat (first | (with_reducible assumption) | exact Fr.refl _ _ | (with_reducible refine Fr.drew ?_) | (with_reducible refine Fr.drewN ?_ _) | (with_reducible refine Fr.alloc ?_ _) | ((with_reducible refine Fr.set ?_ ?_ _); (focus (with_reducible assumption)))))
  have FRQ1 : Fr W7 (W6.heap.size) WR := by rw [hWR]; (repeat (first | (with_reducible assumption) | exact Fr.refl _ _ | (with_reducible refine Fr.drew ?_) | (with_reducible refine Fr.drewN ?_ _) | (with_reducible refine Fr.alloc ?_ _) | ((with_reducible refine Fr.set ?_ ?_ _); (focus (with_reducible assumption)))))
  have FRR1 : Fr W7 (W6.heap.size) WR := by rw [hWR]; (repeat (first | (with_reducible assumption) | exact Fr.refl _ _ | (with_reducible refine Fr.drew ?_) | (with_reducible refine Fr.drewN ?_ _) | (with_reducible refine Fr.alloc ?_ _) | ((with_reducible refine Fr.set ?_ ?_ _); (focus (with_reducible assumption)))))
  have FRQ2 : Fr W11 (W10.heap.size) WR := by rw [hWR]; (repeat (first | (with_reducible assumption) | exact Fr.refl _ _ | (with_reducible refine Fr.drew ?_) | (with_reducible refine Fr.drewN ?_ _) | (with_reducible refine Fr.alloc ?_ _) | ((with_reducible refine Fr.set ?_ ?_ _); (focus (with_reducible assumption)))))
  have FRR2 : Fr W11 (W10.heap.size) WR := by rw [hWR]; (repeat (first | (with_reducible assumption) | exact Fr.refl _ _ | (with_reducible refine Fr.drew ?_) | (with_reducible refine Fr.drewN ?_ _) | (with_reducible refine Fr.alloc ?_ _) | ((with_reducible refine Fr.set ?_ ?_ _); (focus (with_reducible assumption)))))
  clear hWR
  clear hcr2_1 hcr2_0 hcq2_1 hcq2_0 hcr1_1 hcr1_0 hcq1_1 hcq1_0 hcr0_1 hcr0_0 hcq0_1 hcq0_0 FR2 FQ2 FR1 FQ1 FR0 FQ0 hXr2 hXq2 hXr1 hXq1 hXr0 hXq0 hB
  have hB := hBR; have hXq0 := hXRq0; have hXr0 := hXRr0; have hXq1 := hXRq1; have hXr1 := hXRr1; have hXq2 := hXRq2; have hXr2 := hXRr2; have FQ0 := FRQ0; have FR0 := FRR0; have FQ1 := FRQ1; have FR1 := FRR1; have FQ2 := FRQ2; have FR2 := FRR2
  clear hBR hXRq0 hXRr0 hXRq1 hXRr1 hXRq2 hXRr2 FRQ0 FRR0 FRQ1 FRR1 FRQ2 FRR2
  refine wp_region_facts7 (by kernel_rfl) (fun i => (Fk.at [.ni (-4), .no (-4), .nv (.bool true), .nv (.bool true), .ni (1), .no (1), .nv (.bool true), .nv (.bool true), .nv (.bool true), .nv (.int .i64 0), .nv (.bool true), .nv (.bool true), .nv (.bool true), .ni (-4), .no (-4), .nv (.bool true), .nv (.bool true), .nv (.bool true), .ni (-1), .no (-1), .nv (.bool true), .nv (.bool true), .nv (.bool true), .nv (.int .i64 0), .nv (.bool true), .nv (.bool true), .nv (.bool true), .ni (3), .no (3), .nv (.bool true), .nv (.bool true), .nv (.bool true), .ni (-1), .no (-1), .nv (.bool true), .nv (.bool true), .nv (.bool true), .nv (.int .i64 0), .nv (.bool true), .nv (.bool true), .nv (.bool true), .no (-4), .no (6), .no (0), .nl [(-4), (6), (0)] 9, .no 2, .no (2), .nv (.bool true), .nv (.bool true), .nv (.bool true), .nz 0 0, .nv (.string ⟨(zText 0).toArray⟩), .nv (.bool true), .nv (.bool true), .nv (.bool true), .nv (.bool false), .nv (.bool true), .nv (.bool true), .nv (.bool true), .nv (.bool false), .nv (.bool true), .nv (.bool true), .nv (.bool true)] i).says) (fun i => List.getD [] i []) [43, 44, 45, 46, 47, 48, 49, 50, 51, 52, 53, 54, 55, 56, 57, 58, 59, 60, 61, 62, 63, 64, 65, 66, 67, 68, 69, 70, 71, 72, 73, 74, 75, 76, 77, 78, 79, 80, 81, 82, 83, 84, 85, 86, 87, 88, 89, 90, 91, 92, 93, 94, 95, 96, 97, 98, 99, 100, 101, 102, 103, 104, 0] ?A6 63 [] [] (fun h => by cases h) (fun h => absurd rfl h) ?hA6 _ rfl (by kernel_rfl) (by kernel_rfl) (fun _ _ _ _ _ _ _ => Fk.keep _) ?steps6 ?fin6
  case hA6 => intro t; (try simp only [putAll, Act.put, List.setIfInBounds_toArray, List.set_cons_zero, List.set_cons_succ]); (try exact rfl)
  case steps6 =>
    refine ⟨?_, ?_, ?_, ?_, ?_, ?_, ?_, ?_, ?_, ?_, ?_, ?_, ?_, ?_, ?_, ?_, ?_, ?_, ?_, ?_, ?_, ?_, ?_, ?_, ?_, ?_, ?_, ?_, ?_, ?_, ?_, ?_, ?_, ?_, ?_, ?_, ?_, ?_, ?_, ?_, ?_, ?_, ?_, ?_, ?_, ?_, ?_, ?_, ?_, ?_, ?_, ?_, ?_, ?_, ?_, ?_, ?_, ?_, ?_, ?_, ?_, ?_, ?_, trivial⟩
    · intro a wk hx hb hg K hK
      have g1 : a.tmps.getD 1 undef = .pointer (some ⟨W3.heap.size, 0, none⟩) := hx 1 (by kernel_rfl)
      exact step_run rfl (op_load g1 (ld_int _ _ 0 _ _ (hXq0.below hb).c0 (hXq0.below hb).c1) (hK _ _ (Below.refl _ _) ((Q0.out.fr FQ0).i2.keep hb)))
    · intro a wk hx hb hg K hK
      exact step_run rfl (op_callc (by kernel_rfl) (of_law _ (-4) _ (by decide) (by decide) rfl) (TellsO.step hK))
    · intro a wk hx hb hg K hK
      have g43 := fk_i (z := (-4)) (hg 0 43 (by kernel_rfl) rfl)
      have g44 := fk_o (z := (-4)) (hg 1 44 (by kernel_rfl) rfl)
      exact step_run rfl (op_call2 (by kernel_rfl) (same_law g43 g44 ((zb1 (by decide) : ZB (-4) 1)) (by decide) (by decide)) (TellsV.step hK))
    · intro a wk hx hb hg K hK
      have g45 : a.tmps.getD 45 undef = .bool true := fk_v (hg 2 45 (by kernel_rfl) rfl)
      exact step_run rfl (op_move g45 (hK _ _ (Below.refl _ _) rfl))
    · intro a wk hx hb hg K hK
      have g2 : a.tmps.getD 2 undef = .pointer (some ⟨W3.heap.size + 1, 0, none⟩) := hx 2 (by kernel_rfl)
      have g46 : a.tmps.getD 46 undef = .bool true := fk_v (hg 3 46 (by kernel_rfl) rfl)
      exact step_run (wanted_some (d := 46) rfl g46 rfl) (op_load g2 (ld_int _ _ 0 _ _ (hXr0.below hb).c0 (hXr0.below hb).c1) (hK _ _ (Below.refl _ _) ((R0.out.fr FR0).i2.keep hb)))
    · intro a wk hx hb hg K hK
      have g46 : a.tmps.getD 46 undef = .bool true := fk_v (hg 3 46 (by kernel_rfl) rfl)
      exact step_run (wanted_some (d := 46) rfl g46 rfl) (op_callc (by kernel_rfl) (of_law _ (1) _ (by decide) (by decide) rfl) (TellsO.step hK))
    · intro a wk hx hb hg K hK
      have g47 := fk_i (z := (1)) (hg 4 47 (by kernel_rfl) rfl)
      have g48 := fk_o (z := (1)) (hg 5 48 (by kernel_rfl) rfl)
      have g46 : a.tmps.getD 46 undef = .bool true := fk_v (hg 3 46 (by kernel_rfl) rfl)
      exact step_run (wanted_some (d := 46) rfl g46 rfl) (op_call2 (by kernel_rfl) (same_law g47 g48 ((zb1 (by decide) : ZB (1) 1)) (by decide) (by decide)) (TellsV.step hK))
    · intro a wk hx hb hg K hK
      have g46 : a.tmps.getD 46 undef = .bool true := fk_v (hg 3 46 (by kernel_rfl) rfl)
      have g49 : a.tmps.getD 49 undef = .bool true := fk_v (hg 6 49 (by kernel_rfl) rfl)
      exact step_run rfl (op_pickT g46 g49 (hK _ _ (Below.refl _ _) rfl))
    · intro a wk hx hb hg K hK
      have g50 : a.tmps.getD 50 undef = .bool true := fk_v (hg 7 50 (by kernel_rfl) rfl)
      exact step_run rfl (op_move g50 (hK _ _ (Below.refl _ _) rfl))
    · intro a wk hx hb hg K hK
      have g3 : a.tmps.getD 3 undef = .int .i64 0 := hx 3 (by kernel_rfl)
      have g51 : a.tmps.getD 51 undef = .bool true := fk_v (hg 8 51 (by kernel_rfl) rfl)
      exact step_run (wanted_some (d := 51) rfl g51 rfl) (op_move g3 (hK _ _ (Below.refl _ _) rfl))
    · intro a wk hx hb hg K hK
      have g52 : a.tmps.getD 52 undef = .int .i64 0 := fk_v (hg 9 52 (by kernel_rfl) rfl)
      have g51 : a.tmps.getD 51 undef = .bool true := fk_v (hg 8 51 (by kernel_rfl) rfl)
      exact step_run (wanted_some (d := 51) rfl g51 rfl) (op_bin g52 rfl (bin_eqI.trans (congrArg (fun x => Result.ok (Value.bool x) wk) (by decide))) (hK _ _ (Below.refl _ _) rfl))
    · intro a wk hx hb hg K hK
      have g51 : a.tmps.getD 51 undef = .bool true := fk_v (hg 8 51 (by kernel_rfl) rfl)
      have g53 : a.tmps.getD 53 undef = .bool true := fk_v (hg 10 53 (by kernel_rfl) rfl)
      exact step_run rfl (op_pickT g51 g53 (hK _ _ (Below.refl _ _) rfl))
    · intro a wk hx hb hg K hK
      have g54 : a.tmps.getD 54 undef = .bool true := fk_v (hg 11 54 (by kernel_rfl) rfl)
      exact step_run rfl (op_move g54 (hK _ _ (Below.refl _ _) rfl))
    · intro a wk hx hb hg K hK
      have g4 : a.tmps.getD 4 undef = .pointer (some ⟨W7.heap.size, 0, none⟩) := hx 4 (by kernel_rfl)
      have g55 : a.tmps.getD 55 undef = .bool true := fk_v (hg 12 55 (by kernel_rfl) rfl)
      exact step_run (wanted_some (d := 55) rfl g55 rfl) (op_load g4 (ld_int _ _ 0 _ _ (hXq1.below hb).c0 (hXq1.below hb).c1) (hK _ _ (Below.refl _ _) ((Q1.out.fr FQ1).i2.keep hb)))
    · intro a wk hx hb hg K hK
      have g55 : a.tmps.getD 55 undef = .bool true := fk_v (hg 12 55 (by kernel_rfl) rfl)
      exact step_run (wanted_some (d := 55) rfl g55 rfl) (op_callc (by kernel_rfl) (of_law _ (-4) _ (by decide) (by decide) rfl) (TellsO.step hK))
    · intro a wk hx hb hg K hK
      have g56 := fk_i (z := (-4)) (hg 13 56 (by kernel_rfl) rfl)
      have g57 := fk_o (z := (-4)) (hg 14 57 (by kernel_rfl) rfl)
      have g55 : a.tmps.getD 55 undef = .bool true := fk_v (hg 12 55 (by kernel_rfl) rfl)
      exact step_run (wanted_some (d := 55) rfl g55 rfl) (op_call2 (by kernel_rfl) (same_law g56 g57 ((zb1 (by decide) : ZB (-4) 1)) (by decide) (by decide)) (TellsV.step hK))
    · intro a wk hx hb hg K hK
      have g55 : a.tmps.getD 55 undef = .bool true := fk_v (hg 12 55 (by kernel_rfl) rfl)
      have g58 : a.tmps.getD 58 undef = .bool true := fk_v (hg 15 58 (by kernel_rfl) rfl)
      exact step_run rfl (op_pickT g55 g58 (hK _ _ (Below.refl _ _) rfl))
    · intro a wk hx hb hg K hK
      have g59 : a.tmps.getD 59 undef = .bool true := fk_v (hg 16 59 (by kernel_rfl) rfl)
      exact step_run rfl (op_move g59 (hK _ _ (Below.refl _ _) rfl))
    · intro a wk hx hb hg K hK
      have g5 : a.tmps.getD 5 undef = .pointer (some ⟨W7.heap.size + 1, 0, none⟩) := hx 5 (by kernel_rfl)
      have g60 : a.tmps.getD 60 undef = .bool true := fk_v (hg 17 60 (by kernel_rfl) rfl)
      exact step_run (wanted_some (d := 60) rfl g60 rfl) (op_load g5 (ld_int _ _ 0 _ _ (hXr1.below hb).c0 (hXr1.below hb).c1) (hK _ _ (Below.refl _ _) ((R1.out.fr FR1).i2.keep hb)))
    · intro a wk hx hb hg K hK
      have g60 : a.tmps.getD 60 undef = .bool true := fk_v (hg 17 60 (by kernel_rfl) rfl)
      exact step_run (wanted_some (d := 60) rfl g60 rfl) (op_callc (by kernel_rfl) (of_law _ (-1) _ (by decide) (by decide) rfl) (TellsO.step hK))
    · intro a wk hx hb hg K hK
      have g61 := fk_i (z := (-1)) (hg 18 61 (by kernel_rfl) rfl)
      have g62 := fk_o (z := (-1)) (hg 19 62 (by kernel_rfl) rfl)
      have g60 : a.tmps.getD 60 undef = .bool true := fk_v (hg 17 60 (by kernel_rfl) rfl)
      exact step_run (wanted_some (d := 60) rfl g60 rfl) (op_call2 (by kernel_rfl) (same_law g61 g62 ((zb1 (by decide) : ZB (-1) 1)) (by decide) (by decide)) (TellsV.step hK))
    · intro a wk hx hb hg K hK
      have g60 : a.tmps.getD 60 undef = .bool true := fk_v (hg 17 60 (by kernel_rfl) rfl)
      have g63 : a.tmps.getD 63 undef = .bool true := fk_v (hg 20 63 (by kernel_rfl) rfl)
      exact step_run rfl (op_pickT g60 g63 (hK _ _ (Below.refl _ _) rfl))
    · intro a wk hx hb hg K hK
      have g64 : a.tmps.getD 64 undef = .bool true := fk_v (hg 21 64 (by kernel_rfl) rfl)
      exact step_run rfl (op_move g64 (hK _ _ (Below.refl _ _) rfl))
    · intro a wk hx hb hg K hK
      have g6 : a.tmps.getD 6 undef = .int .i64 0 := hx 6 (by kernel_rfl)
      have g65 : a.tmps.getD 65 undef = .bool true := fk_v (hg 22 65 (by kernel_rfl) rfl)
      exact step_run (wanted_some (d := 65) rfl g65 rfl) (op_move g6 (hK _ _ (Below.refl _ _) rfl))
    · intro a wk hx hb hg K hK
      have g66 : a.tmps.getD 66 undef = .int .i64 0 := fk_v (hg 23 66 (by kernel_rfl) rfl)
      have g65 : a.tmps.getD 65 undef = .bool true := fk_v (hg 22 65 (by kernel_rfl) rfl)
      exact step_run (wanted_some (d := 65) rfl g65 rfl) (op_bin g66 rfl (bin_eqI.trans (congrArg (fun x => Result.ok (Value.bool x) wk) (by decide))) (hK _ _ (Below.refl _ _) rfl))
    · intro a wk hx hb hg K hK
      have g65 : a.tmps.getD 65 undef = .bool true := fk_v (hg 22 65 (by kernel_rfl) rfl)
      have g67 : a.tmps.getD 67 undef = .bool true := fk_v (hg 24 67 (by kernel_rfl) rfl)
      exact step_run rfl (op_pickT g65 g67 (hK _ _ (Below.refl _ _) rfl))
    · intro a wk hx hb hg K hK
      have g68 : a.tmps.getD 68 undef = .bool true := fk_v (hg 25 68 (by kernel_rfl) rfl)
      exact step_run rfl (op_move g68 (hK _ _ (Below.refl _ _) rfl))
    · intro a wk hx hb hg K hK
      have g7 : a.tmps.getD 7 undef = .pointer (some ⟨W11.heap.size, 0, none⟩) := hx 7 (by kernel_rfl)
      have g69 : a.tmps.getD 69 undef = .bool true := fk_v (hg 26 69 (by kernel_rfl) rfl)
      exact step_run (wanted_some (d := 69) rfl g69 rfl) (op_load g7 (ld_int _ _ 0 _ _ (hXq2.below hb).c0 (hXq2.below hb).c1) (hK _ _ (Below.refl _ _) ((Q2.out.fr FQ2).i2.keep hb)))
    · intro a wk hx hb hg K hK
      have g69 : a.tmps.getD 69 undef = .bool true := fk_v (hg 26 69 (by kernel_rfl) rfl)
      exact step_run (wanted_some (d := 69) rfl g69 rfl) (op_callc (by kernel_rfl) (of_law _ (3) _ (by decide) (by decide) rfl) (TellsO.step hK))
    · intro a wk hx hb hg K hK
      have g70 := fk_i (z := (3)) (hg 27 70 (by kernel_rfl) rfl)
      have g71 := fk_o (z := (3)) (hg 28 71 (by kernel_rfl) rfl)
      have g69 : a.tmps.getD 69 undef = .bool true := fk_v (hg 26 69 (by kernel_rfl) rfl)
      exact step_run (wanted_some (d := 69) rfl g69 rfl) (op_call2 (by kernel_rfl) (same_law g70 g71 ((zb1 (by decide) : ZB (3) 1)) (by decide) (by decide)) (TellsV.step hK))
    · intro a wk hx hb hg K hK
      have g69 : a.tmps.getD 69 undef = .bool true := fk_v (hg 26 69 (by kernel_rfl) rfl)
      have g72 : a.tmps.getD 72 undef = .bool true := fk_v (hg 29 72 (by kernel_rfl) rfl)
      exact step_run rfl (op_pickT g69 g72 (hK _ _ (Below.refl _ _) rfl))
    · intro a wk hx hb hg K hK
      have g73 : a.tmps.getD 73 undef = .bool true := fk_v (hg 30 73 (by kernel_rfl) rfl)
      exact step_run rfl (op_move g73 (hK _ _ (Below.refl _ _) rfl))
    · intro a wk hx hb hg K hK
      have g8 : a.tmps.getD 8 undef = .pointer (some ⟨W11.heap.size + 1, 0, none⟩) := hx 8 (by kernel_rfl)
      have g74 : a.tmps.getD 74 undef = .bool true := fk_v (hg 31 74 (by kernel_rfl) rfl)
      exact step_run (wanted_some (d := 74) rfl g74 rfl) (op_load g8 (ld_int _ _ 0 _ _ (hXr2.below hb).c0 (hXr2.below hb).c1) (hK _ _ (Below.refl _ _) ((R2.out.fr FR2).i2.keep hb)))
    · intro a wk hx hb hg K hK
      have g74 : a.tmps.getD 74 undef = .bool true := fk_v (hg 31 74 (by kernel_rfl) rfl)
      exact step_run (wanted_some (d := 74) rfl g74 rfl) (op_callc (by kernel_rfl) (of_law _ (-1) _ (by decide) (by decide) rfl) (TellsO.step hK))
    · intro a wk hx hb hg K hK
      have g75 := fk_i (z := (-1)) (hg 32 75 (by kernel_rfl) rfl)
      have g76 := fk_o (z := (-1)) (hg 33 76 (by kernel_rfl) rfl)
      have g74 : a.tmps.getD 74 undef = .bool true := fk_v (hg 31 74 (by kernel_rfl) rfl)
      exact step_run (wanted_some (d := 74) rfl g74 rfl) (op_call2 (by kernel_rfl) (same_law g75 g76 ((zb1 (by decide) : ZB (-1) 1)) (by decide) (by decide)) (TellsV.step hK))
    · intro a wk hx hb hg K hK
      have g74 : a.tmps.getD 74 undef = .bool true := fk_v (hg 31 74 (by kernel_rfl) rfl)
      have g77 : a.tmps.getD 77 undef = .bool true := fk_v (hg 34 77 (by kernel_rfl) rfl)
      exact step_run rfl (op_pickT g74 g77 (hK _ _ (Below.refl _ _) rfl))
    · intro a wk hx hb hg K hK
      have g78 : a.tmps.getD 78 undef = .bool true := fk_v (hg 35 78 (by kernel_rfl) rfl)
      exact step_run rfl (op_move g78 (hK _ _ (Below.refl _ _) rfl))
    · intro a wk hx hb hg K hK
      have g9 : a.tmps.getD 9 undef = .int .i64 0 := hx 9 (by kernel_rfl)
      have g79 : a.tmps.getD 79 undef = .bool true := fk_v (hg 36 79 (by kernel_rfl) rfl)
      exact step_run (wanted_some (d := 79) rfl g79 rfl) (op_move g9 (hK _ _ (Below.refl _ _) rfl))
    · intro a wk hx hb hg K hK
      have g80 : a.tmps.getD 80 undef = .int .i64 0 := fk_v (hg 37 80 (by kernel_rfl) rfl)
      have g79 : a.tmps.getD 79 undef = .bool true := fk_v (hg 36 79 (by kernel_rfl) rfl)
      exact step_run (wanted_some (d := 79) rfl g79 rfl) (op_bin g80 rfl (bin_eqI.trans (congrArg (fun x => Result.ok (Value.bool x) wk) (by decide))) (hK _ _ (Below.refl _ _) rfl))
    · intro a wk hx hb hg K hK
      have g79 : a.tmps.getD 79 undef = .bool true := fk_v (hg 36 79 (by kernel_rfl) rfl)
      have g81 : a.tmps.getD 81 undef = .bool true := fk_v (hg 38 81 (by kernel_rfl) rfl)
      exact step_run rfl (op_pickT g79 g81 (hK _ _ (Below.refl _ _) rfl))
    · intro a wk hx hb hg K hK
      have g82 : a.tmps.getD 82 undef = .bool true := fk_v (hg 39 82 (by kernel_rfl) rfl)
      exact step_run rfl (op_move g82 (hK _ _ (Below.refl _ _) rfl))
    · intro a wk hx hb hg K hK
      have g83 : a.tmps.getD 83 undef = .bool true := fk_v (hg 40 83 (by kernel_rfl) rfl)
      exact step_run (wanted_some (d := 83) rfl g83 rfl) (op_callc (by kernel_rfl) (of_law _ (-4) _ (by decide) (by decide) rfl) (TellsO.step hK))
    · intro a wk hx hb hg K hK
      have g83 : a.tmps.getD 83 undef = .bool true := fk_v (hg 40 83 (by kernel_rfl) rfl)
      exact step_run (wanted_some (d := 83) rfl g83 rfl) (op_callc (by kernel_rfl) (of_law _ (6) _ (by decide) (by decide) rfl) (TellsO.step hK))
    · intro a wk hx hb hg K hK
      have g83 : a.tmps.getD 83 undef = .bool true := fk_v (hg 40 83 (by kernel_rfl) rfl)
      exact step_run (wanted_some (d := 83) rfl g83 rfl) (op_callc (by kernel_rfl) (of_law _ (0) _ (by decide) (by decide) rfl) (TellsO.step hK))
    · intro a wk hx hb hg K hK
      have g84 := fk_o (z := (-4)) (hg 41 84 (by kernel_rfl) rfl)
      have g85 := fk_o (z := (6)) (hg 42 85 (by kernel_rfl) rfl)
      have g86 := fk_o (z := (0)) (hg 43 86 (by kernel_rfl) rfl)
      have g83 : a.tmps.getD 83 undef = .bool true := fk_v (hg 40 83 (by kernel_rfl) rfl)
      obtain ⟨x, w2, hr, hb2, hl⟩ := lz3 (I2.iz g84 ((zb1 (by decide) : ZB (-4) 1))) (I2.iz g85 ((zb1 (by decide) : ZB (6) 1))) (I2.iz g86 ((zb1 (by decide) : ZB (0) 1)))
      exact step_run (wanted_some (d := 83) rfl g83 rfl) (op_slice (by simp [Act.eval]) hr (hK _ _ hb2 hl))
    · intro a wk hx hb hg K hK
      have g87 := fk_l (ys := [(-4), (6), (0)]) (k := 9) (hg 44 87 (by kernel_rfl) rfl)
      have g83 : a.tmps.getD 83 undef = .bool true := fk_v (hg 40 83 (by kernel_rfl) rfl)
      exact step_run (wanted_some (d := 83) rfl g83 rfl) (op_call1 (by kernel_rfl) (gcd_law g87 (by decide) (by decide)) (TellsO.step hK))
    · intro a wk hx hb hg K hK
      have g83 : a.tmps.getD 83 undef = .bool true := fk_v (hg 40 83 (by kernel_rfl) rfl)
      exact step_run (wanted_some (d := 83) rfl g83 rfl) (op_callc (by kernel_rfl) (of_law _ (2) _ (by decide) (by decide) rfl) (TellsO.step hK))
    · intro a wk hx hb hg K hK
      have g88 := fk_o (z := 2) (hg 45 88 (by kernel_rfl) rfl)
      have g89 := fk_o (z := (2)) (hg 46 89 (by kernel_rfl) rfl)
      have g83 : a.tmps.getD 83 undef = .bool true := fk_v (hg 40 83 (by kernel_rfl) rfl)
      exact step_run (wanted_some (d := 83) rfl g83 rfl) (op_call2 (by kernel_rfl) (same_law g88 g89 ((zb1 (by decide) : ZB 2 1)) (by decide) (by decide)) (TellsV.step hK))
    · intro a wk hx hb hg K hK
      have g83 : a.tmps.getD 83 undef = .bool true := fk_v (hg 40 83 (by kernel_rfl) rfl)
      have g90 : a.tmps.getD 90 undef = .bool true := fk_v (hg 47 90 (by kernel_rfl) rfl)
      exact step_run rfl (op_pickT g83 g90 (hK _ _ (Below.refl _ _) rfl))
    · intro a wk hx hb hg K hK
      have g91 : a.tmps.getD 91 undef = .bool true := fk_v (hg 48 91 (by kernel_rfl) rfl)
      exact step_run rfl (op_move g91 (hK _ _ (Below.refl _ _) rfl))
    · intro a wk hx hb hg K hK
      have g92 : a.tmps.getD 92 undef = .bool true := fk_v (hg 49 92 (by kernel_rfl) rfl)
      exact step_run (wanted_some (d := 92) rfl g92 rfl) (op_sem (s := Instr.build 25 #[(0, .bool true)]) (by simp [execOp, Act.eval]) (bld_neg _) (hK _ _ (Below.refl _ _) (iz_neg0 _)))
    · intro a wk hx hb hg K hK
      have g93 := fk_z (z := 0) (k := 0) (hg 50 93 (by kernel_rfl) rfl)
      have g92 : a.tmps.getD 92 undef = .bool true := fk_v (hg 49 92 (by kernel_rfl) rfl)
      exact step_run (wanted_some (d := 92) rfl g92 rfl) (op_call1 (by kernel_rfl) (text_law g93 (by decide) (HT.out.keep (bw_below hB hb))) (TellsV.step hK))
    · intro a wk hx hb hg K hK
      have g94 : a.tmps.getD 94 undef = .string ⟨(zText 0).toArray⟩ := fk_v (hg 51 94 (by kernel_rfl) rfl)
      have g92 : a.tmps.getD 92 undef = .bool true := fk_v (hg 49 92 (by kernel_rfl) rfl)
      exact step_run (wanted_some (d := 92) rfl g92 rfl) (op_bin g94 rfl (bin_eqS.trans (congrArg (fun x => Result.ok (Value.bool x) wk) (bseq _ _ _ (by rw [zText0]; rfl)))) (hK _ _ (Below.refl _ _) rfl))
    · intro a wk hx hb hg K hK
      have g92 : a.tmps.getD 92 undef = .bool true := fk_v (hg 49 92 (by kernel_rfl) rfl)
      have g95 : a.tmps.getD 95 undef = .bool true := fk_v (hg 52 95 (by kernel_rfl) rfl)
      exact step_run rfl (op_pickT g92 g95 (hK _ _ (Below.refl _ _) rfl))
    · intro a wk hx hb hg K hK
      have g96 : a.tmps.getD 96 undef = .bool true := fk_v (hg 53 96 (by kernel_rfl) rfl)
      exact step_run rfl (op_move g96 (hK _ _ (Below.refl _ _) rfl))
    · intro a wk hx hb hg K hK
      have g11 : a.tmps.getD 11 undef = .bool false := hx 11 (by kernel_rfl)
      have g97 : a.tmps.getD 97 undef = .bool true := fk_v (hg 54 97 (by kernel_rfl) rfl)
      exact step_run (wanted_some (d := 97) rfl g97 rfl) (op_move g11 (hK _ _ (Below.refl _ _) rfl))
    · intro a wk hx hb hg K hK
      have g98 : a.tmps.getD 98 undef = .bool false := fk_v (hg 55 98 (by kernel_rfl) rfl)
      have g97 : a.tmps.getD 97 undef = .bool true := fk_v (hg 54 97 (by kernel_rfl) rfl)
      exact step_run (wanted_some (d := 97) rfl g97 rfl) (op_not g98 rfl (hK _ _ (Below.refl _ _) rfl))
    · intro a wk hx hb hg K hK
      have g97 : a.tmps.getD 97 undef = .bool true := fk_v (hg 54 97 (by kernel_rfl) rfl)
      have g99 : a.tmps.getD 99 undef = .bool true := fk_v (hg 56 99 (by kernel_rfl) rfl)
      exact step_run rfl (op_pickT g97 g99 (hK _ _ (Below.refl _ _) rfl))
    · intro a wk hx hb hg K hK
      have g100 : a.tmps.getD 100 undef = .bool true := fk_v (hg 57 100 (by kernel_rfl) rfl)
      exact step_run rfl (op_move g100 (hK _ _ (Below.refl _ _) rfl))
    · intro a wk hx hb hg K hK
      have g13 : a.tmps.getD 13 undef = .bool false := hx 13 (by kernel_rfl)
      have g101 : a.tmps.getD 101 undef = .bool true := fk_v (hg 58 101 (by kernel_rfl) rfl)
      exact step_run (wanted_some (d := 101) rfl g101 rfl) (op_move g13 (hK _ _ (Below.refl _ _) rfl))
    · intro a wk hx hb hg K hK
      have g102 : a.tmps.getD 102 undef = .bool false := fk_v (hg 59 102 (by kernel_rfl) rfl)
      have g101 : a.tmps.getD 101 undef = .bool true := fk_v (hg 58 101 (by kernel_rfl) rfl)
      exact step_run (wanted_some (d := 101) rfl g101 rfl) (op_not g102 rfl (hK _ _ (Below.refl _ _) rfl))
    · intro a wk hx hb hg K hK
      have g101 : a.tmps.getD 101 undef = .bool true := fk_v (hg 58 101 (by kernel_rfl) rfl)
      have g103 : a.tmps.getD 103 undef = .bool true := fk_v (hg 60 103 (by kernel_rfl) rfl)
      exact step_run rfl (op_pickT g101 g103 (hK _ _ (Below.refl _ _) rfl))
    · intro a wk hx hb hg K hK
      have g104 : a.tmps.getD 104 undef = .bool true := fk_v (hg 61 104 (by kernel_rfl) rfl)
      exact step_run rfl (op_assign g104 (hK _ _ (Below.refl _ _) rfl))
  intro t lo hi W2 hb2 hF hD
  have g0 : t 0 = .bool true := (hF 62 0 rfl).2.2.2
  clear hF hD
  refine wpList_nil ?_
  simp only [g0]
  go_wp2_with fail
  go_ret
  exact ⟨rfl, bw_below hB hb2⟩

end Go.Proofs.YtemcpgfoggdaiaaGreatDoor
