/- num: order. -/
import Derived.Test.YtjfncepmpabcnaaGreatDoorNumG
import Derived.Deep.DeepCutAuto
namespace Go.Proofs.YtjfncepmpabcnaaGreatDoor
open Go.RowKit
set_option linter.unusedSimpArgs false
set_option linter.unusedVariables false
attribute [local go_sem ↓] Go.wp_at_zero Go.wp_at_succ

set_option maxRecDepth 100000 in
set_option maxHeartbeats 4000000 in
theorem numCmp_any (v u : Value) (y z : Int) (k1 k2 : Nat) (w : World) (hv : IZ w v y k1) (hu : IZ w u z k2) (hk : k1 + k2 ≤ 90000) :
    Calls Tryz.prog 70 #[v, u] w fun e w' => e = .returned (.int .i64 (cmpI y z)) ∧ Below w.heap.size w w' := by
  have h1 := hv.zb
  have h2 := hu.zb
  obtain ⟨na, la, hA, hla, hy⟩ := hv
  obtain ⟨ao, ac, rfl⟩ := hA.sh
  have HA := Lib.hid hA
  have HY := Lib.hid hy
  clear hA hy
  obtain ⟨nb, lb, hC, hlb, hz⟩ := hu
  obtain ⟨bo, bc, rfl⟩ := hC.sh
  have HC := Lib.hid hC
  have HZ := Lib.hid hz
  clear hC hz
  go_enter Tryz.func70, Tryz.ntmps70
  go_wp2_with fail
  have hB := Below.refl w.heap.size w
  have hbs := hB.size
  have hga : w.heap.size ≤ w.heap.size := by omega
  have hgb : w.heap.size ≤ w.heap.size + 1 := by omega
  have hn_b_a : w.heap.size + 1 ≠ w.heap.size := by omega
  clear hbs
  refine wp_gen fun W1 hW => ?_
  have hm1 : w.heap.size ≤ W1.heap.size := by rw [hW]; (first | omega | (simp only [size_alloc, size_drew, size_drewN, size_set]; omega) | (simp only [size_alloc, size_drew, size_drewN, size_set]; done))
  have hB' : Below w.heap.size w W1 := by rw [hW]; (repeat (first | (with_reducible assumption) | exact Below.refl _ _ | (with_reducible refine Below.drew ?_) | (with_reducible refine belowN ?_ _) | (with_reducible refine bw_alloc ?_ _) | ((with_reducible refine bw_set ?_ ?_ _ _); (focus (with_reducible assumption)))))
  have hXa' : Box W1 (w.heap.size) [Value.bool na, Value.slice ao la.length ac] := by rw [hW]; (repeat (first | (with_reducible assumption) | (with_reducible refine Box.drew ?_) | (with_reducible refine Box.drewN ?_ _) | ((with_reducible refine Box.new _ _ ?_ ?_); (focus (first | (with_reducible exact rfl) | (simp only [size_alloc, size_drew, size_drewN, size_set]; done))); (focus (exact rfl))) | (with_reducible refine Box.alloc ?_ _) | ((with_reducible refine Box.put ?_ ?_ _ _ ?_); rotate_left) | ((with_reducible refine Box.set ?_ ?_ _ _); (focus (first | (with_reducible assumption) | (refine Ne.symm ?_; (with_reducible assumption))))) | (exact rfl)))
  have hXb' : Box W1 (w.heap.size + 1) [Value.bool nb, Value.slice bo lb.length bc] := by rw [hW]; (repeat (first | (with_reducible assumption) | (with_reducible refine Box.drew ?_) | (with_reducible refine Box.drewN ?_ _) | ((with_reducible refine Box.new _ _ ?_ ?_); (focus (first | (with_reducible exact rfl) | (simp only [size_alloc, size_drew, size_drewN, size_set]; done))); (focus (exact rfl))) | (with_reducible refine Box.alloc ?_ _) | ((with_reducible refine Box.put ?_ ?_ _ _ ?_); rotate_left) | ((with_reducible refine Box.set ?_ ?_ _ _); (focus (first | (with_reducible assumption) | (refine Ne.symm ?_; (with_reducible assumption))))) | (exact rfl)))
  clear hW
  clear hB
  have hB := hB'; have hXa := hXa'; have hXb := hXb'
  clear hB' hXa' hXb'
  have hca_0 := hXa.c0; have hca_1 := hXa.c1; have hcb_0 := hXb.c0; have hcb_1 := hXb.c1
  go_cut [5, 6] (fun s5 s6 wx => ∃ (g1 g2 : Nat) (xo yo : Option Addr) (xc yc : Nat), s5 = .pointer (some ⟨g1, 0, none⟩) ∧ s6 = .pointer (some ⟨g2, 0, none⟩) ∧ wx.cell? ⟨g1, 0, none⟩ = some (Value.slice xo (digs 1000000000 y.natAbs).length xc) ∧ wx.cell? ⟨g1, 1, none⟩ = some (Value.bool (zNeg y)) ∧ wx.cell? ⟨g2, 0, none⟩ = some (Value.slice yo (digs 1000000000 z.natAbs).length yc) ∧ wx.cell? ⟨g2, 1, none⟩ = some (Value.bool (zNeg z)) ∧ NB wx w.heap.size 103 (.agg #[Value.slice xo (digs 1000000000 y.natAbs).length xc, Value.bool (zNeg y)]) y ∧ NB wx w.heap.size 103 (.agg #[Value.slice yo (digs 1000000000 z.natAbs).length yc, Value.bool (zNeg z)]) z ∧ Below w.heap.size w wx)
  case first =>
    have hlta := hXa.lt
    have hltb := hXb.lt
    go_region_held3 (fun w' => w'.cell? ⟨w.heap.size, 0, none⟩ = some (Value.bool na) ∧ w'.cell? ⟨w.heap.size, 1, none⟩ = some (Value.slice ao la.length ac) ∧ w'.cell? ⟨w.heap.size + 1, 0, none⟩ = some (Value.bool nb) ∧ w'.cell? ⟨w.heap.size + 1, 1, none⟩ = some (Value.slice bo lb.length bc)) ((go_split_ands; ((repeat' apply And.intro) <;> (first | (with_reducible assumption) | ((repeat (first | (with_reducible assumption) | (with_reducible refine cs_drew ?_) | (with_reducible refine cs_drewN ?_ _) | (with_reducible refine cs_alloc ?_ _) | ((with_reducible refine cs_put ?_ ?_); rotate_left) | ((with_reducible refine cs_off ?_ ?_); (focus (decide))) | ((with_reducible refine cs_set ?_ ?_); (focus (first | (with_reducible assumption) | (refine Ne.symm ?_; (with_reducible assumption)) | omega))))); done) | (refine cs_below hbk ?_; ((repeat (first | (with_reducible assumption) | (with_reducible refine cs_drew ?_) | (with_reducible refine cs_drewN ?_ _) | (with_reducible refine cs_alloc ?_ _) | ((with_reducible refine cs_put ?_ ?_); rotate_left) | ((with_reducible refine cs_off ?_ ?_); (focus (decide))) | ((with_reducible refine cs_set ?_ ?_); (focus (first | (with_reducible assumption) | (refine Ne.symm ?_; (with_reducible assumption)) | omega))))); done))))))
      (first | (go_at_call 95; (with_reducible refine (numof_any (.agg #[.bool na, .slice ao la.length ac]) na la _ ?_ ?_).mono ?_); (focus (refine IV.keep HA.out ?_; (repeat (first | (with_reducible assumption) | exact Below.refl _ _ | (with_reducible refine Below.drew ?_) | (with_reducible refine belowN ?_ _) | (with_reducible refine bw_alloc ?_ _) | ((with_reducible refine bw_set ?_ ?_ _ _); (focus (first | (with_reducible assumption) | omega | (dsimp only; omega) | (simp only [size_alloc, size_drew, size_drewN, size_set]; omega)))))))); (focus (omega)); rintro e w2 ⟨u, rfl, hx, hbk⟩; rw [HY.out] at hx; obtain ⟨uo, uc, rfl⟩ := hx.one; obtain ⟨hqa2, hqb2⟩ := bcell hbk; obtain ⟨hqc2, hqd2, hqe2⟩ := bsize hbk; have hqs2 := hbk.size; (try simp only [size_alloc, size_drew, size_drewN, size_set] at hqs2 hqa2 hqb2 hqc2 hqd2 hqe2); (try have hk_w2_W1 : W1.heap.size < w2.heap.size := by omega); (try have hk_w2_W1n : ¬ W1.heap.size = w2.heap.size := by omega); (try have hk_w2_W1m : ¬ w2.heap.size = W1.heap.size := by omega); (try have hk_w2_W11 : W1.heap.size + 1 < w2.heap.size := by omega); (try have hk_w2_W11n : ¬ W1.heap.size + 1 = w2.heap.size := by omega); (try have hk_w2_W11m : ¬ w2.heap.size = W1.heap.size + 1 := by omega); have hmw2 : W1.heap.size ≤ w2.heap.size := (by refine Nat.le_trans ?_ hbk.size; (first | omega | (simp only [size_alloc, size_drew, size_drewN, size_set]; omega) | (simp only [size_alloc, size_drew, size_drewN, size_set]; done))); have hBw2 : Below w.heap.size w w2 := (by refine bw_below ?_ hbk; (repeat (first | (with_reducible assumption) | exact Below.refl _ _ | (with_reducible refine Below.drew ?_) | (with_reducible refine belowN ?_ _) | (with_reducible refine bw_alloc ?_ _) | ((with_reducible refine bw_set ?_ ?_ _ _); (focus (with_reducible assumption)))))); have hXaw2 : Box w2 (w.heap.size) [Value.bool na, Value.slice ao la.length ac] := (by refine Box.below ?_ hbk; (repeat (first | (with_reducible assumption) | (with_reducible refine Box.drew ?_) | (with_reducible refine Box.drewN ?_ _) | ((with_reducible refine Box.new _ _ ?_ ?_); (focus (first | (with_reducible exact rfl) | (simp only [size_alloc, size_drew, size_drewN, size_set]; done))); (focus (exact rfl))) | (with_reducible refine Box.alloc ?_ _) | ((with_reducible refine Box.put ?_ ?_ _ _ ?_); rotate_left) | ((with_reducible refine Box.set ?_ ?_ _ _); (focus (first | (with_reducible assumption) | (refine Ne.symm ?_; (with_reducible assumption))))) | (exact rfl)))); have hca_0w2 := hXaw2.c0; have hca_1w2 := hXaw2.c1; have hXbw2 : Box w2 (w.heap.size + 1) [Value.bool nb, Value.slice bo lb.length bc] := (by refine Box.below ?_ hbk; (repeat (first | (with_reducible assumption) | (with_reducible refine Box.drew ?_) | (with_reducible refine Box.drewN ?_ _) | ((with_reducible refine Box.new _ _ ?_ ?_); (focus (first | (with_reducible exact rfl) | (simp only [size_alloc, size_drew, size_drewN, size_set]; done))); (focus (exact rfl))) | (with_reducible refine Box.alloc ?_ _) | ((with_reducible refine Box.put ?_ ?_ _ _ ?_); rotate_left) | ((with_reducible refine Box.set ?_ ?_ _ _); (focus (first | (with_reducible assumption) | (refine Ne.symm ?_; (with_reducible assumption))))) | (exact rfl)))); have hcb_0w2 := hXbw2.c0; have hcb_1w2 := hXbw2.c1; have hbk_w2 := hbk) | (go_at_call 95; (with_reducible refine (numof_any (.agg #[.bool nb, .slice bo lb.length bc]) nb lb _ ?_ ?_).mono ?_); (focus (refine IV.keep HC.out ?_; (repeat (first | (with_reducible assumption) | exact Below.refl _ _ | (with_reducible refine Below.drew ?_) | (with_reducible refine belowN ?_ _) | (with_reducible refine bw_alloc ?_ _) | ((with_reducible refine bw_set ?_ ?_ _ _); (focus (first | (with_reducible assumption) | omega | (dsimp only; omega) | (simp only [size_alloc, size_drew, size_drewN, size_set]; omega)))))))); (focus (omega)); rintro e w3 ⟨u2, rfl, hz, hbk⟩; rw [HZ.out] at hz; obtain ⟨uo2, uc2, rfl⟩ := hz.one; obtain ⟨hqa3, hqb3⟩ := bcell hbk; obtain ⟨hqc3, hqd3, hqe3⟩ := bsize hbk; have hqs3 := hbk.size; (try simp only [size_alloc, size_drew, size_drewN, size_set] at hqs3 hqa3 hqb3 hqc3 hqd3 hqe3); (try have hk_w3_W1 : W1.heap.size < w3.heap.size := by omega); (try have hk_w3_W1n : ¬ W1.heap.size = w3.heap.size := by omega); (try have hk_w3_W1m : ¬ w3.heap.size = W1.heap.size := by omega); (try have hk_w3_W11 : W1.heap.size + 1 < w3.heap.size := by omega); (try have hk_w3_W11n : ¬ W1.heap.size + 1 = w3.heap.size := by omega); (try have hk_w3_W11m : ¬ w3.heap.size = W1.heap.size + 1 := by omega); (try have hk_w3_w2 : w2.heap.size < w3.heap.size := by omega); (try have hk_w3_w2n : ¬ w2.heap.size = w3.heap.size := by omega); (try have hk_w3_w2m : ¬ w3.heap.size = w2.heap.size := by omega); (try have hk_w3_w21 : w2.heap.size + 1 < w3.heap.size := by omega); (try have hk_w3_w21n : ¬ w2.heap.size + 1 = w3.heap.size := by omega); (try have hk_w3_w21m : ¬ w3.heap.size = w2.heap.size + 1 := by omega); have hmw3 : w2.heap.size ≤ w3.heap.size := (by refine Nat.le_trans ?_ hbk.size; (first | omega | (simp only [size_alloc, size_drew, size_drewN, size_set]; omega) | (simp only [size_alloc, size_drew, size_drewN, size_set]; done))); have hBw3 : Below w.heap.size w w3 := (by refine bw_below ?_ hbk; (repeat (first | (with_reducible assumption) | exact Below.refl _ _ | (with_reducible refine Below.drew ?_) | (with_reducible refine belowN ?_ _) | (with_reducible refine bw_alloc ?_ _) | ((with_reducible refine bw_set ?_ ?_ _ _); (focus (with_reducible assumption)))))); have hXaw3 : Box w3 (w.heap.size) [Value.bool na, Value.slice ao la.length ac] := (by refine Box.below ?_ hbk; (repeat (first | (with_reducible assumption) | (with_reducible refine Box.drew ?_) | (with_reducible refine Box.drewN ?_ _) | ((with_reducible refine Box.new _ _ ?_ ?_); (focus (first | (with_reducible exact rfl) | (simp only [size_alloc, size_drew, size_drewN, size_set]; done))); (focus (exact rfl))) | (with_reducible refine Box.alloc ?_ _) | ((with_reducible refine Box.put ?_ ?_ _ _ ?_); rotate_left) | ((with_reducible refine Box.set ?_ ?_ _ _); (focus (first | (with_reducible assumption) | (refine Ne.symm ?_; (with_reducible assumption))))) | (exact rfl)))); have hca_0w3 := hXaw3.c0; have hca_1w3 := hXaw3.c1; have hXbw3 : Box w3 (w.heap.size + 1) [Value.bool nb, Value.slice bo lb.length bc] := (by refine Box.below ?_ hbk; (repeat (first | (with_reducible assumption) | (with_reducible refine Box.drew ?_) | (with_reducible refine Box.drewN ?_ _) | ((with_reducible refine Box.new _ _ ?_ ?_); (focus (first | (with_reducible exact rfl) | (simp only [size_alloc, size_drew, size_drewN, size_set]; done))); (focus (exact rfl))) | (with_reducible refine Box.alloc ?_ _) | ((with_reducible refine Box.put ?_ ?_ _ _ ?_); rotate_left) | ((with_reducible refine Box.set ?_ ?_ _ _); (focus (first | (with_reducible assumption) | (refine Ne.symm ?_; (with_reducible assumption))))) | (exact rfl)))); have hcb_0w3 := hXbw3.c0; have hcb_1w3 := hXbw3.c1; have hbk_w3 := hbk))
    all_goals
      go_wp2_with fail
      go_meet
      refine ⟨_, _, uo, uo2, uc, uc2, rfl, rfl, ?_, ?_, ?_, ?_, NB.low (NB.fr hx ?_) ?_, NB.low (NB.fr hz ?_) ?_, ?_⟩
      · (repeat (first | (with_reducible assumption) | (with_reducible refine cs_drew ?_) | (with_reducible refine cs_drewN ?_ _) | ((with_reducible refine cs_put ?_ ?_); rotate_left) | ((with_reducible refine cs_off ?_ ?_); (focus (decide))) | ((with_reducible refine cs_set ?_ ?_); (focus (first | (with_reducible assumption) | omega | (dsimp only; omega) | (simp only [size_alloc, size_drew, size_drewN, size_set]; omega)))) | (refine (cell_new _ _ _ _ _ ?_).trans ?_; (focus (first | (with_reducible exact rfl) | (simp only [size_alloc, size_drew, size_drewN, size_set]; done))); (focus (exact rfl))) | (with_reducible refine cs_alloc ?_ _) | (with_reducible refine cs_below hbk_w3 ?_) | (with_reducible refine cs_below hbk_w2 ?_)))
      · (repeat (first | (with_reducible assumption) | (with_reducible refine cs_drew ?_) | (with_reducible refine cs_drewN ?_ _) | ((with_reducible refine cs_put ?_ ?_); rotate_left) | ((with_reducible refine cs_off ?_ ?_); (focus (decide))) | ((with_reducible refine cs_set ?_ ?_); (focus (first | (with_reducible assumption) | omega | (dsimp only; omega) | (simp only [size_alloc, size_drew, size_drewN, size_set]; omega)))) | (refine (cell_new _ _ _ _ _ ?_).trans ?_; (focus (first | (with_reducible exact rfl) | (simp only [size_alloc, size_drew, size_drewN, size_set]; done))); (focus (exact rfl))) | (with_reducible refine cs_alloc ?_ _) | (with_reducible refine cs_below hbk_w3 ?_) | (with_reducible refine cs_below hbk_w2 ?_)))
      · (repeat (first | (with_reducible assumption) | (with_reducible refine cs_drew ?_) | (with_reducible refine cs_drewN ?_ _) | ((with_reducible refine cs_put ?_ ?_); rotate_left) | ((with_reducible refine cs_off ?_ ?_); (focus (decide))) | ((with_reducible refine cs_set ?_ ?_); (focus (first | (with_reducible assumption) | omega | (dsimp only; omega) | (simp only [size_alloc, size_drew, size_drewN, size_set]; omega)))) | (refine (cell_new _ _ _ _ _ ?_).trans ?_; (focus (first | (with_reducible exact rfl) | (simp only [size_alloc, size_drew, size_drewN, size_set]; done))); (focus (exact rfl))) | (with_reducible refine cs_alloc ?_ _) | (with_reducible refine cs_below hbk_w3 ?_) | (with_reducible refine cs_below hbk_w2 ?_)))
      · (repeat (first | (with_reducible assumption) | (with_reducible refine cs_drew ?_) | (with_reducible refine cs_drewN ?_ _) | ((with_reducible refine cs_put ?_ ?_); rotate_left) | ((with_reducible refine cs_off ?_ ?_); (focus (decide))) | ((with_reducible refine cs_set ?_ ?_); (focus (first | (with_reducible assumption) | omega | (dsimp only; omega) | (simp only [size_alloc, size_drew, size_drewN, size_set]; omega)))) | (refine (cell_new _ _ _ _ _ ?_).trans ?_; (focus (first | (with_reducible exact rfl) | (simp only [size_alloc, size_drew, size_drewN, size_set]; done))); (focus (exact rfl))) | (with_reducible refine cs_alloc ?_ _) | (with_reducible refine cs_below hbk_w3 ?_) | (with_reducible refine cs_below hbk_w2 ?_)))
      · (repeat (first | (with_reducible assumption) | exact Fr.refl _ _ | (with_reducible refine Fr.drew ?_) | (with_reducible refine Fr.drewN ?_ _) | (with_reducible refine Fr.alloc ?_ _) | ((with_reducible refine Fr.set ?_ ?_ _); (focus (first | (with_reducible assumption) | omega | (dsimp only; omega) | (simp only [size_alloc, size_drew, size_drewN, size_set]; omega)))) | (with_reducible refine Fr.below ?_ hbk_w3) | (with_reducible refine Fr.below ?_ hbk_w2)))
      · (first | (with_reducible assumption) | omega | (dsimp only; omega) | (simp only [size_alloc, size_drew, size_drewN, size_set]; omega))
      · (repeat (first | (with_reducible assumption) | exact Fr.refl _ _ | (with_reducible refine Fr.drew ?_) | (with_reducible refine Fr.drewN ?_ _) | (with_reducible refine Fr.alloc ?_ _) | ((with_reducible refine Fr.set ?_ ?_ _); (focus (first | (with_reducible assumption) | omega | (dsimp only; omega) | (simp only [size_alloc, size_drew, size_drewN, size_set]; omega)))) | (with_reducible refine Fr.below ?_ hbk_w3) | (with_reducible refine Fr.below ?_ hbk_w2)))
      · (first | (with_reducible assumption) | omega | (dsimp only; omega) | (simp only [size_alloc, size_drew, size_drewN, size_set]; omega))
      · (repeat (first | (with_reducible assumption) | exact Below.refl _ _ | (with_reducible refine Below.drew ?_) | (with_reducible refine belowN ?_ _) | (with_reducible refine bw_alloc ?_ _) | ((with_reducible refine bw_set ?_ ?_ _ _); (focus (first | (with_reducible assumption) | omega | (dsimp only; omega) | (simp only [size_alloc, size_drew, size_drewN, size_set]; omega)))) | (with_reducible refine bw_below ?_ hbk_w3) | (with_reducible refine bw_below ?_ hbk_w2)))
  case rest =>
    clear hcb_1 hcb_0 hca_1 hca_0 hXb hXa hB
    obtain ⟨g1, g2, xo, yo, xc, yc, rfl, rfl, hcx0, hcx1, hcy0, hcy1, hNX, hNY, hB⟩ := hcut
    have HNX := Lib.hid hNX
    have HNY := Lib.hid hNY
    clear hNX hNY
    rcases hsy : zNeg y with _ | _ <;> rcases hsz : zNeg z with _ | _
    all_goals
      have HSY := Lib.hid hsy
      have HSZ := Lib.hid hsz
      have hnx := HNX.out
      have hny := HNY.out
      rw [hsy] at hcx1 hnx
      rw [hsz] at hcy1 hny
      replace HNX := Lib.hid hnx
      replace HNY := Lib.hid hny
      clear hsy hsz hnx hny
    · skip
      go_wp2_with fail
      refine (sizeCmp_any _ _ _ _ _ HNX.out.rd HNY.out.rd (Nat.le_trans h1.len (by omega)) (digs_u32 _) (Nat.le_trans h2.len (by omega)) (digs_u32 _)).mono ?_
      rintro e W2 ⟨rfl, hb⟩
      rw [val_digs _ (by omega), val_digs _ (by omega)]
      rw [← cmpZ_pos HSY.out HSZ.out]
      have hL : Below wc.heap.size wc W2 := hb
      have hm2 := hL.size
      have hB' := bw_below hB hL
      clear hL hb
      clear hB
      have hB := hB'
      clear hB'
      go_wp2_with fail
      go_ret
      exact ⟨rfl, hB⟩
    · skip
      go_wp2_with fail
      go_ret
      exact ⟨by rw [cmpZ_gt HSY.out HSZ.out]; rfl, hB⟩
    · skip
      go_wp2_with fail
      go_ret
      exact ⟨by rw [cmpZ_lt HSY.out HSZ.out]; rfl, hB⟩
    · skip
      go_wp2_with fail
      refine (sizeCmp_any _ _ _ _ _ HNY.out.rd HNX.out.rd (Nat.le_trans h2.len (by omega)) (digs_u32 _) (Nat.le_trans h1.len (by omega)) (digs_u32 _)).mono ?_
      rintro e W2 ⟨rfl, hb⟩
      rw [val_digs _ (by omega), val_digs _ (by omega)]
      rw [← cmpZ_neg HSY.out HSZ.out]
      have hL : Below wc.heap.size wc W2 := hb
      have hm2 := hL.size
      have hB' := bw_below hB hL
      clear hL hb
      clear hB
      have hB := hB'
      clear hB'
      go_wp2_with fail
      go_ret
      exact ⟨rfl, hB⟩

end Go.Proofs.YtjfncepmpabcnaaGreatDoor
