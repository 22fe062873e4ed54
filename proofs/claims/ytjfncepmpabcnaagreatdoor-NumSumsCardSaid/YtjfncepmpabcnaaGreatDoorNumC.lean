/- num: sums and products of two. -/
import Derived.Test.YtjfncepmpabcnaaGreatDoorNumB
import Derived.Test.YtjfncepmpabcnaaGreatDoorZRows
namespace Go.Proofs.YtjfncepmpabcnaaGreatDoor
open Go.RowKit
set_option linter.unusedSimpArgs false
set_option linter.unusedVariables false
attribute [local go_sem ↓] Go.wp_at_zero Go.wp_at_succ

theorem zV_neg (neg : Bool) (n : Nat) : zV neg (digs 1000000000 n) = zOf neg n := by rw [zV, val_digs _ (by omega)]
theorem made_n (v : Value) (neg : Bool) (n : Nat) (w : World) (hv : RdI w v .u32 (digs 1000000000 n)) (h1 : (digs 1000000000 n).length ≤ 1000000) :
    Calls Tryz.prog 66 #[v, .bool neg] w fun e w' => ∃ u, e = .returned u ∧ NB w' w.heap.size 103 u (zOf neg n) ∧ Below w.heap.size w w' := by
  have := made_any v neg _ w hv h1 (digs_u32 _)
  rw [zV_neg] at this
  exact this
theorem times_zb (y z : Int) : zOf (!(zNeg y == zNeg z)) (y.natAbs * z.natAbs) = y * z := times_z y z
theorem digs2_u32 (m n : Nat) : ∀ l ∈ [digs 1000000000 m, digs 1000000000 n], ∀ x ∈ l, x < 4294967296 := by
  simp only [List.mem_cons, List.not_mem_nil, or_false, forall_eq_or_imp, forall_eq]
  exact ⟨digs_u32 _, digs_u32 _⟩
theorem digs_len_pow {n k : Nat} (h : n < 1000000000 ^ k) : (digs 1000000000 n).length ≤ k := digs_length_le _ (by omega) _ _ h

set_option maxRecDepth 100000 in
set_option maxHeartbeats 4000000 in
theorem times_z_any (v u : Value) (y z : Int) (B C k1 k2 : Nat) (w : World) (hv : NB w B 103 v y) (hu : NB w C 103 u z) (h1 : ZB y k1) (h2 : ZB z k2) (hk : k1 + k2 ≤ 100000) :
    Calls Tryz.prog 60 #[v, u] w fun e w' => ∃ x, e = .returned x ∧ NB w' w.heap.size 103 x (y * z) ∧ Below w.heap.size w w' := by
  obtain ⟨ao, ac, rfl⟩ := hv.one
  obtain ⟨bo, bc, rfl⟩ := hu.one
  have HV := Lib.hid hv.rd
  have HU := Lib.hid hu.rd
  have hl1 : (digs 1000000000 y.natAbs).length ≤ 100000 := (h1.mono (by omega)).len
  have hl2 : (digs 1000000000 z.natAbs).length ≤ 100000 := (h2.mono (by omega)).len
  have HLX : Hid ((digs 1000000000 (y.natAbs * z.natAbs)).length ≤ 1000000) := Nat.le_trans (digs_len_pow (pow_mul_le h1 h2)) (by omega)
  clear hv hu h1 h2
  go_enter Tryz.func60, Tryz.ntmps60
  go_wp2_with fail
  have hB := Below.refl w.heap.size w
  have hbs := hB.size
  have hgn : w.heap.size ≤ w.heap.size := by omega
  have hgm : w.heap.size ≤ w.heap.size + 1 := by omega
  have hn_m_n : w.heap.size + 1 ≠ w.heap.size := by omega
  have hgr : w.heap.size ≤ w.heap.size + 1 + 1 := by omega
  have hn_r_n : w.heap.size + 1 + 1 ≠ w.heap.size := by omega
  have hn_r_m : w.heap.size + 1 + 1 ≠ w.heap.size + 1 := by omega
  clear hbs
  refine wp_gen fun W1 hW => ?_
  have hm1 : w.heap.size ≤ W1.heap.size := by rw [hW]; (first | omega | (simp only [size_alloc, size_drew, size_drewN, size_set]; omega) | (simp only [size_alloc, size_drew, size_drewN, size_set]; done))
  have hB' : Below w.heap.size w W1 := by rw [hW]; (repeat (first | (with_reducible assumption) | exact Below.refl _ _ | (with_reducible refine Below.drew ?_) | (with_reducible refine belowN ?_ _) | (with_reducible refine bw_alloc ?_ _) | ((with_reducible refine bw_set ?_ ?_ _ _); (focus (with_reducible assumption)))))
  have hXn' : Box W1 (w.heap.size) [Value.slice ao (digs 1000000000 y.natAbs).length ac, Value.bool (zNeg y)] := by rw [hW]; (repeat (first | (with_reducible assumption) | (with_reducible refine Box.drew ?_) | (with_reducible refine Box.drewN ?_ _) | ((with_reducible refine Box.new _ _ ?_ ?_); (focus (first | (with_reducible exact rfl) | (simp only [size_alloc, size_drew, size_drewN, size_set]; done))); (focus (exact rfl))) | (with_reducible refine Box.alloc ?_ _) | ((with_reducible refine Box.put ?_ ?_ _ _ ?_); rotate_left) | ((with_reducible refine Box.set ?_ ?_ _ _); (focus (first | (with_reducible assumption) | (refine Ne.symm ?_; (with_reducible assumption))))) | (exact rfl)))
  have hXm' : Box W1 (w.heap.size + 1) [Value.slice bo (digs 1000000000 z.natAbs).length bc, Value.bool (zNeg z)] := by rw [hW]; (repeat (first | (with_reducible assumption) | (with_reducible refine Box.drew ?_) | (with_reducible refine Box.drewN ?_ _) | ((with_reducible refine Box.new _ _ ?_ ?_); (focus (first | (with_reducible exact rfl) | (simp only [size_alloc, size_drew, size_drewN, size_set]; done))); (focus (exact rfl))) | (with_reducible refine Box.alloc ?_ _) | ((with_reducible refine Box.put ?_ ?_ _ _ ?_); rotate_left) | ((with_reducible refine Box.set ?_ ?_ _ _); (focus (first | (with_reducible assumption) | (refine Ne.symm ?_; (with_reducible assumption))))) | (exact rfl)))
  have hXr' : Box W1 (w.heap.size + 1 + 1) [Value.slice none 0 0, Value.bool false] := by rw [hW]; (repeat (first | (with_reducible assumption) | (with_reducible refine Box.drew ?_) | (with_reducible refine Box.drewN ?_ _) | ((with_reducible refine Box.new _ _ ?_ ?_); (focus (first | (with_reducible exact rfl) | (simp only [size_alloc, size_drew, size_drewN, size_set]; done))); (focus (exact rfl))) | (with_reducible refine Box.alloc ?_ _) | ((with_reducible refine Box.put ?_ ?_ _ _ ?_); rotate_left) | ((with_reducible refine Box.set ?_ ?_ _ _); (focus (first | (with_reducible assumption) | (refine Ne.symm ?_; (with_reducible assumption))))) | (exact rfl)))
  clear hW
  clear hB
  have hB := hB'; have hXn := hXn'; have hXm := hXm'; have hXr := hXr'
  clear hB' hXn' hXm' hXr'
  have hcn_0 := hXn.c0; have hcn_1 := hXn.c1; have hcm_0 := hXm.c0; have hcm_1 := hXm.c1; have hcr_0 := hXr.c0; have hfr_0 := hXr.free 0; have hcr_1 := hXr.c1; have hfr_1 := hXr.free 1
  go_region_held3 (fun w' => w'.cell? ⟨w.heap.size, 0, none⟩ = some (Value.slice ao (digs 1000000000 y.natAbs).length ac) ∧ w'.cell? ⟨w.heap.size, 1, none⟩ = some (Value.bool (zNeg y)) ∧ w'.cell? ⟨w.heap.size + 1, 0, none⟩ = some (Value.slice bo (digs 1000000000 z.natAbs).length bc) ∧ w'.cell? ⟨w.heap.size + 1, 1, none⟩ = some (Value.bool (zNeg z))) ((go_split_ands; ((repeat' apply And.intro) <;> (first | (with_reducible assumption) | ((repeat (first | (with_reducible assumption) | (with_reducible refine cs_drew ?_) | (with_reducible refine cs_drewN ?_ _) | (with_reducible refine cs_alloc ?_ _) | ((with_reducible refine cs_put ?_ ?_); rotate_left) | ((with_reducible refine cs_off ?_ ?_); (focus (decide))) | ((with_reducible refine cs_set ?_ ?_); (focus (first | (with_reducible assumption) | (refine Ne.symm ?_; (with_reducible assumption))))))); done) | (refine cs_below hbk ?_; ((repeat (first | (with_reducible assumption) | (with_reducible refine cs_drew ?_) | (with_reducible refine cs_drewN ?_ _) | (with_reducible refine cs_alloc ?_ _) | ((with_reducible refine cs_put ?_ ?_); rotate_left) | ((with_reducible refine cs_off ?_ ?_); (focus (decide))) | ((with_reducible refine cs_set ?_ ?_); (focus (first | (with_reducible assumption) | (refine Ne.symm ?_; (with_reducible assumption))))))); done))))))
    (first | (go_at_call 108; (with_reducible refine (natMul_any _ [(digs 1000000000 y.natAbs), (digs 1000000000 z.natAbs)] _ ?_ ?_ ?_ ?_).mono ?_); (focus (refine rdRows2 _ .u32 (Value.slice ao (digs 1000000000 y.natAbs).length ac) (Value.slice bo (digs 1000000000 z.natAbs).length bc) ((digs 1000000000 y.natAbs)) ((digs 1000000000 z.natAbs)) _ ?_ ?_ ?_ ?_; (focus ((first | ((repeat (first | (with_reducible assumption) | (with_reducible refine cs_drew ?_) | (with_reducible refine cs_drewN ?_ _) | (with_reducible refine cs_alloc ?_ _) | ((with_reducible refine cs_put ?_ ?_); rotate_left) | ((with_reducible refine cs_off ?_ ?_); (focus (decide))) | ((with_reducible refine cs_set ?_ ?_); (focus (first | (with_reducible assumption) | (refine Ne.symm ?_; (with_reducible assumption))))))); done) | ((repeat (first | (with_reducible refine cs_drew ?_) | (with_reducible refine cs_drewN ?_ _))); refine (cell_new _ _ _ _ _ ?_).trans ?_; (focus (first | exact rfl | (simp only [size_alloc, size_drew, size_drewN, size_set]; done))); exact rfl)))); (focus ((first | ((repeat (first | (with_reducible assumption) | (with_reducible refine cs_drew ?_) | (with_reducible refine cs_drewN ?_ _) | (with_reducible refine cs_alloc ?_ _) | ((with_reducible refine cs_put ?_ ?_); rotate_left) | ((with_reducible refine cs_off ?_ ?_); (focus (decide))) | ((with_reducible refine cs_set ?_ ?_); (focus (first | (with_reducible assumption) | (refine Ne.symm ?_; (with_reducible assumption))))))); done) | ((repeat (first | (with_reducible refine cs_drew ?_) | (with_reducible refine cs_drewN ?_ _))); refine (cell_new _ _ _ _ _ ?_).trans ?_; (focus (first | exact rfl | (simp only [size_alloc, size_drew, size_drewN, size_set]; done))); exact rfl)))); (focus (refine RdI.keep HV.out ?_; (repeat (first | (with_reducible assumption) | exact Below.refl _ _ | (with_reducible refine Below.drew ?_) | (with_reducible refine belowN ?_ _) | (with_reducible refine bw_alloc ?_ _) | ((with_reducible refine bw_set ?_ ?_ _ _); (focus (with_reducible assumption))))))); (focus (refine RdI.keep HU.out ?_; (repeat (first | (with_reducible assumption) | exact Below.refl _ _ | (with_reducible refine Below.drew ?_) | (with_reducible refine belowN ?_ _) | (with_reducible refine bw_alloc ?_ _) | ((with_reducible refine bw_set ?_ ?_ _ _); (focus (with_reducible assumption))))))))); (focus (simp only [wgt]; omega)); (focus (exact digs2_u32 _ _)); (focus (exact Nat.le_of_ble_eq_true rfl)); rintro e w2 ⟨x, rfl, hx, hbk⟩; rw [prodD2] at hx; obtain ⟨xo, xc, rfl⟩ := rd_sl hx.rd; have hmw2 : W1.heap.size ≤ w2.heap.size := (by refine Nat.le_trans ?_ hbk.size; (first | omega | (simp only [size_alloc, size_drew, size_drewN, size_set]; omega) | (simp only [size_alloc, size_drew, size_drewN, size_set]; done))); have hBw2 : Below w.heap.size w w2 := (by refine bw_below ?_ hbk; (repeat (first | (with_reducible assumption) | exact Below.refl _ _ | (with_reducible refine Below.drew ?_) | (with_reducible refine belowN ?_ _) | (with_reducible refine bw_alloc ?_ _) | ((with_reducible refine bw_set ?_ ?_ _ _); (focus (with_reducible assumption)))))); have hXnw2 : Box w2 (w.heap.size) [Value.slice ao (digs 1000000000 y.natAbs).length ac, Value.bool (zNeg y)] := (by refine Box.below ?_ hbk; (repeat (first | (with_reducible assumption) | (with_reducible refine Box.drew ?_) | (with_reducible refine Box.drewN ?_ _) | ((with_reducible refine Box.new _ _ ?_ ?_); (focus (first | (with_reducible exact rfl) | (simp only [size_alloc, size_drew, size_drewN, size_set]; done))); (focus (exact rfl))) | (with_reducible refine Box.alloc ?_ _) | ((with_reducible refine Box.put ?_ ?_ _ _ ?_); rotate_left) | ((with_reducible refine Box.set ?_ ?_ _ _); (focus (first | (with_reducible assumption) | (refine Ne.symm ?_; (with_reducible assumption))))) | (exact rfl)))); have hcn_0w2 := hXnw2.c0; have hcn_1w2 := hXnw2.c1; have hXmw2 : Box w2 (w.heap.size + 1) [Value.slice bo (digs 1000000000 z.natAbs).length bc, Value.bool (zNeg z)] := (by refine Box.below ?_ hbk; (repeat (first | (with_reducible assumption) | (with_reducible refine Box.drew ?_) | (with_reducible refine Box.drewN ?_ _) | ((with_reducible refine Box.new _ _ ?_ ?_); (focus (first | (with_reducible exact rfl) | (simp only [size_alloc, size_drew, size_drewN, size_set]; done))); (focus (exact rfl))) | (with_reducible refine Box.alloc ?_ _) | ((with_reducible refine Box.put ?_ ?_ _ _ ?_); rotate_left) | ((with_reducible refine Box.set ?_ ?_ _ _); (focus (first | (with_reducible assumption) | (refine Ne.symm ?_; (with_reducible assumption))))) | (exact rfl)))); have hcm_0w2 := hXmw2.c0; have hcm_1w2 := hXmw2.c1; have hXrw2 : Box w2 (w.heap.size + 1 + 1) [Value.slice none 0 0, Value.bool false] := (by refine Box.below ?_ hbk; (repeat (first | (with_reducible assumption) | (with_reducible refine Box.drew ?_) | (with_reducible refine Box.drewN ?_ _) | ((with_reducible refine Box.new _ _ ?_ ?_); (focus (first | (with_reducible exact rfl) | (simp only [size_alloc, size_drew, size_drewN, size_set]; done))); (focus (exact rfl))) | (with_reducible refine Box.alloc ?_ _) | ((with_reducible refine Box.put ?_ ?_ _ _ ?_); rotate_left) | ((with_reducible refine Box.set ?_ ?_ _ _); (focus (first | (with_reducible assumption) | (refine Ne.symm ?_; (with_reducible assumption))))) | (exact rfl)))); have hcr_0w2 := hXrw2.c0; have hfr_0w2 := hXrw2.free 0; have hcr_1w2 := hXrw2.c1; have hfr_1w2 := hXrw2.free 1) | (go_at_call 66; (with_reducible refine (made_n _ _ (y.natAbs * z.natAbs) _ hx.rd HLX.out).mono ?_); rintro e w3 ⟨q, rfl, hq, hbk⟩; rw [times_zb] at hq; obtain ⟨qo, qc, rfl⟩ := hq.one; have hmw3 : w2.heap.size ≤ w3.heap.size := (by refine Nat.le_trans ?_ hbk.size; (first | omega | (simp only [size_alloc, size_drew, size_drewN, size_set]; omega) | (simp only [size_alloc, size_drew, size_drewN, size_set]; done))); have hBw3 : Below w.heap.size w w3 := (by refine bw_below ?_ hbk; (repeat (first | (with_reducible assumption) | exact Below.refl _ _ | (with_reducible refine Below.drew ?_) | (with_reducible refine belowN ?_ _) | (with_reducible refine bw_alloc ?_ _) | ((with_reducible refine bw_set ?_ ?_ _ _); (focus (with_reducible assumption)))))); have hXnw3 : Box w3 (w.heap.size) [Value.slice ao (digs 1000000000 y.natAbs).length ac, Value.bool (zNeg y)] := (by refine Box.below ?_ hbk; (repeat (first | (with_reducible assumption) | (with_reducible refine Box.drew ?_) | (with_reducible refine Box.drewN ?_ _) | ((with_reducible refine Box.new _ _ ?_ ?_); (focus (first | (with_reducible exact rfl) | (simp only [size_alloc, size_drew, size_drewN, size_set]; done))); (focus (exact rfl))) | (with_reducible refine Box.alloc ?_ _) | ((with_reducible refine Box.put ?_ ?_ _ _ ?_); rotate_left) | ((with_reducible refine Box.set ?_ ?_ _ _); (focus (first | (with_reducible assumption) | (refine Ne.symm ?_; (with_reducible assumption))))) | (exact rfl)))); have hcn_0w3 := hXnw3.c0; have hcn_1w3 := hXnw3.c1; have hXmw3 : Box w3 (w.heap.size + 1) [Value.slice bo (digs 1000000000 z.natAbs).length bc, Value.bool (zNeg z)] := (by refine Box.below ?_ hbk; (repeat (first | (with_reducible assumption) | (with_reducible refine Box.drew ?_) | (with_reducible refine Box.drewN ?_ _) | ((with_reducible refine Box.new _ _ ?_ ?_); (focus (first | (with_reducible exact rfl) | (simp only [size_alloc, size_drew, size_drewN, size_set]; done))); (focus (exact rfl))) | (with_reducible refine Box.alloc ?_ _) | ((with_reducible refine Box.put ?_ ?_ _ _ ?_); rotate_left) | ((with_reducible refine Box.set ?_ ?_ _ _); (focus (first | (with_reducible assumption) | (refine Ne.symm ?_; (with_reducible assumption))))) | (exact rfl)))); have hcm_0w3 := hXmw3.c0; have hcm_1w3 := hXmw3.c1; have hXrw3 : Box w3 (w.heap.size + 1 + 1) [Value.slice none 0 0, Value.bool false] := (by refine Box.below ?_ hbk; (repeat (first | (with_reducible assumption) | (with_reducible refine Box.drew ?_) | (with_reducible refine Box.drewN ?_ _) | ((with_reducible refine Box.new _ _ ?_ ?_); (focus (first | (with_reducible exact rfl) | (simp only [size_alloc, size_drew, size_drewN, size_set]; done))); (focus (exact rfl))) | (with_reducible refine Box.alloc ?_ _) | ((with_reducible refine Box.put ?_ ?_ _ _ ?_); rotate_left) | ((with_reducible refine Box.set ?_ ?_ _ _); (focus (first | (with_reducible assumption) | (refine Ne.symm ?_; (with_reducible assumption))))) | (exact rfl)))); have hcr_0w3 := hXrw3.c0; have hfr_0w3 := hXrw3.free 0; have hcr_1w3 := hXrw3.c1; have hfr_1w3 := hXrw3.free 1; have hd_hq_n : w.heap.size < w2.heap.size ∨ w3.heap.size ≤ w.heap.size := .inl hXnw2.lt; have hd_hq_m : w.heap.size + 1 < w2.heap.size ∨ w3.heap.size ≤ w.heap.size + 1 := .inl hXmw2.lt; have hd_hq_r : w.heap.size + 1 + 1 < w2.heap.size ∨ w3.heap.size ≤ w.heap.size + 1 + 1 := .inl hXrw2.lt))
  go_wp2_with fail
  refine ret_gen fun W2 hW => ?_
  have hm2 : w3.heap.size ≤ W2.heap.size := by rw [hW]; (first | omega | (simp only [size_alloc, size_drew, size_drewN, size_set]; omega) | (simp only [size_alloc, size_drew, size_drewN, size_set]; done))
  have hB' : Below w.heap.size w W2 := by rw [hW]; (repeat (first | (with_reducible assumption) | exact Below.refl _ _ | (with_reducible refine Below.drew ?_) | (with_reducible refine belowN ?_ _) | (with_reducible refine bw_alloc ?_ _) | ((with_reducible refine bw_set ?_ ?_ _ _); (focus (with_reducible assumption)))))
  have hXr' : Box W2 (w.heap.size + 1 + 1) [Value.slice qo (digs 1000000000 (y * z).natAbs).length qc, Value.bool (zNeg (y * z))] := by rw [hW]; (repeat (first | (with_reducible assumption) | (with_reducible refine Box.drew ?_) | (with_reducible refine Box.drewN ?_ _) | ((with_reducible refine Box.new _ _ ?_ ?_); (focus (first | (with_reducible exact rfl) | (simp only [size_alloc, size_drew, size_drewN, size_set]; done))); (focus (exact rfl))) | (with_reducible refine Box.alloc ?_ _) | ((with_reducible refine Box.put ?_ ?_ _ _ ?_); rotate_left) | ((with_reducible refine Box.set ?_ ?_ _ _); (focus (first | (with_reducible assumption) | (refine Ne.symm ?_; (with_reducible assumption))))) | (exact rfl)))
  have Fhq' : Fr w3 (w2.heap.size) W2 := by rw [hW]; (repeat (first | (with_reducible assumption) | exact Fr.refl _ _ | (with_reducible refine Fr.drew ?_) | (with_reducible refine Fr.drewN ?_ _) | (with_reducible refine Fr.alloc ?_ _) | ((with_reducible refine Fr.set ?_ ?_ _); (focus (with_reducible assumption)))))
  clear hW
  clear hfr_1 hcr_1 hfr_0 hcr_0 hcm_1 hcm_0 hcn_1 hcn_0 hXr hXm hXn hB
  have hB := hB'; have hXr := hXr'; have Fhq := Fhq'
  clear hB' hXr' Fhq'
  have hcr_0 := hXr.c0; have hfr_0 := hXr.free 0; have hcr_1 := hXr.c1; have hfr_1 := hXr.free 1
  refine bodyPost_ret (v := .agg #[Value.slice qo (digs 1000000000 (y * z).natAbs).length qc, .bool (zNeg (y * z))]) (by simp [results, Tryz.results60, go_sem, hcr_0, hcr_1]) rfl ?_
  exact ⟨_, rfl, (hq.fr Fhq).low (by omega), hB⟩

set_option maxRecDepth 100000 in
set_option maxHeartbeats 4000000 in
theorem plus_same_any (v u : Value) (y z : Int) (B C k1 k2 : Nat) (w : World) (hv : NB w B 103 v y) (hu : NB w C 103 u z) (h1 : ZB y k1) (h2 : ZB z k2) (hk : k1 + k2 ≤ 100000) (hs : zNeg y = zNeg z) :
    Calls Tryz.prog 55 #[v, u] w fun e w' => ∃ x, e = .returned x ∧ NB w' w.heap.size 103 x (y + z) ∧ Below w.heap.size w w' := by
  obtain ⟨ao, ac, rfl⟩ := hv.one
  obtain ⟨bo, bc, rfl⟩ := hu.one
  have HV := Lib.hid hv.rd
  have HU := Lib.hid hu.rd
  have hl1 : (digs 1000000000 y.natAbs).length ≤ 100000 := (h1.mono (by omega)).len
  have hl2 : (digs 1000000000 z.natAbs).length ≤ 100000 := (h2.mono (by omega)).len
  have HLX : Hid ((digs 1000000000 (y.natAbs + z.natAbs)).length ≤ 1000000) := Nat.le_trans (digs_len_pow (pow_add_le h1 h2)) (by omega)
  have HS := Lib.hid hs
  have hbe : (zNeg y == zNeg z) = true := by rw [HS.out]; exact BEq.rfl
  clear hv hu h1 h2 hs
  go_enter Tryz.func55, Tryz.ntmps55
  go_wp2_with fail
  have hB := Below.refl w.heap.size w
  have hbs := hB.size
  have hgn : w.heap.size ≤ w.heap.size := by omega
  have hgm : w.heap.size ≤ w.heap.size + 1 := by omega
  have hn_m_n : w.heap.size + 1 ≠ w.heap.size := by omega
  have hgr : w.heap.size ≤ w.heap.size + 1 + 1 := by omega
  have hn_r_n : w.heap.size + 1 + 1 ≠ w.heap.size := by omega
  have hn_r_m : w.heap.size + 1 + 1 ≠ w.heap.size + 1 := by omega
  clear hbs
  refine wp_gen fun W1 hW => ?_
  have hm1 : w.heap.size ≤ W1.heap.size := by rw [hW]; (first | omega | (simp only [size_alloc, size_drew, size_drewN, size_set]; omega) | (simp only [size_alloc, size_drew, size_drewN, size_set]; done))
  have hB' : Below w.heap.size w W1 := by rw [hW]; (repeat (first | (with_reducible assumption) | exact Below.refl _ _ | (with_reducible refine Below.drew ?_) | (with_reducible refine belowN ?_ _) | (with_reducible refine bw_alloc ?_ _) | ((with_reducible refine bw_set ?_ ?_ _ _); (focus (with_reducible assumption)))))
  have hXn' : Box W1 (w.heap.size) [Value.slice ao (digs 1000000000 y.natAbs).length ac, Value.bool (zNeg y)] := by rw [hW]; (repeat (first | (with_reducible assumption) | (with_reducible refine Box.drew ?_) | (with_reducible refine Box.drewN ?_ _) | ((with_reducible refine Box.new _ _ ?_ ?_); (focus (first | (with_reducible exact rfl) | (simp only [size_alloc, size_drew, size_drewN, size_set]; done))); (focus (exact rfl))) | (with_reducible refine Box.alloc ?_ _) | ((with_reducible refine Box.put ?_ ?_ _ _ ?_); rotate_left) | ((with_reducible refine Box.set ?_ ?_ _ _); (focus (first | (with_reducible assumption) | (refine Ne.symm ?_; (with_reducible assumption))))) | (exact rfl)))
  have hXm' : Box W1 (w.heap.size + 1) [Value.slice bo (digs 1000000000 z.natAbs).length bc, Value.bool (zNeg z)] := by rw [hW]; (repeat (first | (with_reducible assumption) | (with_reducible refine Box.drew ?_) | (with_reducible refine Box.drewN ?_ _) | ((with_reducible refine Box.new _ _ ?_ ?_); (focus (first | (with_reducible exact rfl) | (simp only [size_alloc, size_drew, size_drewN, size_set]; done))); (focus (exact rfl))) | (with_reducible refine Box.alloc ?_ _) | ((with_reducible refine Box.put ?_ ?_ _ _ ?_); rotate_left) | ((with_reducible refine Box.set ?_ ?_ _ _); (focus (first | (with_reducible assumption) | (refine Ne.symm ?_; (with_reducible assumption))))) | (exact rfl)))
  have hXr' : Box W1 (w.heap.size + 1 + 1) [Value.slice none 0 0, Value.bool false] := by rw [hW]; (repeat (first | (with_reducible assumption) | (with_reducible refine Box.drew ?_) | (with_reducible refine Box.drewN ?_ _) | ((with_reducible refine Box.new _ _ ?_ ?_); (focus (first | (with_reducible exact rfl) | (simp only [size_alloc, size_drew, size_drewN, size_set]; done))); (focus (exact rfl))) | (with_reducible refine Box.alloc ?_ _) | ((with_reducible refine Box.put ?_ ?_ _ _ ?_); rotate_left) | ((with_reducible refine Box.set ?_ ?_ _ _); (focus (first | (with_reducible assumption) | (refine Ne.symm ?_; (with_reducible assumption))))) | (exact rfl)))
  clear hW
  clear hB
  have hB := hB'; have hXn := hXn'; have hXm := hXm'; have hXr := hXr'
  clear hB' hXn' hXm' hXr'
  have hcn_0 := hXn.c0; have hcn_1 := hXn.c1; have hcm_0 := hXm.c0; have hcm_1 := hXm.c1; have hcr_0 := hXr.c0; have hfr_0 := hXr.free 0; have hcr_1 := hXr.c1; have hfr_1 := hXr.free 1
  go_region_held3 (fun w' => w'.cell? ⟨w.heap.size, 0, none⟩ = some (Value.slice ao (digs 1000000000 y.natAbs).length ac) ∧ w'.cell? ⟨w.heap.size, 1, none⟩ = some (Value.bool (zNeg y)) ∧ w'.cell? ⟨w.heap.size + 1, 0, none⟩ = some (Value.slice bo (digs 1000000000 z.natAbs).length bc) ∧ w'.cell? ⟨w.heap.size + 1, 1, none⟩ = some (Value.bool (zNeg z))) ((go_split_ands; ((repeat' apply And.intro) <;> (first | (with_reducible assumption) | ((repeat (first | (with_reducible assumption) | (with_reducible refine cs_drew ?_) | (with_reducible refine cs_drewN ?_ _) | (with_reducible refine cs_alloc ?_ _) | ((with_reducible refine cs_put ?_ ?_); rotate_left) | ((with_reducible refine cs_off ?_ ?_); (focus (decide))) | ((with_reducible refine cs_set ?_ ?_); (focus (first | (with_reducible assumption) | (refine Ne.symm ?_; (with_reducible assumption))))))); done) | (refine cs_below hbk ?_; ((repeat (first | (with_reducible assumption) | (with_reducible refine cs_drew ?_) | (with_reducible refine cs_drewN ?_ _) | (with_reducible refine cs_alloc ?_ _) | ((with_reducible refine cs_put ?_ ?_); rotate_left) | ((with_reducible refine cs_off ?_ ?_); (focus (decide))) | ((with_reducible refine cs_set ?_ ?_); (focus (first | (with_reducible assumption) | (refine Ne.symm ?_; (with_reducible assumption))))))); done))))))
    (first | (go_at_call 103; (with_reducible refine (natAdd_any _ [(digs 1000000000 y.natAbs), (digs 1000000000 z.natAbs)] _ ?_ ?_ ?_ ?_).mono ?_); (focus (refine rdRows2 _ .u32 (Value.slice ao (digs 1000000000 y.natAbs).length ac) (Value.slice bo (digs 1000000000 z.natAbs).length bc) ((digs 1000000000 y.natAbs)) ((digs 1000000000 z.natAbs)) _ ?_ ?_ ?_ ?_; (focus ((first | ((repeat (first | (with_reducible assumption) | (with_reducible refine cs_drew ?_) | (with_reducible refine cs_drewN ?_ _) | (with_reducible refine cs_alloc ?_ _) | ((with_reducible refine cs_put ?_ ?_); rotate_left) | ((with_reducible refine cs_off ?_ ?_); (focus (decide))) | ((with_reducible refine cs_set ?_ ?_); (focus (first | (with_reducible assumption) | (refine Ne.symm ?_; (with_reducible assumption))))))); done) | ((repeat (first | (with_reducible refine cs_drew ?_) | (with_reducible refine cs_drewN ?_ _))); refine (cell_new _ _ _ _ _ ?_).trans ?_; (focus (first | exact rfl | (simp only [size_alloc, size_drew, size_drewN, size_set]; done))); exact rfl)))); (focus ((first | ((repeat (first | (with_reducible assumption) | (with_reducible refine cs_drew ?_) | (with_reducible refine cs_drewN ?_ _) | (with_reducible refine cs_alloc ?_ _) | ((with_reducible refine cs_put ?_ ?_); rotate_left) | ((with_reducible refine cs_off ?_ ?_); (focus (decide))) | ((with_reducible refine cs_set ?_ ?_); (focus (first | (with_reducible assumption) | (refine Ne.symm ?_; (with_reducible assumption))))))); done) | ((repeat (first | (with_reducible refine cs_drew ?_) | (with_reducible refine cs_drewN ?_ _))); refine (cell_new _ _ _ _ _ ?_).trans ?_; (focus (first | exact rfl | (simp only [size_alloc, size_drew, size_drewN, size_set]; done))); exact rfl)))); (focus (refine RdI.keep HV.out ?_; (repeat (first | (with_reducible assumption) | exact Below.refl _ _ | (with_reducible refine Below.drew ?_) | (with_reducible refine belowN ?_ _) | (with_reducible refine bw_alloc ?_ _) | ((with_reducible refine bw_set ?_ ?_ _ _); (focus (with_reducible assumption))))))); (focus (refine RdI.keep HU.out ?_; (repeat (first | (with_reducible assumption) | exact Below.refl _ _ | (with_reducible refine Below.drew ?_) | (with_reducible refine belowN ?_ _) | (with_reducible refine bw_alloc ?_ _) | ((with_reducible refine bw_set ?_ ?_ _ _); (focus (with_reducible assumption))))))))); (focus (simp only [wgt]; omega)); (focus (exact digs2_u32 _ _)); (focus (exact Nat.le_of_ble_eq_true rfl)); rintro e w2 ⟨x, rfl, hx, hbk⟩; rw [sumD2] at hx; obtain ⟨xo, xc, rfl⟩ := rd_sl hx.rd; have hmw2 : W1.heap.size ≤ w2.heap.size := (by refine Nat.le_trans ?_ hbk.size; (first | omega | (simp only [size_alloc, size_drew, size_drewN, size_set]; omega) | (simp only [size_alloc, size_drew, size_drewN, size_set]; done))); have hBw2 : Below w.heap.size w w2 := (by refine bw_below ?_ hbk; (repeat (first | (with_reducible assumption) | exact Below.refl _ _ | (with_reducible refine Below.drew ?_) | (with_reducible refine belowN ?_ _) | (with_reducible refine bw_alloc ?_ _) | ((with_reducible refine bw_set ?_ ?_ _ _); (focus (with_reducible assumption)))))); have hXnw2 : Box w2 (w.heap.size) [Value.slice ao (digs 1000000000 y.natAbs).length ac, Value.bool (zNeg y)] := (by refine Box.below ?_ hbk; (repeat (first | (with_reducible assumption) | (with_reducible refine Box.drew ?_) | (with_reducible refine Box.drewN ?_ _) | ((with_reducible refine Box.new _ _ ?_ ?_); (focus (first | (with_reducible exact rfl) | (simp only [size_alloc, size_drew, size_drewN, size_set]; done))); (focus (exact rfl))) | (with_reducible refine Box.alloc ?_ _) | ((with_reducible refine Box.put ?_ ?_ _ _ ?_); rotate_left) | ((with_reducible refine Box.set ?_ ?_ _ _); (focus (first | (with_reducible assumption) | (refine Ne.symm ?_; (with_reducible assumption))))) | (exact rfl)))); have hcn_0w2 := hXnw2.c0; have hcn_1w2 := hXnw2.c1; have hXmw2 : Box w2 (w.heap.size + 1) [Value.slice bo (digs 1000000000 z.natAbs).length bc, Value.bool (zNeg z)] := (by refine Box.below ?_ hbk; (repeat (first | (with_reducible assumption) | (with_reducible refine Box.drew ?_) | (with_reducible refine Box.drewN ?_ _) | ((with_reducible refine Box.new _ _ ?_ ?_); (focus (first | (with_reducible exact rfl) | (simp only [size_alloc, size_drew, size_drewN, size_set]; done))); (focus (exact rfl))) | (with_reducible refine Box.alloc ?_ _) | ((with_reducible refine Box.put ?_ ?_ _ _ ?_); rotate_left) | ((with_reducible refine Box.set ?_ ?_ _ _); (focus (first | (with_reducible assumption) | (refine Ne.symm ?_; (with_reducible assumption))))) | (exact rfl)))); have hcm_0w2 := hXmw2.c0; have hcm_1w2 := hXmw2.c1; have hXrw2 : Box w2 (w.heap.size + 1 + 1) [Value.slice none 0 0, Value.bool false] := (by refine Box.below ?_ hbk; (repeat (first | (with_reducible assumption) | (with_reducible refine Box.drew ?_) | (with_reducible refine Box.drewN ?_ _) | ((with_reducible refine Box.new _ _ ?_ ?_); (focus (first | (with_reducible exact rfl) | (simp only [size_alloc, size_drew, size_drewN, size_set]; done))); (focus (exact rfl))) | (with_reducible refine Box.alloc ?_ _) | ((with_reducible refine Box.put ?_ ?_ _ _ ?_); rotate_left) | ((with_reducible refine Box.set ?_ ?_ _ _); (focus (first | (with_reducible assumption) | (refine Ne.symm ?_; (with_reducible assumption))))) | (exact rfl)))); have hcr_0w2 := hXrw2.c0; have hfr_0w2 := hXrw2.free 0; have hcr_1w2 := hXrw2.c1; have hfr_1w2 := hXrw2.free 1) | (go_at_call 66; (with_reducible refine (made_n _ _ (y.natAbs + z.natAbs) _ hx.rd HLX.out).mono ?_); rintro e w3 ⟨q, rfl, hq, hbk⟩; rw [plus_same HS.out] at hq; obtain ⟨qo, qc, rfl⟩ := hq.one; have hmw3 : w2.heap.size ≤ w3.heap.size := (by refine Nat.le_trans ?_ hbk.size; (first | omega | (simp only [size_alloc, size_drew, size_drewN, size_set]; omega) | (simp only [size_alloc, size_drew, size_drewN, size_set]; done))); have hBw3 : Below w.heap.size w w3 := (by refine bw_below ?_ hbk; (repeat (first | (with_reducible assumption) | exact Below.refl _ _ | (with_reducible refine Below.drew ?_) | (with_reducible refine belowN ?_ _) | (with_reducible refine bw_alloc ?_ _) | ((with_reducible refine bw_set ?_ ?_ _ _); (focus (with_reducible assumption)))))); have hXnw3 : Box w3 (w.heap.size) [Value.slice ao (digs 1000000000 y.natAbs).length ac, Value.bool (zNeg y)] := (by refine Box.below ?_ hbk; (repeat (first | (with_reducible assumption) | (with_reducible refine Box.drew ?_) | (with_reducible refine Box.drewN ?_ _) | ((with_reducible refine Box.new _ _ ?_ ?_); (focus (first | (with_reducible exact rfl) | (simp only [size_alloc, size_drew, size_drewN, size_set]; done))); (focus (exact rfl))) | (with_reducible refine Box.alloc ?_ _) | ((with_reducible refine Box.put ?_ ?_ _ _ ?_); rotate_left) | ((with_reducible refine Box.set ?_ ?_ _ _); (focus (first | (with_reducible assumption) | (refine Ne.symm ?_; (with_reducible assumption))))) | (exact rfl)))); have hcn_0w3 := hXnw3.c0; have hcn_1w3 := hXnw3.c1; have hXmw3 : Box w3 (w.heap.size + 1) [Value.slice bo (digs 1000000000 z.natAbs).length bc, Value.bool (zNeg z)] := (by refine Box.below ?_ hbk; (repeat (first | (with_reducible assumption) | (with_reducible refine Box.drew ?_) | (with_reducible refine Box.drewN ?_ _) | ((with_reducible refine Box.new _ _ ?_ ?_); (focus (first | (with_reducible exact rfl) | (simp only [size_alloc, size_drew, size_drewN, size_set]; done))); (focus (exact rfl))) | (with_reducible refine Box.alloc ?_ _) | ((with_reducible refine Box.put ?_ ?_ _ _ ?_); rotate_left) | ((with_reducible refine Box.set ?_ ?_ _ _); (focus (first | (with_reducible assumption) | (refine Ne.symm ?_; (with_reducible assumption))))) | (exact rfl)))); have hcm_0w3 := hXmw3.c0; have hcm_1w3 := hXmw3.c1; have hXrw3 : Box w3 (w.heap.size + 1 + 1) [Value.slice none 0 0, Value.bool false] := (by refine Box.below ?_ hbk; (repeat (first | (with_reducible assumption) | (with_reducible refine Box.drew ?_) | (with_reducible refine Box.drewN ?_ _) | ((with_reducible refine Box.new _ _ ?_ ?_); (focus (first | (with_reducible exact rfl) | (simp only [size_alloc, size_drew, size_drewN, size_set]; done))); (focus (exact rfl))) | (with_reducible refine Box.alloc ?_ _) | ((with_reducible refine Box.put ?_ ?_ _ _ ?_); rotate_left) | ((with_reducible refine Box.set ?_ ?_ _ _); (focus (first | (with_reducible assumption) | (refine Ne.symm ?_; (with_reducible assumption))))) | (exact rfl)))); have hcr_0w3 := hXrw3.c0; have hfr_0w3 := hXrw3.free 0; have hcr_1w3 := hXrw3.c1; have hfr_1w3 := hXrw3.free 1; have hd_hq_n : w.heap.size < w2.heap.size ∨ w3.heap.size ≤ w.heap.size := .inl hXnw2.lt; have hd_hq_m : w.heap.size + 1 < w2.heap.size ∨ w3.heap.size ≤ w.heap.size + 1 := .inl hXmw2.lt; have hd_hq_r : w.heap.size + 1 + 1 < w2.heap.size ∨ w3.heap.size ≤ w.heap.size + 1 + 1 := .inl hXrw2.lt))
  go_wp2_with fail
  refine ret_gen fun W2 hW => ?_
  have hm2 : w3.heap.size ≤ W2.heap.size := by rw [hW]; (first | omega | (simp only [size_alloc, size_drew, size_drewN, size_set]; omega) | (simp only [size_alloc, size_drew, size_drewN, size_set]; done))
  have hB' : Below w.heap.size w W2 := by rw [hW]; (repeat (first | (with_reducible assumption) | exact Below.refl _ _ | (with_reducible refine Below.drew ?_) | (with_reducible refine belowN ?_ _) | (with_reducible refine bw_alloc ?_ _) | ((with_reducible refine bw_set ?_ ?_ _ _); (focus (with_reducible assumption)))))
  have hXr' : Box W2 (w.heap.size + 1 + 1) [Value.slice qo (digs 1000000000 (y + z).natAbs).length qc, Value.bool (zNeg (y + z))] := by rw [hW]; (repeat (first | (with_reducible assumption) | (with_reducible refine Box.drew ?_) | (with_reducible refine Box.drewN ?_ _) | ((with_reducible refine Box.new _ _ ?_ ?_); (focus (first | (with_reducible exact rfl) | (simp only [size_alloc, size_drew, size_drewN, size_set]; done))); (focus (exact rfl))) | (with_reducible refine Box.alloc ?_ _) | ((with_reducible refine Box.put ?_ ?_ _ _ ?_); rotate_left) | ((with_reducible refine Box.set ?_ ?_ _ _); (focus (first | (with_reducible assumption) | (refine Ne.symm ?_; (with_reducible assumption))))) | (exact rfl)))
  have Fhq' : Fr w3 (w2.heap.size) W2 := by rw [hW]; (repeat (first | (with_reducible assumption) | exact Fr.refl _ _ | (with_reducible refine Fr.drew ?_) | (with_reducible refine Fr.drewN ?_ _) | (with_reducible refine Fr.alloc ?_ _) | ((with_reducible refine Fr.set ?_ ?_ _); (focus (with_reducible assumption)))))
  clear hW
  clear hfr_1 hcr_1 hfr_0 hcr_0 hcm_1 hcm_0 hcn_1 hcn_0 hXr hXm hXn hB
  have hB := hB'; have hXr := hXr'; have Fhq := Fhq'
  clear hB' hXr' Fhq'
  have hcr_0 := hXr.c0; have hfr_0 := hXr.free 0; have hcr_1 := hXr.c1; have hfr_1 := hXr.free 1
  refine bodyPost_ret (v := .agg #[Value.slice qo (digs 1000000000 (y + z).natAbs).length qc, .bool (zNeg (y + z))]) (by simp [results, Tryz.results55, go_sem, hcr_0, hcr_1]) rfl ?_
  exact ⟨_, rfl, (hq.fr Fhq).low (by omega), hB⟩

set_option maxRecDepth 100000 in
set_option maxHeartbeats 4000000 in
theorem plus_ge_any (v u : Value) (y z : Int) (B C k1 k2 : Nat) (w : World) (hv : NB w B 103 v y) (hu : NB w C 103 u z) (h1 : ZB y k1) (h2 : ZB z k2) (hk : k1 + k2 ≤ 100000) (hs : zNeg y ≠ zNeg z) (hge : z.natAbs ≤ y.natAbs) :
    Calls Tryz.prog 55 #[v, u] w fun e w' => ∃ x, e = .returned x ∧ NB w' w.heap.size 103 x (y + z) ∧ Below w.heap.size w w' := by
  obtain ⟨ao, ac, rfl⟩ := hv.one
  obtain ⟨bo, bc, rfl⟩ := hu.one
  have HV := Lib.hid hv.rd
  have HU := Lib.hid hu.rd
  have hl1 : (digs 1000000000 y.natAbs).length ≤ 100000 := (h1.mono (by omega)).len
  have hl2 : (digs 1000000000 z.natAbs).length ≤ 100000 := (h2.mono (by omega)).len
  have HLX : Hid ((digs 1000000000 (y.natAbs - z.natAbs)).length ≤ 1000000) := by have := digs_length_mono 1000000000 (by omega) (Nat.sub_le y.natAbs z.natAbs); unfold Hid; omega
  have HS := Lib.hid hs
  have HGE := Lib.hid hge
  clear hv hu h1 h2 hs hge
  have hbe : (zNeg y == zNeg z) = false := by have := HS.out; revert this; cases zNeg y <;> cases zNeg z <;> simp
  have hge : ¬ cmpI (y.natAbs : Nat) (z.natAbs : Nat) < 0 := by have := HGE.out; unfold cmpI; rw [if_neg (by omega)]; split <;> omega
  generalize hcc : cmpI (y.natAbs : Nat) (z.natAbs : Nat) = cc at hge
  have HCC := Lib.hid hcc
  clear hcc
  go_enter Tryz.func55, Tryz.ntmps55
  go_wp2_with fail
  have hB := Below.refl w.heap.size w
  have hbs := hB.size
  have hgn : w.heap.size ≤ w.heap.size := by omega
  have hgm : w.heap.size ≤ w.heap.size + 1 := by omega
  have hn_m_n : w.heap.size + 1 ≠ w.heap.size := by omega
  have hgr : w.heap.size ≤ w.heap.size + 1 + 1 := by omega
  have hn_r_n : w.heap.size + 1 + 1 ≠ w.heap.size := by omega
  have hn_r_m : w.heap.size + 1 + 1 ≠ w.heap.size + 1 := by omega
  clear hbs
  refine calls_gen fun W1 hW => ?_
  have hm1 : w.heap.size ≤ W1.heap.size := by rw [hW]; (first | omega | (simp only [size_alloc, size_drew, size_drewN, size_set]; omega) | (simp only [size_alloc, size_drew, size_drewN, size_set]; done))
  have hB' : Below w.heap.size w W1 := by rw [hW]; (repeat (first | (with_reducible assumption) | exact Below.refl _ _ | (with_reducible refine Below.drew ?_) | (with_reducible refine belowN ?_ _) | (with_reducible refine bw_alloc ?_ _) | ((with_reducible refine bw_set ?_ ?_ _ _); (focus (with_reducible assumption)))))
  have hXn' : Box W1 (w.heap.size) [Value.slice ao (digs 1000000000 y.natAbs).length ac, Value.bool (zNeg y)] := by rw [hW]; (repeat (first | (with_reducible assumption) | (with_reducible refine Box.drew ?_) | (with_reducible refine Box.drewN ?_ _) | ((with_reducible refine Box.new _ _ ?_ ?_); (focus (first | (with_reducible exact rfl) | (simp only [size_alloc, size_drew, size_drewN, size_set]; done))); (focus (exact rfl))) | (with_reducible refine Box.alloc ?_ _) | ((with_reducible refine Box.put ?_ ?_ _ _ ?_); rotate_left) | ((with_reducible refine Box.set ?_ ?_ _ _); (focus (first | (with_reducible assumption) | (refine Ne.symm ?_; (with_reducible assumption))))) | (exact rfl)))
  have hXm' : Box W1 (w.heap.size + 1) [Value.slice bo (digs 1000000000 z.natAbs).length bc, Value.bool (zNeg z)] := by rw [hW]; (repeat (first | (with_reducible assumption) | (with_reducible refine Box.drew ?_) | (with_reducible refine Box.drewN ?_ _) | ((with_reducible refine Box.new _ _ ?_ ?_); (focus (first | (with_reducible exact rfl) | (simp only [size_alloc, size_drew, size_drewN, size_set]; done))); (focus (exact rfl))) | (with_reducible refine Box.alloc ?_ _) | ((with_reducible refine Box.put ?_ ?_ _ _ ?_); rotate_left) | ((with_reducible refine Box.set ?_ ?_ _ _); (focus (first | (with_reducible assumption) | (refine Ne.symm ?_; (with_reducible assumption))))) | (exact rfl)))
  have hXr' : Box W1 (w.heap.size + 1 + 1) [Value.slice none 0 0, Value.bool false] := by rw [hW]; (repeat (first | (with_reducible assumption) | (with_reducible refine Box.drew ?_) | (with_reducible refine Box.drewN ?_ _) | ((with_reducible refine Box.new _ _ ?_ ?_); (focus (first | (with_reducible exact rfl) | (simp only [size_alloc, size_drew, size_drewN, size_set]; done))); (focus (exact rfl))) | (with_reducible refine Box.alloc ?_ _) | ((with_reducible refine Box.put ?_ ?_ _ _ ?_); rotate_left) | ((with_reducible refine Box.set ?_ ?_ _ _); (focus (first | (with_reducible assumption) | (refine Ne.symm ?_; (with_reducible assumption))))) | (exact rfl)))
  clear hW
  clear hB
  have hB := hB'; have hXn := hXn'; have hXm := hXm'; have hXr := hXr'
  clear hB' hXn' hXm' hXr'
  have hcn_0 := hXn.c0; have hcn_1 := hXn.c1; have hcm_0 := hXm.c0; have hcm_1 := hXm.c1; have hcr_0 := hXr.c0; have hfr_0 := hXr.free 0; have hcr_1 := hXr.c1; have hfr_1 := hXr.free 1
  refine (sizeCmp_any _ _ _ _ _ (HV.out.keep hB) (HU.out.keep hB) (by omega) (digs_u32 _) (by omega) (digs_u32 _)).mono ?_
  rintro e W2 ⟨rfl, hb⟩
  rw [val_digs _ (by omega), val_digs _ (by omega), HCC.out]
  have hL : Below W1.heap.size W1 W2 := hb
  have hm2 := hL.size
  have hB' := bw_below hB hL
  have hXn' := hXn.below hL
  have hXm' := hXm.below hL
  have hXr' := hXr.below hL
  clear hL hb
  clear hfr_1 hcr_1 hfr_0 hcr_0 hcm_1 hcm_0 hcn_1 hcn_0 hXr hXm hXn hB
  have hB := hB'; have hXn := hXn'; have hXm := hXm'; have hXr := hXr'
  clear hB' hXn' hXm' hXr'
  have hcn_0 := hXn.c0; have hcn_1 := hXn.c1; have hcm_0 := hXm.c0; have hcm_1 := hXm.c1; have hcr_0 := hXr.c0; have hfr_0 := hXr.free 0; have hcr_1 := hXr.c1; have hfr_1 := hXr.free 1
  go_wp2_with fail
  refine (natSub_any _ _ _ _ _ (HV.out.keep hB) (HU.out.keep hB) (by omega) (digs_u32 _) (by omega) (digs_u32 _)).mono ?_
  rintro e W3 ⟨x, rfl, hx, hb⟩
  rw [val_digs _ (by omega), val_digs _ (by omega)] at hx ⊢
  obtain ⟨xo, xc, rfl⟩ := rd_sl hx.rd
  have hL : Below W2.heap.size W2 W3 := hb
  have hm3 := hL.size
  have hB' := bw_below hB hL
  have hXn' := hXn.below hL
  have hXm' := hXm.below hL
  have hXr' := hXr.below hL
  have HX := Lib.hid hx
  have hd_HX_n : w.heap.size < W2.heap.size ∨ W3.heap.size ≤ w.heap.size := .inl hXn.lt
  have hd_HX_m : w.heap.size + 1 < W2.heap.size ∨ W3.heap.size ≤ w.heap.size + 1 := .inl hXm.lt
  have hd_HX_r : w.heap.size + 1 + 1 < W2.heap.size ∨ W3.heap.size ≤ w.heap.size + 1 + 1 := .inl hXr.lt
  have FHX' := Fr.refl (W2.heap.size) W3
  clear hL hb hx
  clear hfr_1 hcr_1 hfr_0 hcr_0 hcm_1 hcm_0 hcn_1 hcn_0 hXr hXm hXn hB
  have hB := hB'; have hXn := hXn'; have hXm := hXm'; have hXr := hXr'; have FHX := FHX'
  clear hB' hXn' hXm' hXr' FHX'
  have hcn_0 := hXn.c0; have hcn_1 := hXn.c1; have hcm_0 := hXm.c0; have hcm_1 := hXm.c1; have hcr_0 := hXr.c0; have hfr_0 := hXr.free 0; have hcr_1 := hXr.c1; have hfr_1 := hXr.free 1
  go_wp2_with fail
  refine (made_n _ _ (y.natAbs - z.natAbs) _ (HX.out.fr FHX).rd HLX.out).mono ?_
  rintro e W4 ⟨q, rfl, hq, hb⟩
  rw [plus_other HS.out HGE.out] at hq
  obtain ⟨qo, qc, rfl⟩ := hq.one
  have hL : Below W3.heap.size W3 W4 := hb
  have hm4 := hL.size
  have hB' := bw_below hB hL
  have hXn' := hXn.below hL
  have hXm' := hXm.below hL
  have hXr' := hXr.below hL
  have FHX' := FHX.below hL
  have HQ := Lib.hid hq
  have hd_HQ_n : w.heap.size < W3.heap.size ∨ W4.heap.size ≤ w.heap.size := .inl hXn.lt
  have hd_HQ_m : w.heap.size + 1 < W3.heap.size ∨ W4.heap.size ≤ w.heap.size + 1 := .inl hXm.lt
  have hd_HQ_r : w.heap.size + 1 + 1 < W3.heap.size ∨ W4.heap.size ≤ w.heap.size + 1 + 1 := .inl hXr.lt
  have FHQ' := Fr.refl (W3.heap.size) W4
  clear hL hb hq
  clear hfr_1 hcr_1 hfr_0 hcr_0 hcm_1 hcm_0 hcn_1 hcn_0 FHX hXr hXm hXn hB
  have hB := hB'; have hXn := hXn'; have hXm := hXm'; have hXr := hXr'; have FHX := FHX'; have FHQ := FHQ'
  clear hB' hXn' hXm' hXr' FHX' FHQ'
  have hcn_0 := hXn.c0; have hcn_1 := hXn.c1; have hcm_0 := hXm.c0; have hcm_1 := hXm.c1; have hcr_0 := hXr.c0; have hfr_0 := hXr.free 0; have hcr_1 := hXr.c1; have hfr_1 := hXr.free 1
  go_wp2_with fail
  refine ret_gen fun W5 hW => ?_
  have hm5 : W4.heap.size ≤ W5.heap.size := by rw [hW]; (first | omega | (simp only [size_alloc, size_drew, size_drewN, size_set]; omega) | (simp only [size_alloc, size_drew, size_drewN, size_set]; done))
  have hB' : Below w.heap.size w W5 := by rw [hW]; (repeat (first | (with_reducible assumption) | exact Below.refl _ _ | (with_reducible refine Below.drew ?_) | (with_reducible refine belowN ?_ _) | (with_reducible refine bw_alloc ?_ _) | ((with_reducible refine bw_set ?_ ?_ _ _); (focus (with_reducible assumption)))))
  have hXr' : Box W5 (w.heap.size + 1 + 1) [Value.slice qo (digs 1000000000 (y + z).natAbs).length qc, Value.bool (zNeg (y + z))] := by rw [hW]; (repeat (first | (with_reducible assumption) | (with_reducible refine Box.drew ?_) | (with_reducible refine Box.drewN ?_ _) | ((with_reducible refine Box.new _ _ ?_ ?_); (focus (first | (with_reducible exact rfl) | (simp only [size_alloc, size_drew, size_drewN, size_set]; done))); (focus (exact rfl))) | (with_reducible refine Box.alloc ?_ _) | ((with_reducible refine Box.put ?_ ?_ _ _ ?_); rotate_left) | ((with_reducible refine Box.set ?_ ?_ _ _); (focus (first | (with_reducible assumption) | (refine Ne.symm ?_; (with_reducible assumption))))) | (exact rfl)))
  have FHX' : Fr W3 (W2.heap.size) W5 := by rw [hW]; (repeat (first | (with_reducible assumption) | exact Fr.refl _ _ | (with_reducible refine Fr.drew ?_) | (with_reducible refine Fr.drewN ?_ _) | (with_reducible refine Fr.alloc ?_ _) | ((with_reducible refine Fr.set ?_ ?_ _); (focus (with_reducible assumption)))))
  have FHQ' : Fr W4 (W3.heap.size) W5 := by rw [hW]; (repeat (first | (with_reducible assumption) | exact Fr.refl _ _ | (with_reducible refine Fr.drew ?_) | (with_reducible refine Fr.drewN ?_ _) | (with_reducible refine Fr.alloc ?_ _) | ((with_reducible refine Fr.set ?_ ?_ _); (focus (with_reducible assumption)))))
  clear hW
  clear hfr_1 hcr_1 hfr_0 hcr_0 hcm_1 hcm_0 hcn_1 hcn_0 FHQ FHX hXr hXm hXn hB
  have hB := hB'; have hXr := hXr'; have FHX := FHX'; have FHQ := FHQ'
  clear hB' hXr' FHX' FHQ'
  have hcr_0 := hXr.c0; have hfr_0 := hXr.free 0; have hcr_1 := hXr.c1; have hfr_1 := hXr.free 1
  refine bodyPost_ret (v := .agg #[Value.slice qo (digs 1000000000 (y + z).natAbs).length qc, .bool (zNeg (y + z))]) (by simp [results, Tryz.results55, go_sem, hcr_0, hcr_1]) rfl ?_
  exact ⟨_, rfl, (HQ.out.fr FHQ).low (by omega), hB⟩

set_option maxRecDepth 100000 in
set_option maxHeartbeats 4000000 in
theorem plus_lt_any (v u : Value) (y z : Int) (B C k1 k2 : Nat) (w : World) (hv : NB w B 103 v y) (hu : NB w C 103 u z) (h1 : ZB y k1) (h2 : ZB z k2) (hk : k1 + k2 ≤ 100000) (hs : zNeg y ≠ zNeg z) (hlt : y.natAbs < z.natAbs) :
    Calls Tryz.prog 55 #[v, u] w fun e w' => ∃ x, e = .returned x ∧ NB w' w.heap.size 103 x (y + z) ∧ Below w.heap.size w w' := by
  obtain ⟨ao, ac, rfl⟩ := hv.one
  obtain ⟨bo, bc, rfl⟩ := hu.one
  have HV := Lib.hid hv.rd
  have HU := Lib.hid hu.rd
  have hl1 : (digs 1000000000 y.natAbs).length ≤ 100000 := (h1.mono (by omega)).len
  have hl2 : (digs 1000000000 z.natAbs).length ≤ 100000 := (h2.mono (by omega)).len
  have HNV := Lib.hid hv
  have HNU := Lib.hid hu
  have HS := Lib.hid hs
  have HLT := Lib.hid hlt
  have H1 := Lib.hid h1
  have H2 := Lib.hid h2
  clear hv hu h1 h2 hs hlt
  have hbe : (zNeg y == zNeg z) = false := by have := HS.out; revert this; cases zNeg y <;> cases zNeg z <;> simp
  have hge : cmpI (y.natAbs : Nat) (z.natAbs : Nat) < 0 := by rw [cmpI_lt (by have := HLT.out; omega)]; omega
  generalize hcc : cmpI (y.natAbs : Nat) (z.natAbs : Nat) = cc at hge
  have HCC := Lib.hid hcc
  clear hcc
  go_enter Tryz.func55, Tryz.ntmps55
  go_wp2_with fail
  have hB := Below.refl w.heap.size w
  have hbs := hB.size
  have hgn : w.heap.size ≤ w.heap.size := by omega
  have hgm : w.heap.size ≤ w.heap.size + 1 := by omega
  have hn_m_n : w.heap.size + 1 ≠ w.heap.size := by omega
  have hgr : w.heap.size ≤ w.heap.size + 1 + 1 := by omega
  have hn_r_n : w.heap.size + 1 + 1 ≠ w.heap.size := by omega
  have hn_r_m : w.heap.size + 1 + 1 ≠ w.heap.size + 1 := by omega
  clear hbs
  refine calls_gen fun W1 hW => ?_
  have hm1 : w.heap.size ≤ W1.heap.size := by rw [hW]; (first | omega | (simp only [size_alloc, size_drew, size_drewN, size_set]; omega) | (simp only [size_alloc, size_drew, size_drewN, size_set]; done))
  have hB' : Below w.heap.size w W1 := by rw [hW]; (repeat (first | (with_reducible assumption) | exact Below.refl _ _ | (with_reducible refine Below.drew ?_) | (with_reducible refine belowN ?_ _) | (with_reducible refine bw_alloc ?_ _) | ((with_reducible refine bw_set ?_ ?_ _ _); (focus (with_reducible assumption)))))
  have hXn' : Box W1 (w.heap.size) [Value.slice ao (digs 1000000000 y.natAbs).length ac, Value.bool (zNeg y)] := by rw [hW]; (repeat (first | (with_reducible assumption) | (with_reducible refine Box.drew ?_) | (with_reducible refine Box.drewN ?_ _) | ((with_reducible refine Box.new _ _ ?_ ?_); (focus (first | (with_reducible exact rfl) | (simp only [size_alloc, size_drew, size_drewN, size_set]; done))); (focus (exact rfl))) | (with_reducible refine Box.alloc ?_ _) | ((with_reducible refine Box.put ?_ ?_ _ _ ?_); rotate_left) | ((with_reducible refine Box.set ?_ ?_ _ _); (focus (first | (with_reducible assumption) | (refine Ne.symm ?_; (with_reducible assumption))))) | (exact rfl)))
  have hXm' : Box W1 (w.heap.size + 1) [Value.slice bo (digs 1000000000 z.natAbs).length bc, Value.bool (zNeg z)] := by rw [hW]; (repeat (first | (with_reducible assumption) | (with_reducible refine Box.drew ?_) | (with_reducible refine Box.drewN ?_ _) | ((with_reducible refine Box.new _ _ ?_ ?_); (focus (first | (with_reducible exact rfl) | (simp only [size_alloc, size_drew, size_drewN, size_set]; done))); (focus (exact rfl))) | (with_reducible refine Box.alloc ?_ _) | ((with_reducible refine Box.put ?_ ?_ _ _ ?_); rotate_left) | ((with_reducible refine Box.set ?_ ?_ _ _); (focus (first | (with_reducible assumption) | (refine Ne.symm ?_; (with_reducible assumption))))) | (exact rfl)))
  have hXr' : Box W1 (w.heap.size + 1 + 1) [Value.slice none 0 0, Value.bool false] := by rw [hW]; (repeat (first | (with_reducible assumption) | (with_reducible refine Box.drew ?_) | (with_reducible refine Box.drewN ?_ _) | ((with_reducible refine Box.new _ _ ?_ ?_); (focus (first | (with_reducible exact rfl) | (simp only [size_alloc, size_drew, size_drewN, size_set]; done))); (focus (exact rfl))) | (with_reducible refine Box.alloc ?_ _) | ((with_reducible refine Box.put ?_ ?_ _ _ ?_); rotate_left) | ((with_reducible refine Box.set ?_ ?_ _ _); (focus (first | (with_reducible assumption) | (refine Ne.symm ?_; (with_reducible assumption))))) | (exact rfl)))
  clear hW
  clear hB
  have hB := hB'; have hXn := hXn'; have hXm := hXm'; have hXr := hXr'
  clear hB' hXn' hXm' hXr'
  have hcn_0 := hXn.c0; have hcn_1 := hXn.c1; have hcm_0 := hXm.c0; have hcm_1 := hXm.c1; have hcr_0 := hXr.c0; have hfr_0 := hXr.free 0; have hcr_1 := hXr.c1; have hfr_1 := hXr.free 1
  refine (sizeCmp_any _ _ _ _ _ (HV.out.keep hB) (HU.out.keep hB) (by omega) (digs_u32 _) (by omega) (digs_u32 _)).mono ?_
  rintro e W2 ⟨rfl, hb⟩
  rw [val_digs _ (by omega), val_digs _ (by omega), HCC.out]
  have hL : Below W1.heap.size W1 W2 := hb
  have hm2 := hL.size
  have hB' := bw_below hB hL
  have hXn' := hXn.below hL
  have hXm' := hXm.below hL
  have hXr' := hXr.below hL
  clear hL hb
  clear hfr_1 hcr_1 hfr_0 hcr_0 hcm_1 hcm_0 hcn_1 hcn_0 hXr hXm hXn hB
  have hB := hB'; have hXn := hXn'; have hXm := hXm'; have hXr := hXr'
  clear hB' hXn' hXm' hXr'
  have hcn_0 := hXn.c0; have hcn_1 := hXn.c1; have hcm_0 := hXm.c0; have hcm_1 := hXm.c1; have hcr_0 := hXr.c0; have hfr_0 := hXr.free 0; have hcr_1 := hXr.c1; have hfr_1 := hXr.free 1
  go_wp2_with fail
  refine (plus_ge_any _ _ z y C B k2 k1 _ (HNU.out.keep hB) (HNV.out.keep hB) H2.out H1.out (by omega) (fun h => HS.out h.symm) (by have := HLT.out; omega)).mono ?_
  rintro e W3 ⟨q, rfl, hq, hb⟩
  rw [Int.add_comm] at hq
  obtain ⟨qo, qc, rfl⟩ := hq.one
  have hL : Below W2.heap.size W2 W3 := hb
  have hm3 := hL.size
  have hB' := bw_below hB hL
  have hXn' := hXn.below hL
  have hXm' := hXm.below hL
  have hXr' := hXr.below hL
  have HQ := Lib.hid hq
  have hd_HQ_n : w.heap.size < W2.heap.size ∨ W3.heap.size ≤ w.heap.size := .inl hXn.lt
  have hd_HQ_m : w.heap.size + 1 < W2.heap.size ∨ W3.heap.size ≤ w.heap.size + 1 := .inl hXm.lt
  have hd_HQ_r : w.heap.size + 1 + 1 < W2.heap.size ∨ W3.heap.size ≤ w.heap.size + 1 + 1 := .inl hXr.lt
  have FHQ' := Fr.refl (W2.heap.size) W3
  clear hL hb hq
  clear hfr_1 hcr_1 hfr_0 hcr_0 hcm_1 hcm_0 hcn_1 hcn_0 hXr hXm hXn hB
  have hB := hB'; have hXn := hXn'; have hXm := hXm'; have hXr := hXr'; have FHQ := FHQ'
  clear hB' hXn' hXm' hXr' FHQ'
  have hcn_0 := hXn.c0; have hcn_1 := hXn.c1; have hcm_0 := hXm.c0; have hcm_1 := hXm.c1; have hcr_0 := hXr.c0; have hfr_0 := hXr.free 0; have hcr_1 := hXr.c1; have hfr_1 := hXr.free 1
  go_wp2_with fail
  refine ret_gen fun W4 hW => ?_
  have hm4 : W3.heap.size ≤ W4.heap.size := by rw [hW]; (first | omega | (simp only [size_alloc, size_drew, size_drewN, size_set]; omega) | (simp only [size_alloc, size_drew, size_drewN, size_set]; done))
  have hB' : Below w.heap.size w W4 := by rw [hW]; (repeat (first | (with_reducible assumption) | exact Below.refl _ _ | (with_reducible refine Below.drew ?_) | (with_reducible refine belowN ?_ _) | (with_reducible refine bw_alloc ?_ _) | ((with_reducible refine bw_set ?_ ?_ _ _); (focus (with_reducible assumption)))))
  have hXr' : Box W4 (w.heap.size + 1 + 1) [Value.slice qo (digs 1000000000 (y + z).natAbs).length qc, Value.bool (zNeg (y + z))] := by rw [hW]; (repeat (first | (with_reducible assumption) | (with_reducible refine Box.drew ?_) | (with_reducible refine Box.drewN ?_ _) | ((with_reducible refine Box.new _ _ ?_ ?_); (focus (first | (with_reducible exact rfl) | (simp only [size_alloc, size_drew, size_drewN, size_set]; done))); (focus (exact rfl))) | (with_reducible refine Box.alloc ?_ _) | ((with_reducible refine Box.put ?_ ?_ _ _ ?_); rotate_left) | ((with_reducible refine Box.set ?_ ?_ _ _); (focus (first | (with_reducible assumption) | (refine Ne.symm ?_; (with_reducible assumption))))) | (exact rfl)))
  have FHQ' : Fr W3 (W2.heap.size) W4 := by rw [hW]; (repeat (first | (with_reducible assumption) | exact Fr.refl _ _ | (with_reducible refine Fr.drew ?_) | (with_reducible refine Fr.drewN ?_ _) | (with_reducible refine Fr.alloc ?_ _) | ((with_reducible refine Fr.set ?_ ?_ _); (focus (with_reducible assumption)))))
  clear hW
  clear hfr_1 hcr_1 hfr_0 hcr_0 hcm_1 hcm_0 hcn_1 hcn_0 FHQ hXr hXm hXn hB
  have hB := hB'; have hXr := hXr'; have FHQ := FHQ'
  clear hB' hXr' FHQ'
  have hcr_0 := hXr.c0; have hfr_0 := hXr.free 0; have hcr_1 := hXr.c1; have hfr_1 := hXr.free 1
  refine bodyPost_ret (v := .agg #[Value.slice qo (digs 1000000000 (y + z).natAbs).length qc, .bool (zNeg (y + z))]) (by simp [results, Tryz.results55, go_sem, hcr_0, hcr_1]) rfl ?_
  exact ⟨_, rfl, (HQ.out.fr FHQ).low (by omega), hB⟩

theorem numPlus_any (v u : Value) (y z : Int) (B C k1 k2 : Nat) (w : World) (hv : NB w B 103 v y) (hu : NB w C 103 u z) (h1 : ZB y k1) (h2 : ZB z k2) (hk : k1 + k2 ≤ 100000) :
    Calls Tryz.prog 55 #[v, u] w fun e w' => ∃ x, e = .returned x ∧ NB w' w.heap.size 103 x (y + z) ∧ Below w.heap.size w w' := by
  by_cases hs : zNeg y = zNeg z
  · exact plus_same_any v u y z B C k1 k2 w hv hu h1 h2 hk hs
  · by_cases hlt : y.natAbs < z.natAbs
    · exact plus_lt_any v u y z B C k1 k2 w hv hu h1 h2 hk hs hlt
    · exact plus_ge_any v u y z B C k1 k2 w hv hu h1 h2 hk hs (by omega)

end Go.Proofs.YtjfncepmpabcnaaGreatDoor
