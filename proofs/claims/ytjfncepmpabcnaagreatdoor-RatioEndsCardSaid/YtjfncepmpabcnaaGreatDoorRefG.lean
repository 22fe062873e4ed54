/- The document's answer of layer 2: of, norm, Of, Parse. -/
import Derived.Test.YtjfncepmpabcnaaGreatDoorRefI
import Derived.Test.YtjfncepmpabcnaaGreatDoorNumF
import Derived.Test.YtjfncepmpabcnaaGreatDoorOp
namespace Go.Proofs.YtjfncepmpabcnaaGreatDoor
open Go.RowKit
set_option linter.unusedSimpArgs false
set_option linter.unusedVariables false
attribute [local go_sem ↓] Go.wp_at_zero Go.wp_at_succ

set_option maxRecDepth 100000 in
set_option maxHeartbeats 1000000 in
theorem refTrimR_any (v : Value) (l : List Nat) (w : World) (hv : RdI w v .u32 l) (h1 : l.length ≤ 1000000) (h2 : ∀ x ∈ l, x < 4294967296) :
    Calls Tryz.prog 67 #[v] w fun e w' => ∃ u, e = .returned u ∧ Own w' w.heap.size 103 .u32 u (digs 1000000000 (val 1000000000 l)) ∧ Below w.heap.size w w' := by
  have HL : Hid ((digs 10 (val 1000000000 l)).length ≤ 100000000) := by have := digs10_len (val_lt_any l h2); unfold Hid; omega
  have HV := Lib.hid hv
  have H2 := Lib.hid h2
  clear hv h2
  go_enter Tryz.func67, Tryz.ntmps67
  go_wp2_with fail
  refine (refRead_any _ l _ HV.out h1 H2.out).mono ?_
  rintro e w5 ⟨x, rfl, hx5, hb5⟩
  have hs5 := hb5.size
  go_wp2_with fail
  refine (refWrite_any _ _ _ hx5 HL.out (digs_rgt _ (by omega) _)).mono ?_
  rintro e w6 ⟨y, rfl, hy6, hb6⟩
  rw [val_digs _ (by omega)] at hy6
  go_wp2_with fail
  go_ret
  exact ⟨_, rfl, hy6.low hs5, hb5.trans (hb6.mono hs5)⟩
theorem OwnX.drew {w : World} {B lo hi : Nat} {e : TypeId} {k : IntKind} {v : Value} {l : List Nat} (h : OwnX w B lo hi e k v l) : OwnX w.drew B lo hi e k v l := h
theorem OwnX.alloc {w : World} {B lo hi : Nat} {e : TypeId} {k : IntKind} {v : Value} {l : List Nat} (h : OwnX w B lo hi e k v l) (o : Obj) : OwnX (w.alloc o) B lo hi e k v l := h.keep ((Below.refl _ _).alloc (Nat.le_refl _) _)
theorem io_mk {w : World} {B : Nat} {e : TypeId} {s : Value} {b : Bool} {z : Int} {m : Nat} (h : Own w B e .u32 s (digs 1000000000 m)) (hb : b = zNeg z) (hm : z.natAbs = m) : IO w B e (.agg #[.bool b, s]) z := by
  subst hb hm; exact ⟨_, rfl, h⟩
theorem own_sl {w : World} {B : Nat} {e : TypeId} {k : IntKind} {v : Value} {l : List Nat} (h : Own w B e k v l) : ∃ ao ac, v = .slice ao l.length ac := rd_sl h.rd
theorem sgnB (m : Nat) : decide (0 < (digs 1000000000 m).length) = zNeg (zOf true m) := by
  rw [zNeg_of, Bool.true_and]
  by_cases h : 0 < m
  · rw [digs_cons _ (by omega) _ (by omega)]; simp [h]
  · obtain rfl : m = 0 := by omega
    rw [digs_zero]; rfl

set_option maxRecDepth 100000 in
set_option maxHeartbeats 1000000 in
theorem refofR_true (v : Value) (l : List Nat) (w : World) (hv : RdI w v .u32 l) (h1 : l.length ≤ 1000000) (h2 : ∀ x ∈ l, x < 4294967296) :
    Calls Tryz.prog 61 #[.bool true, v] w fun e w' => ∃ x, e = .returned x ∧ IO w' w.heap.size 103 x (zV true l) ∧ Below w.heap.size w w' := by
  have HV := Lib.hid hv
  have H2 := Lib.hid h2
  clear hv h2
  go_enter Tryz.func61, Tryz.ntmps61
  go_wp2_with fail
  have hB := Below.refl w.heap.size w
  have hbs := hB.size
  have hgr : w.heap.size ≤ w.heap.size := hbs
  clear hbs
  refine calls_gen fun W1 hW => ?_
  have hm1 : w.heap.size ≤ W1.heap.size := by rw [hW]; (first | (simp only [size_alloc, size_drew, size_drewN, size_set]; (repeat (first | exact Nat.le_refl _ | refine Nat.le_succ_of_le ?_)); done) | omega | (simp only [size_alloc, size_drew, size_drewN, size_set]; omega) | (simp only [size_alloc, size_drew, size_drewN, size_set]; done))
  have hB' : Below w.heap.size w W1 := by rw [hW]; (repeat (first | (with_reducible assumption) | exact Below.refl _ _ | (with_reducible refine Below.drew ?_) | (with_reducible refine belowN ?_ _) | (with_reducible refine bw_alloc ?_ _) | ((with_reducible refine bw_set ?_ ?_ _ _); (focus (with_reducible assumption)))))
  have hXr' : Box W1 (w.heap.size) [Value.bool false, Value.slice none 0 0] := by rw [hW]; (repeat (first | (with_reducible assumption) | (with_reducible refine Box.drew ?_) | (with_reducible refine Box.drewN ?_ _) | ((with_reducible refine Box.new _ _ ?_ ?_); (focus (first | (with_reducible exact rfl) | (simp only [size_alloc, size_drew, size_drewN, size_set]; done))); (focus (exact rfl))) | (with_reducible refine Box.alloc ?_ _) | ((with_reducible refine Box.put ?_ ?_ _ _ ?_); rotate_left) | ((with_reducible refine Box.set ?_ ?_ _ _); (focus (first | (with_reducible assumption) | (refine Ne.symm ?_; (with_reducible assumption))))) | (exact rfl)))
  clear hW
  clear hB
  have hB := hB'; have hXr := hXr'
  clear hB' hXr'
  have hcr_0 := hXr.c0; have hfr_0 := hXr.free 0; have hcr_1 := hXr.c1; have hfr_1 := hXr.free 1
  have hW1x : w.heap.size + 1 ≤ W1.heap.size := hXr.lt
  refine (refTrimR_any _ l _ (HV.out.keep hB) h1 H2.out).mono ?_
  rintro e W2 ⟨u, rfl, hu, hb⟩
  obtain ⟨qo, qc, rfl⟩ := own_sl hu
  have HQ := Lib.hid (hu.x w.heap.size (hi := w.heap.size + 1) hW1x)
  clear hu
  have hL : Below W1.heap.size W1 W2 := hb
  have hm2 := hL.size
  have hB' := bw_below hB hL
  have hXr' := hXr.below hL
  clear hL hb
  clear hfr_1 hcr_1 hfr_0 hcr_0 hXr hB
  have hB := hB'; have hXr := hXr'
  clear hB' hXr'
  have hcr_0 := hXr.c0; have hfr_0 := hXr.free 0; have hcr_1 := hXr.c1; have hfr_1 := hXr.free 1
  go_wp2_with fail
  have hinr : w.heap.size < w.heap.size + 1 := by omega
  have hq0 := HQ.out
  refine ret_gen fun W3 hW => ?_
  have hm3 : W2.heap.size ≤ W3.heap.size := by rw [hW]; (first | (simp only [size_alloc, size_drew, size_drewN, size_set]; (repeat (first | exact Nat.le_refl _ | refine Nat.le_succ_of_le ?_)); done) | omega | (simp only [size_alloc, size_drew, size_drewN, size_set]; omega) | (simp only [size_alloc, size_drew, size_drewN, size_set]; done))
  have hB' : Below w.heap.size w W3 := by rw [hW]; (repeat (first | (with_reducible assumption) | exact Below.refl _ _ | (with_reducible refine Below.drew ?_) | (with_reducible refine belowN ?_ _) | (with_reducible refine bw_alloc ?_ _) | ((with_reducible refine bw_set ?_ ?_ _ _); (focus (with_reducible assumption)))))
  have hXr' : Box W3 (w.heap.size) [Value.bool (decide (0 < (digs 1000000000 (val 1000000000 l)).length)), Value.slice qo (digs 1000000000 (val 1000000000 l)).length qc] := by rw [hW]; (repeat (first | (with_reducible assumption) | (with_reducible refine Box.drew ?_) | (with_reducible refine Box.drewN ?_ _) | ((with_reducible refine Box.new _ _ ?_ ?_); (focus (first | (with_reducible exact rfl) | (simp only [size_alloc, size_drew, size_drewN, size_set]; done))); (focus (exact rfl))) | (with_reducible refine Box.alloc ?_ _) | ((with_reducible refine Box.put ?_ ?_ _ _ ?_); rotate_left) | ((with_reducible refine Box.set ?_ ?_ _ _); (focus (first | (with_reducible assumption) | (refine Ne.symm ?_; (with_reducible assumption))))) | (exact rfl)))
  have hq' : OwnX W3 W1.heap.size w.heap.size (w.heap.size + 1) 103 .u32 (.slice qo (digs 1000000000 (val 1000000000 l)).length qc) (digs 1000000000 (val 1000000000 l)) := by rw [hW]; (repeat (first | (with_reducible assumption) | (with_reducible refine OwnX.drew ?_) | (with_reducible refine OwnX.alloc ?_ _) | ((with_reducible refine OwnX.set ?_ ?_ ?_ _ _); (focus (with_reducible assumption)); (focus (with_reducible assumption)))))
  clear hW
  clear hfr_1 hcr_1 hfr_0 hcr_0 hXr hB
  have hB := hB'; have hXr := hXr'
  clear hB' hXr'
  have hcr_0 := hXr.c0; have hfr_0 := hXr.free 0; have hcr_1 := hXr.c1; have hfr_1 := hXr.free 1
  refine bodyPost_ret (v := .agg #[Value.bool (decide (0 < (digs 1000000000 (val 1000000000 l)).length)), Value.slice qo (digs 1000000000 (val 1000000000 l)).length qc]) (by simp [results, Tryz.results61, go_sem, hcr_0, hcr_1]) rfl ?_
  exact ⟨_, rfl, io_mk (hq'.1.low (by omega)) (sgnB _) (zOf_abs _ _), hB⟩

set_option maxRecDepth 100000 in
set_option maxHeartbeats 1000000 in
theorem refofR_false (v : Value) (l : List Nat) (w : World) (hv : RdI w v .u32 l) (h1 : l.length ≤ 1000000) (h2 : ∀ x ∈ l, x < 4294967296) :
    Calls Tryz.prog 61 #[.bool false, v] w fun e w' => ∃ x, e = .returned x ∧ IO w' w.heap.size 103 x (zV false l) ∧ Below w.heap.size w w' := by
  have HV := Lib.hid hv
  have H2 := Lib.hid h2
  clear hv h2
  go_enter Tryz.func61, Tryz.ntmps61
  go_wp2_with fail
  have hB := Below.refl w.heap.size w
  have hbs := hB.size
  have hgr : w.heap.size ≤ w.heap.size := hbs
  clear hbs
  refine calls_gen fun W1 hW => ?_
  have hm1 : w.heap.size ≤ W1.heap.size := by rw [hW]; (first | (simp only [size_alloc, size_drew, size_drewN, size_set]; (repeat (first | exact Nat.le_refl _ | refine Nat.le_succ_of_le ?_)); done) | omega | (simp only [size_alloc, size_drew, size_drewN, size_set]; omega) | (simp only [size_alloc, size_drew, size_drewN, size_set]; done))
  have hB' : Below w.heap.size w W1 := by rw [hW]; (repeat (first | (with_reducible assumption) | exact Below.refl _ _ | (with_reducible refine Below.drew ?_) | (with_reducible refine belowN ?_ _) | (with_reducible refine bw_alloc ?_ _) | ((with_reducible refine bw_set ?_ ?_ _ _); (focus (with_reducible assumption)))))
  have hXr' : Box W1 (w.heap.size) [Value.bool false, Value.slice none 0 0] := by rw [hW]; (repeat (first | (with_reducible assumption) | (with_reducible refine Box.drew ?_) | (with_reducible refine Box.drewN ?_ _) | ((with_reducible refine Box.new _ _ ?_ ?_); (focus (first | (with_reducible exact rfl) | (simp only [size_alloc, size_drew, size_drewN, size_set]; done))); (focus (exact rfl))) | (with_reducible refine Box.alloc ?_ _) | ((with_reducible refine Box.put ?_ ?_ _ _ ?_); rotate_left) | ((with_reducible refine Box.set ?_ ?_ _ _); (focus (first | (with_reducible assumption) | (refine Ne.symm ?_; (with_reducible assumption))))) | (exact rfl)))
  clear hW
  clear hB
  have hB := hB'; have hXr := hXr'
  clear hB' hXr'
  have hcr_0 := hXr.c0; have hfr_0 := hXr.free 0; have hcr_1 := hXr.c1; have hfr_1 := hXr.free 1
  have hW1x : w.heap.size + 1 ≤ W1.heap.size := hXr.lt
  refine (refTrimR_any _ l _ (HV.out.keep hB) h1 H2.out).mono ?_
  rintro e W2 ⟨u, rfl, hu, hb⟩
  obtain ⟨qo, qc, rfl⟩ := own_sl hu
  have HQ := Lib.hid (hu.x w.heap.size (hi := w.heap.size + 1) hW1x)
  clear hu
  have hL : Below W1.heap.size W1 W2 := hb
  have hm2 := hL.size
  have hB' := bw_below hB hL
  have hXr' := hXr.below hL
  clear hL hb
  clear hfr_1 hcr_1 hfr_0 hcr_0 hXr hB
  have hB := hB'; have hXr := hXr'
  clear hB' hXr'
  have hcr_0 := hXr.c0; have hfr_0 := hXr.free 0; have hcr_1 := hXr.c1; have hfr_1 := hXr.free 1
  go_wp2_with fail
  have hinr : w.heap.size < w.heap.size + 1 := by omega
  have hq0 := HQ.out
  refine ret_gen fun W3 hW => ?_
  have hm3 : W2.heap.size ≤ W3.heap.size := by rw [hW]; (first | (simp only [size_alloc, size_drew, size_drewN, size_set]; (repeat (first | exact Nat.le_refl _ | refine Nat.le_succ_of_le ?_)); done) | omega | (simp only [size_alloc, size_drew, size_drewN, size_set]; omega) | (simp only [size_alloc, size_drew, size_drewN, size_set]; done))
  have hB' : Below w.heap.size w W3 := by rw [hW]; (repeat (first | (with_reducible assumption) | exact Below.refl _ _ | (with_reducible refine Below.drew ?_) | (with_reducible refine belowN ?_ _) | (with_reducible refine bw_alloc ?_ _) | ((with_reducible refine bw_set ?_ ?_ _ _); (focus (with_reducible assumption)))))
  have hXr' : Box W3 (w.heap.size) [Value.bool (false), Value.slice qo (digs 1000000000 (val 1000000000 l)).length qc] := by rw [hW]; (repeat (first | (with_reducible assumption) | (with_reducible refine Box.drew ?_) | (with_reducible refine Box.drewN ?_ _) | ((with_reducible refine Box.new _ _ ?_ ?_); (focus (first | (with_reducible exact rfl) | (simp only [size_alloc, size_drew, size_drewN, size_set]; done))); (focus (exact rfl))) | (with_reducible refine Box.alloc ?_ _) | ((with_reducible refine Box.put ?_ ?_ _ _ ?_); rotate_left) | ((with_reducible refine Box.set ?_ ?_ _ _); (focus (first | (with_reducible assumption) | (refine Ne.symm ?_; (with_reducible assumption))))) | (exact rfl)))
  have hq' : OwnX W3 W1.heap.size w.heap.size (w.heap.size + 1) 103 .u32 (.slice qo (digs 1000000000 (val 1000000000 l)).length qc) (digs 1000000000 (val 1000000000 l)) := by rw [hW]; (repeat (first | (with_reducible assumption) | (with_reducible refine OwnX.drew ?_) | (with_reducible refine OwnX.alloc ?_ _) | ((with_reducible refine OwnX.set ?_ ?_ ?_ _ _); (focus (with_reducible assumption)); (focus (with_reducible assumption)))))
  clear hW
  clear hfr_1 hcr_1 hfr_0 hcr_0 hXr hB
  have hB := hB'; have hXr := hXr'
  clear hB' hXr'
  have hcr_0 := hXr.c0; have hfr_0 := hXr.free 0; have hcr_1 := hXr.c1; have hfr_1 := hXr.free 1
  refine bodyPost_ret (v := .agg #[Value.bool (false), Value.slice qo (digs 1000000000 (val 1000000000 l)).length qc]) (by simp [results, Tryz.results61, go_sem, hcr_0, hcr_1]) rfl ?_
  exact ⟨_, rfl, io_mk (hq'.1.low (by omega)) ((zNeg_of false _).symm) (zOf_abs _ _), hB⟩

theorem refofR_any (neg : Bool) (v : Value) (l : List Nat) (w : World) (hv : RdI w v .u32 l) (h1 : l.length ≤ 1000000) (h2 : ∀ x ∈ l, x < 4294967296) :
    Calls Tryz.prog 61 #[.bool neg, v] w fun e w' => ∃ x, e = .returned x ∧ IO w' w.heap.size 103 x (zV neg l) ∧ Below w.heap.size w w' := by
  cases neg
  · exact refofR_false v l w hv h1 h2
  · exact refofR_true v l w hv h1 h2

set_option maxRecDepth 100000 in
set_option maxHeartbeats 1000000 in
theorem refNorm_any (v : Value) (z : Int) (k : Nat) (w : World) (hv : IZ w v z k) (hk : k ≤ 1000000) :
    Calls Tryz.prog 58 #[v] w fun e w' => ∃ x, e = .returned x ∧ IO w' w.heap.size 103 x z ∧ Below w.heap.size w w' := by
  obtain ⟨na, la, hA, hla, hz⟩ := hv
  obtain ⟨v', rfl, hA, h2⟩ := hA
  obtain ⟨ao, ac, rfl⟩ := rd_sl hA
  have HA := Lib.hid hA
  have H2 := Lib.hid h2
  have HZ := Lib.hid hz
  clear hA h2 hz
  go_enter Tryz.func58, Tryz.ntmps58
  go_wp2_with fail
  have hB := Below.refl w.heap.size w
  have hbs := hB.size
  have hga : w.heap.size ≤ w.heap.size := hbs
  have hgr : w.heap.size ≤ w.heap.size + 1 := blk_le hbs 1
  have hn_r_a : w.heap.size + 1 ≠ w.heap.size := blk_ne0 1 (by decide)
  clear hbs
  refine calls_gen fun W1 hW => ?_
  have hm1 : w.heap.size ≤ W1.heap.size := by rw [hW]; (first | (simp only [size_alloc, size_drew, size_drewN, size_set]; (repeat (first | exact Nat.le_refl _ | refine Nat.le_succ_of_le ?_)); done) | omega | (simp only [size_alloc, size_drew, size_drewN, size_set]; omega) | (simp only [size_alloc, size_drew, size_drewN, size_set]; done))
  have hB' : Below w.heap.size w W1 := by rw [hW]; (repeat (first | (with_reducible assumption) | exact Below.refl _ _ | (with_reducible refine Below.drew ?_) | (with_reducible refine belowN ?_ _) | (with_reducible refine bw_alloc ?_ _) | ((with_reducible refine bw_set ?_ ?_ _ _); (focus (with_reducible assumption)))))
  have hXa' : Box W1 (w.heap.size) [Value.bool na, Value.slice ao la.length ac] := by rw [hW]; (repeat (first | (with_reducible assumption) | (with_reducible refine Box.drew ?_) | (with_reducible refine Box.drewN ?_ _) | ((with_reducible refine Box.new _ _ ?_ ?_); (focus (first | (with_reducible exact rfl) | (simp only [size_alloc, size_drew, size_drewN, size_set]; done))); (focus (exact rfl))) | (with_reducible refine Box.alloc ?_ _) | ((with_reducible refine Box.put ?_ ?_ _ _ ?_); rotate_left) | ((with_reducible refine Box.set ?_ ?_ _ _); (focus (first | (with_reducible assumption) | (refine Ne.symm ?_; (with_reducible assumption))))) | (exact rfl)))
  have hXr' : Box W1 (w.heap.size + 1) [Value.bool false, Value.slice none 0 0] := by rw [hW]; (repeat (first | (with_reducible assumption) | (with_reducible refine Box.drew ?_) | (with_reducible refine Box.drewN ?_ _) | ((with_reducible refine Box.new _ _ ?_ ?_); (focus (first | (with_reducible exact rfl) | (simp only [size_alloc, size_drew, size_drewN, size_set]; done))); (focus (exact rfl))) | (with_reducible refine Box.alloc ?_ _) | ((with_reducible refine Box.put ?_ ?_ _ _ ?_); rotate_left) | ((with_reducible refine Box.set ?_ ?_ _ _); (focus (first | (with_reducible assumption) | (refine Ne.symm ?_; (with_reducible assumption))))) | (exact rfl)))
  clear hW
  clear hB
  have hB := hB'; have hXa := hXa'; have hXr := hXr'
  clear hB' hXa' hXr'
  have hca_0 := hXa.c0; have hca_1 := hXa.c1; have hcr_0 := hXr.c0; have hfr_0 := hXr.free 0; have hcr_1 := hXr.c1; have hfr_1 := hXr.free 1
  have hW1x : w.heap.size + 2 ≤ W1.heap.size := hXr.lt
  refine (refofR_any na _ la _ (HA.out.keep hB) (by omega) H2.out).mono ?_
  rintro e W2 ⟨q, rfl, hq, hb⟩
  rw [HZ.out] at hq
  obtain ⟨qo, qc, rfl⟩ := hq.one
  have HQ := Lib.hid (hq.x w.heap.size (hi := w.heap.size + 2) hW1x)
  clear hq
  have hL : Below W1.heap.size W1 W2 := hb
  have hm2 := hL.size
  have hB' := bw_below hB hL
  have hXa' := hXa.below hL
  have hXr' := hXr.below hL
  clear hL hb
  clear hfr_1 hcr_1 hfr_0 hcr_0 hca_1 hca_0 hXr hXa hB
  have hB := hB'; have hXa := hXa'; have hXr := hXr'
  clear hB' hXa' hXr'
  have hca_0 := hXa.c0; have hca_1 := hXa.c1; have hcr_0 := hXr.c0; have hfr_0 := hXr.free 0; have hcr_1 := hXr.c1; have hfr_1 := hXr.free 1
  go_wp2_with fail
  have hin0 : w.heap.size ≤ w.heap.size + 1 := by omega
  have hin1 : w.heap.size + 1 < w.heap.size + 2 := by omega
  have hq0 := HQ.out
  refine ret_gen fun W3 hW => ?_
  have hm3 : W2.heap.size ≤ W3.heap.size := by rw [hW]; (first | (simp only [size_alloc, size_drew, size_drewN, size_set]; (repeat (first | exact Nat.le_refl _ | refine Nat.le_succ_of_le ?_)); done) | omega | (simp only [size_alloc, size_drew, size_drewN, size_set]; omega) | (simp only [size_alloc, size_drew, size_drewN, size_set]; done))
  have hB' : Below w.heap.size w W3 := by rw [hW]; (repeat (first | (with_reducible assumption) | exact Below.refl _ _ | (with_reducible refine Below.drew ?_) | (with_reducible refine belowN ?_ _) | (with_reducible refine bw_alloc ?_ _) | ((with_reducible refine bw_set ?_ ?_ _ _); (focus (with_reducible assumption)))))
  have hXa' : Box W3 (w.heap.size) [Value.bool na, Value.slice ao la.length ac] := by rw [hW]; (repeat (first | (with_reducible assumption) | (with_reducible refine Box.drew ?_) | (with_reducible refine Box.drewN ?_ _) | ((with_reducible refine Box.new _ _ ?_ ?_); (focus (first | (with_reducible exact rfl) | (simp only [size_alloc, size_drew, size_drewN, size_set]; done))); (focus (exact rfl))) | (with_reducible refine Box.alloc ?_ _) | ((with_reducible refine Box.put ?_ ?_ _ _ ?_); rotate_left) | ((with_reducible refine Box.set ?_ ?_ _ _); (focus (first | (with_reducible assumption) | (refine Ne.symm ?_; (with_reducible assumption))))) | (exact rfl)))
  have hXr' : Box W3 (w.heap.size + 1) [Value.bool (zNeg z), Value.slice qo (digs 1000000000 (z).natAbs).length qc] := by rw [hW]; (repeat (first | (with_reducible assumption) | (with_reducible refine Box.drew ?_) | (with_reducible refine Box.drewN ?_ _) | ((with_reducible refine Box.new _ _ ?_ ?_); (focus (first | (with_reducible exact rfl) | (simp only [size_alloc, size_drew, size_drewN, size_set]; done))); (focus (exact rfl))) | (with_reducible refine Box.alloc ?_ _) | ((with_reducible refine Box.put ?_ ?_ _ _ ?_); rotate_left) | ((with_reducible refine Box.set ?_ ?_ _ _); (focus (first | (with_reducible assumption) | (refine Ne.symm ?_; (with_reducible assumption))))) | (exact rfl)))
  have hq' : IOX W3 W1.heap.size w.heap.size (w.heap.size + 2) 103 (.agg #[Value.bool (zNeg z), Value.slice qo (digs 1000000000 (z).natAbs).length qc]) z := by rw [hW]; (repeat (first | (with_reducible assumption) | (with_reducible refine IOX.drew ?_) | (with_reducible refine IOX.alloc ?_ _) | ((with_reducible refine IOX.set ?_ ?_ ?_ _ _); (focus (with_reducible assumption)); (focus (with_reducible assumption)))))
  clear hW
  clear hfr_1 hcr_1 hfr_0 hcr_0 hca_1 hca_0 hXr hXa hB
  have hB := hB'; have hXa := hXa'; have hXr := hXr'
  clear hB' hXa' hXr'
  have hca_0 := hXa.c0; have hca_1 := hXa.c1; have hcr_0 := hXr.c0; have hfr_0 := hXr.free 0; have hcr_1 := hXr.c1; have hfr_1 := hXr.free 1
  refine bodyPost_ret (v := .agg #[Value.bool (zNeg z), Value.slice qo (digs 1000000000 (z).natAbs).length qc]) (by simp [results, Tryz.results58, go_sem, hcr_0, hcr_1]) rfl ?_
  exact ⟨_, rfl, hq'.io.low (by omega), hB⟩

set_option maxRecDepth 100000 in
set_option maxHeartbeats 2000000 in
theorem refOfZ_neg (n : Int) (w : World) (h1 : -9223372036854775808 ≤ n) (h2 : n ≤ 9223372036854775807) (h3 : n < 0) :
    Calls Tryz.prog 56 #[.int .i64 n] w fun e w' => ∃ x, e = .returned x ∧ IO w' w.heap.size 103 x n ∧ Below w.heap.size w w' := by
  have HN : Hid (n.natAbs < 18446744073709551616) := by unfold Hid; omega
  have HZ : Hid (zOf true n.natAbs = n) := by unfold Hid; simp only [zOf]; simp; omega
  obtain ⟨i0, hi, hz0', hz1', hz2'⟩ := info_parts Tryz.infoU32
  go_enter Tryz.func56, Tryz.ntmps56
  go_wp2_with fail
  have hB := Below.refl w.heap.size w
  have hbs := hB.size
  have hgr : w.heap.size ≤ w.heap.size := hbs
  clear hbs
  refine wp_gen fun W1 hW => ?_
  have hm1 : w.heap.size ≤ W1.heap.size := by rw [hW]; (first | (simp only [size_alloc, size_drew, size_drewN, size_set]; (repeat (first | exact Nat.le_refl _ | refine Nat.le_succ_of_le ?_)); done) | omega | (simp only [size_alloc, size_drew, size_drewN, size_set]; omega) | (simp only [size_alloc, size_drew, size_drewN, size_set]; done))
  have hB' : Below w.heap.size w W1 := by rw [hW]; (repeat (first | (with_reducible assumption) | exact Below.refl _ _ | (with_reducible refine Below.drew ?_) | (with_reducible refine belowN ?_ _) | (with_reducible refine bw_alloc ?_ _) | ((with_reducible refine bw_set ?_ ?_ _ _); (focus (with_reducible assumption)))))
  have hXr' : Box W1 (w.heap.size) [Value.bool false, Value.slice none 0 0] := by rw [hW]; (repeat (first | (with_reducible assumption) | (with_reducible refine Box.drew ?_) | (with_reducible refine Box.drewN ?_ _) | ((with_reducible refine Box.new _ _ ?_ ?_); (focus (first | (with_reducible exact rfl) | (simp only [size_alloc, size_drew, size_drewN, size_set]; done))); (focus (exact rfl))) | (with_reducible refine Box.alloc ?_ _) | ((with_reducible refine Box.put ?_ ?_ _ _ ?_); rotate_left) | ((with_reducible refine Box.set ?_ ?_ _ _); (focus (first | (with_reducible assumption) | (refine Ne.symm ?_; (with_reducible assumption))))) | (exact rfl)))
  clear hW
  clear hB
  have hB := hB'; have hXr := hXr'
  clear hB' hXr'
  have hcr_0 := hXr.c0; have hfr_0 := hXr.free 0; have hcr_1 := hXr.c1; have hfr_1 := hXr.free 1
  have hzr := hXr.lt
  rw [show IntKind.u64.wrap (-IntKind.u64.wrap n) = ((n.natAbs : Nat) : Int) from wrap_neg h1 h2 h3]
  go_loopw [3, 4] (fun u d wr => ∃ (nn : Nat) (o : List Nat), u = .int .u64 nn ∧ Own wr (w.heap.size + 1) 103 .u32 d o ∧ val 1000000000 o + 1000000000 ^ o.length * nn = n.natAbs ∧ (∀ x ∈ o, x < 1000000000) ∧ o.length ≤ 3 ∧ nn ≤ n.natAbs ∧ Below w.heap.size w wr ∧ Box wr (w.heap.size) [Value.bool false, Value.slice none 0 0]) (fun u _ _ => (intOf u).toNat)
  case atStart => exact ⟨n.natAbs, [], rfl, World.ownsRow_nil _ _ _ _, by simp [val], by simp, by simp, Nat.le_refl _, hB, hXr⟩
  case round =>
    clear hzr
    clear hfr_1 hcr_1 hfr_0 hcr_0 hXr hB
    obtain ⟨nn, o, rfl, hown, hval, hox, hol, hnn, hB, hXr⟩ := hrel
    have hcr_0 := hXr.c0; have hfr_0 := hXr.free 0; have hcr_1 := hXr.c1; have hfr_1 := hXr.free 1
    have HV := Lib.hid hval
    have HX := Lib.hid hox
    have HW := Lib.hid hown
    have hnb : nn < 18446744073709551616 := by have := HN.out; omega
    have hzr := hXr.lt
    clear hval hox hown
    by_cases h0 : 0 < nn
    · have hol2 : o.length ≤ 2 := small_len HV.out HN.out h0
      have HY : Hid ((nn : Int) % 1000000000 = ((nn % 1000000000 : Nat) : Int)) := by unfold Hid; omega
      have hlt : nn / 1000000000 < nn := Nat.div_lt_self h0 (by omega)
      go_wp2_with (at_builtin; refine app1 rfl _ _ 27 rfl 103 .u32 i0 4 Tryz.underlying27 hi hz0' hz1' hz2' (w.heap.size + 1) _ o rfl HW.out _ (nn % 1000000000) HY.out rfl rfl (by unfold maxLen; omega) (by omega) (by omega) ?_; intro v' w2 hown2 hb2)
      go_roundw
      case rel => exact ⟨nn / 1000000000, o ++ [nn % 1000000000], by go_num, hown2, small_step HV.out, by intro x hx; rcases List.mem_append.1 hx with h | h; exact HX.out x h; simp at h; omega, by simp; omega, by omega, hB.trans (hb2.mono (by omega)), hXr.belowB hb2 (by omega)⟩
      case measure => simp [intOf]; omega
    · have HE : Hid (val 1000000000 o = n.natAbs) := by have := HV.out; rw [show nn = 0 by omega] at this; unfold Hid; omega
      obtain ⟨oo, oc, rfl⟩ := rd_sl HW.out.rd
      go_wp2_with fail
      have hWx : w.heap.size + 1 ≤ wr.heap.size := hXr.lt
      refine (refofR_any true _ o _ HW.out.rd (by omega) (fun x hx => Nat.lt_trans (HX.out x hx) (by omega))).mono ?_
      rintro e W2 ⟨q, rfl, hq, hb⟩
      rw [zV, HE.out, HZ.out] at hq
      obtain ⟨qo, qc, rfl⟩ := hq.one
      have HQ := Lib.hid (hq.x w.heap.size (hi := w.heap.size + 1) hWx)
      clear hq
      have hL : Below wr.heap.size wr W2 := hb
      have hm2 := hL.size
      have hB' := bw_below hB hL
      have hXr' := hXr.below hL
      clear hL hb
      clear hfr_1 hcr_1 hfr_0 hcr_0 hXr hB
      have hB := hB'; have hXr := hXr'
      clear hB' hXr'
      have hcr_0 := hXr.c0; have hfr_0 := hXr.free 0; have hcr_1 := hXr.c1; have hfr_1 := hXr.free 1
      go_wp2_with fail
      have hinr : w.heap.size < w.heap.size + 1 := by omega
      have hq0 := HQ.out
      refine ret_gen fun W3 hW => ?_
      have hm3 : W2.heap.size ≤ W3.heap.size := by rw [hW]; (first | (simp only [size_alloc, size_drew, size_drewN, size_set]; (repeat (first | exact Nat.le_refl _ | refine Nat.le_succ_of_le ?_)); done) | omega | (simp only [size_alloc, size_drew, size_drewN, size_set]; omega) | (simp only [size_alloc, size_drew, size_drewN, size_set]; done))
      have hB' : Below w.heap.size w W3 := by rw [hW]; (repeat (first | (with_reducible assumption) | exact Below.refl _ _ | (with_reducible refine Below.drew ?_) | (with_reducible refine belowN ?_ _) | (with_reducible refine bw_alloc ?_ _) | ((with_reducible refine bw_set ?_ ?_ _ _); (focus (with_reducible assumption)))))
      have hXr' : Box W3 (w.heap.size) [Value.bool (zNeg n), Value.slice qo (digs 1000000000 (n).natAbs).length qc] := by rw [hW]; (repeat (first | (with_reducible assumption) | (with_reducible refine Box.drew ?_) | (with_reducible refine Box.drewN ?_ _) | ((with_reducible refine Box.new _ _ ?_ ?_); (focus (first | (with_reducible exact rfl) | (simp only [size_alloc, size_drew, size_drewN, size_set]; done))); (focus (exact rfl))) | (with_reducible refine Box.alloc ?_ _) | ((with_reducible refine Box.put ?_ ?_ _ _ ?_); rotate_left) | ((with_reducible refine Box.set ?_ ?_ _ _); (focus (first | (with_reducible assumption) | (refine Ne.symm ?_; (with_reducible assumption))))) | (exact rfl)))
      have hq' : IOX W3 wr.heap.size w.heap.size (w.heap.size + 1) 103 (.agg #[Value.bool (zNeg n), Value.slice qo (digs 1000000000 (n).natAbs).length qc]) n := by rw [hW]; (repeat (first | (with_reducible assumption) | (with_reducible refine IOX.drew ?_) | (with_reducible refine IOX.alloc ?_ _) | ((with_reducible refine IOX.set ?_ ?_ ?_ _ _); (focus (with_reducible assumption)); (focus (with_reducible assumption)))))
      clear hW
      clear hfr_1 hcr_1 hfr_0 hcr_0 hXr hB
      have hB := hB'; have hXr := hXr'
      clear hB' hXr'
      have hcr_0 := hXr.c0; have hfr_0 := hXr.free 0; have hcr_1 := hXr.c1; have hfr_1 := hXr.free 1
      refine bodyPost_ret (v := .agg #[Value.bool (zNeg n), Value.slice qo (digs 1000000000 (n).natAbs).length qc]) (by simp [results, Tryz.results56, go_sem, hcr_0, hcr_1]) rfl ?_
      exact ⟨_, rfl, hq'.io.low (by omega), hB⟩

set_option maxRecDepth 100000 in
set_option maxHeartbeats 2000000 in
theorem refOfZ_pos (n : Int) (w : World) (h1 : -9223372036854775808 ≤ n) (h2 : n ≤ 9223372036854775807) (h3 : 0 ≤ n) :
    Calls Tryz.prog 56 #[.int .i64 n] w fun e w' => ∃ x, e = .returned x ∧ IO w' w.heap.size 103 x n ∧ Below w.heap.size w w' := by
  obtain ⟨m, rfl⟩ := Int.eq_ofNat_of_zero_le h3
  have HN : Hid (m < 18446744073709551616) := by unfold Hid; omega
  have HZ : Hid (zOf false m = (m : Int)) := rfl
  obtain ⟨i0, hi, hz0', hz1', hz2'⟩ := info_parts Tryz.infoU32
  go_enter Tryz.func56, Tryz.ntmps56
  go_wp2_with fail
  have hB := Below.refl w.heap.size w
  have hbs := hB.size
  have hgr : w.heap.size ≤ w.heap.size := hbs
  clear hbs
  refine wp_gen fun W1 hW => ?_
  have hm1 : w.heap.size ≤ W1.heap.size := by rw [hW]; (first | (simp only [size_alloc, size_drew, size_drewN, size_set]; (repeat (first | exact Nat.le_refl _ | refine Nat.le_succ_of_le ?_)); done) | omega | (simp only [size_alloc, size_drew, size_drewN, size_set]; omega) | (simp only [size_alloc, size_drew, size_drewN, size_set]; done))
  have hB' : Below w.heap.size w W1 := by rw [hW]; (repeat (first | (with_reducible assumption) | exact Below.refl _ _ | (with_reducible refine Below.drew ?_) | (with_reducible refine belowN ?_ _) | (with_reducible refine bw_alloc ?_ _) | ((with_reducible refine bw_set ?_ ?_ _ _); (focus (with_reducible assumption)))))
  have hXr' : Box W1 (w.heap.size) [Value.bool false, Value.slice none 0 0] := by rw [hW]; (repeat (first | (with_reducible assumption) | (with_reducible refine Box.drew ?_) | (with_reducible refine Box.drewN ?_ _) | ((with_reducible refine Box.new _ _ ?_ ?_); (focus (first | (with_reducible exact rfl) | (simp only [size_alloc, size_drew, size_drewN, size_set]; done))); (focus (exact rfl))) | (with_reducible refine Box.alloc ?_ _) | ((with_reducible refine Box.put ?_ ?_ _ _ ?_); rotate_left) | ((with_reducible refine Box.set ?_ ?_ _ _); (focus (first | (with_reducible assumption) | (refine Ne.symm ?_; (with_reducible assumption))))) | (exact rfl)))
  clear hW
  clear hB
  have hB := hB'; have hXr := hXr'
  clear hB' hXr'
  have hcr_0 := hXr.c0; have hfr_0 := hXr.free 0; have hcr_1 := hXr.c1; have hfr_1 := hXr.free 1
  have hzr := hXr.lt
  go_loopw [3, 4] (fun u d wr => ∃ (nn : Nat) (o : List Nat), u = .int .u64 nn ∧ Own wr (w.heap.size + 1) 103 .u32 d o ∧ val 1000000000 o + 1000000000 ^ o.length * nn = m ∧ (∀ x ∈ o, x < 1000000000) ∧ o.length ≤ 3 ∧ nn ≤ m ∧ Below w.heap.size w wr ∧ Box wr (w.heap.size) [Value.bool false, Value.slice none 0 0]) (fun u _ _ => (intOf u).toNat)
  case atStart => exact ⟨m, [], rfl, World.ownsRow_nil _ _ _ _, by simp [val], by simp, by simp, Nat.le_refl _, hB, hXr⟩
  case round =>
    clear hzr
    clear hfr_1 hcr_1 hfr_0 hcr_0 hXr hB
    obtain ⟨nn, o, rfl, hown, hval, hox, hol, hnn, hB, hXr⟩ := hrel
    have hcr_0 := hXr.c0; have hfr_0 := hXr.free 0; have hcr_1 := hXr.c1; have hfr_1 := hXr.free 1
    have HV := Lib.hid hval
    have HX := Lib.hid hox
    have HW := Lib.hid hown
    have hnb : nn < 18446744073709551616 := by have := HN.out; omega
    have hzr := hXr.lt
    clear hval hox hown
    by_cases h0 : 0 < nn
    · have hol2 : o.length ≤ 2 := small_len HV.out HN.out h0
      have HY : Hid ((nn : Int) % 1000000000 = ((nn % 1000000000 : Nat) : Int)) := by unfold Hid; omega
      have hlt : nn / 1000000000 < nn := Nat.div_lt_self h0 (by omega)
      go_wp2_with (at_builtin; refine app1 rfl _ _ 27 rfl 103 .u32 i0 4 Tryz.underlying27 hi hz0' hz1' hz2' (w.heap.size + 1) _ o rfl HW.out _ (nn % 1000000000) HY.out rfl rfl (by unfold maxLen; omega) (by omega) (by omega) ?_; intro v' w2 hown2 hb2)
      go_roundw
      case rel => exact ⟨nn / 1000000000, o ++ [nn % 1000000000], by go_num, hown2, small_step HV.out, by intro x hx; rcases List.mem_append.1 hx with h | h; exact HX.out x h; simp at h; omega, by simp; omega, by omega, hB.trans (hb2.mono (by omega)), hXr.belowB hb2 (by omega)⟩
      case measure => simp [intOf]; omega
    · have HE : Hid (val 1000000000 o = m) := by have := HV.out; rw [show nn = 0 by omega] at this; unfold Hid; omega
      obtain ⟨oo, oc, rfl⟩ := rd_sl HW.out.rd
      go_wp2_with fail
      have hWx : w.heap.size + 1 ≤ wr.heap.size := hXr.lt
      refine (refofR_any false _ o _ HW.out.rd (by omega) (fun x hx => Nat.lt_trans (HX.out x hx) (by omega))).mono ?_
      rintro e W2 ⟨q, rfl, hq, hb⟩
      rw [zV, HE.out, HZ.out] at hq
      obtain ⟨qo, qc, rfl⟩ := hq.one
      have HQ := Lib.hid (hq.x w.heap.size (hi := w.heap.size + 1) hWx)
      clear hq
      have hL : Below wr.heap.size wr W2 := hb
      have hm2 := hL.size
      have hB' := bw_below hB hL
      have hXr' := hXr.below hL
      clear hL hb
      clear hfr_1 hcr_1 hfr_0 hcr_0 hXr hB
      have hB := hB'; have hXr := hXr'
      clear hB' hXr'
      have hcr_0 := hXr.c0; have hfr_0 := hXr.free 0; have hcr_1 := hXr.c1; have hfr_1 := hXr.free 1
      go_wp2_with fail
      have hinr : w.heap.size < w.heap.size + 1 := by omega
      have hq0 := HQ.out
      refine ret_gen fun W3 hW => ?_
      have hm3 : W2.heap.size ≤ W3.heap.size := by rw [hW]; (first | (simp only [size_alloc, size_drew, size_drewN, size_set]; (repeat (first | exact Nat.le_refl _ | refine Nat.le_succ_of_le ?_)); done) | omega | (simp only [size_alloc, size_drew, size_drewN, size_set]; omega) | (simp only [size_alloc, size_drew, size_drewN, size_set]; done))
      have hB' : Below w.heap.size w W3 := by rw [hW]; (repeat (first | (with_reducible assumption) | exact Below.refl _ _ | (with_reducible refine Below.drew ?_) | (with_reducible refine belowN ?_ _) | (with_reducible refine bw_alloc ?_ _) | ((with_reducible refine bw_set ?_ ?_ _ _); (focus (with_reducible assumption)))))
      have hXr' : Box W3 (w.heap.size) [Value.bool (zNeg (m : Int)), Value.slice qo (digs 1000000000 ((m : Int)).natAbs).length qc] := by rw [hW]; (repeat (first | (with_reducible assumption) | (with_reducible refine Box.drew ?_) | (with_reducible refine Box.drewN ?_ _) | ((with_reducible refine Box.new _ _ ?_ ?_); (focus (first | (with_reducible exact rfl) | (simp only [size_alloc, size_drew, size_drewN, size_set]; done))); (focus (exact rfl))) | (with_reducible refine Box.alloc ?_ _) | ((with_reducible refine Box.put ?_ ?_ _ _ ?_); rotate_left) | ((with_reducible refine Box.set ?_ ?_ _ _); (focus (first | (with_reducible assumption) | (refine Ne.symm ?_; (with_reducible assumption))))) | (exact rfl)))
      have hq' : IOX W3 wr.heap.size w.heap.size (w.heap.size + 1) 103 (.agg #[Value.bool (zNeg (m : Int)), Value.slice qo (digs 1000000000 ((m : Int)).natAbs).length qc]) (m : Int) := by rw [hW]; (repeat (first | (with_reducible assumption) | (with_reducible refine IOX.drew ?_) | (with_reducible refine IOX.alloc ?_ _) | ((with_reducible refine IOX.set ?_ ?_ ?_ _ _); (focus (with_reducible assumption)); (focus (with_reducible assumption)))))
      clear hW
      clear hfr_1 hcr_1 hfr_0 hcr_0 hXr hB
      have hB := hB'; have hXr := hXr'
      clear hB' hXr'
      have hcr_0 := hXr.c0; have hfr_0 := hXr.free 0; have hcr_1 := hXr.c1; have hfr_1 := hXr.free 1
      refine bodyPost_ret (v := .agg #[Value.bool (zNeg (m : Int)), Value.slice qo (digs 1000000000 ((m : Int)).natAbs).length qc]) (by simp [results, Tryz.results56, go_sem, hcr_0, hcr_1]) rfl ?_
      exact ⟨_, rfl, hq'.io.low (by omega), hB⟩

theorem refOfZ_any (n : Int) (w : World) (h1 : -9223372036854775808 ≤ n) (h2 : n ≤ 9223372036854775807) :
    Calls Tryz.prog 56 #[.int .i64 n] w fun e w' => ∃ x, e = .returned x ∧ IO w' w.heap.size 103 x n ∧ Below w.heap.size w w' := by
  by_cases h : n < 0
  · exact refOfZ_neg n w h1 h2 h
  · exact refOfZ_pos n w h1 h2 (by omega)

end Go.Proofs.YtjfncepmpabcnaaGreatDoor
