/- num: right. -/
import Derived.Test.YtjfncepmpabcnaaGreatDoorNumG
namespace Go.Proofs.YtjfncepmpabcnaaGreatDoor
open Go.RowKit
set_option linter.unusedSimpArgs false
set_option linter.unusedVariables false
attribute [local go_sem ↓] Go.wp_at_zero Go.wp_at_succ

/-- Is a sign with limbs a right number? -/
def rightZ (neg : Bool) (l : List Nat) : Bool := rgtB l && (!neg || decide (0 < l.length))
theorem rightZ_of (z : Int) : rightZ (zNeg z) (digs 1000000000 z.natAbs) = true := by
  have h1 := (rgtB_iff _).2 (digs_rgt 1000000000 (by omega) z.natAbs)
  unfold rightZ
  rw [h1]
  by_cases h : z < 0
  · have h2 := digs_len0 z.natAbs
    have h3 : 0 < z.natAbs := by omega
    simp only [h3, decide_true, Bool.not_true] at h2
    have : 0 < (digs 1000000000 z.natAbs).length := by
      refine Decidable.byContradiction fun hc => ?_
      rw [show (digs 1000000000 z.natAbs).length = 0 by omega] at h2
      simp at h2
    simp [this]
  · rw [zNeg_pos (by omega)]; rfl
/-- What is right is THE one of what it stands for. -/
theorem rightZ_digs {neg : Bool} {l : List Nat} (h : rightZ neg l = true) : neg = zNeg (zV neg l) ∧ l = digs 1000000000 (zV neg l).natAbs := by
  unfold rightZ at h
  rw [Bool.and_eq_true] at h
  have h1 := (rgtB_iff l).1 h.1
  have h2 : l = digs 1000000000 (zV neg l).natAbs := by rw [zV, zOf_abs]; exact h1.digs (by omega)
  refine ⟨?_, h2⟩
  rw [zV, zNeg_of]
  cases neg
  · rfl
  · have h3 : 0 < l.length := by simpa using h.2
    have : 0 < val 1000000000 l := Nat.lt_of_lt_of_le (Nat.pow_pos (by omega)) (rgt_pow_le h1 h3)
    simp [this]

set_option maxHeartbeats 1000000 in
theorem numRight_no (v : Value) (neg : Bool) (l : List Nat) (w : World) (hv : IV w v neg l) (h1 : l.length ≤ 1000000) (hr : rgtB l = false) :
    Calls Tryz.prog 77 #[v] w fun e w' => e = .returned (.bool (rightZ neg l)) ∧ Below w.heap.size w w' := by
  obtain ⟨ao, ac, rfl⟩ := hv.sh
  have HV := Lib.hid hv.rd
  have HR := Lib.hid hr
  clear hv hr
  go_enter Tryz.func77, Tryz.ntmps77
  go_wp2_with fail
  have hB := Below.refl w.heap.size w
  have hbs := hB.size
  have hga : w.heap.size ≤ w.heap.size := by omega
  clear hbs
  refine calls_gen fun W1 hW => ?_
  have hm1 : w.heap.size ≤ W1.heap.size := by rw [hW]; (first | omega | (simp only [size_alloc, size_drew, size_drewN, size_set]; omega) | (simp only [size_alloc, size_drew, size_drewN, size_set]; done))
  have hB' : Below w.heap.size w W1 := by rw [hW]; (repeat (first | (with_reducible assumption) | exact Below.refl _ _ | (with_reducible refine Below.drew ?_) | (with_reducible refine belowN ?_ _) | (with_reducible refine bw_alloc ?_ _) | ((with_reducible refine bw_set ?_ ?_ _ _); (focus (with_reducible assumption)))))
  have hXa' : Box W1 (w.heap.size) [Value.bool neg, Value.slice ao l.length ac] := by rw [hW]; (repeat (first | (with_reducible assumption) | (with_reducible refine Box.drew ?_) | (with_reducible refine Box.drewN ?_ _) | ((with_reducible refine Box.new _ _ ?_ ?_); (focus (first | (with_reducible exact rfl) | (simp only [size_alloc, size_drew, size_drewN, size_set]; done))); (focus (exact rfl))) | (with_reducible refine Box.alloc ?_ _) | ((with_reducible refine Box.put ?_ ?_ _ _ ?_); rotate_left) | ((with_reducible refine Box.set ?_ ?_ _ _); (focus (first | (with_reducible assumption) | (refine Ne.symm ?_; (with_reducible assumption))))) | (exact rfl)))
  clear hW
  clear hB
  have hB := hB'; have hXa := hXa'
  clear hB' hXa'
  have hca_0 := hXa.c0; have hca_1 := hXa.c1
  refine (natRight_any _ l _ (HV.out.keep hB) (by omega)).mono ?_
  rintro e W1 ⟨rfl, rfl⟩
  rw [HR.out]
  have hb := Below.refl W1.heap.size W1
  have hL : Below W1.heap.size W1 W1 := hb
  have hm2 := hL.size
  have hB' := bw_below hB hL
  have hXa' := hXa.below hL
  clear hL hb
  clear hca_1 hca_0 hXa hB
  have hB := hB'; have hXa := hXa'
  clear hB' hXa'
  have hca_0 := hXa.c0; have hca_1 := hXa.c1
  go_wp2_with fail
  go_ret
  refine ⟨?_, hB⟩
  rw [show rightZ neg l = false from by unfold rightZ; rw [HR.out]; rfl]
  rfl

set_option maxHeartbeats 1000000 in
theorem numRight_pos (v : Value) (neg : Bool) (l : List Nat) (w : World) (hv : IV w v false l) (h1 : l.length ≤ 1000000) (hr : rgtB l = true) :
    Calls Tryz.prog 77 #[v] w fun e w' => e = .returned (.bool (rightZ false l)) ∧ Below w.heap.size w w' := by
  obtain ⟨ao, ac, rfl⟩ := hv.sh
  have HV := Lib.hid hv.rd
  have HR := Lib.hid hr
  clear hv hr
  go_enter Tryz.func77, Tryz.ntmps77
  go_wp2_with fail
  have hB := Below.refl w.heap.size w
  have hbs := hB.size
  have hga : w.heap.size ≤ w.heap.size := by omega
  clear hbs
  refine calls_gen fun W1 hW => ?_
  have hm1 : w.heap.size ≤ W1.heap.size := by rw [hW]; (first | omega | (simp only [size_alloc, size_drew, size_drewN, size_set]; omega) | (simp only [size_alloc, size_drew, size_drewN, size_set]; done))
  have hB' : Below w.heap.size w W1 := by rw [hW]; (repeat (first | (with_reducible assumption) | exact Below.refl _ _ | (with_reducible refine Below.drew ?_) | (with_reducible refine belowN ?_ _) | (with_reducible refine bw_alloc ?_ _) | ((with_reducible refine bw_set ?_ ?_ _ _); (focus (with_reducible assumption)))))
  have hXa' : Box W1 (w.heap.size) [Value.bool false, Value.slice ao l.length ac] := by rw [hW]; (repeat (first | (with_reducible assumption) | (with_reducible refine Box.drew ?_) | (with_reducible refine Box.drewN ?_ _) | ((with_reducible refine Box.new _ _ ?_ ?_); (focus (first | (with_reducible exact rfl) | (simp only [size_alloc, size_drew, size_drewN, size_set]; done))); (focus (exact rfl))) | (with_reducible refine Box.alloc ?_ _) | ((with_reducible refine Box.put ?_ ?_ _ _ ?_); rotate_left) | ((with_reducible refine Box.set ?_ ?_ _ _); (focus (first | (with_reducible assumption) | (refine Ne.symm ?_; (with_reducible assumption))))) | (exact rfl)))
  clear hW
  clear hB
  have hB := hB'; have hXa := hXa'
  clear hB' hXa'
  have hca_0 := hXa.c0; have hca_1 := hXa.c1
  refine (natRight_any _ l _ (HV.out.keep hB) (by omega)).mono ?_
  rintro e W1 ⟨rfl, rfl⟩
  rw [HR.out]
  have hb := Below.refl W1.heap.size W1
  have hL : Below W1.heap.size W1 W1 := hb
  have hm2 := hL.size
  have hB' := bw_below hB hL
  have hXa' := hXa.below hL
  clear hL hb
  clear hca_1 hca_0 hXa hB
  have hB := hB'; have hXa := hXa'
  clear hB' hXa'
  have hca_0 := hXa.c0; have hca_1 := hXa.c1
  go_wp2_with fail
  go_ret
  refine ⟨?_, hB⟩
  rw [show rightZ false l = true from by unfold rightZ; rw [HR.out]; rfl]
  rfl

set_option maxHeartbeats 1000000 in
theorem numRight_neg (v : Value) (neg : Bool) (l : List Nat) (w : World) (hv : IV w v true l) (h1 : l.length ≤ 1000000) (hr : rgtB l = true) :
    Calls Tryz.prog 77 #[v] w fun e w' => e = .returned (.bool (rightZ true l)) ∧ Below w.heap.size w w' := by
  obtain ⟨ao, ac, rfl⟩ := hv.sh
  have HV := Lib.hid hv.rd
  have HR := Lib.hid hr
  clear hv hr
  go_enter Tryz.func77, Tryz.ntmps77
  go_wp2_with fail
  have hB := Below.refl w.heap.size w
  have hbs := hB.size
  have hga : w.heap.size ≤ w.heap.size := by omega
  clear hbs
  refine calls_gen fun W1 hW => ?_
  have hm1 : w.heap.size ≤ W1.heap.size := by rw [hW]; (first | omega | (simp only [size_alloc, size_drew, size_drewN, size_set]; omega) | (simp only [size_alloc, size_drew, size_drewN, size_set]; done))
  have hB' : Below w.heap.size w W1 := by rw [hW]; (repeat (first | (with_reducible assumption) | exact Below.refl _ _ | (with_reducible refine Below.drew ?_) | (with_reducible refine belowN ?_ _) | (with_reducible refine bw_alloc ?_ _) | ((with_reducible refine bw_set ?_ ?_ _ _); (focus (with_reducible assumption)))))
  have hXa' : Box W1 (w.heap.size) [Value.bool true, Value.slice ao l.length ac] := by rw [hW]; (repeat (first | (with_reducible assumption) | (with_reducible refine Box.drew ?_) | (with_reducible refine Box.drewN ?_ _) | ((with_reducible refine Box.new _ _ ?_ ?_); (focus (first | (with_reducible exact rfl) | (simp only [size_alloc, size_drew, size_drewN, size_set]; done))); (focus (exact rfl))) | (with_reducible refine Box.alloc ?_ _) | ((with_reducible refine Box.put ?_ ?_ _ _ ?_); rotate_left) | ((with_reducible refine Box.set ?_ ?_ _ _); (focus (first | (with_reducible assumption) | (refine Ne.symm ?_; (with_reducible assumption))))) | (exact rfl)))
  clear hW
  clear hB
  have hB := hB'; have hXa := hXa'
  clear hB' hXa'
  have hca_0 := hXa.c0; have hca_1 := hXa.c1
  refine (natRight_any _ l _ (HV.out.keep hB) (by omega)).mono ?_
  rintro e W1 ⟨rfl, rfl⟩
  rw [HR.out]
  have hb := Below.refl W1.heap.size W1
  have hL : Below W1.heap.size W1 W1 := hb
  have hm2 := hL.size
  have hB' := bw_below hB hL
  have hXa' := hXa.below hL
  clear hL hb
  clear hca_1 hca_0 hXa hB
  have hB := hB'; have hXa := hXa'
  clear hB' hXa'
  have hca_0 := hXa.c0; have hca_1 := hXa.c1
  go_wp2_with fail
  go_ret
  refine ⟨?_, hB⟩
  rw [show rightZ true l = (decide (0 < l.length)) from by unfold rightZ; rw [HR.out]; simp]
  simp

theorem numRight_any (v : Value) (neg : Bool) (l : List Nat) (w : World) (hv : IV w v neg l) (h1 : l.length ≤ 1000000) :
    Calls Tryz.prog 77 #[v] w fun e w' => e = .returned (.bool (rightZ neg l)) ∧ Below w.heap.size w w' := by
  cases hr : rgtB l
  · exact numRight_no v neg l w hv h1 hr
  · cases neg
    · exact numRight_pos v false l w hv h1 hr
    · exact numRight_neg v true l w hv h1 hr

end Go.Proofs.YtjfncepmpabcnaaGreatDoor
