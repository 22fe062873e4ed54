/- num: sums, products, divisors; a number of 64 bits; denial, difference. -/
import Derived.Test.YtjfncepmpabcnaaGreatDoorNumE
namespace Go.Proofs.YtjfncepmpabcnaaGreatDoor
open Go.RowKit
set_option linter.unusedSimpArgs false
set_option linter.unusedVariables false
attribute [local go_sem ↓] Go.wp_at_zero Go.wp_at_succ

theorem zb_i64 {n : Int} (h1 : -9223372036854775808 ≤ n) (h2 : n ≤ 9223372036854775807) : ZB n 1000000 := by
  refine ZB.mono (j := 3) ?_ (by omega)
  unfold ZB
  have : (1000000000 : Nat) ^ 3 = 1000000000000000000000000000 := by decide
  rw [this]; omega
theorem wrap_neg {n : Int} (h1 : -9223372036854775808 ≤ n) (h2 : n ≤ 9223372036854775807) (h3 : n < 0) : IntKind.u64.wrap (-IntKind.u64.wrap n) = ((n.natAbs : Nat) : Int) := by
  simp only [IntKind.wrap]
  simp [IntKind.signed, IntKind.bits]
  omega
theorem NB.nil (w : World) (B : Nat) (e : TypeId) : NB w B e (.agg #[.slice none 0 0, .bool false]) 0 := ⟨_, rfl, World.ownsRow_nil _ _ _ _⟩

set_option maxHeartbeats 1000000 in
theorem numAdd_any (u : Value) (L : List (Bool × List Nat)) (w : World) (hu : RdZ w u L) (h2 : wgZ L ≤ 40000) :
    Calls Tryz.prog 13 #[u] w fun e w' => ∃ x, e = .returned x ∧ IO w' w.heap.size 103 x (foldZ (fun a b => a + b) 0 L) ∧ Below w.heap.size w w' := by
  obtain ⟨ao, ac, rfl⟩ := hu.sl
  have HL := Lib.hid hu
  clear hu
  go_enter Tryz.func13, Tryz.ntmps13
  go_wp2_with fail
  have hB := Below.refl w.heap.size w
  have hbs := hB.size
  have hgr : w.heap.size ≤ w.heap.size := by omega
  clear hbs
  refine calls_gen fun W1 hW => ?_
  have hm1 : w.heap.size ≤ W1.heap.size := by rw [hW]; (first | omega | (simp only [size_alloc, size_drew, size_drewN, size_set]; omega) | (simp only [size_alloc, size_drew, size_drewN, size_set]; done))
  have hB' : Below w.heap.size w W1 := by rw [hW]; (repeat (first | (with_reducible assumption) | exact Below.refl _ _ | (with_reducible refine Below.drew ?_) | (with_reducible refine belowN ?_ _) | (with_reducible refine bw_alloc ?_ _) | ((with_reducible refine bw_set ?_ ?_ _ _); (focus (with_reducible assumption)))))
  have hXr' : Box W1 (w.heap.size) [Value.bool false, Value.slice none 0 0] := by rw [hW]; (repeat (first | (with_reducible assumption) | (with_reducible refine Box.drew ?_) | (with_reducible refine Box.drewN ?_ _) | ((with_reducible refine Box.new _ _ ?_ ?_); (focus (first | (with_reducible exact rfl) | (simp only [size_alloc, size_drew, size_drewN, size_set]; done))); (focus (exact rfl))) | (with_reducible refine Box.alloc ?_ _) | ((with_reducible refine Box.put ?_ ?_ _ _ ?_); rotate_left) | ((with_reducible refine Box.set ?_ ?_ _ _); (focus (first | (with_reducible assumption) | (refine Ne.symm ?_; (with_reducible assumption))))) | (exact rfl)))
  clear hW
  clear hB
  have hB := hB'; have hXr := hXr'
  clear hB' hXr'
  have hcr_0 := hXr.c0; have hfr_0 := hXr.free 0; have hcr_1 := hXr.c1; have hfr_1 := hXr.free 1
  refine (together_plus _ _ 0 W1.heap.size 0 L _ (NB.nil _ _ _) (Nat.le_refl _) (HL.out.keep hB) (ZB.zero _) (by omega)).mono ?_
  rintro e W2 ⟨q, rfl, hq, hb⟩
  obtain ⟨qo, qc, rfl⟩ := hq.one
  have HQ := Lib.hid (hq.x w.heap.size (hi := w.heap.size + 1) hXr.lt)
  clear hq
  have hL : Below W1.heap.size W1 W2 := hb
  have hm2 := hL.size
  have hB' := bw_below hB hL
  have hXr' := hXr.below hL
  clear hL hb
  clear hfr_1 hcr_1 hfr_0 hcr_0 hXr hB
  have hB := hB'; have hXr := hXr'
  clear hB' hXr'
  have hcr_0 := hXr.c0; have hfr_0 := hXr.free 0; have hcr_1 := hXr.c1; have hfr_1 := hXr.free 1
  go_wp2_with fail
  have hinr : w.heap.size < w.heap.size + 1 := by omega
  have hq0 := HQ.out
  refine ret_gen fun W3 hW => ?_
  have hm3 : W2.heap.size ≤ W3.heap.size := by rw [hW]; (first | omega | (simp only [size_alloc, size_drew, size_drewN, size_set]; omega) | (simp only [size_alloc, size_drew, size_drewN, size_set]; done))
  have hB' : Below w.heap.size w W3 := by rw [hW]; (repeat (first | (with_reducible assumption) | exact Below.refl _ _ | (with_reducible refine Below.drew ?_) | (with_reducible refine belowN ?_ _) | (with_reducible refine bw_alloc ?_ _) | ((with_reducible refine bw_set ?_ ?_ _ _); (focus (with_reducible assumption)))))
  have hXr' : Box W3 (w.heap.size) [Value.bool (zNeg (foldZ (fun a b => a + b) 0 L)), Value.slice qo (digs 1000000000 (foldZ (fun a b => a + b) 0 L).natAbs).length qc] := by rw [hW]; (repeat (first | (with_reducible assumption) | (with_reducible refine Box.drew ?_) | (with_reducible refine Box.drewN ?_ _) | ((with_reducible refine Box.new _ _ ?_ ?_); (focus (first | (with_reducible exact rfl) | (simp only [size_alloc, size_drew, size_drewN, size_set]; done))); (focus (exact rfl))) | (with_reducible refine Box.alloc ?_ _) | ((with_reducible refine Box.put ?_ ?_ _ _ ?_); rotate_left) | ((with_reducible refine Box.set ?_ ?_ _ _); (focus (first | (with_reducible assumption) | (refine Ne.symm ?_; (with_reducible assumption))))) | (exact rfl)))
  have hq' : IOX W3 W1.heap.size w.heap.size (w.heap.size + 1) 103 (.agg #[Value.bool (zNeg (foldZ (fun a b => a + b) 0 L)), Value.slice qo (digs 1000000000 (foldZ (fun a b => a + b) 0 L).natAbs).length qc]) (foldZ (fun a b => a + b) 0 L) := by rw [hW]; (repeat (first | (with_reducible assumption) | (with_reducible refine IOX.drew ?_) | (with_reducible refine IOX.alloc ?_ _) | ((with_reducible refine IOX.set ?_ ?_ ?_ _ _); (focus (with_reducible assumption)); (focus (with_reducible assumption)))))
  clear hW
  clear hfr_1 hcr_1 hfr_0 hcr_0 hXr hB
  have hB := hB'; have hXr := hXr'
  clear hB' hXr'
  have hcr_0 := hXr.c0; have hfr_0 := hXr.free 0; have hcr_1 := hXr.c1; have hfr_1 := hXr.free 1
  refine bodyPost_ret (v := .agg #[Value.bool (zNeg (foldZ (fun a b => a + b) 0 L)), Value.slice qo (digs 1000000000 (foldZ (fun a b => a + b) 0 L).natAbs).length qc]) (by simp [results, Tryz.results13, go_sem, hcr_0, hcr_1]) rfl ?_
  exact ⟨_, rfl, hq'.io.low (by omega), hB⟩

set_option maxHeartbeats 1000000 in
theorem numMul_any (u : Value) (L : List (Bool × List Nat)) (w : World) (hu : RdZ w u L) (h2 : wgZ L ≤ 40000) :
    Calls Tryz.prog 15 #[u] w fun e w' => ∃ x, e = .returned x ∧ IO w' w.heap.size 103 x (foldZ (fun a b => a * b) 1 L) ∧ Below w.heap.size w w' := by
  obtain ⟨ao, ac, rfl⟩ := hu.sl
  have HL := Lib.hid hu
  clear hu
  go_enter Tryz.func15, Tryz.ntmps15
  go_wp2_with fail
  have hB := Below.refl w.heap.size w
  have hbs := hB.size
  have hgr : w.heap.size ≤ w.heap.size := by omega
  clear hbs
  refine calls_gen fun W1 hW => ?_
  have hm1 : w.heap.size ≤ W1.heap.size := by rw [hW]; (first | omega | (simp only [size_alloc, size_drew, size_drewN, size_set]; omega) | (simp only [size_alloc, size_drew, size_drewN, size_set]; done))
  have hB' : Below w.heap.size w W1 := by rw [hW]; (repeat (first | (with_reducible assumption) | exact Below.refl _ _ | (with_reducible refine Below.drew ?_) | (with_reducible refine belowN ?_ _) | (with_reducible refine bw_alloc ?_ _) | ((with_reducible refine bw_set ?_ ?_ _ _); (focus (with_reducible assumption)))))
  have hXr' : Box W1 (w.heap.size) [Value.bool false, Value.slice none 0 0] := by rw [hW]; (repeat (first | (with_reducible assumption) | (with_reducible refine Box.drew ?_) | (with_reducible refine Box.drewN ?_ _) | ((with_reducible refine Box.new _ _ ?_ ?_); (focus (first | (with_reducible exact rfl) | (simp only [size_alloc, size_drew, size_drewN, size_set]; done))); (focus (exact rfl))) | (with_reducible refine Box.alloc ?_ _) | ((with_reducible refine Box.put ?_ ?_ _ _ ?_); rotate_left) | ((with_reducible refine Box.set ?_ ?_ _ _); (focus (first | (with_reducible assumption) | (refine Ne.symm ?_; (with_reducible assumption))))) | (exact rfl)))
  clear hW
  clear hB
  have hB := hB'; have hXr := hXr'
  clear hB' hXr'
  have hcr_0 := hXr.c0; have hfr_0 := hXr.free 0; have hcr_1 := hXr.c1; have hfr_1 := hXr.free 1
  refine (small_any 1 false _ (by omega)).mono ?_
  rintro e W2 ⟨u, rfl, hu, hb⟩
  rw [show zOf false 1 = 1 from rfl] at hu
  obtain ⟨uo, uc, rfl⟩ := hu.one
  have hW1x : w.heap.size + 1 ≤ W1.heap.size := hXr.lt
  have hL : Below W1.heap.size W1 W2 := hb
  have hm2 := hL.size
  have hB' := bw_below hB hL
  have hXr' := hXr.below hL
  have HU := Lib.hid hu
  have hd_HU_r : w.heap.size < W1.heap.size ∨ W2.heap.size ≤ w.heap.size := .inl hXr.lt
  have FHU' := Fr.refl (W1.heap.size) W2
  clear hL hb hu
  clear hfr_1 hcr_1 hfr_0 hcr_0 hXr hB
  have hB := hB'; have hXr := hXr'; have FHU := FHU'
  clear hB' hXr' FHU'
  have hcr_0 := hXr.c0; have hfr_0 := hXr.free 0; have hcr_1 := hXr.c1; have hfr_1 := hXr.free 1
  go_wp2_with fail
  refine (together_times _ _ 1 W1.heap.size 1 L _ (HU.out.fr FHU) (by omega) (HL.out.keep hB) ZB.one (by omega)).mono ?_
  rintro e W3 ⟨q, rfl, hq, hb⟩
  obtain ⟨qo, qc, rfl⟩ := hq.one
  have HQ := Lib.hid (hq.x w.heap.size (hi := w.heap.size + 1) hW1x)
  clear hq
  have hL : Below W2.heap.size W2 W3 := hb
  have hm3 := hL.size
  have hB' := bw_below hB hL
  have hXr' := hXr.below hL
  have FHU' := FHU.below hL
  clear hL hb
  clear hfr_1 hcr_1 hfr_0 hcr_0 FHU hXr hB
  have hB := hB'; have hXr := hXr'; have FHU := FHU'
  clear hB' hXr' FHU'
  have hcr_0 := hXr.c0; have hfr_0 := hXr.free 0; have hcr_1 := hXr.c1; have hfr_1 := hXr.free 1
  go_wp2_with fail
  have hinr : w.heap.size < w.heap.size + 1 := by omega
  have hq0 := HQ.out
  refine ret_gen fun W4 hW => ?_
  have hm4 : W3.heap.size ≤ W4.heap.size := by rw [hW]; (first | omega | (simp only [size_alloc, size_drew, size_drewN, size_set]; omega) | (simp only [size_alloc, size_drew, size_drewN, size_set]; done))
  have hB' : Below w.heap.size w W4 := by rw [hW]; (repeat (first | (with_reducible assumption) | exact Below.refl _ _ | (with_reducible refine Below.drew ?_) | (with_reducible refine belowN ?_ _) | (with_reducible refine bw_alloc ?_ _) | ((with_reducible refine bw_set ?_ ?_ _ _); (focus (with_reducible assumption)))))
  have hXr' : Box W4 (w.heap.size) [Value.bool (zNeg (foldZ (fun a b => a * b) 1 L)), Value.slice qo (digs 1000000000 (foldZ (fun a b => a * b) 1 L).natAbs).length qc] := by rw [hW]; (repeat (first | (with_reducible assumption) | (with_reducible refine Box.drew ?_) | (with_reducible refine Box.drewN ?_ _) | ((with_reducible refine Box.new _ _ ?_ ?_); (focus (first | (with_reducible exact rfl) | (simp only [size_alloc, size_drew, size_drewN, size_set]; done))); (focus (exact rfl))) | (with_reducible refine Box.alloc ?_ _) | ((with_reducible refine Box.put ?_ ?_ _ _ ?_); rotate_left) | ((with_reducible refine Box.set ?_ ?_ _ _); (focus (first | (with_reducible assumption) | (refine Ne.symm ?_; (with_reducible assumption))))) | (exact rfl)))
  have FHU' : Fr W2 (W1.heap.size) W4 := by rw [hW]; (repeat (first | (with_reducible assumption) | exact Fr.refl _ _ | (with_reducible refine Fr.drew ?_) | (with_reducible refine Fr.drewN ?_ _) | (with_reducible refine Fr.alloc ?_ _) | ((with_reducible refine Fr.set ?_ ?_ _); (focus (with_reducible assumption)))))
  have hq' : IOX W4 W1.heap.size w.heap.size (w.heap.size + 1) 103 (.agg #[Value.bool (zNeg (foldZ (fun a b => a * b) 1 L)), Value.slice qo (digs 1000000000 (foldZ (fun a b => a * b) 1 L).natAbs).length qc]) (foldZ (fun a b => a * b) 1 L) := by rw [hW]; (repeat (first | (with_reducible assumption) | (with_reducible refine IOX.drew ?_) | (with_reducible refine IOX.alloc ?_ _) | ((with_reducible refine IOX.set ?_ ?_ ?_ _ _); (focus (with_reducible assumption)); (focus (with_reducible assumption)))))
  clear hW
  clear hfr_1 hcr_1 hfr_0 hcr_0 FHU hXr hB
  have hB := hB'; have hXr := hXr'; have FHU := FHU'
  clear hB' hXr' FHU'
  have hcr_0 := hXr.c0; have hfr_0 := hXr.free 0; have hcr_1 := hXr.c1; have hfr_1 := hXr.free 1
  refine bodyPost_ret (v := .agg #[Value.bool (zNeg (foldZ (fun a b => a * b) 1 L)), Value.slice qo (digs 1000000000 (foldZ (fun a b => a * b) 1 L).natAbs).length qc]) (by simp [results, Tryz.results15, go_sem, hcr_0, hcr_1]) rfl ?_
  exact ⟨_, rfl, hq'.io.low (by omega), hB⟩

set_option maxHeartbeats 1000000 in
theorem numGcd_any (u : Value) (L : List (Bool × List Nat)) (w : World) (hu : RdZ w u L) (h2 : wgZ L ≤ 40000) :
    Calls Tryz.prog 17 #[u] w fun e w' => ∃ x, e = .returned x ∧ IO w' w.heap.size 103 x (foldZ (fun a b => ((Nat.gcd a.natAbs b.natAbs : Nat) : Int)) 0 L) ∧ Below w.heap.size w w' := by
  obtain ⟨ao, ac, rfl⟩ := hu.sl
  have HL := Lib.hid hu
  clear hu
  go_enter Tryz.func17, Tryz.ntmps17
  go_wp2_with fail
  have hB := Below.refl w.heap.size w
  have hbs := hB.size
  have hgr : w.heap.size ≤ w.heap.size := by omega
  clear hbs
  refine calls_gen fun W1 hW => ?_
  have hm1 : w.heap.size ≤ W1.heap.size := by rw [hW]; (first | omega | (simp only [size_alloc, size_drew, size_drewN, size_set]; omega) | (simp only [size_alloc, size_drew, size_drewN, size_set]; done))
  have hB' : Below w.heap.size w W1 := by rw [hW]; (repeat (first | (with_reducible assumption) | exact Below.refl _ _ | (with_reducible refine Below.drew ?_) | (with_reducible refine belowN ?_ _) | (with_reducible refine bw_alloc ?_ _) | ((with_reducible refine bw_set ?_ ?_ _ _); (focus (with_reducible assumption)))))
  have hXr' : Box W1 (w.heap.size) [Value.bool false, Value.slice none 0 0] := by rw [hW]; (repeat (first | (with_reducible assumption) | (with_reducible refine Box.drew ?_) | (with_reducible refine Box.drewN ?_ _) | ((with_reducible refine Box.new _ _ ?_ ?_); (focus (first | (with_reducible exact rfl) | (simp only [size_alloc, size_drew, size_drewN, size_set]; done))); (focus (exact rfl))) | (with_reducible refine Box.alloc ?_ _) | ((with_reducible refine Box.put ?_ ?_ _ _ ?_); rotate_left) | ((with_reducible refine Box.set ?_ ?_ _ _); (focus (first | (with_reducible assumption) | (refine Ne.symm ?_; (with_reducible assumption))))) | (exact rfl)))
  clear hW
  clear hB
  have hB := hB'; have hXr := hXr'
  clear hB' hXr'
  have hcr_0 := hXr.c0; have hfr_0 := hXr.free 0; have hcr_1 := hXr.c1; have hfr_1 := hXr.free 1
  refine (together_gcd _ _ 0 W1.heap.size 0 L _ (NB.nil _ _ _) (Nat.le_refl _) (HL.out.keep hB) (ZB.zero _) (by omega)).mono ?_
  rintro e W2 ⟨q, rfl, hq, hb⟩
  obtain ⟨qo, qc, rfl⟩ := hq.one
  have HQ := Lib.hid (hq.x w.heap.size (hi := w.heap.size + 1) hXr.lt)
  clear hq
  have hL : Below W1.heap.size W1 W2 := hb
  have hm2 := hL.size
  have hB' := bw_below hB hL
  have hXr' := hXr.below hL
  clear hL hb
  clear hfr_1 hcr_1 hfr_0 hcr_0 hXr hB
  have hB := hB'; have hXr := hXr'
  clear hB' hXr'
  have hcr_0 := hXr.c0; have hfr_0 := hXr.free 0; have hcr_1 := hXr.c1; have hfr_1 := hXr.free 1
  go_wp2_with fail
  have hinr : w.heap.size < w.heap.size + 1 := by omega
  have hq0 := HQ.out
  refine ret_gen fun W3 hW => ?_
  have hm3 : W2.heap.size ≤ W3.heap.size := by rw [hW]; (first | omega | (simp only [size_alloc, size_drew, size_drewN, size_set]; omega) | (simp only [size_alloc, size_drew, size_drewN, size_set]; done))
  have hB' : Below w.heap.size w W3 := by rw [hW]; (repeat (first | (with_reducible assumption) | exact Below.refl _ _ | (with_reducible refine Below.drew ?_) | (with_reducible refine belowN ?_ _) | (with_reducible refine bw_alloc ?_ _) | ((with_reducible refine bw_set ?_ ?_ _ _); (focus (with_reducible assumption)))))
  have hXr' : Box W3 (w.heap.size) [Value.bool (zNeg (foldZ (fun a b => ((Nat.gcd a.natAbs b.natAbs : Nat) : Int)) 0 L)), Value.slice qo (digs 1000000000 (foldZ (fun a b => ((Nat.gcd a.natAbs b.natAbs : Nat) : Int)) 0 L).natAbs).length qc] := by rw [hW]; (repeat (first | (with_reducible assumption) | (with_reducible refine Box.drew ?_) | (with_reducible refine Box.drewN ?_ _) | ((with_reducible refine Box.new _ _ ?_ ?_); (focus (first | (with_reducible exact rfl) | (simp only [size_alloc, size_drew, size_drewN, size_set]; done))); (focus (exact rfl))) | (with_reducible refine Box.alloc ?_ _) | ((with_reducible refine Box.put ?_ ?_ _ _ ?_); rotate_left) | ((with_reducible refine Box.set ?_ ?_ _ _); (focus (first | (with_reducible assumption) | (refine Ne.symm ?_; (with_reducible assumption))))) | (exact rfl)))
  have hq' : IOX W3 W1.heap.size w.heap.size (w.heap.size + 1) 103 (.agg #[Value.bool (zNeg (foldZ (fun a b => ((Nat.gcd a.natAbs b.natAbs : Nat) : Int)) 0 L)), Value.slice qo (digs 1000000000 (foldZ (fun a b => ((Nat.gcd a.natAbs b.natAbs : Nat) : Int)) 0 L).natAbs).length qc]) (foldZ (fun a b => ((Nat.gcd a.natAbs b.natAbs : Nat) : Int)) 0 L) := by rw [hW]; (repeat (first | (with_reducible assumption) | (with_reducible refine IOX.drew ?_) | (with_reducible refine IOX.alloc ?_ _) | ((with_reducible refine IOX.set ?_ ?_ ?_ _ _); (focus (with_reducible assumption)); (focus (with_reducible assumption)))))
  clear hW
  clear hfr_1 hcr_1 hfr_0 hcr_0 hXr hB
  have hB := hB'; have hXr := hXr'
  clear hB' hXr'
  have hcr_0 := hXr.c0; have hfr_0 := hXr.free 0; have hcr_1 := hXr.c1; have hfr_1 := hXr.free 1
  refine bodyPost_ret (v := .agg #[Value.bool (zNeg (foldZ (fun a b => ((Nat.gcd a.natAbs b.natAbs : Nat) : Int)) 0 L)), Value.slice qo (digs 1000000000 (foldZ (fun a b => ((Nat.gcd a.natAbs b.natAbs : Nat) : Int)) 0 L).natAbs).length qc]) (by simp [results, Tryz.results17, go_sem, hcr_0, hcr_1]) rfl ?_
  exact ⟨_, rfl, hq'.io.low (by omega), hB⟩

set_option maxRecDepth 100000 in
set_option maxHeartbeats 1000000 in
theorem numOf_neg (n : Int) (w : World) (h1 : -9223372036854775808 ≤ n) (h2 : n ≤ 9223372036854775807) (h3 : n < 0) :
    Calls Tryz.prog 31 #[.int .i64 n] w fun e w' => ∃ x, e = .returned x ∧ IO w' w.heap.size 103 x n ∧ Below w.heap.size w w' := by
  have HN : Hid (n.natAbs < 18446744073709551616) := by unfold Hid; omega
  have HZ : Hid (zOf true n.natAbs = n) := by unfold Hid; simp only [zOf]; simp; omega
  go_enter Tryz.func31, Tryz.ntmps31
  go_wp2_with fail
  have hB := Below.refl w.heap.size w
  have hbs := hB.size
  have hgr : w.heap.size ≤ w.heap.size := by omega
  clear hbs
  refine calls_gen fun W1 hW => ?_
  have hm1 : w.heap.size ≤ W1.heap.size := by rw [hW]; (first | omega | (simp only [size_alloc, size_drew, size_drewN, size_set]; omega) | (simp only [size_alloc, size_drew, size_drewN, size_set]; done))
  have hB' : Below w.heap.size w W1 := by rw [hW]; (repeat (first | (with_reducible assumption) | exact Below.refl _ _ | (with_reducible refine Below.drew ?_) | (with_reducible refine belowN ?_ _) | (with_reducible refine bw_alloc ?_ _) | ((with_reducible refine bw_set ?_ ?_ _ _); (focus (with_reducible assumption)))))
  have hXr' : Box W1 (w.heap.size) [Value.bool false, Value.slice none 0 0] := by rw [hW]; (repeat (first | (with_reducible assumption) | (with_reducible refine Box.drew ?_) | (with_reducible refine Box.drewN ?_ _) | ((with_reducible refine Box.new _ _ ?_ ?_); (focus (first | (with_reducible exact rfl) | (simp only [size_alloc, size_drew, size_drewN, size_set]; done))); (focus (exact rfl))) | (with_reducible refine Box.alloc ?_ _) | ((with_reducible refine Box.put ?_ ?_ _ _ ?_); rotate_left) | ((with_reducible refine Box.set ?_ ?_ _ _); (focus (first | (with_reducible assumption) | (refine Ne.symm ?_; (with_reducible assumption))))) | (exact rfl)))
  clear hW
  clear hB
  have hB := hB'; have hXr := hXr'
  clear hB' hXr'
  have hcr_0 := hXr.c0; have hfr_0 := hXr.free 0; have hcr_1 := hXr.c1; have hfr_1 := hXr.free 1
  rw [show IntKind.u64.wrap (-IntKind.u64.wrap n) = ((n.natAbs : Nat) : Int) from wrap_neg h1 h2 h3]
  have hW1x : w.heap.size + 1 ≤ W1.heap.size := hXr.lt
  refine (small_any n.natAbs true _ HN.out).mono ?_
  rintro e W2 ⟨u, rfl, hu, hb⟩
  rw [HZ.out] at hu
  obtain ⟨uo, uc, rfl⟩ := hu.one
  have hL : Below W1.heap.size W1 W2 := hb
  have hm2 := hL.size
  have hB' := bw_below hB hL
  have hXr' := hXr.below hL
  have HU := Lib.hid hu
  have hd_HU_r : w.heap.size < W1.heap.size ∨ W2.heap.size ≤ w.heap.size := .inl hXr.lt
  have FHU' := Fr.refl (W1.heap.size) W2
  clear hL hb hu
  clear hfr_1 hcr_1 hfr_0 hcr_0 hXr hB
  have hB := hB'; have hXr := hXr'; have FHU := FHU'
  clear hB' hXr' FHU'
  have hcr_0 := hXr.c0; have hfr_0 := hXr.free 0; have hcr_1 := hXr.c1; have hfr_1 := hXr.free 1
  go_wp2_with fail
  refine (out_any _ n W1.heap.size _ (HU.out.fr FHU) (zb_i64 h1 h2)).mono ?_
  rintro e W3 ⟨q, rfl, hq, hb⟩
  obtain ⟨qo, qc, rfl⟩ := hq.one
  have HQ := Lib.hid (hq.x w.heap.size (hi := w.heap.size + 1) hW1x)
  clear hq
  have hL : Below W2.heap.size W2 W3 := hb
  have hm3 := hL.size
  have hB' := bw_below hB hL
  have hXr' := hXr.below hL
  have FHU' := FHU.below hL
  clear hL hb
  clear hfr_1 hcr_1 hfr_0 hcr_0 FHU hXr hB
  have hB := hB'; have hXr := hXr'; have FHU := FHU'
  clear hB' hXr' FHU'
  have hcr_0 := hXr.c0; have hfr_0 := hXr.free 0; have hcr_1 := hXr.c1; have hfr_1 := hXr.free 1
  go_wp2_with fail
  have hinr : w.heap.size < w.heap.size + 1 := by omega
  have hq0 := HQ.out
  refine ret_gen fun W4 hW => ?_
  have hm4 : W3.heap.size ≤ W4.heap.size := by rw [hW]; (first | omega | (simp only [size_alloc, size_drew, size_drewN, size_set]; omega) | (simp only [size_alloc, size_drew, size_drewN, size_set]; done))
  have hB' : Below w.heap.size w W4 := by rw [hW]; (repeat (first | (with_reducible assumption) | exact Below.refl _ _ | (with_reducible refine Below.drew ?_) | (with_reducible refine belowN ?_ _) | (with_reducible refine bw_alloc ?_ _) | ((with_reducible refine bw_set ?_ ?_ _ _); (focus (with_reducible assumption)))))
  have hXr' : Box W4 (w.heap.size) [Value.bool (zNeg (n)), Value.slice qo (digs 1000000000 (n).natAbs).length qc] := by rw [hW]; (repeat (first | (with_reducible assumption) | (with_reducible refine Box.drew ?_) | (with_reducible refine Box.drewN ?_ _) | ((with_reducible refine Box.new _ _ ?_ ?_); (focus (first | (with_reducible exact rfl) | (simp only [size_alloc, size_drew, size_drewN, size_set]; done))); (focus (exact rfl))) | (with_reducible refine Box.alloc ?_ _) | ((with_reducible refine Box.put ?_ ?_ _ _ ?_); rotate_left) | ((with_reducible refine Box.set ?_ ?_ _ _); (focus (first | (with_reducible assumption) | (refine Ne.symm ?_; (with_reducible assumption))))) | (exact rfl)))
  have FHU' : Fr W2 (W1.heap.size) W4 := by rw [hW]; (repeat (first | (with_reducible assumption) | exact Fr.refl _ _ | (with_reducible refine Fr.drew ?_) | (with_reducible refine Fr.drewN ?_ _) | (with_reducible refine Fr.alloc ?_ _) | ((with_reducible refine Fr.set ?_ ?_ _); (focus (with_reducible assumption)))))
  have hq' : IOX W4 W1.heap.size w.heap.size (w.heap.size + 1) 103 (.agg #[Value.bool (zNeg (n)), Value.slice qo (digs 1000000000 (n).natAbs).length qc]) n := by rw [hW]; (repeat (first | (with_reducible assumption) | (with_reducible refine IOX.drew ?_) | (with_reducible refine IOX.alloc ?_ _) | ((with_reducible refine IOX.set ?_ ?_ ?_ _ _); (focus (with_reducible assumption)); (focus (with_reducible assumption)))))
  clear hW
  clear hfr_1 hcr_1 hfr_0 hcr_0 FHU hXr hB
  have hB := hB'; have hXr := hXr'; have FHU := FHU'
  clear hB' hXr' FHU'
  have hcr_0 := hXr.c0; have hfr_0 := hXr.free 0; have hcr_1 := hXr.c1; have hfr_1 := hXr.free 1
  refine bodyPost_ret (v := .agg #[Value.bool (zNeg (n)), Value.slice qo (digs 1000000000 (n).natAbs).length qc]) (by simp [results, Tryz.results31, go_sem, hcr_0, hcr_1]) rfl ?_
  exact ⟨_, rfl, hq'.io.low (by omega), hB⟩

set_option maxRecDepth 100000 in
set_option maxHeartbeats 1000000 in
theorem numOf_pos (n : Int) (w : World) (h1 : -9223372036854775808 ≤ n) (h2 : n ≤ 9223372036854775807) (h3 : 0 ≤ n) :
    Calls Tryz.prog 31 #[.int .i64 n] w fun e w' => ∃ x, e = .returned x ∧ IO w' w.heap.size 103 x n ∧ Below w.heap.size w w' := by
  obtain ⟨m, rfl⟩ := Int.eq_ofNat_of_zero_le h3
  have HN : Hid (m < 18446744073709551616) := by unfold Hid; omega
  have HZ : Hid (zOf false m = (m : Int)) := rfl
  go_enter Tryz.func31, Tryz.ntmps31
  go_wp2_with fail
  have hB := Below.refl w.heap.size w
  have hbs := hB.size
  have hgr : w.heap.size ≤ w.heap.size := by omega
  clear hbs
  refine calls_gen fun W1 hW => ?_
  have hm1 : w.heap.size ≤ W1.heap.size := by rw [hW]; (first | omega | (simp only [size_alloc, size_drew, size_drewN, size_set]; omega) | (simp only [size_alloc, size_drew, size_drewN, size_set]; done))
  have hB' : Below w.heap.size w W1 := by rw [hW]; (repeat (first | (with_reducible assumption) | exact Below.refl _ _ | (with_reducible refine Below.drew ?_) | (with_reducible refine belowN ?_ _) | (with_reducible refine bw_alloc ?_ _) | ((with_reducible refine bw_set ?_ ?_ _ _); (focus (with_reducible assumption)))))
  have hXr' : Box W1 (w.heap.size) [Value.bool false, Value.slice none 0 0] := by rw [hW]; (repeat (first | (with_reducible assumption) | (with_reducible refine Box.drew ?_) | (with_reducible refine Box.drewN ?_ _) | ((with_reducible refine Box.new _ _ ?_ ?_); (focus (first | (with_reducible exact rfl) | (simp only [size_alloc, size_drew, size_drewN, size_set]; done))); (focus (exact rfl))) | (with_reducible refine Box.alloc ?_ _) | ((with_reducible refine Box.put ?_ ?_ _ _ ?_); rotate_left) | ((with_reducible refine Box.set ?_ ?_ _ _); (focus (first | (with_reducible assumption) | (refine Ne.symm ?_; (with_reducible assumption))))) | (exact rfl)))
  clear hW
  clear hB
  have hB := hB'; have hXr := hXr'
  clear hB' hXr'
  have hcr_0 := hXr.c0; have hfr_0 := hXr.free 0; have hcr_1 := hXr.c1; have hfr_1 := hXr.free 1
  have hW1x : w.heap.size + 1 ≤ W1.heap.size := hXr.lt
  refine (small_any m false _ HN.out).mono ?_
  rintro e W2 ⟨u, rfl, hu, hb⟩
  rw [HZ.out] at hu
  obtain ⟨uo, uc, rfl⟩ := hu.one
  have hL : Below W1.heap.size W1 W2 := hb
  have hm2 := hL.size
  have hB' := bw_below hB hL
  have hXr' := hXr.below hL
  have HU := Lib.hid hu
  have hd_HU_r : w.heap.size < W1.heap.size ∨ W2.heap.size ≤ w.heap.size := .inl hXr.lt
  have FHU' := Fr.refl (W1.heap.size) W2
  clear hL hb hu
  clear hfr_1 hcr_1 hfr_0 hcr_0 hXr hB
  have hB := hB'; have hXr := hXr'; have FHU := FHU'
  clear hB' hXr' FHU'
  have hcr_0 := hXr.c0; have hfr_0 := hXr.free 0; have hcr_1 := hXr.c1; have hfr_1 := hXr.free 1
  go_wp2_with fail
  refine (out_any _ (m : Int) W1.heap.size _ (HU.out.fr FHU) (zb_i64 h1 h2)).mono ?_
  rintro e W3 ⟨q, rfl, hq, hb⟩
  obtain ⟨qo, qc, rfl⟩ := hq.one
  have HQ := Lib.hid (hq.x w.heap.size (hi := w.heap.size + 1) hW1x)
  clear hq
  have hL : Below W2.heap.size W2 W3 := hb
  have hm3 := hL.size
  have hB' := bw_below hB hL
  have hXr' := hXr.below hL
  have FHU' := FHU.below hL
  clear hL hb
  clear hfr_1 hcr_1 hfr_0 hcr_0 FHU hXr hB
  have hB := hB'; have hXr := hXr'; have FHU := FHU'
  clear hB' hXr' FHU'
  have hcr_0 := hXr.c0; have hfr_0 := hXr.free 0; have hcr_1 := hXr.c1; have hfr_1 := hXr.free 1
  go_wp2_with fail
  have hinr : w.heap.size < w.heap.size + 1 := by omega
  have hq0 := HQ.out
  refine ret_gen fun W4 hW => ?_
  have hm4 : W3.heap.size ≤ W4.heap.size := by rw [hW]; (first | omega | (simp only [size_alloc, size_drew, size_drewN, size_set]; omega) | (simp only [size_alloc, size_drew, size_drewN, size_set]; done))
  have hB' : Below w.heap.size w W4 := by rw [hW]; (repeat (first | (with_reducible assumption) | exact Below.refl _ _ | (with_reducible refine Below.drew ?_) | (with_reducible refine belowN ?_ _) | (with_reducible refine bw_alloc ?_ _) | ((with_reducible refine bw_set ?_ ?_ _ _); (focus (with_reducible assumption)))))
  have hXr' : Box W4 (w.heap.size) [Value.bool (zNeg (m : Int)), Value.slice qo (digs 1000000000 ((m : Nat) : Int).natAbs).length qc] := by rw [hW]; (repeat (first | (with_reducible assumption) | (with_reducible refine Box.drew ?_) | (with_reducible refine Box.drewN ?_ _) | ((with_reducible refine Box.new _ _ ?_ ?_); (focus (first | (with_reducible exact rfl) | (simp only [size_alloc, size_drew, size_drewN, size_set]; done))); (focus (exact rfl))) | (with_reducible refine Box.alloc ?_ _) | ((with_reducible refine Box.put ?_ ?_ _ _ ?_); rotate_left) | ((with_reducible refine Box.set ?_ ?_ _ _); (focus (first | (with_reducible assumption) | (refine Ne.symm ?_; (with_reducible assumption))))) | (exact rfl)))
  have FHU' : Fr W2 (W1.heap.size) W4 := by rw [hW]; (repeat (first | (with_reducible assumption) | exact Fr.refl _ _ | (with_reducible refine Fr.drew ?_) | (with_reducible refine Fr.drewN ?_ _) | (with_reducible refine Fr.alloc ?_ _) | ((with_reducible refine Fr.set ?_ ?_ _); (focus (with_reducible assumption)))))
  have hq' : IOX W4 W1.heap.size w.heap.size (w.heap.size + 1) 103 (.agg #[Value.bool (zNeg (m : Int)), Value.slice qo (digs 1000000000 ((m : Nat) : Int).natAbs).length qc]) (m : Int) := by rw [hW]; (repeat (first | (with_reducible assumption) | (with_reducible refine IOX.drew ?_) | (with_reducible refine IOX.alloc ?_ _) | ((with_reducible refine IOX.set ?_ ?_ ?_ _ _); (focus (with_reducible assumption)); (focus (with_reducible assumption)))))
  clear hW
  clear hfr_1 hcr_1 hfr_0 hcr_0 FHU hXr hB
  have hB := hB'; have hXr := hXr'; have FHU := FHU'
  clear hB' hXr' FHU'
  have hcr_0 := hXr.c0; have hfr_0 := hXr.free 0; have hcr_1 := hXr.c1; have hfr_1 := hXr.free 1
  refine bodyPost_ret (v := .agg #[Value.bool (zNeg (m : Int)), Value.slice qo (digs 1000000000 ((m : Nat) : Int).natAbs).length qc]) (by simp [results, Tryz.results31, go_sem, hcr_0, hcr_1]) rfl ?_
  exact ⟨_, rfl, hq'.io.low (by omega), hB⟩

theorem numOf_any (n : Int) (w : World) (h1 : -9223372036854775808 ≤ n) (h2 : n ≤ 9223372036854775807) :
    Calls Tryz.prog 31 #[.int .i64 n] w fun e w' => ∃ x, e = .returned x ∧ IO w' w.heap.size 103 x n ∧ Below w.heap.size w w' := by
  by_cases h : n < 0
  · exact numOf_neg n w h1 h2 h
  · exact numOf_pos n w h1 h2 (by omega)

end Go.Proofs.YtjfncepmpabcnaaGreatDoor
