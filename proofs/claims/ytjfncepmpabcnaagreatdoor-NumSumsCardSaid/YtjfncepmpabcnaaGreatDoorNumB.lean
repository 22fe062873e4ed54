/- num: a number out, in, turned. -/
import Derived.Test.YtjfncepmpabcnaaGreatDoorNumA
namespace Go.Proofs.YtjfncepmpabcnaaGreatDoor
open Go.RowKit
set_option linter.unusedSimpArgs false
set_option linter.unusedVariables false
attribute [local go_sem ↓] Go.wp_at_zero Go.wp_at_succ

set_option maxHeartbeats 400000 in
theorem outX_any (v : Value) (z : Int) (B lo hi : Nat) (w : World) (hv : NBX w B lo hi 103 v z) (hk : ZB z 1000000) :
    Calls Tryz.prog 81 #[v] w fun e w' => ∃ u, e = .returned u ∧ IOX w' B lo hi 103 u z ∧ Below w.heap.size w w' := by
  obtain ⟨ao, ac, rfl⟩ := hv.one
  have HN := Lib.hid hv
  have hlen : (digs 1000000000 z.natAbs).length ≤ 1000000 := hk.len
  clear hv hk
  go_enter Tryz.func81, Tryz.ntmps81
  go_wp2_with fail
  have hB := Below.refl w.heap.size w
  have hbs := hB.size
  have hgn : w.heap.size ≤ w.heap.size := by omega
  have hgr : w.heap.size ≤ w.heap.size + 1 := by omega
  have hn_r_n : w.heap.size + 1 ≠ w.heap.size := by omega
  clear hbs
  refine ret_gen fun W1 hW => ?_
  have hm1 : w.heap.size ≤ W1.heap.size := by rw [hW]; (first | omega | (simp only [size_alloc, size_drew, size_drewN, size_set]; omega) | (simp only [size_alloc, size_drew, size_drewN, size_set]; done))
  have hB' : Below w.heap.size w W1 := by rw [hW]; (repeat (first | (with_reducible assumption) | exact Below.refl _ _ | (with_reducible refine Below.drew ?_) | (with_reducible refine belowN ?_ _) | (with_reducible refine bw_alloc ?_ _) | ((with_reducible refine bw_set ?_ ?_ _ _); (focus (with_reducible assumption)))))
  have hXn' : Box W1 (w.heap.size) [Value.slice ao (digs 1000000000 z.natAbs).length ac, Value.bool (zNeg z)] := by rw [hW]; (repeat (first | (with_reducible assumption) | (with_reducible refine Box.drew ?_) | (with_reducible refine Box.drewN ?_ _) | ((with_reducible refine Box.new _ _ ?_ ?_); (focus (first | (with_reducible exact rfl) | (simp only [size_alloc, size_drew, size_drewN, size_set]; done))); (focus (exact rfl))) | (with_reducible refine Box.alloc ?_ _) | ((with_reducible refine Box.put ?_ ?_ _ _ ?_); rotate_left) | ((with_reducible refine Box.set ?_ ?_ _ _); (focus (first | (with_reducible assumption) | (refine Ne.symm ?_; (with_reducible assumption))))) | (exact rfl)))
  have hXr' : Box W1 (w.heap.size + 1) [Value.bool (zNeg z), Value.slice ao (digs 1000000000 z.natAbs).length ac] := by rw [hW]; (repeat (first | (with_reducible assumption) | (with_reducible refine Box.drew ?_) | (with_reducible refine Box.drewN ?_ _) | ((with_reducible refine Box.new _ _ ?_ ?_); (focus (first | (with_reducible exact rfl) | (simp only [size_alloc, size_drew, size_drewN, size_set]; done))); (focus (exact rfl))) | (with_reducible refine Box.alloc ?_ _) | ((with_reducible refine Box.put ?_ ?_ _ _ ?_); rotate_left) | ((with_reducible refine Box.set ?_ ?_ _ _); (focus (first | (with_reducible assumption) | (refine Ne.symm ?_; (with_reducible assumption))))) | (exact rfl)))
  clear hW
  clear hB
  have hB := hB'; have hXn := hXn'; have hXr := hXr'
  clear hB' hXn' hXr'
  have hcn_0 := hXn.c0; have hfn_0 := hXn.free 0; have hcn_1 := hXn.c1; have hfn_1 := hXn.free 1; have hcr_0 := hXr.c0; have hfr_0 := hXr.free 0; have hcr_1 := hXr.c1; have hfr_1 := hXr.free 1
  refine bodyPost_ret (v := .agg #[.bool (zNeg z), Value.slice ao (digs 1000000000 z.natAbs).length ac]) (by simp [results, Tryz.results81, go_sem, hcr_0, hcr_1]) rfl ?_
  exact ⟨_, rfl, ⟨_, rfl, HN.out.own.keep hB⟩, hB⟩

theorem out_any (v : Value) (z : Int) (B : Nat) (w : World) (hv : NB w B 103 v z) (hk : ZB z 1000000) :
    Calls Tryz.prog 81 #[v] w fun e w' => ∃ u, e = .returned u ∧ IO w' B 103 u z ∧ Below w.heap.size w w' :=
  (outX_any v z B 0 0 w (hv.x 0 (Nat.zero_le _)) hk).mono fun _ _ ⟨u, h1, h2, h3⟩ => ⟨u, h1, h2.io, h3⟩

set_option maxHeartbeats 400000 in
theorem numof_any (v : Value) (neg : Bool) (l : List Nat) (w : World) (hv : IV w v neg l) (h1 : l.length ≤ 1000000) :
    Calls Tryz.prog 95 #[v] w fun e w' => ∃ u, e = .returned u ∧ NB w' w.heap.size 103 u (zV neg l) ∧ Below w.heap.size w w' := by
  obtain ⟨v, rfl, hv, h2⟩ := hv
  obtain ⟨ao, ac, rfl⟩ := rd_sl hv
  have HV := Lib.hid hv
  have H2 := Lib.hid h2
  clear hv h2
  go_enter Tryz.func95, Tryz.ntmps95
  go_wp2_with fail
  have hB := Below.refl w.heap.size w
  have hbs := hB.size
  have hga : w.heap.size ≤ w.heap.size := by omega
  have hgr : w.heap.size ≤ w.heap.size + 1 := by omega
  have hn_r_a : w.heap.size + 1 ≠ w.heap.size := by omega
  clear hbs
  refine calls_gen fun W1 hW => ?_
  have hm1 : w.heap.size ≤ W1.heap.size := by rw [hW]; (first | omega | (simp only [size_alloc, size_drew, size_drewN, size_set]; omega) | (simp only [size_alloc, size_drew, size_drewN, size_set]; done))
  have hB' : Below w.heap.size w W1 := by rw [hW]; (repeat (first | (with_reducible assumption) | exact Below.refl _ _ | (with_reducible refine Below.drew ?_) | (with_reducible refine belowN ?_ _) | (with_reducible refine bw_alloc ?_ _) | ((with_reducible refine bw_set ?_ ?_ _ _); (focus (with_reducible assumption)))))
  have hXa' : Box W1 (w.heap.size) [Value.bool neg, Value.slice ao l.length ac] := by rw [hW]; (repeat (first | (with_reducible assumption) | (with_reducible refine Box.drew ?_) | (with_reducible refine Box.drewN ?_ _) | ((with_reducible refine Box.new _ _ ?_ ?_); (focus (first | (with_reducible exact rfl) | (simp only [size_alloc, size_drew, size_drewN, size_set]; done))); (focus (exact rfl))) | (with_reducible refine Box.alloc ?_ _) | ((with_reducible refine Box.put ?_ ?_ _ _ ?_); rotate_left) | ((with_reducible refine Box.set ?_ ?_ _ _); (focus (first | (with_reducible assumption) | (refine Ne.symm ?_; (with_reducible assumption))))) | (exact rfl)))
  have hXr' : Box W1 (w.heap.size + 1) [Value.slice none 0 0, Value.bool false] := by rw [hW]; (repeat (first | (with_reducible assumption) | (with_reducible refine Box.drew ?_) | (with_reducible refine Box.drewN ?_ _) | ((with_reducible refine Box.new _ _ ?_ ?_); (focus (first | (with_reducible exact rfl) | (simp only [size_alloc, size_drew, size_drewN, size_set]; done))); (focus (exact rfl))) | (with_reducible refine Box.alloc ?_ _) | ((with_reducible refine Box.put ?_ ?_ _ _ ?_); rotate_left) | ((with_reducible refine Box.set ?_ ?_ _ _); (focus (first | (with_reducible assumption) | (refine Ne.symm ?_; (with_reducible assumption))))) | (exact rfl)))
  clear hW
  clear hB
  have hB := hB'; have hXa := hXa'; have hXr := hXr'
  clear hB' hXa' hXr'
  have hca_0 := hXa.c0; have hca_1 := hXa.c1; have hcr_0 := hXr.c0; have hfr_0 := hXr.free 0; have hcr_1 := hXr.c1; have hfr_1 := hXr.free 1
  refine (made_any _ neg l _ (HV.out.keep hB) h1 H2.out).mono ?_
  rintro e W2 ⟨u, rfl, hu, hb⟩
  obtain ⟨uo, uc, rfl⟩ := hu.one
  have hL : Below W1.heap.size W1 W2 := hb
  have hm2 := hL.size
  have hB' := bw_below hB hL
  have hXa' := hXa.below hL
  have hXr' := hXr.below hL
  have NX := Lib.hid hu
  have hd_NX_a : w.heap.size < W1.heap.size ∨ W2.heap.size ≤ w.heap.size := .inl hXa.lt
  have hd_NX_r : w.heap.size + 1 < W1.heap.size ∨ W2.heap.size ≤ w.heap.size + 1 := .inl hXr.lt
  have FNX' := Fr.refl (W1.heap.size) W2
  clear hL hb hu
  clear hfr_1 hcr_1 hfr_0 hcr_0 hca_1 hca_0 hXr hXa hB
  have hB := hB'; have hXa := hXa'; have hXr := hXr'; have FNX := FNX'
  clear hB' hXa' hXr' FNX'
  have hca_0 := hXa.c0; have hca_1 := hXa.c1; have hcr_0 := hXr.c0; have hfr_0 := hXr.free 0; have hcr_1 := hXr.c1; have hfr_1 := hXr.free 1
  go_wp2_with fail
  refine ret_gen fun W3 hW => ?_
  have hm3 : W2.heap.size ≤ W3.heap.size := by rw [hW]; (first | omega | (simp only [size_alloc, size_drew, size_drewN, size_set]; omega) | (simp only [size_alloc, size_drew, size_drewN, size_set]; done))
  have hB' : Below w.heap.size w W3 := by rw [hW]; (repeat (first | (with_reducible assumption) | exact Below.refl _ _ | (with_reducible refine Below.drew ?_) | (with_reducible refine belowN ?_ _) | (with_reducible refine bw_alloc ?_ _) | ((with_reducible refine bw_set ?_ ?_ _ _); (focus (with_reducible assumption)))))
  have hXr' : Box W3 (w.heap.size + 1) [Value.slice uo (digs 1000000000 (zV neg l).natAbs).length uc, Value.bool (zNeg (zV neg l))] := by rw [hW]; (repeat (first | (with_reducible assumption) | (with_reducible refine Box.drew ?_) | (with_reducible refine Box.drewN ?_ _) | ((with_reducible refine Box.new _ _ ?_ ?_); (focus (first | (with_reducible exact rfl) | (simp only [size_alloc, size_drew, size_drewN, size_set]; done))); (focus (exact rfl))) | (with_reducible refine Box.alloc ?_ _) | ((with_reducible refine Box.put ?_ ?_ _ _ ?_); rotate_left) | ((with_reducible refine Box.set ?_ ?_ _ _); (focus (first | (with_reducible assumption) | (refine Ne.symm ?_; (with_reducible assumption))))) | (exact rfl)))
  have FNX' : Fr W2 (W1.heap.size) W3 := by rw [hW]; (repeat (first | (with_reducible assumption) | exact Fr.refl _ _ | (with_reducible refine Fr.drew ?_) | (with_reducible refine Fr.drewN ?_ _) | (with_reducible refine Fr.alloc ?_ _) | ((with_reducible refine Fr.set ?_ ?_ _); (focus (with_reducible assumption)))))
  clear hW
  clear hfr_1 hcr_1 hfr_0 hcr_0 hca_1 hca_0 FNX hXr hXa hB
  have hB := hB'; have hXr := hXr'; have FNX := FNX'
  clear hB' hXr' FNX'
  have hcr_0 := hXr.c0; have hfr_0 := hXr.free 0; have hcr_1 := hXr.c1; have hfr_1 := hXr.free 1
  refine bodyPost_ret (v := .agg #[Value.slice uo (digs 1000000000 (zV neg l).natAbs).length uc, .bool (zNeg (zV neg l))]) (by simp [results, Tryz.results95, go_sem, hcr_0, hcr_1]) rfl ?_
  exact ⟨_, rfl, (NX.out.fr FNX).low (by omega), hB⟩

set_option maxRecDepth 100000 in
set_option maxHeartbeats 1000000 in
theorem turnedX_any (v : Value) (z : Int) (B lo hi : Nat) (w : World) (hv : NBX w B lo hi 103 v z) :
    Calls Tryz.prog 98 #[v] w fun e w' => ∃ u, e = .returned u ∧ NBX w' B lo hi 103 u (-z) ∧ Below w.heap.size w w' := by
  obtain ⟨ao, ac, rfl⟩ := hv.one
  have HN := Lib.hid hv
  obtain ⟨p, hp⟩ : ∃ p, p = decide (0 < z.natAbs) := ⟨_, rfl⟩
  have HL0 : Hid ((((digs 1000000000 z.natAbs).length : Int) == 0) = !p) := by rw [hp]; exact digs_len0 _
  have HP := Lib.hid hp
  clear hv hp
  go_enter Tryz.func98, Tryz.ntmps98
  go_wp2_with fail
  have hB := Below.refl w.heap.size w
  have hbs := hB.size
  have hgn : w.heap.size ≤ w.heap.size := by omega
  have hgr : w.heap.size ≤ w.heap.size + 1 := by omega
  have hn_r_n : w.heap.size + 1 ≠ w.heap.size := by omega
  clear hbs
  refine wp_gen fun W1 hW => ?_
  have hm1 : w.heap.size ≤ W1.heap.size := by rw [hW]; (first | omega | (simp only [size_alloc, size_drew, size_drewN, size_set]; omega) | (simp only [size_alloc, size_drew, size_drewN, size_set]; done))
  have hB' : Below w.heap.size w W1 := by rw [hW]; (repeat (first | (with_reducible assumption) | exact Below.refl _ _ | (with_reducible refine Below.drew ?_) | (with_reducible refine belowN ?_ _) | (with_reducible refine bw_alloc ?_ _) | ((with_reducible refine bw_set ?_ ?_ _ _); (focus (with_reducible assumption)))))
  have hXn' : Box W1 (w.heap.size) [Value.slice ao (digs 1000000000 z.natAbs).length ac, Value.bool (zNeg z)] := by rw [hW]; (repeat (first | (with_reducible assumption) | (with_reducible refine Box.drew ?_) | (with_reducible refine Box.drewN ?_ _) | ((with_reducible refine Box.new _ _ ?_ ?_); (focus (first | (with_reducible exact rfl) | (simp only [size_alloc, size_drew, size_drewN, size_set]; done))); (focus (exact rfl))) | (with_reducible refine Box.alloc ?_ _) | ((with_reducible refine Box.put ?_ ?_ _ _ ?_); rotate_left) | ((with_reducible refine Box.set ?_ ?_ _ _); (focus (first | (with_reducible assumption) | (refine Ne.symm ?_; (with_reducible assumption))))) | (exact rfl)))
  have hXr' : Box W1 (w.heap.size + 1) [Value.slice none 0 0, Value.bool false] := by rw [hW]; (repeat (first | (with_reducible assumption) | (with_reducible refine Box.drew ?_) | (with_reducible refine Box.drewN ?_ _) | ((with_reducible refine Box.new _ _ ?_ ?_); (focus (first | (with_reducible exact rfl) | (simp only [size_alloc, size_drew, size_drewN, size_set]; done))); (focus (exact rfl))) | (with_reducible refine Box.alloc ?_ _) | ((with_reducible refine Box.put ?_ ?_ _ _ ?_); rotate_left) | ((with_reducible refine Box.set ?_ ?_ _ _); (focus (first | (with_reducible assumption) | (refine Ne.symm ?_; (with_reducible assumption))))) | (exact rfl)))
  clear hW
  clear hB
  have hB := hB'; have hXn := hXn'; have hXr := hXr'
  clear hB' hXn' hXr'
  have hcn_0 := hXn.c0; have hcn_1 := hXn.c1; have hcr_0 := hXr.c0; have hfr_0 := hXr.free 0; have hcr_1 := hXr.c1; have hfr_1 := hXr.free 1
  cases hz : zNeg z
  rotate_left
  · have hN := HN.out
    rw [hz] at hN hXn hcn_1
    replace HN := Lib.hid hN
    have HZ := Lib.hid hz
    clear hN hz
    have HT : Hid (false = zNeg (-z)) := by rw [← turned_neg, HZ.out]; rfl
    go_still_tail 12, (by kernel_rfl)
    go_wp2_with fail
    refine ret_gen fun W2 hW => ?_
    have hm2 : W1.heap.size ≤ W2.heap.size := by rw [hW]; (first | omega | (simp only [size_alloc, size_drew, size_drewN, size_set]; omega) | (simp only [size_alloc, size_drew, size_drewN, size_set]; done))
    have hB' : Below w.heap.size w W2 := by rw [hW]; (repeat (first | (with_reducible assumption) | exact Below.refl _ _ | (with_reducible refine Below.drew ?_) | (with_reducible refine belowN ?_ _) | (with_reducible refine bw_alloc ?_ _) | ((with_reducible refine bw_set ?_ ?_ _ _); (focus (with_reducible assumption)))))
    have hXr' : Box W2 (w.heap.size + 1) [Value.slice ao (digs 1000000000 z.natAbs).length ac, Value.bool false] := by rw [hW]; (repeat (first | (with_reducible assumption) | (with_reducible refine Box.drew ?_) | (with_reducible refine Box.drewN ?_ _) | ((with_reducible refine Box.new _ _ ?_ ?_); (focus (first | (with_reducible exact rfl) | (simp only [size_alloc, size_drew, size_drewN, size_set]; done))); (focus (exact rfl))) | (with_reducible refine Box.alloc ?_ _) | ((with_reducible refine Box.put ?_ ?_ _ _ ?_); rotate_left) | ((with_reducible refine Box.set ?_ ?_ _ _); (focus (first | (with_reducible assumption) | (refine Ne.symm ?_; (with_reducible assumption))))) | (exact rfl)))
    clear hW
    clear hfr_1 hcr_1 hfr_0 hcr_0 hcn_1 hcn_0 hXr hXn hB
    have hB := hB'; have hXr := hXr'
    clear hB' hXr'
    have hcr_0 := hXr.c0; have hfr_0 := hXr.free 0; have hcr_1 := hXr.c1; have hfr_1 := hXr.free 1
    refine bodyPost_ret (v := .agg #[Value.slice ao (digs 1000000000 z.natAbs).length ac, Value.bool false]) (by simp [results, Tryz.results98, go_sem, hcr_0, hcr_1]) rfl ?_
    refine ⟨_, rfl, ⟨_, by rw [HT.out], ?_⟩, hB⟩
    rw [Int.natAbs_neg]
    exact HN.out.own.keep hB
  · have hN := HN.out
    rw [hz] at hN hXn hcn_1
    replace HN := Lib.hid hN
    have HZ := Lib.hid hz
    clear hN hz
    have HT : Hid (p = zNeg (-z)) := by unfold Hid; rw [← turned_neg, HZ.out, ← HP.out]; rfl
    go_region_held3 (fun w' => w'.cell? ⟨w.heap.size, 0, none⟩ = some (Value.slice ao (digs 1000000000 z.natAbs).length ac) ∧ w'.cell? ⟨w.heap.size, 1, none⟩ = some (Value.bool false)) ((go_split_ands; ((repeat' apply And.intro) <;> (first | (with_reducible assumption) | ((repeat (first | (with_reducible assumption) | (with_reducible refine cs_drew ?_) | (with_reducible refine cs_drewN ?_ _) | (with_reducible refine cs_alloc ?_ _) | ((with_reducible refine cs_put ?_ ?_); rotate_left) | ((with_reducible refine cs_off ?_ ?_); (focus (decide))) | ((with_reducible refine cs_set ?_ ?_); (focus (first | (with_reducible assumption) | (refine Ne.symm ?_; (with_reducible assumption))))))); done) | (refine cs_below hbk ?_; ((repeat (first | (with_reducible assumption) | (with_reducible refine cs_drew ?_) | (with_reducible refine cs_drewN ?_ _) | (with_reducible refine cs_alloc ?_ _) | ((with_reducible refine cs_put ?_ ?_); rotate_left) | ((with_reducible refine cs_off ?_ ?_); (focus (decide))) | ((with_reducible refine cs_set ?_ ?_); (focus (first | (with_reducible assumption) | (refine Ne.symm ?_; (with_reducible assumption))))))); done))))))
      (first | (go_at_call 64; (with_reducible refine (sizeZero_any _ _ _ _).mono ?_); rintro e w2 ⟨rfl, hbk⟩; rw [HL0.out]; have hmw2 : W1.heap.size ≤ w2.heap.size := (by refine Nat.le_trans ?_ hbk.size; (first | omega | (simp only [size_alloc, size_drew, size_drewN, size_set]; omega) | (simp only [size_alloc, size_drew, size_drewN, size_set]; done))); have hBw2 : Below w.heap.size w w2 := (by refine bw_below ?_ hbk; (repeat (first | (with_reducible assumption) | exact Below.refl _ _ | (with_reducible refine Below.drew ?_) | (with_reducible refine belowN ?_ _) | (with_reducible refine bw_alloc ?_ _) | ((with_reducible refine bw_set ?_ ?_ _ _); (focus (with_reducible assumption)))))); have hXnw2 : Box w2 (w.heap.size) [Value.slice ao (digs 1000000000 z.natAbs).length ac, Value.bool false] := (by refine Box.below ?_ hbk; (repeat (first | (with_reducible assumption) | (with_reducible refine Box.drew ?_) | (with_reducible refine Box.drewN ?_ _) | ((with_reducible refine Box.new _ _ ?_ ?_); (focus (first | (with_reducible exact rfl) | (simp only [size_alloc, size_drew, size_drewN, size_set]; done))); (focus (exact rfl))) | (with_reducible refine Box.alloc ?_ _) | ((with_reducible refine Box.put ?_ ?_ _ _ ?_); rotate_left) | ((with_reducible refine Box.set ?_ ?_ _ _); (focus (first | (with_reducible assumption) | (refine Ne.symm ?_; (with_reducible assumption))))) | (exact rfl)))); have hcn_0w2 := hXnw2.c0; have hcn_1w2 := hXnw2.c1; have hXrw2 : Box w2 (w.heap.size + 1) [Value.slice none 0 0, Value.bool false] := (by refine Box.below ?_ hbk; (repeat (first | (with_reducible assumption) | (with_reducible refine Box.drew ?_) | (with_reducible refine Box.drewN ?_ _) | ((with_reducible refine Box.new _ _ ?_ ?_); (focus (first | (with_reducible exact rfl) | (simp only [size_alloc, size_drew, size_drewN, size_set]; done))); (focus (exact rfl))) | (with_reducible refine Box.alloc ?_ _) | ((with_reducible refine Box.put ?_ ?_ _ _ ?_); rotate_left) | ((with_reducible refine Box.set ?_ ?_ _ _); (focus (first | (with_reducible assumption) | (refine Ne.symm ?_; (with_reducible assumption))))) | (exact rfl)))); have hcr_0w2 := hXrw2.c0; have hfr_0w2 := hXrw2.free 0; have hcr_1w2 := hXrw2.c1; have hfr_1w2 := hXrw2.free 1))
    go_wp2_with fail
    refine ret_gen fun W2 hW => ?_
    have hm2 : w2.heap.size ≤ W2.heap.size := by rw [hW]; (first | omega | (simp only [size_alloc, size_drew, size_drewN, size_set]; omega) | (simp only [size_alloc, size_drew, size_drewN, size_set]; done))
    have hB' : Below w.heap.size w W2 := by rw [hW]; (repeat (first | (with_reducible assumption) | exact Below.refl _ _ | (with_reducible refine Below.drew ?_) | (with_reducible refine belowN ?_ _) | (with_reducible refine bw_alloc ?_ _) | ((with_reducible refine bw_set ?_ ?_ _ _); (focus (with_reducible assumption)))))
    have hXr' : Box W2 (w.heap.size + 1) [Value.slice ao (digs 1000000000 z.natAbs).length ac, Value.bool p] := by rw [hW]; (repeat (first | (with_reducible assumption) | (with_reducible refine Box.drew ?_) | (with_reducible refine Box.drewN ?_ _) | ((with_reducible refine Box.new _ _ ?_ ?_); (focus (first | (with_reducible exact rfl) | (simp only [size_alloc, size_drew, size_drewN, size_set]; done))); (focus (exact rfl))) | (with_reducible refine Box.alloc ?_ _) | ((with_reducible refine Box.put ?_ ?_ _ _ ?_); rotate_left) | ((with_reducible refine Box.set ?_ ?_ _ _); (focus (first | (with_reducible assumption) | (refine Ne.symm ?_; (with_reducible assumption))))) | (exact rfl)))
    clear hW
    clear hfr_1 hcr_1 hfr_0 hcr_0 hcn_1 hcn_0 hXr hXn hB
    have hB := hB'; have hXr := hXr'
    clear hB' hXr'
    have hcr_0 := hXr.c0; have hfr_0 := hXr.free 0; have hcr_1 := hXr.c1; have hfr_1 := hXr.free 1
    refine bodyPost_ret (v := .agg #[Value.slice ao (digs 1000000000 z.natAbs).length ac, Value.bool p]) (by simp [results, Tryz.results98, go_sem, hcr_0, hcr_1]) rfl ?_
    refine ⟨_, rfl, ⟨_, by rw [HT.out], ?_⟩, hB⟩
    rw [Int.natAbs_neg]
    exact HN.out.own.keep hB

theorem turned_any (v : Value) (z : Int) (B : Nat) (w : World) (hv : NB w B 103 v z) :
    Calls Tryz.prog 98 #[v] w fun e w' => ∃ u, e = .returned u ∧ NB w' B 103 u (-z) ∧ Below w.heap.size w w' :=
  (turnedX_any v z B 0 0 w (hv.x 0 (Nat.zero_le _))).mono fun _ _ ⟨u, h1, h2, h3⟩ => ⟨u, h1, h2.nb, h3⟩

end Go.Proofs.YtjfncepmpabcnaaGreatDoor
