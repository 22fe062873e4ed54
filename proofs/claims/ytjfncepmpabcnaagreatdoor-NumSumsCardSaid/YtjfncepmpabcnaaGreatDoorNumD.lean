/- num: a number of 64 bits; the greatest common divisor of two. -/
import Derived.Test.YtjfncepmpabcnaaGreatDoorNumC
namespace Go.Proofs.YtjfncepmpabcnaaGreatDoor
open Go.RowKit
set_option linter.unusedSimpArgs false
set_option linter.unusedVariables false
attribute [local go_sem ↓] Go.wp_at_zero Go.wp_at_succ

theorem Box.belowB {w w' : World} {b B : Nat} {vs : List Value} (h : Box w b vs) (hb : Below B w w') (hB : b < B) : Box w' b vs :=
  ⟨fun j hj => (hb.cell (p := ⟨b, j, none⟩) hB).trans (h.cells j hj), fun j => (hb.frozen (p := ⟨b, j, none⟩) hB).trans (h.free j), Nat.lt_of_lt_of_le h.lt hb.size⟩
theorem small_len {o : List Nat} {nn N : Nat} (h : val 1000000000 o + 1000000000 ^ o.length * nn = N) (hN : N < 18446744073709551616) (h0 : 0 < nn) : o.length ≤ 2 := by
  refine Decidable.byContradiction fun hc => ?_
  have h1 : 1000000000 ^ 3 ≤ 1000000000 ^ o.length := Nat.pow_le_pow_right (by omega) (by omega)
  have h2 := Nat.mul_le_mul h1 (show 1 ≤ nn by omega)
  omega
theorem small_step {o : List Nat} {nn N : Nat} (h : val 1000000000 o + 1000000000 ^ o.length * nn = N) : val 1000000000 (o ++ [nn % 1000000000]) + 1000000000 ^ (o ++ [nn % 1000000000]).length * (nn / 1000000000) = N := by
  rw [val_snoc, List.length_append, List.length_singleton, Nat.pow_succ, ← h, Nat.mul_assoc, Nat.add_assoc, ← Nat.mul_add, Nat.mod_add_div]

set_option maxRecDepth 100000 in
set_option maxHeartbeats 2000000 in
theorem small_any (N : Nat) (neg : Bool) (w : World) (hn : N < 18446744073709551616) :
    Calls Tryz.prog 59 #[.int .u64 N, .bool neg] w fun e w' => ∃ u, e = .returned u ∧ NB w' w.heap.size 103 u (zOf neg N) ∧ Below w.heap.size w w' := by
  have HN := Lib.hid hn
  clear hn
  obtain ⟨i0, hi, hz0', hz1', hz2'⟩ := info_parts Tryz.infoU32
  go_enter Tryz.func59, Tryz.ntmps59
  go_wp2_with fail
  have hB := Below.refl w.heap.size w
  have hbs := hB.size
  have hgr : w.heap.size ≤ w.heap.size := by omega
  clear hbs
  refine wp_gen fun W1 hW => ?_
  have hm1 : w.heap.size ≤ W1.heap.size := by rw [hW]; (first | omega | (simp only [size_alloc, size_drew, size_drewN, size_set]; omega) | (simp only [size_alloc, size_drew, size_drewN, size_set]; done))
  have hB' : Below w.heap.size w W1 := by rw [hW]; (repeat (first | (with_reducible assumption) | exact Below.refl _ _ | (with_reducible refine Below.drew ?_) | (with_reducible refine belowN ?_ _) | (with_reducible refine bw_alloc ?_ _) | ((with_reducible refine bw_set ?_ ?_ _ _); (focus (with_reducible assumption)))))
  have hXr' : Box W1 (w.heap.size) [Value.slice none 0 0, Value.bool false] := by rw [hW]; (repeat (first | (with_reducible assumption) | (with_reducible refine Box.drew ?_) | (with_reducible refine Box.drewN ?_ _) | ((with_reducible refine Box.new _ _ ?_ ?_); (focus (first | (with_reducible exact rfl) | (simp only [size_alloc, size_drew, size_drewN, size_set]; done))); (focus (exact rfl))) | (with_reducible refine Box.alloc ?_ _) | ((with_reducible refine Box.put ?_ ?_ _ _ ?_); rotate_left) | ((with_reducible refine Box.set ?_ ?_ _ _); (focus (first | (with_reducible assumption) | (refine Ne.symm ?_; (with_reducible assumption))))) | (exact rfl)))
  clear hW
  clear hB
  have hB := hB'; have hXr := hXr'
  clear hB' hXr'
  have hcr_0 := hXr.c0; have hfr_0 := hXr.free 0; have hcr_1 := hXr.c1; have hfr_1 := hXr.free 1
  have hzr := hXr.lt
  go_loopw [0, 5] (fun n d wr => ∃ (nn : Nat) (o : List Nat), n = .int .u64 nn ∧ Own wr (w.heap.size + 1) 103 .u32 d o ∧ val 1000000000 o + 1000000000 ^ o.length * nn = N ∧ (∀ x ∈ o, x < 1000000000) ∧ o.length ≤ 3 ∧ nn ≤ N ∧ Below w.heap.size w wr ∧ Box wr (w.heap.size) [Value.slice none 0 0, Value.bool false]) (fun n _ _ => (intOf n).toNat)
  case atStart => exact ⟨N, [], rfl, World.ownsRow_nil _ _ _ _, by simp [val], by simp, by simp, Nat.le_refl _, hB, hXr⟩
  case round =>
    clear hzr
    clear hfr_1 hcr_1 hfr_0 hcr_0 hXr hB
    obtain ⟨nn, o, rfl, hown, hval, hox, hol, hnn, hB, hXr⟩ := hrel
    have hcr_0 := hXr.c0; have hfr_0 := hXr.free 0; have hcr_1 := hXr.c1; have hfr_1 := hXr.free 1
    have HV := Lib.hid hval
    have HX := Lib.hid hox
    have HW := Lib.hid hown
    have hnb : nn < 18446744073709551616 := by have := HN.out; omega
    have hzr := hXr.lt
    clear hval hox hown
    by_cases h0 : 0 < nn
    · have hol2 : o.length ≤ 2 := small_len HV.out HN.out h0
      have HY : Hid ((nn : Int) % 1000000000 = ((nn % 1000000000 : Nat) : Int)) := by unfold Hid; omega
      have hlt : nn / 1000000000 < nn := Nat.div_lt_self h0 (by omega)
      go_wp2_with (at_builtin; refine app1 rfl _ _ 27 rfl 103 .u32 i0 4 Tryz.underlying27 hi hz0' hz1' hz2' (w.heap.size + 1) _ o rfl HW.out _ (nn % 1000000000) HY.out rfl rfl (by unfold maxLen; omega) (by omega) (by omega) ?_; intro v' w2 hown2 hb2)
      go_roundw
      case rel => exact ⟨nn / 1000000000, o ++ [nn % 1000000000], by go_num, hown2, small_step HV.out, by intro x hx; rcases List.mem_append.1 hx with h | h; exact HX.out x h; simp at h; omega, by simp; omega, by omega, hB.trans (hb2.mono (by omega)), hXr.belowB hb2 (by omega)⟩
      case measure => simp [intOf]; omega
    · have HE : Hid (val 1000000000 o = N) := by have := HV.out; rw [show nn = 0 by omega] at this; unfold Hid; omega
      obtain ⟨oo, oc, rfl⟩ := rd_sl HW.out.rd
      go_wp2_with fail
      refine (made_any _ neg o _ HW.out.rd (by omega) (fun x hx => Nat.lt_trans (HX.out x hx) (by omega))).mono ?_
      rintro e W2 ⟨q, rfl, hq, hb⟩
      rw [zV, HE.out] at hq
      obtain ⟨qo, qc, rfl⟩ := hq.one
      have hL : Below wr.heap.size wr W2 := hb
      have hm2 := hL.size
      have hB' := bw_below hB hL
      have hXr' := hXr.below hL
      have HQ := Lib.hid hq
      have hd_HQ_r : w.heap.size < wr.heap.size ∨ W2.heap.size ≤ w.heap.size := .inl hXr.lt
      have FHQ' := Fr.refl (wr.heap.size) W2
      clear hL hb hq
      clear hfr_1 hcr_1 hfr_0 hcr_0 hXr hB
      have hB := hB'; have hXr := hXr'; have FHQ := FHQ'
      clear hB' hXr' FHQ'
      have hcr_0 := hXr.c0; have hfr_0 := hXr.free 0; have hcr_1 := hXr.c1; have hfr_1 := hXr.free 1
      go_wp2_with fail
      refine ret_gen fun W3 hW => ?_
      have hm3 : W2.heap.size ≤ W3.heap.size := by rw [hW]; (first | omega | (simp only [size_alloc, size_drew, size_drewN, size_set]; omega) | (simp only [size_alloc, size_drew, size_drewN, size_set]; done))
      have hB' : Below w.heap.size w W3 := by rw [hW]; (repeat (first | (with_reducible assumption) | exact Below.refl _ _ | (with_reducible refine Below.drew ?_) | (with_reducible refine belowN ?_ _) | (with_reducible refine bw_alloc ?_ _) | ((with_reducible refine bw_set ?_ ?_ _ _); (focus (with_reducible assumption)))))
      have hXr' : Box W3 (w.heap.size) [Value.slice qo (digs 1000000000 (zOf neg N).natAbs).length qc, Value.bool (zNeg (zOf neg N))] := by rw [hW]; (repeat (first | (with_reducible assumption) | (with_reducible refine Box.drew ?_) | (with_reducible refine Box.drewN ?_ _) | ((with_reducible refine Box.new _ _ ?_ ?_); (focus (first | (with_reducible exact rfl) | (simp only [size_alloc, size_drew, size_drewN, size_set]; done))); (focus (exact rfl))) | (with_reducible refine Box.alloc ?_ _) | ((with_reducible refine Box.put ?_ ?_ _ _ ?_); rotate_left) | ((with_reducible refine Box.set ?_ ?_ _ _); (focus (first | (with_reducible assumption) | (refine Ne.symm ?_; (with_reducible assumption))))) | (exact rfl)))
      have FHQ' : Fr W2 (wr.heap.size) W3 := by rw [hW]; (repeat (first | (with_reducible assumption) | exact Fr.refl _ _ | (with_reducible refine Fr.drew ?_) | (with_reducible refine Fr.drewN ?_ _) | (with_reducible refine Fr.alloc ?_ _) | ((with_reducible refine Fr.set ?_ ?_ _); (focus (with_reducible assumption)))))
      clear hW
      clear hfr_1 hcr_1 hfr_0 hcr_0 FHQ hXr hB
      have hB := hB'; have hXr := hXr'; have FHQ := FHQ'
      clear hB' hXr' FHQ'
      have hcr_0 := hXr.c0; have hfr_0 := hXr.free 0; have hcr_1 := hXr.c1; have hfr_1 := hXr.free 1
      refine bodyPost_ret (v := .agg #[Value.slice qo (digs 1000000000 (zOf neg N).natAbs).length qc, .bool (zNeg (zOf neg N))]) (by simp [results, Tryz.results59, go_sem, hcr_0, hcr_1]) rfl ?_
      exact ⟨_, rfl, (HQ.out.fr FHQ).low (by omega), hB⟩

theorem ZB.abs {z : Int} {k : Nat} (h : ZB z k) : ZB (z.natAbs : Nat) k := by unfold ZB at *; simpa using h
theorem ZB.le {m n k : Nat} (h : ZB (n : Nat) k) (hm : m ≤ n) : ZB (m : Nat) k := by unfold ZB at *; simp only [Int.natAbs_natCast] at *; omega
set_option maxRecDepth 100000 in
set_option maxHeartbeats 4000000 in
theorem gcdStep_any (v u : Value) (y z : Int) (B C : Nat) (w : World) (hv : NB w B 103 v y) (hu : NB w C 103 u z) (h1 : ZB y 100000) (h2 : ZB z 100000) :
    Calls Tryz.prog 63 #[v, u] w fun e w' => ∃ x, e = .returned x ∧ NB w' w.heap.size 103 x (Nat.gcd y.natAbs z.natAbs : Nat) ∧ Below w.heap.size w w' := by
  obtain ⟨ao, ac, rfl⟩ := hv.one
  obtain ⟨bo, bc, rfl⟩ := hu.one
  have HV := Lib.hid hv.rd
  have HU := Lib.hid hu.rd
  have H1 := Lib.hid h1
  have H2 := Lib.hid h2
  clear hv hu h1 h2
  go_enter Tryz.func63, Tryz.ntmps63
  go_wp2_with fail
  have hB := Below.refl w.heap.size w
  have hbs := hB.size
  have hgn : w.heap.size ≤ w.heap.size := by omega
  have hgm : w.heap.size ≤ w.heap.size + 1 := by omega
  have hn_m_n : w.heap.size + 1 ≠ w.heap.size := by omega
  have hgr : w.heap.size ≤ w.heap.size + 1 + 1 := by omega
  have hn_r_n : w.heap.size + 1 + 1 ≠ w.heap.size := by omega
  have hn_r_m : w.heap.size + 1 + 1 ≠ w.heap.size + 1 := by omega
  clear hbs
  refine wp_gen fun W1 hW => ?_
  have hm1 : w.heap.size ≤ W1.heap.size := by rw [hW]; (first | omega | (simp only [size_alloc, size_drew, size_drewN, size_set]; omega) | (simp only [size_alloc, size_drew, size_drewN, size_set]; done))
  have hB' : Below w.heap.size w W1 := by rw [hW]; (repeat (first | (with_reducible assumption) | exact Below.refl _ _ | (with_reducible refine Below.drew ?_) | (with_reducible refine belowN ?_ _) | (with_reducible refine bw_alloc ?_ _) | ((with_reducible refine bw_set ?_ ?_ _ _); (focus (with_reducible assumption)))))
  have hXn' : Box W1 (w.heap.size) [Value.slice ao (digs 1000000000 y.natAbs).length ac, Value.bool (zNeg y)] := by rw [hW]; (repeat (first | (with_reducible assumption) | (with_reducible refine Box.drew ?_) | (with_reducible refine Box.drewN ?_ _) | ((with_reducible refine Box.new _ _ ?_ ?_); (focus (first | (with_reducible exact rfl) | (simp only [size_alloc, size_drew, size_drewN, size_set]; done))); (focus (exact rfl))) | (with_reducible refine Box.alloc ?_ _) | ((with_reducible refine Box.put ?_ ?_ _ _ ?_); rotate_left) | ((with_reducible refine Box.set ?_ ?_ _ _); (focus (first | (with_reducible assumption) | (refine Ne.symm ?_; (with_reducible assumption))))) | (exact rfl)))
  have hXm' : Box W1 (w.heap.size + 1) [Value.slice bo (digs 1000000000 z.natAbs).length bc, Value.bool (zNeg z)] := by rw [hW]; (repeat (first | (with_reducible assumption) | (with_reducible refine Box.drew ?_) | (with_reducible refine Box.drewN ?_ _) | ((with_reducible refine Box.new _ _ ?_ ?_); (focus (first | (with_reducible exact rfl) | (simp only [size_alloc, size_drew, size_drewN, size_set]; done))); (focus (exact rfl))) | (with_reducible refine Box.alloc ?_ _) | ((with_reducible refine Box.put ?_ ?_ _ _ ?_); rotate_left) | ((with_reducible refine Box.set ?_ ?_ _ _); (focus (first | (with_reducible assumption) | (refine Ne.symm ?_; (with_reducible assumption))))) | (exact rfl)))
  have hXr' : Box W1 (w.heap.size + 1 + 1) [Value.slice none 0 0, Value.bool false] := by rw [hW]; (repeat (first | (with_reducible assumption) | (with_reducible refine Box.drew ?_) | (with_reducible refine Box.drewN ?_ _) | ((with_reducible refine Box.new _ _ ?_ ?_); (focus (first | (with_reducible exact rfl) | (simp only [size_alloc, size_drew, size_drewN, size_set]; done))); (focus (exact rfl))) | (with_reducible refine Box.alloc ?_ _) | ((with_reducible refine Box.put ?_ ?_ _ _ ?_); rotate_left) | ((with_reducible refine Box.set ?_ ?_ _ _); (focus (first | (with_reducible assumption) | (refine Ne.symm ?_; (with_reducible assumption))))) | (exact rfl)))
  clear hW
  clear hB
  have hB := hB'; have hXn := hXn'; have hXm := hXm'; have hXr := hXr'
  clear hB' hXn' hXm' hXr'
  have hcn_0 := hXn.c0; have hfn_0 := hXn.free 0; have hcn_1 := hXn.c1; have hfn_1 := hXn.free 1; have hcm_0 := hXm.c0; have hfm_0 := hXm.free 0; have hcm_1 := hXm.c1; have hfm_1 := hXm.free 1; have hcr_0 := hXr.c0; have hfr_0 := hXr.free 0; have hcr_1 := hXr.c1; have hfr_1 := hXr.free 1
  have hin : w.heap.size < (w.heap.size + 1 + 1 + 1) := by omega
  have him : w.heap.size + 1 < (w.heap.size + 1 + 1 + 1) := by omega
  have hsz : (w.heap.size + 1 + 1 + 1) ≤ W1.heap.size := hXr.lt
  have HXV : Hid (RdX W1 w.heap.size (w.heap.size + 1 + 1 + 1) (.slice ao (digs 1000000000 y.natAbs).length ac) .u32 (digs 1000000000 y.natAbs)) := (HV.out.rdx _).keep hB
  have HXU : Hid (RdX W1 w.heap.size (w.heap.size + 1 + 1 + 1) (.slice bo (digs 1000000000 z.natAbs).length bc) .u32 (digs 1000000000 z.natAbs)) := (HU.out.rdx _).keep hB
  go_loopg [5] z.natAbs (fun k _ wr => ∃ (a : Nat) (sa sb : Value) (na nb : Bool), Nat.gcd a k = Nat.gcd y.natAbs z.natAbs ∧ ZB a 100000 ∧ ZB k 100000 ∧ RdX wr w.heap.size (w.heap.size + 1 + 1 + 1) sa .u32 (digs 1000000000 a) ∧ RdX wr w.heap.size (w.heap.size + 1 + 1 + 1) sb .u32 (digs 1000000000 k) ∧ Below w.heap.size w wr ∧ (w.heap.size + 1 + 1 + 1) ≤ wr.heap.size ∧ Box wr (w.heap.size) [sa, Value.bool na] ∧ Box wr (w.heap.size + 1) [sb, Value.bool nb] ∧ Box wr (w.heap.size + 1 + 1) [Value.slice none 0 0, Value.bool false])
  case atStart => exact ⟨y.natAbs, _, _, _, _, rfl, H1.out.abs, H2.out.abs, HXV.out, HXU.out, hB, hsz, hXn, hXm, hXr⟩
  case round =>
    clear hfr_1 hcr_1 hfr_0 hcr_0 hfm_1 hcm_1 hfm_0 hcm_0 hfn_1 hcn_1 hfn_0 hcn_0 hXr hXm hXn hB
    obtain ⟨a, sa, sb, na, nb, hg, ha, hk, hxa, hxb, hB, hsz, hXn, hXm, hXr⟩ := hrel
    obtain ⟨sao, sac, rfl⟩ := rd_sl hxa.1
    obtain ⟨sbo, sbc, rfl⟩ := rd_sl hxb.1
    have HG := Lib.hid hg
    have HXA := Lib.hid hxa
    have HXB := Lib.hid hxb
    have HKA : Hid ((digs 1000000000 a).length ≤ 100000) := ha.len
    have HKB : Hid ((digs 1000000000 gk).length ≤ 100000) := hk.len
    clear hg hxa hxb
    have hzr := hB.size
    have hcn_0 := hXn.c0; have hfn_0 := hXn.free 0; have hcn_1 := hXn.c1; have hfn_1 := hXn.free 1; have hcm_0 := hXm.c0; have hfm_0 := hXm.free 0; have hcm_1 := hXm.c1; have hfm_1 := hXm.free 1; have hcr_0 := hXr.c0; have hfr_0 := hXr.free 0; have hcr_1 := hXr.c1; have hfr_1 := hXr.free 1
    by_cases h0 : 0 < gk
    · have hL0 : (((digs 1000000000 gk).length : Int) == 0) = false := by rw [digs_len0]; simp [h0]
      go_wp2_with fail
      refine (sizeZero_any _ _ _ _).mono ?_
      rintro e W2 ⟨rfl, hb⟩
      rw [hL0]
      replace HXA := Lib.hid (HXA.out.keep hb)
      replace HXB := Lib.hid (HXB.out.keep hb)
      have hL : Below wr.heap.size wr W2 := hb
      have hm2 := hL.size
      have hB' := bw_below hB hL
      have hXn' := hXn.below hL
      have hXm' := hXm.below hL
      have hXr' := hXr.below hL
      clear hL hb
      clear hfr_1 hcr_1 hfr_0 hcr_0 hfm_1 hcm_1 hfm_0 hcm_0 hfn_1 hcn_1 hfn_0 hcn_0 hXr hXm hXn hB
      have hB := hB'; have hXn := hXn'; have hXm := hXm'; have hXr := hXr'
      clear hB' hXn' hXm' hXr'
      have hcn_0 := hXn.c0; have hfn_0 := hXn.free 0; have hcn_1 := hXn.c1; have hfn_1 := hXn.free 1; have hcm_0 := hXm.c0; have hfm_0 := hXm.free 0; have hcm_1 := hXm.c1; have hfm_1 := hXm.free 1; have hcr_0 := hXr.c0; have hfr_0 := hXr.free 0; have hcr_1 := hXr.c1; have hfr_1 := hXr.free 1
      go_wp2_with fail
      refine (natDivMod_pos _ _ _ _ _ HXA.out.1 HXB.out.1 (Nat.le_trans HKA.out (by omega)) (digs_u32 _) (Nat.le_trans HKB.out (by omega)) (digs_u32 _) (by rw [val_digs _ (by omega)]; exact h0)).mono ?_
      rintro e W3 ⟨q, x, rfl, hq, hx, hb⟩
      rw [val_digs _ (by omega), val_digs _ (by omega)] at hx
      clear hq
      replace HXA := Lib.hid (HXA.out.keep hb)
      replace HXB := Lib.hid (HXB.out.keep hb)
      obtain ⟨xo, xc, rfl⟩ := rd_sl hx.rd
      have hL : Below W2.heap.size W2 W3 := hb
      have hm3 := hL.size
      have hB' := bw_below hB hL
      have hXn' := hXn.below hL
      have hXm' := hXm.below hL
      have hXr' := hXr.below hL
      have HX := Lib.hid hx
      have hd_HX_n : w.heap.size < W2.heap.size ∨ W3.heap.size ≤ w.heap.size := .inl hXn.lt
      have hd_HX_m : w.heap.size + 1 < W2.heap.size ∨ W3.heap.size ≤ w.heap.size + 1 := .inl hXm.lt
      have hd_HX_r : w.heap.size + 1 + 1 < W2.heap.size ∨ W3.heap.size ≤ w.heap.size + 1 + 1 := .inl hXr.lt
      have FHX' := Fr.refl (W2.heap.size) W3
      clear hL hb hx
      clear hfr_1 hcr_1 hfr_0 hcr_0 hfm_1 hcm_1 hfm_0 hcm_0 hfn_1 hcn_1 hfn_0 hcn_0 hXr hXm hXn hB
      have hB := hB'; have hXn := hXn'; have hXm := hXm'; have hXr := hXr'; have FHX := FHX'
      clear hB' hXn' hXm' hXr' FHX'
      have hcn_0 := hXn.c0; have hfn_0 := hXn.free 0; have hcn_1 := hXn.c1; have hfn_1 := hXn.free 1; have hcm_0 := hXm.c0; have hfm_0 := hXm.free 0; have hcm_1 := hXm.c1; have hfm_1 := hXm.free 1; have hcr_0 := hXr.c0; have hfr_0 := hXr.free 0; have hcr_1 := hXr.c1; have hfr_1 := hXr.free 1
      go_wp2_with fail
      have HLX : Hid ((digs 1000000000 (a % gk)).length ≤ 1000000) := by have := digs_length_mono 1000000000 (by omega) (Nat.mod_le a gk); have := HKA.out; unfold Hid; omega
      have hszW : (w.heap.size + 1 + 1 + 1) ≤ W3.heap.size := hXr.lt
      have hxb2 := HXB.out
      go_region_with
        (first | (go_at_call 66; (with_reducible refine (made_n _ _ (a % gk) _ ?_ HLX.out).mono ?_); (focus (refine RdI.keep (HX.out.fr FHX).rd ?_; (repeat (first | (with_reducible assumption) | exact Below.refl _ _ | (with_reducible refine Below.drew ?_) | (with_reducible refine belowN ?_ _) | (with_reducible refine bw_alloc ?_ _) | ((with_reducible refine bw_set ?_ ?_ _ _); (focus (with_reducible assumption))))))); rintro e w4 ⟨u, rfl, hu, hbk⟩; obtain ⟨uo, uc, rfl, hu1⟩ := hu.nat; have hu2 := (hu1.rdx w.heap.size (show (w.heap.size + 1 + 1 + 1) ≤ _ by (first | omega | (simp only [size_alloc, size_drew, size_drewN, size_set]; omega) | (simp only [size_alloc, size_drew, size_drewN, size_set]; done)))); have hxb4 : RdX w4 w.heap.size (w.heap.size + 1 + 1 + 1) (.slice sbo (digs 1000000000 gk).length sbc) .u32 (digs 1000000000 gk) := (by refine RdX.keep ?_ hbk; (repeat (first | (with_reducible assumption) | (with_reducible refine RdX.drew ?_) | (with_reducible refine RdX.alloc ?_ _) | ((with_reducible refine RdX.set ?_ ?_ ?_ _ _); (focus (with_reducible assumption)); (focus (with_reducible assumption)))))); have hmw4 : W3.heap.size ≤ w4.heap.size := (by refine Nat.le_trans ?_ hbk.size; (first | omega | (simp only [size_alloc, size_drew, size_drewN, size_set]; omega) | (simp only [size_alloc, size_drew, size_drewN, size_set]; done))); have hBw4 : Below w.heap.size w w4 := (by refine bw_below ?_ hbk; (repeat (first | (with_reducible assumption) | exact Below.refl _ _ | (with_reducible refine Below.drew ?_) | (with_reducible refine belowN ?_ _) | (with_reducible refine bw_alloc ?_ _) | ((with_reducible refine bw_set ?_ ?_ _ _); (focus (with_reducible assumption)))))); have FHXw4 : Fr W3 (W2.heap.size) w4 := (by refine Fr.below ?_ hbk; (repeat (first | (with_reducible assumption) | exact Fr.refl _ _ | (with_reducible refine Fr.drew ?_) | (with_reducible refine Fr.drewN ?_ _) | (with_reducible refine Fr.alloc ?_ _) | ((with_reducible refine Fr.set ?_ ?_ _); (focus (with_reducible assumption)))))); have hXnw4 : Box w4 (w.heap.size) [Value.slice sao (digs 1000000000 a).length sac, Value.bool na] := (by refine Box.below ?_ hbk; (repeat (first | (with_reducible assumption) | (with_reducible refine Box.drew ?_) | (with_reducible refine Box.drewN ?_ _) | ((with_reducible refine Box.new _ _ ?_ ?_); (focus (first | (with_reducible exact rfl) | (simp only [size_alloc, size_drew, size_drewN, size_set]; done))); (focus (exact rfl))) | (with_reducible refine Box.alloc ?_ _) | ((with_reducible refine Box.put ?_ ?_ _ _ ?_); rotate_left) | ((with_reducible refine Box.set ?_ ?_ _ _); (focus (first | (with_reducible assumption) | (refine Ne.symm ?_; (with_reducible assumption))))) | (exact rfl)))); have hcn_0w4 := hXnw4.c0; have hfn_0w4 := hXnw4.free 0; have hcn_1w4 := hXnw4.c1; have hfn_1w4 := hXnw4.free 1; have hXmw4 : Box w4 (w.heap.size + 1) [Value.slice sbo (digs 1000000000 gk).length sbc, Value.bool nb] := (by refine Box.below ?_ hbk; (repeat (first | (with_reducible assumption) | (with_reducible refine Box.drew ?_) | (with_reducible refine Box.drewN ?_ _) | ((with_reducible refine Box.new _ _ ?_ ?_); (focus (first | (with_reducible exact rfl) | (simp only [size_alloc, size_drew, size_drewN, size_set]; done))); (focus (exact rfl))) | (with_reducible refine Box.alloc ?_ _) | ((with_reducible refine Box.put ?_ ?_ _ _ ?_); rotate_left) | ((with_reducible refine Box.set ?_ ?_ _ _); (focus (first | (with_reducible assumption) | (refine Ne.symm ?_; (with_reducible assumption))))) | (exact rfl)))); have hcm_0w4 := hXmw4.c0; have hfm_0w4 := hXmw4.free 0; have hcm_1w4 := hXmw4.c1; have hfm_1w4 := hXmw4.free 1; have hXrw4 : Box w4 (w.heap.size + 1 + 1) [Value.slice none 0 0, Value.bool false] := (by refine Box.below ?_ hbk; (repeat (first | (with_reducible assumption) | (with_reducible refine Box.drew ?_) | (with_reducible refine Box.drewN ?_ _) | ((with_reducible refine Box.new _ _ ?_ ?_); (focus (first | (with_reducible exact rfl) | (simp only [size_alloc, size_drew, size_drewN, size_set]; done))); (focus (exact rfl))) | (with_reducible refine Box.alloc ?_ _) | ((with_reducible refine Box.put ?_ ?_ _ _ ?_); rotate_left) | ((with_reducible refine Box.set ?_ ?_ _ _); (focus (first | (with_reducible assumption) | (refine Ne.symm ?_; (with_reducible assumption))))) | (exact rfl)))); have hcr_0w4 := hXrw4.c0; have hfr_0w4 := hXrw4.free 0; have hcr_1w4 := hXrw4.c1; have hfr_1w4 := hXrw4.free 1))
      all_goals
        go_wp2_with fail
        go_roundg (a % gk)
        case measure => exact Nat.mod_lt _ h0
        case rel =>
          refine ⟨gk, .slice sbo (digs 1000000000 gk).length sbc, .slice uo (digs 1000000000 (a % gk)).length uc, nb, false, by rw [Nat.gcd_comm, ← Nat.gcd_rec, Nat.gcd_comm]; exact HG.out, hk, ha.le (Nat.mod_le _ _), ?_, ?_, ?_, ?_, ?_, ?_, ?_⟩
          · (repeat (first | (with_reducible assumption) | (with_reducible refine RdX.drew ?_) | (with_reducible refine RdX.alloc ?_ _) | ((with_reducible refine RdX.set ?_ ?_ ?_ _ _); (focus (with_reducible assumption)); (focus (with_reducible assumption)))))
          · (repeat (first | (with_reducible assumption) | (with_reducible refine RdX.drew ?_) | (with_reducible refine RdX.alloc ?_ _) | ((with_reducible refine RdX.set ?_ ?_ ?_ _ _); (focus (with_reducible assumption)); (focus (with_reducible assumption)))))
          · (repeat (first | (with_reducible assumption) | exact Below.refl _ _ | (with_reducible refine Below.drew ?_) | (with_reducible refine belowN ?_ _) | (with_reducible refine bw_alloc ?_ _) | ((with_reducible refine bw_set ?_ ?_ _ _); (focus (with_reducible assumption)))))
          · simp only [size_alloc, size_drew, size_drewN, size_set]; omega
          · (repeat (first | (with_reducible assumption) | (with_reducible refine Box.drew ?_) | (with_reducible refine Box.drewN ?_ _) | ((with_reducible refine Box.new _ _ ?_ ?_); (focus (first | (with_reducible exact rfl) | (simp only [size_alloc, size_drew, size_drewN, size_set]; done))); (focus (exact rfl))) | (with_reducible refine Box.alloc ?_ _) | ((with_reducible refine Box.put ?_ ?_ _ _ ?_); rotate_left) | ((with_reducible refine Box.set ?_ ?_ _ _); (focus (first | (with_reducible assumption) | (refine Ne.symm ?_; (with_reducible assumption))))) | (exact rfl)))
          · (repeat (first | (with_reducible assumption) | (with_reducible refine Box.drew ?_) | (with_reducible refine Box.drewN ?_ _) | ((with_reducible refine Box.new _ _ ?_ ?_); (focus (first | (with_reducible exact rfl) | (simp only [size_alloc, size_drew, size_drewN, size_set]; done))); (focus (exact rfl))) | (with_reducible refine Box.alloc ?_ _) | ((with_reducible refine Box.put ?_ ?_ _ _ ?_); rotate_left) | ((with_reducible refine Box.set ?_ ?_ _ _); (focus (first | (with_reducible assumption) | (refine Ne.symm ?_; (with_reducible assumption))))) | (exact rfl)))
          · (repeat (first | (with_reducible assumption) | (with_reducible refine Box.drew ?_) | (with_reducible refine Box.drewN ?_ _) | ((with_reducible refine Box.new _ _ ?_ ?_); (focus (first | (with_reducible exact rfl) | (simp only [size_alloc, size_drew, size_drewN, size_set]; done))); (focus (exact rfl))) | (with_reducible refine Box.alloc ?_ _) | ((with_reducible refine Box.put ?_ ?_ _ _ ?_); rotate_left) | ((with_reducible refine Box.set ?_ ?_ _ _); (focus (first | (with_reducible assumption) | (refine Ne.symm ?_; (with_reducible assumption))))) | (exact rfl)))
    · have hk0 : gk = 0 := by omega
      subst hk0
      have hL0 : (((digs 1000000000 0).length : Int) == 0) = true := by rw [digs_len0]; rfl
      have HG2 : Hid (a = Nat.gcd y.natAbs z.natAbs) := by have := HG.out; rw [Nat.gcd_zero_right] at this; exact this
      go_wp2_with fail
      refine (sizeZero_any _ _ _ _).mono ?_
      rintro e W2 ⟨rfl, hb⟩
      rw [hL0]
      replace HXA := Lib.hid (HXA.out.keep hb)
      have hL : Below wr.heap.size wr W2 := hb
      have hm2 := hL.size
      have hB' := bw_below hB hL
      have hXn' := hXn.below hL
      have hXm' := hXm.below hL
      have hXr' := hXr.below hL
      clear hL hb
      clear hfr_1 hcr_1 hfr_0 hcr_0 hfm_1 hcm_1 hfm_0 hcm_0 hfn_1 hcn_1 hfn_0 hcn_0 hXr hXm hXn hB
      have hB := hB'; have hXn := hXn'; have hXm := hXm'; have hXr := hXr'
      clear hB' hXn' hXm' hXr'
      have hcn_0 := hXn.c0; have hfn_0 := hXn.free 0; have hcn_1 := hXn.c1; have hfn_1 := hXn.free 1; have hcm_0 := hXm.c0; have hfm_0 := hXm.free 0; have hcm_1 := hXm.c1; have hfm_1 := hXm.free 1; have hcr_0 := hXr.c0; have hfr_0 := hXr.free 0; have hcr_1 := hXr.c1; have hfr_1 := hXr.free 1
      go_wp2_with fail
      refine (made_n _ _ a _ HXA.out.1 (Nat.le_trans HKA.out (by omega))).mono ?_
      rintro e W3 ⟨u, rfl, hu, hb⟩
      rw [HG2.out] at hu
      rw [zOf_false] at hu
      obtain ⟨uo, uc, rfl⟩ := hu.one
      have hL : Below W2.heap.size W2 W3 := hb
      have hm3 := hL.size
      have hB' := bw_below hB hL
      have hXn' := hXn.below hL
      have hXm' := hXm.below hL
      have hXr' := hXr.below hL
      have HU2 := Lib.hid hu
      have hd_HU2_n : w.heap.size < W2.heap.size ∨ W3.heap.size ≤ w.heap.size := .inl hXn.lt
      have hd_HU2_m : w.heap.size + 1 < W2.heap.size ∨ W3.heap.size ≤ w.heap.size + 1 := .inl hXm.lt
      have hd_HU2_r : w.heap.size + 1 + 1 < W2.heap.size ∨ W3.heap.size ≤ w.heap.size + 1 + 1 := .inl hXr.lt
      have FHU2' := Fr.refl (W2.heap.size) W3
      clear hL hb hu
      clear hfr_1 hcr_1 hfr_0 hcr_0 hfm_1 hcm_1 hfm_0 hcm_0 hfn_1 hcn_1 hfn_0 hcn_0 hXr hXm hXn hB
      have hB := hB'; have hXn := hXn'; have hXm := hXm'; have hXr := hXr'; have FHU2 := FHU2'
      clear hB' hXn' hXm' hXr' FHU2'
      have hcn_0 := hXn.c0; have hfn_0 := hXn.free 0; have hcn_1 := hXn.c1; have hfn_1 := hXn.free 1; have hcm_0 := hXm.c0; have hfm_0 := hXm.free 0; have hcm_1 := hXm.c1; have hfm_1 := hXm.free 1; have hcr_0 := hXr.c0; have hfr_0 := hXr.free 0; have hcr_1 := hXr.c1; have hfr_1 := hXr.free 1
      go_wp2_with fail
      refine ret_gen fun W4 hW => ?_
      have hm4 : W3.heap.size ≤ W4.heap.size := by rw [hW]; (first | omega | (simp only [size_alloc, size_drew, size_drewN, size_set]; omega) | (simp only [size_alloc, size_drew, size_drewN, size_set]; done))
      have hB' : Below w.heap.size w W4 := by rw [hW]; (repeat (first | (with_reducible assumption) | exact Below.refl _ _ | (with_reducible refine Below.drew ?_) | (with_reducible refine belowN ?_ _) | (with_reducible refine bw_alloc ?_ _) | ((with_reducible refine bw_set ?_ ?_ _ _); (focus (with_reducible assumption)))))
      have hXr' : Box W4 (w.heap.size + 1 + 1) [Value.slice uo (digs 1000000000 ((Nat.gcd y.natAbs z.natAbs : Nat) : Int).natAbs).length uc, Value.bool (zNeg (Nat.gcd y.natAbs z.natAbs : Nat))] := by rw [hW]; (repeat (first | (with_reducible assumption) | (with_reducible refine Box.drew ?_) | (with_reducible refine Box.drewN ?_ _) | ((with_reducible refine Box.new _ _ ?_ ?_); (focus (first | (with_reducible exact rfl) | (simp only [size_alloc, size_drew, size_drewN, size_set]; done))); (focus (exact rfl))) | (with_reducible refine Box.alloc ?_ _) | ((with_reducible refine Box.put ?_ ?_ _ _ ?_); rotate_left) | ((with_reducible refine Box.set ?_ ?_ _ _); (focus (first | (with_reducible assumption) | (refine Ne.symm ?_; (with_reducible assumption))))) | (exact rfl)))
      have FHU2' : Fr W3 (W2.heap.size) W4 := by rw [hW]; (repeat (first | (with_reducible assumption) | exact Fr.refl _ _ | (with_reducible refine Fr.drew ?_) | (with_reducible refine Fr.drewN ?_ _) | (with_reducible refine Fr.alloc ?_ _) | ((with_reducible refine Fr.set ?_ ?_ _); (focus (with_reducible assumption)))))
      clear hW
      clear hfr_1 hcr_1 hfr_0 hcr_0 hfm_1 hcm_1 hfm_0 hcm_0 hfn_1 hcn_1 hfn_0 hcn_0 FHU2 hXr hXm hXn hB
      have hB := hB'; have hXr := hXr'; have FHU2 := FHU2'
      clear hB' hXr' FHU2'
      have hcr_0 := hXr.c0; have hfr_0 := hXr.free 0; have hcr_1 := hXr.c1; have hfr_1 := hXr.free 1
      refine bodyPost_ret (v := .agg #[Value.slice uo (digs 1000000000 ((Nat.gcd y.natAbs z.natAbs : Nat) : Int).natAbs).length uc, .bool (zNeg (Nat.gcd y.natAbs z.natAbs : Nat))]) (by simp [results, Tryz.results63, go_sem, hcr_0, hcr_1]) rfl ?_
      exact ⟨_, rfl, (HU2.out.fr FHU2).low (by omega), hB⟩

end Go.Proofs.YtjfncepmpabcnaaGreatDoor
