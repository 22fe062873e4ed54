/- The law NumDivides, walked. -/
import Derived.Test.YtemcpgfoggdaiaaDoorAwk
namespace Go.Proofs.YtemcpgfoggdaiaaDoor
open Go.RowKit
set_option linter.unusedSimpArgs false
set_option linter.unusedVariables false
attribute [local go_sem ↓] Go.wp_at_zero Go.wp_at_succ

theorem gcd2_pos {a b : Int} (h : b ≠ 0) : 0 < gcd2 a b := by
  unfold gcd2
  have := Nat.gcd_pos_of_pos_right a.natAbs (show 0 < b.natAbs by omega)
  omega
theorem gcd2_dvd_left (a b : Int) : gcd2 a b ∣ a := by
  unfold gcd2; exact Int.ofNat_dvd_left.2 (Nat.gcd_dvd_left _ _)
theorem gcd2_dvd_right (a b : Int) : gcd2 a b ∣ b := by
  unfold gcd2; exact Int.ofNat_dvd_left.2 (Nat.gcd_dvd_right _ _)
theorem dvd_gcd2 {x a b : Int} (h1 : x ∣ a) (h2 : x ∣ b) : x ∣ gcd2 a b := by
  unfold gcd2
  exact Int.ofNat_dvd_right.2 (Nat.dvd_gcd (Int.natAbs_dvd_natAbs.2 h1) (Int.natAbs_dvd_natAbs.2 h2))
theorem fmod_dvd {a b : Int} (h : b ∣ a) : Int.fmod a b = 0 := by
  obtain ⟨c, rfl⟩ := h
  exact Int.mul_fmod_right b c
theorem gcd2_nought : gcd2 (gcd2 0 0) 0 = 0 := by decide

set_option maxRecDepth 100000 in
set_option maxHeartbeats 8000000 in
theorem numDivides_any (va vb vc : Value) (na nb nc : Bool) (la lb lc : List Nat) (w : World) (hA : IV w va na la) (hB0 : IV w vb nb lb) (hC : IV w vc nc lc) (hla : la.length ≤ 9223372036854770000) (hlb : lb.length ≤ 9223372036854770000) (hlc : lc.length ≤ 9223372036854770000) (htab : Tab w) :
    Calls Tryd.prog 3 #[va, vb, vc] w fun e w' => e = .returned (.bool true) ∧ Below w.heap.size w w' := by
  have HT := Lib.hid htab
  obtain ⟨ao, ac, rfl, -⟩ := hA.sh2
  obtain ⟨bo, bc, rfl, -⟩ := hB0.sh2
  obtain ⟨co, cc, rfl, -⟩ := hC.sh2
  have HA := Lib.hid hA
  have HB := Lib.hid hB0
  have HC := Lib.hid hC
  have HLA := Lib.hid hla
  have HLB := Lib.hid hlb
  have HLC := Lib.hid hlc
  clear hA hB0 hC htab hla hlb hlc
  go_enter Tryd.func3, Tryd.ntmps3
  go_wp2_with fail
  have hB := Below.refl w.heap.size w
  have hbs := hB.size
  have hga : w.heap.size ≤ w.heap.size := hbs
  have hgb : w.heap.size ≤ w.heap.size + 1 := blk_le hbs 1
  have hn_b_a : w.heap.size + 1 ≠ w.heap.size := blk_ne0 1 (by decide)
  have hgc : w.heap.size ≤ w.heap.size + 2 := blk_le hbs 2
  have hn_c_a : w.heap.size + 2 ≠ w.heap.size := blk_ne0 2 (by decide)
  have hn_c_b : w.heap.size + 2 ≠ w.heap.size + 1 := blk_ne2 2 1 (by decide)
  clear hbs
  refine calls_gen fun W1 hW => ?_
  have hm1 : w.heap.size ≤ W1.heap.size := by rw [hW]; (first | (simp only [size_alloc, size_drew, size_drewN, size_set]; (repeat (first | exact Nat.le_refl _ | refine Nat.le_succ_of_le ?_)); done) | omega | (simp only [size_alloc, size_drew, size_drewN, size_set]; omega) | (simp only [size_alloc, size_drew, size_drewN, size_set]; done))
  have hB' : Below w.heap.size w W1 := by rw [hW]; (repeat (first | (with_reducible assumption) | exact Below.refl _ _ | (with_reducible refine Below.drew ?_) | (with_reducible refine belowN ?_ _) | (with_reducible refine bw_alloc ?_ _) | ((with_reducible refine bw_set ?_ ?_ _ _); (focus (with_reducible assumption)))))
  have hXa' : Box W1 (w.heap.size) [Value.bool na, Value.slice ao la.length ac] := by rw [hW]; (repeat (first | (with_reducible assumption) | (with_reducible refine Box.drew ?_) | (with_reducible refine Box.drewN ?_ _) | ((with_reducible refine Box.new _ _ ?_ ?_); (focus (first | (with_reducible exact rfl) | (simp only [size_alloc, size_drew, size_drewN, size_set]; done))); (focus (exact rfl))) | (with_reducible refine Box.alloc ?_ _) | ((with_reducible refine Box.put ?_ ?_ _ _ ?_); rotate_left) | ((with_reducible refine Box.set ?_ ?_ _ _); (focus (first | (with_reducible assumption) | (refine Ne.symm ?_; (with_reducible assumption))))) | (exact rfl)))
  have hXb' : Box W1 (w.heap.size + 1) [Value.bool nb, Value.slice bo lb.length bc] := by rw [hW]; (repeat (first | (with_reducible assumption) | (with_reducible refine Box.drew ?_) | (with_reducible refine Box.drewN ?_ _) | ((with_reducible refine Box.new _ _ ?_ ?_); (focus (first | (with_reducible exact rfl) | (simp only [size_alloc, size_drew, size_drewN, size_set]; done))); (focus (exact rfl))) | (with_reducible refine Box.alloc ?_ _) | ((with_reducible refine Box.put ?_ ?_ _ _ ?_); rotate_left) | ((with_reducible refine Box.set ?_ ?_ _ _); (focus (first | (with_reducible assumption) | (refine Ne.symm ?_; (with_reducible assumption))))) | (exact rfl)))
  have hXc' : Box W1 (w.heap.size + 2) [Value.bool nc, Value.slice co lc.length cc] := by rw [hW]; (repeat (first | (with_reducible assumption) | (with_reducible refine Box.drew ?_) | (with_reducible refine Box.drewN ?_ _) | ((with_reducible refine Box.new _ _ ?_ ?_); (focus (first | (with_reducible exact rfl) | (simp only [size_alloc, size_drew, size_drewN, size_set]; done))); (focus (exact rfl))) | (with_reducible refine Box.alloc ?_ _) | ((with_reducible refine Box.put ?_ ?_ _ _ ?_); rotate_left) | ((with_reducible refine Box.set ?_ ?_ _ _); (focus (first | (with_reducible assumption) | (refine Ne.symm ?_; (with_reducible assumption))))) | (exact rfl)))
  clear hW
  clear hB
  have hB := hB'; have hXa := hXa'; have hXb := hXb'; have hXc := hXc'
  clear hB' hXa' hXb' hXc'
  have hca_0 := hXa.c0; have hca_1 := hXa.c1; have hcb_0 := hXb.c0; have hcb_1 := hXb.c1; have hcc_0 := hXc.c0; have hcc_1 := hXc.c1
  refine (awake2_any _ (HT.out.keep hB)).mono ?_
  rintro e W2 ⟨rfl, hb⟩
  have hL : Below W1.heap.size W1 W2 := hb
  have hm2 := hL.size
  have hB' := bw_below hB hL
  have hXa' := hXa.below hL
  have hXb' := hXb.below hL
  have hXc' := hXc.below hL
  clear hL hb
  clear hcc_1 hcc_0 hcb_1 hcb_0 hca_1 hca_0 hXc hXb hXa hB
  have hB := hB'; have hXa := hXa'; have hXb := hXb'; have hXc := hXc'
  clear hB' hXa' hXb' hXc'
  have hca_0 := hXa.c0; have hca_1 := hXa.c1; have hcb_0 := hXb.c0; have hcb_1 := hXb.c1; have hcc_0 := hXc.c0; have hcc_1 := hXc.c1
  go_upto_region 3 with (fail)
  cases hG : greatZ [(na, la), (nb, lb), (nc, lc)]
  rotate_left
  · have HG := Lib.hid hG
    clear hG
    refine wp_region_facts7 (by kernel_rfl) (fun i => (Fk.at [.nw (na, la), .nw (nb, lb), .nw (nc, lc), .nr [(na, la), (nb, lb), (nc, lc)], .nv (.bool true)] i).says) (fun i => List.getD [] i []) [23, 24, 25, 26, 27] ?A103 5 [] [] (fun _ => rfl) (fun h => absurd rfl h) ?hA103 _ rfl (by kernel_rfl) (by kernel_rfl) (fun _ _ _ _ _ _ _ => Fk.keep _) ?steps103 ?fin103
    case hA103 => intro t; (try simp only [putAll, Act.put, List.setIfInBounds_toArray, List.set_cons_zero, List.set_cons_succ]); (try exact rfl)
    case steps103 =>
      refine ⟨?_, ?_, ?_, ?_, ?_, trivial⟩
      · intro a wk hx hb hg K hK
        have g3 : a.tmps.getD 3 undef = .pointer (some ⟨w.heap.size, 0, none⟩) := hx 3 (by kernel_rfl)
        exact step_run rfl (op_load g3 (ld_int _ _ 0 _ _ (hXa.below hb).c0 (hXa.below hb).c1) (hK _ _ (Below.refl _ _) ((HA.out.keep hB).keep hb)))
      · intro a wk hx hb hg K hK
        have g4 : a.tmps.getD 4 undef = .pointer (some ⟨w.heap.size + 1, 0, none⟩) := hx 4 (by kernel_rfl)
        exact step_run rfl (op_load g4 (ld_int _ _ 0 _ _ (hXb.below hb).c0 (hXb.below hb).c1) (hK _ _ (Below.refl _ _) ((HB.out.keep hB).keep hb)))
      · intro a wk hx hb hg K hK
        have g5 : a.tmps.getD 5 undef = .pointer (some ⟨w.heap.size + 2, 0, none⟩) := hx 5 (by kernel_rfl)
        exact step_run rfl (op_load g5 (ld_int _ _ 0 _ _ (hXc.below hb).c0 (hXc.below hb).c1) (hK _ _ (Below.refl _ _) ((HC.out.keep hB).keep hb)))
      · intro a wk hx hb hg K hK
        have g23 := fk_w (p := (na, la)) (hg 0 23 (by kernel_rfl) rfl)
        have g24 := fk_w (p := (nb, lb)) (hg 1 24 (by kernel_rfl) rfl)
        have g25 := fk_w (p := (nc, lc)) (hg 2 25 (by kernel_rfl) rfl)
        obtain ⟨x, w2, hr, hb2, hl⟩ := lay3 (p0 := (na, la)) g23 (p1 := (nb, lb)) g24 (p2 := (nc, lc)) g25
        exact step_run rfl (op_slice (by simp [Act.eval]) hr (hK _ _ hb2 hl))
      · intro a wk hx hb hg K hK
        have g26 := fk_r (L := [(na, la), (nb, lb), (nc, lc)]) (hg 3 26 (by kernel_rfl) rfl)
        exact step_run rfl (op_call1 (by kernel_rfl) (great_law g26 (by intro i hi; match i, hi with | 0, _ => exact HLA.out | 1, _ => exact HLB.out | 2, _ => exact HLC.out) HG.out) (TellsV.step hK))
    intro t lo hi W2 hb2 hF hD
    have g27 : t 27 = .bool true := (hF 4 27 rfl).2.2.2
    clear hF hD
    refine wpList_nil ?_
    simp only [g27]
    go_wp2_with fail
    go_ret
    exact ⟨rfl, bw_below hB hb2⟩
  · have HG := Lib.hid hG
    obtain ⟨k1, k2, k3⟩ := great3 hG
    clear hG
    have IA : Hid (IZ w (.agg #[.bool na, .slice ao la.length ac]) (zV na la) 1000) := HA.out.iz k1
    have IB : Hid (IZ w (.agg #[.bool nb, .slice bo lb.length bc]) (zV nb lb) 1000) := HB.out.iz k2
    have IC : Hid (IZ w (.agg #[.bool nc, .slice co lc.length cc]) (zV nc lc) 1000) := HC.out.iz k3
    generalize ey : zV na la = y at IA
    generalize ez : zV nb lb = z at IB
    generalize ex : zV nc lc = x at IC
    clear ey ez ex k1 k2 k3
    have By := Lib.hid (ZB.mono (k := 1001) IA.out.zb (by decide))
    have Bz := Lib.hid (ZB.mono (k := 1001) IB.out.zb (by decide))
    have Bx := Lib.hid (ZB.mono (k := 1001) IC.out.zb (by decide))
    obtain ⟨z103, Hz103⟩ : ∃ q : Int, q = ((1 * y) * x) := ⟨_, rfl⟩
    have Bz103 := Lib.hid (show ZB z103 2003 by rw [Hz103]; exact ZB.mono (ZB.mul (ZB.mul ZB.one By.out) Bx.out) (by decide))
    replace Hz103 := Lib.hid Hz103
    obtain ⟨z107, Hz107⟩ : ∃ q : Int, q = ((1 * z) * x) := ⟨_, rfl⟩
    have Bz107 := Lib.hid (show ZB z107 2003 by rw [Hz107]; exact ZB.mono (ZB.mul (ZB.mul ZB.one Bz.out) Bx.out) (by decide))
    replace Hz107 := Lib.hid Hz107
    obtain ⟨z109, Hz109⟩ : ∃ q : Int, q = (gcd2 (gcd2 0 z103) z107) := ⟨_, rfl⟩
    have Bz109 := Lib.hid (show ZB z109 4008 by rw [Hz109]; exact ZB.mono (zb_gcd2 (zb_gcd2 (ZB.zero 0) Bz103.out) Bz107.out) (by decide))
    replace Hz109 := Lib.hid Hz109
    obtain ⟨z121, Hz121⟩ : ∃ q : Int, q = ((1 * y) * x) := ⟨_, rfl⟩
    have Bz121 := Lib.hid (show ZB z121 2003 by rw [Hz121]; exact ZB.mono (ZB.mul (ZB.mul ZB.one By.out) Bx.out) (by decide))
    replace Hz121 := Lib.hid Hz121
    obtain ⟨z131, Hz131⟩ : ∃ q : Int, q = ((1 * z) * x) := ⟨_, rfl⟩
    have Bz131 := Lib.hid (show ZB z131 2003 by rw [Hz131]; exact ZB.mono (ZB.mul (ZB.mul ZB.one Bz.out) Bx.out) (by decide))
    replace Hz131 := Lib.hid Hz131
    refine wp_region_facts7 (by kernel_rfl) (fun i => (Fk.at [.nw (na, la), .nw (nb, lb), .nw (nc, lc), .nr [(na, la), (nb, lb), (nc, lc)], .nv (.bool false)] i).says) (fun i => List.getD [] i []) [23, 24, 25, 26, 27] ?A3 5 [] [] (fun _ => rfl) (fun h => absurd rfl h) ?hA3 _ rfl (by kernel_rfl) (by kernel_rfl) (fun _ _ _ _ _ _ _ => Fk.keep _) ?steps3 ?fin3
    case hA3 => intro t; (try simp only [putAll, Act.put, List.setIfInBounds_toArray, List.set_cons_zero, List.set_cons_succ]); (try exact rfl)
    case steps3 =>
      refine ⟨?_, ?_, ?_, ?_, ?_, trivial⟩
      · intro a wk hx hb hg K hK
        have g3 : a.tmps.getD 3 undef = .pointer (some ⟨w.heap.size, 0, none⟩) := hx 3 (by kernel_rfl)
        exact step_run rfl (op_load g3 (ld_int _ _ 0 _ _ (hXa.below hb).c0 (hXa.below hb).c1) (hK _ _ (Below.refl _ _) ((HA.out.keep hB).keep hb)))
      · intro a wk hx hb hg K hK
        have g4 : a.tmps.getD 4 undef = .pointer (some ⟨w.heap.size + 1, 0, none⟩) := hx 4 (by kernel_rfl)
        exact step_run rfl (op_load g4 (ld_int _ _ 0 _ _ (hXb.below hb).c0 (hXb.below hb).c1) (hK _ _ (Below.refl _ _) ((HB.out.keep hB).keep hb)))
      · intro a wk hx hb hg K hK
        have g5 : a.tmps.getD 5 undef = .pointer (some ⟨w.heap.size + 2, 0, none⟩) := hx 5 (by kernel_rfl)
        exact step_run rfl (op_load g5 (ld_int _ _ 0 _ _ (hXc.below hb).c0 (hXc.below hb).c1) (hK _ _ (Below.refl _ _) ((HC.out.keep hB).keep hb)))
      · intro a wk hx hb hg K hK
        have g23 := fk_w (p := (na, la)) (hg 0 23 (by kernel_rfl) rfl)
        have g24 := fk_w (p := (nb, lb)) (hg 1 24 (by kernel_rfl) rfl)
        have g25 := fk_w (p := (nc, lc)) (hg 2 25 (by kernel_rfl) rfl)
        obtain ⟨x, w2, hr, hb2, hl⟩ := lay3 (p0 := (na, la)) g23 (p1 := (nb, lb)) g24 (p2 := (nc, lc)) g25
        exact step_run rfl (op_slice (by simp [Act.eval]) hr (hK _ _ hb2 hl))
      · intro a wk hx hb hg K hK
        have g26 := fk_r (L := [(na, la), (nb, lb), (nc, lc)]) (hg 3 26 (by kernel_rfl) rfl)
        exact step_run rfl (op_call1 (by kernel_rfl) (great_law g26 (by intro i hi; match i, hi with | 0, _ => exact HLA.out | 1, _ => exact HLB.out | 2, _ => exact HLC.out) HG.out) (TellsV.step hK))
    intro t3 lo3 hi3 WG hb2 hF hD
    have g27 : t3 27 = .bool false := (hF 4 27 rfl).2.2.2
    clear hF hD
    refine wpList_nil ?_
    simp only [g27]
    clear g27
    have hB' := bw_below hB (hb2)
    have hXa' := hXa.below (hb2)
    have hXb' := hXb.below (hb2)
    have hXc' := hXc.below (hb2)
    clear hb2
    clear hcc_1 hcc_0 hcb_1 hcb_0 hca_1 hca_0 hXc hXb hXa hB
    have hB := hB'; have hXa := hXa'; have hXb := hXb'; have hXc := hXc'
    clear hB' hXa' hXb' hXc'
    have hca_0 := hXa.c0; have hca_1 := hXa.c1; have hcb_0 := hXb.c0; have hcb_1 := hXb.c1; have hcc_0 := hXc.c0; have hcc_1 := hXc.c1
    go_upto_region 5 with (fail)
    refine wp_region_facts7 (by kernel_rfl) (fun i => (Fk.at [.no (0), .np [Value.bool false, Value.slice none 0 0]] i).says) (fun i => List.getD [] i []) [28, 7] ?A5 2 [] [] (fun _ => rfl) (fun h => absurd rfl h) ?hA5 _ rfl (by kernel_rfl) (by kernel_rfl) (fun _ _ _ _ _ _ _ => Fk.keep _) ?steps5 ?fin5
    case hA5 => intro t; (try simp only [putAll, Act.put, List.setIfInBounds_toArray, List.set_cons_zero, List.set_cons_succ]); (try exact rfl)
    case steps5 =>
      refine ⟨?_, ?_, trivial⟩
      · intro a wk hx hb hg K hK
        exact step_run rfl (op_callc (by kernel_rfl) (of_law _ (0) _ (by decide) (by decide) rfl) (TellsO.step hK))
      · intro a wk hx hb hg K hK
        exact step_run rfl (op_alloc (al_int _) (hK _ _ ((Below.refl _ _).alloc (Nat.le_refl _) _) ⟨rfl, size_alloc _ _, Box.new _ _ rfl rfl⟩))
    intro t5 lo5 hi5 V5 hb2 hF hD
    obtain ⟨j28, k28, m28, a28, ha28, hio28, hfr28⟩ : _ ∧ _ ∧ _ ∧ (.no (0) : Fk).says _ (lo5 0) (hi5 0) V5 (t5 28) := hF 0 28 rfl
    obtain ⟨j7, k7, m7, e7, hh7, hX7⟩ : _ ∧ _ ∧ _ ∧ (.np [Value.bool false, Value.slice none 0 0] : Fk).says _ (lo5 1) (hi5 1) V5 (t5 7) := hF 1 7 rfl
    obtain ⟨na28, ao28, nn28, ac28, e28⟩ := hio28.opq
    rw [e28] at hio28
    have q1 := hD 0 1 (by decide) (by decide) (by decide)
    clear hF hD
    obtain ⟨b28, eb28⟩ : ∃ b, b = lo5 0 := ⟨_, rfl⟩
    obtain ⟨b7, eb7⟩ : ∃ b, b = lo5 1 := ⟨_, rfl⟩
    rw [← eb28] at hio28 hfr28 q1 j28 k28
    rw [← ha28] at q1 k28 m28
    rw [← eb7] at e7 hX7 q1 hh7 j7 k7
    rw [hh7] at q1 m7
    clear ha28 hh7 eb28 eb7 k28 k7
    have hbs := hB.size
    have hlta := hXa.lt
    have hltb := hXb.lt
    have hltc := hXc.lt
    have hgo : w.heap.size ≤ b7 := Nat.le_trans hbs j7
    have hn_o_a : b7 ≠ w.heap.size := Nat.ne_of_gt (Nat.lt_of_lt_of_le hlta j7)
    have hn_o_b : b7 ≠ w.heap.size + 1 := Nat.ne_of_gt (Nat.lt_of_lt_of_le hltb j7)
    have hn_o_c : b7 ≠ w.heap.size + 2 := Nat.ne_of_gt (Nat.lt_of_lt_of_le hltc j7)
    have hd_J28_o : b7 < b28 ∨ a28.heap.size ≤ b7 := q1.symm
    have hd_J28_a : w.heap.size < b28 ∨ a28.heap.size ≤ w.heap.size := .inl (Nat.lt_of_lt_of_le hlta j28)
    have hd_J28_b : w.heap.size + 1 < b28 ∨ a28.heap.size ≤ w.heap.size + 1 := .inl (Nat.lt_of_lt_of_le hltb j28)
    have hd_J28_c : w.heap.size + 2 < b28 ∨ a28.heap.size ≤ w.heap.size + 2 := .inl (Nat.lt_of_lt_of_le hltc j28)
    clear q1 j28 m28 j7 m7 hlta hltb hltc hbs
    have hB' := bw_below hB (hb2)
    have hXa' := hXa.below (hb2)
    have hXb' := hXb.below (hb2)
    have hXc' := hXc.below (hb2)
    clear hb2
    clear hcc_1 hcc_0 hcb_1 hcb_0 hca_1 hca_0 hXc hXb hXa hB
    have hB := hB'; have hXa := hXa'; have hXb := hXb'; have hXc := hXc'
    clear hB' hXa' hXb' hXc'
    have hca_0 := hXa.c0; have hca_1 := hXa.c1; have hcb_0 := hXb.c0; have hcb_1 := hXb.c1; have hcc_0 := hXc.c0; have hcc_1 := hXc.c1
    have J28 := Lib.hid hio28
    have FJ28 := hfr28
    clear hio28 hfr28
    have hXo := hX7; clear hX7
    have hco_0 := hXo.c0; have hfo_0 := hXo.free 0; have hco_1 := hXo.c1; have hfo_1 := hXo.free 1
    show wpList _ _ _ [_] _ _
    simp only [e7, e28]
    clear e7 e28
    refine wl_store (b := b7) rfl rfl hXo ?_
    refine wpList_nil ?_
    go_upto_region 6 with (fail)
    refine wp_gen fun W3 hW => ?_
    have hm3 : V5.heap.size ≤ W3.heap.size := by rw [hW]; (first | (simp only [size_alloc, size_drew, size_drewN, size_set]; (repeat (first | exact Nat.le_refl _ | refine Nat.le_succ_of_le ?_)); done) | omega | (simp only [size_alloc, size_drew, size_drewN, size_set]; omega) | (simp only [size_alloc, size_drew, size_drewN, size_set]; done))
    have hB' : Below w.heap.size w W3 := by rw [hW]; (repeat (first | (with_reducible assumption) | exact Below.refl _ _ | (with_reducible refine Below.drew ?_) | (with_reducible refine belowN ?_ _) | (with_reducible refine bw_alloc ?_ _) | ((with_reducible refine bw_set ?_ ?_ _ _); (focus (with_reducible assumption)))))
    have hXa' : Box W3 (w.heap.size) [Value.bool na, Value.slice ao la.length ac] := by rw [hW]; (repeat (first | (with_reducible assumption) | (with_reducible refine Box.drew ?_) | (with_reducible refine Box.drewN ?_ _) | ((with_reducible refine Box.new _ _ ?_ ?_); (focus (first | (with_reducible exact rfl) | (simp only [size_alloc, size_drew, size_drewN, size_set]; done))); (focus (exact rfl))) | (with_reducible refine Box.alloc ?_ _) | ((with_reducible refine Box.put ?_ ?_ _ _ ?_); rotate_left) | ((with_reducible refine Box.set ?_ ?_ _ _); (focus (first | (with_reducible assumption) | (refine Ne.symm ?_; (with_reducible assumption))))) | (exact rfl)))
    have hXb' : Box W3 (w.heap.size + 1) [Value.bool nb, Value.slice bo lb.length bc] := by rw [hW]; (repeat (first | (with_reducible assumption) | (with_reducible refine Box.drew ?_) | (with_reducible refine Box.drewN ?_ _) | ((with_reducible refine Box.new _ _ ?_ ?_); (focus (first | (with_reducible exact rfl) | (simp only [size_alloc, size_drew, size_drewN, size_set]; done))); (focus (exact rfl))) | (with_reducible refine Box.alloc ?_ _) | ((with_reducible refine Box.put ?_ ?_ _ _ ?_); rotate_left) | ((with_reducible refine Box.set ?_ ?_ _ _); (focus (first | (with_reducible assumption) | (refine Ne.symm ?_; (with_reducible assumption))))) | (exact rfl)))
    have hXc' : Box W3 (w.heap.size + 2) [Value.bool nc, Value.slice co lc.length cc] := by rw [hW]; (repeat (first | (with_reducible assumption) | (with_reducible refine Box.drew ?_) | (with_reducible refine Box.drewN ?_ _) | ((with_reducible refine Box.new _ _ ?_ ?_); (focus (first | (with_reducible exact rfl) | (simp only [size_alloc, size_drew, size_drewN, size_set]; done))); (focus (exact rfl))) | (with_reducible refine Box.alloc ?_ _) | ((with_reducible refine Box.put ?_ ?_ _ _ ?_); rotate_left) | ((with_reducible refine Box.set ?_ ?_ _ _); (focus (first | (with_reducible assumption) | (refine Ne.symm ?_; (with_reducible assumption))))) | (exact rfl)))
    have hXo' : Box W3 (b7) [Value.bool na28, Value.slice ao28 nn28 ac28] := by rw [hW]; (repeat (first | (with_reducible assumption) | (with_reducible refine Box.drew ?_) | (with_reducible refine Box.drewN ?_ _) | ((with_reducible refine Box.new _ _ ?_ ?_); (focus (first | (with_reducible exact rfl) | (simp only [size_alloc, size_drew, size_drewN, size_set]; done))); (focus (exact rfl))) | (with_reducible refine Box.alloc ?_ _) | ((with_reducible refine Box.put ?_ ?_ _ _ ?_); rotate_left) | ((with_reducible refine Box.set ?_ ?_ _ _); (focus (first | (with_reducible assumption) | (refine Ne.symm ?_; (with_reducible assumption))))) | (exact rfl)))
    have FJ28' : Fr a28 (b28) W3 := by rw [hW]; (repeat (first | (with_reducible assumption) | exact Fr.refl _ _ | (with_reducible refine Fr.drew ?_) | (with_reducible refine Fr.drewN ?_ _) | (with_reducible refine Fr.alloc ?_ _) | ((with_reducible refine Fr.set ?_ ?_ _); (focus (with_reducible assumption)))))
    clear hW
    clear hfo_1 hco_1 hfo_0 hco_0 hcc_1 hcc_0 hcb_1 hcb_0 hca_1 hca_0 FJ28 hXo hXc hXb hXa hB
    have hB := hB'; have hXa := hXa'; have hXb := hXb'; have hXc := hXc'; have hXo := hXo'; have FJ28 := FJ28'
    clear hB' hXa' hXb' hXc' hXo' FJ28'
    have hca_0 := hXa.c0; have hca_1 := hXa.c1; have hcb_0 := hXb.c0; have hcb_1 := hXb.c1; have hcc_0 := hXc.c0; have hcc_1 := hXc.c1; have hco_0 := hXo.c0; have hfo_0 := hXo.free 0; have hco_1 := hXo.c1; have hfo_1 := hXo.free 1
    by_cases hz0 : z = 0
    · have HZ := Lib.hid hz0; clear hz0
      refine wp_region_facts7 (by kernel_rfl) (fun i => (Fk.at [.nz y 1000, .nz z 1000, .nq 0 0 9, .nm 32 3 [(2, .int .i64 9)], .ne 29 0, .ne 29 1, .nv (.int .i64 9), .np [Value.bool false, Value.slice none 0 0], .np [Value.bool false, Value.slice none 0 0]] i).says) (fun i => List.getD [[], [], [], [32], [29], [29], [], [], []] i []) [30, 31, 32, 29, 33, 34, 35, 8, 9] ?A600 9 [] [] (fun _ => rfl) (fun h => absurd rfl h) ?hA600 _ rfl (by kernel_rfl) (by kernel_rfl) (fun _ _ _ _ _ _ _ => Fk.keep _) ?steps600 ?fin600
      case hA600 => intro t; (try simp only [putAll, Act.put, List.setIfInBounds_toArray, List.set_cons_zero, List.set_cons_succ]); (try exact rfl)
      case steps600 =>
        refine ⟨?_, ?_, ?_, ?_, ?_, ?_, ?_, ?_, ?_, trivial⟩
        · intro a wk hx hb hg K hK
          have g3 : a.tmps.getD 3 undef = .pointer (some ⟨w.heap.size, 0, none⟩) := hx 3 (by kernel_rfl)
          exact step_run rfl (op_load g3 (ld_int _ _ 0 _ _ (hXa.below hb).c0 (hXa.below hb).c1) (hK _ _ (Below.refl _ _) ((IA.out.keep hB).keep hb)))
        · intro a wk hx hb hg K hK
          have g4 : a.tmps.getD 4 undef = .pointer (some ⟨w.heap.size + 1, 0, none⟩) := hx 4 (by kernel_rfl)
          exact step_run rfl (op_load g4 (ld_int _ _ 0 _ _ (hXb.below hb).c0 (hXb.below hb).c1) (hK _ _ (Below.refl _ _) ((IB.out.keep hB).keep hb)))
        · intro a wk hx hb hg K hK
          have g30 := fk_z (z := y) (k := 1000) (hg 0 30 (by kernel_rfl) rfl)
          have g31 := fk_z (z := z) (k := 1000) (hg 1 31 (by kernel_rfl) rfl)
          exact step_run rfl (op_call2 (by kernel_rfl) (div0_law g30 g31 (by decide) HZ.out) (TellsQ.step hK))
        · intro a wk hx hb hg K hK
          have g32 := fk_q (q := 0) (r := 0) (n := 9) (hg 2 32 (by kernel_rfl) rfl)
          obtain ⟨x32, y32, e32⟩ := g32
          exact step_run rfl (op_move rfl (hK _ _ (Below.refl _ _) ⟨(rs_at (l := [32]) (t := fun d => a.tmps.getD d undef) (d := 32) rfl).symm, _, e32, rfl, by intro p hp; simp only [List.mem_singleton] at hp; subst hp; rfl⟩))
        · intro a wk hx hb hg K hK
          have g29 := fk_m (src := 32) (m := 3) (ks := [(2, .int .i64 9)]) (hg 3 29 (by kernel_rfl) rfl)
          obtain ⟨vs, e29, hm, hk⟩ := g29
          exact step_run rfl (op_extract e29 (Array.getElem?_eq_getElem (by omega)) (hK _ _ (Below.refl _ _) ⟨vs, (rs_at (l := [29]) (t := fun d => a.tmps.getD d undef) (d := 29) rfl).trans e29, Array.getElem?_eq_getElem (by omega)⟩))
        · intro a wk hx hb hg K hK
          have g29 := fk_m (src := 32) (m := 3) (ks := [(2, .int .i64 9)]) (hg 3 29 (by kernel_rfl) rfl)
          obtain ⟨vs, e29, hm, hk⟩ := g29
          exact step_run rfl (op_extract e29 (Array.getElem?_eq_getElem (by omega)) (hK _ _ (Below.refl _ _) ⟨vs, (rs_at (l := [29]) (t := fun d => a.tmps.getD d undef) (d := 29) rfl).trans e29, Array.getElem?_eq_getElem (by omega)⟩))
        · intro a wk hx hb hg K hK
          have g29 := fk_m (src := 32) (m := 3) (ks := [(2, .int .i64 9)]) (hg 3 29 (by kernel_rfl) rfl)
          obtain ⟨vs, e29, hm, hk⟩ := g29
          exact step_run rfl (op_extract e29 (hk (2, _) (List.mem_singleton.2 rfl)) (hK _ _ (Below.refl _ _) rfl))
        · intro a wk hx hb hg K hK
          exact step_run rfl (op_alloc (al_int _) (hK _ _ ((Below.refl _ _).alloc (Nat.le_refl _) _) ⟨rfl, size_alloc _ _, Box.new _ _ rfl rfl⟩))
        · intro a wk hx hb hg K hK
          exact step_run rfl (op_alloc (al_int _) (hK _ _ ((Below.refl _ _).alloc (Nat.le_refl _) _) ⟨rfl, size_alloc _ _, Box.new _ _ rfl rfl⟩))
      intro t600 lo600 hi600 V600 hb2 hF hD
      obtain ⟨j32, k32, m32, a32, ha32, ⟨x32_0, x32_1, e32, hio32_0, hio32_1⟩, hfr32⟩ : _ ∧ _ ∧ _ ∧ (.nq 0 0 9 : Fk).says _ (lo600 2) (hi600 2) V600 (t600 32) := hF 2 32 rfl
      obtain ⟨j8, k8, m8, e8, hh8, hX8⟩ : _ ∧ _ ∧ _ ∧ (.np [Value.bool false, Value.slice none 0 0] : Fk).says _ (lo600 7) (hi600 7) V600 (t600 8) := hF 7 8 rfl
      obtain ⟨j9, k9, m9, e9, hh9, hX9⟩ : _ ∧ _ ∧ _ ∧ (.np [Value.bool false, Value.slice none 0 0] : Fk).says _ (lo600 8) (hi600 8) V600 (t600 9) := hF 8 9 rfl
      have em33 : t600 29 = t600 32 := (hF 3 29 rfl).2.2.2.1.trans (rs_at (l := [32]) (t := t600) (d := 32) rfl)
      have e33 : t600 33 = x32_0 := by obtain ⟨vs, h1, h2⟩ : ∃ vs : Array Value, rs [29] t600 29 = .tuple vs ∧ vs[0]? = some (t600 33) := (hF 4 33 rfl).2.2.2; rw [rs_at rfl, em33, e32] at h1; injection h1 with h1; subst h1; injection h2 with h2; exact h2.symm
      clear em33
      obtain ⟨na33, ao33, nn33, ac33, ex33⟩ := hio32_0.opq
      rw [ex33] at hio32_0 e33
      have em34 : t600 29 = t600 32 := (hF 3 29 rfl).2.2.2.1.trans (rs_at (l := [32]) (t := t600) (d := 32) rfl)
      have e34 : t600 34 = x32_1 := by obtain ⟨vs, h1, h2⟩ : ∃ vs : Array Value, rs [29] t600 29 = .tuple vs ∧ vs[1]? = some (t600 34) := (hF 5 34 rfl).2.2.2; rw [rs_at rfl, em34, e32] at h1; injection h1 with h1; subst h1; injection h2 with h2; exact h2.symm
      clear em34
      obtain ⟨na34, ao34, nn34, ac34, ex34⟩ := hio32_1.opq
      rw [ex34] at hio32_1 e34
      have q1 := hD 2 7 (by decide) (by decide) (by decide)
      have q2 := hD 2 8 (by decide) (by decide) (by decide)
      have q3 := hD 7 8 (by decide) (by decide) (by decide)
      have e35 : t600 35 = .int .i64 9 := (hF 6 35 rfl).2.2.2
      clear hF hD
      obtain ⟨b32, eb32⟩ : ∃ b, b = lo600 2 := ⟨_, rfl⟩
      obtain ⟨b8, eb8⟩ : ∃ b, b = lo600 7 := ⟨_, rfl⟩
      obtain ⟨b9, eb9⟩ : ∃ b, b = lo600 8 := ⟨_, rfl⟩
      rw [← eb32] at hio32_0 hio32_1 hfr32 q1 q2 j32 k32
      rw [← ha32] at q1 q2 k32 m32
      rw [← eb8] at e8 hX8 q1 q3 hh8 j8 k8
      rw [hh8] at q1 q3 m8
      rw [← eb9] at e9 hX9 q2 q3 hh9 j9 k9
      rw [hh9] at q2 q3 m9
      clear ha32 hh8 hh9 eb32 eb8 eb9 k32 k8 k9
      have hbs := hB.size
      have hlta := hXa.lt
      have hltb := hXb.lt
      have hltc := hXc.lt
      have hlto := hXo.lt
      have hszJ28 := FJ28.size
      have hgq : w.heap.size ≤ b8 := Nat.le_trans hbs j8
      have hgr : w.heap.size ≤ b9 := Nat.le_trans hbs j9
      have hn_q_a : b8 ≠ w.heap.size := Nat.ne_of_gt (Nat.lt_of_lt_of_le hlta j8)
      have hn_q_b : b8 ≠ w.heap.size + 1 := Nat.ne_of_gt (Nat.lt_of_lt_of_le hltb j8)
      have hn_q_c : b8 ≠ w.heap.size + 2 := Nat.ne_of_gt (Nat.lt_of_lt_of_le hltc j8)
      have hn_q_o : b8 ≠ b7 := Nat.ne_of_gt (Nat.lt_of_lt_of_le hlto j8)
      have hd_J28_q : b8 < b28 ∨ a28.heap.size ≤ b8 := .inr (Nat.le_trans hszJ28 j8)
      have hn_r_a : b9 ≠ w.heap.size := Nat.ne_of_gt (Nat.lt_of_lt_of_le hlta j9)
      have hn_r_b : b9 ≠ w.heap.size + 1 := Nat.ne_of_gt (Nat.lt_of_lt_of_le hltb j9)
      have hn_r_c : b9 ≠ w.heap.size + 2 := Nat.ne_of_gt (Nat.lt_of_lt_of_le hltc j9)
      have hn_r_o : b9 ≠ b7 := Nat.ne_of_gt (Nat.lt_of_lt_of_le hlto j9)
      have hn_r_q : b9 ≠ b8 := ne_of_disj q3
      have hd_J28_r : b9 < b28 ∨ a28.heap.size ≤ b9 := .inr (Nat.le_trans hszJ28 j9)
      have hd_J33_q : b8 < b32 ∨ a32.heap.size ≤ b8 := q1.symm
      have hd_J33_r : b9 < b32 ∨ a32.heap.size ≤ b9 := q2.symm
      have hd_J33_a : w.heap.size < b32 ∨ a32.heap.size ≤ w.heap.size := .inl (Nat.lt_of_lt_of_le hlta j32)
      have hd_J33_b : w.heap.size + 1 < b32 ∨ a32.heap.size ≤ w.heap.size + 1 := .inl (Nat.lt_of_lt_of_le hltb j32)
      have hd_J33_c : w.heap.size + 2 < b32 ∨ a32.heap.size ≤ w.heap.size + 2 := .inl (Nat.lt_of_lt_of_le hltc j32)
      have hd_J33_o : b7 < b32 ∨ a32.heap.size ≤ b7 := .inl (Nat.lt_of_lt_of_le hlto j32)
      have hd_J34_q : b8 < b32 ∨ a32.heap.size ≤ b8 := q1.symm
      have hd_J34_r : b9 < b32 ∨ a32.heap.size ≤ b9 := q2.symm
      have hd_J34_a : w.heap.size < b32 ∨ a32.heap.size ≤ w.heap.size := .inl (Nat.lt_of_lt_of_le hlta j32)
      have hd_J34_b : w.heap.size + 1 < b32 ∨ a32.heap.size ≤ w.heap.size + 1 := .inl (Nat.lt_of_lt_of_le hltb j32)
      have hd_J34_c : w.heap.size + 2 < b32 ∨ a32.heap.size ≤ w.heap.size + 2 := .inl (Nat.lt_of_lt_of_le hltc j32)
      have hd_J34_o : b7 < b32 ∨ a32.heap.size ≤ b7 := .inl (Nat.lt_of_lt_of_le hlto j32)
      clear q1 q2 q3 j32 m32 j8 m8 j9 m9 hlta hltb hltc hlto hszJ28 hbs
      have hB' := bw_below hB (hb2)
      have hXa' := hXa.below (hb2)
      have hXb' := hXb.below (hb2)
      have hXc' := hXc.below (hb2)
      have hXo' := hXo.below (hb2)
      have FJ28' := FJ28.below (hb2)
      clear hb2
      clear hfo_1 hco_1 hfo_0 hco_0 hcc_1 hcc_0 hcb_1 hcb_0 hca_1 hca_0 FJ28 hXo hXc hXb hXa hB
      have hB := hB'; have hXa := hXa'; have hXb := hXb'; have hXc := hXc'; have hXo := hXo'; have FJ28 := FJ28'
      clear hB' hXa' hXb' hXc' hXo' FJ28'
      have J33 := Lib.hid hio32_0
      have FJ33 := hfr32
      have J34 := Lib.hid hio32_1
      have FJ34 := hfr32
      clear hio32_0 hio32_1 hfr32
      have hXq := hX8; clear hX8
      have hXr := hX9; clear hX9
      
      show wpList _ _ _ [_, _, _] _ _
      simp only [e8, e9, e33, e34, e35]
      clear e8 e9 e33 e34 e35
      refine wl_store (b := b8) rfl rfl hXq ?_
      refine wl_store (b := b9) rfl rfl (Box.set hn_r_q (Box.set hn_r_q hXr 0 _) 1 _) ?_
      refine wl_assign rfl ?_
      simp only [Act.put, List.setIfInBounds_toArray, List.set_cons_zero, List.set_cons_succ]
      refine wpList_nil ?_
      go_upto_region 7 with (fail)
      refine wp_gen fun W4 hW => ?_
      have hm4 : V600.heap.size ≤ W4.heap.size := by rw [hW]; (first | (simp only [size_alloc, size_drew, size_drewN, size_set]; (repeat (first | exact Nat.le_refl _ | refine Nat.le_succ_of_le ?_)); done) | omega | (simp only [size_alloc, size_drew, size_drewN, size_set]; omega) | (simp only [size_alloc, size_drew, size_drewN, size_set]; done))
      have hB' : Below w.heap.size w W4 := by rw [hW]; (repeat (first | (with_reducible assumption) | exact Below.refl _ _ | (with_reducible refine Below.drew ?_) | (with_reducible refine belowN ?_ _) | (with_reducible refine bw_alloc ?_ _) | ((with_reducible refine bw_set ?_ ?_ _ _); (focus (with_reducible assumption)))))
      have hXa' : Box W4 (w.heap.size) [Value.bool na, Value.slice ao la.length ac] := by rw [hW]; (repeat (first | (with_reducible assumption) | (with_reducible refine Box.drew ?_) | (with_reducible refine Box.drewN ?_ _) | ((with_reducible refine Box.new _ _ ?_ ?_); (focus (first | (with_reducible exact rfl) | (simp only [size_alloc, size_drew, size_drewN, size_set]; done))); (focus (exact rfl))) | (with_reducible refine Box.alloc ?_ _) | ((with_reducible refine Box.put ?_ ?_ _ _ ?_); rotate_left) | ((with_reducible refine Box.set ?_ ?_ _ _); (focus (first | (with_reducible assumption) | (refine Ne.symm ?_; (with_reducible assumption))))) | (exact rfl)))
      have hXb' : Box W4 (w.heap.size + 1) [Value.bool nb, Value.slice bo lb.length bc] := by rw [hW]; (repeat (first | (with_reducible assumption) | (with_reducible refine Box.drew ?_) | (with_reducible refine Box.drewN ?_ _) | ((with_reducible refine Box.new _ _ ?_ ?_); (focus (first | (with_reducible exact rfl) | (simp only [size_alloc, size_drew, size_drewN, size_set]; done))); (focus (exact rfl))) | (with_reducible refine Box.alloc ?_ _) | ((with_reducible refine Box.put ?_ ?_ _ _ ?_); rotate_left) | ((with_reducible refine Box.set ?_ ?_ _ _); (focus (first | (with_reducible assumption) | (refine Ne.symm ?_; (with_reducible assumption))))) | (exact rfl)))
      have hXc' : Box W4 (w.heap.size + 2) [Value.bool nc, Value.slice co lc.length cc] := by rw [hW]; (repeat (first | (with_reducible assumption) | (with_reducible refine Box.drew ?_) | (with_reducible refine Box.drewN ?_ _) | ((with_reducible refine Box.new _ _ ?_ ?_); (focus (first | (with_reducible exact rfl) | (simp only [size_alloc, size_drew, size_drewN, size_set]; done))); (focus (exact rfl))) | (with_reducible refine Box.alloc ?_ _) | ((with_reducible refine Box.put ?_ ?_ _ _ ?_); rotate_left) | ((with_reducible refine Box.set ?_ ?_ _ _); (focus (first | (with_reducible assumption) | (refine Ne.symm ?_; (with_reducible assumption))))) | (exact rfl)))
      have hXo' : Box W4 (b7) [Value.bool na28, Value.slice ao28 nn28 ac28] := by rw [hW]; (repeat (first | (with_reducible assumption) | (with_reducible refine Box.drew ?_) | (with_reducible refine Box.drewN ?_ _) | ((with_reducible refine Box.new _ _ ?_ ?_); (focus (first | (with_reducible exact rfl) | (simp only [size_alloc, size_drew, size_drewN, size_set]; done))); (focus (exact rfl))) | (with_reducible refine Box.alloc ?_ _) | ((with_reducible refine Box.put ?_ ?_ _ _ ?_); rotate_left) | ((with_reducible refine Box.set ?_ ?_ _ _); (focus (first | (with_reducible assumption) | (refine Ne.symm ?_; (with_reducible assumption))))) | (exact rfl)))
      have hXq' : Box W4 (b8) [Value.bool na33, Value.slice ao33 nn33 ac33] := by rw [hW]; (repeat (first | (with_reducible assumption) | (with_reducible refine Box.drew ?_) | (with_reducible refine Box.drewN ?_ _) | ((with_reducible refine Box.new _ _ ?_ ?_); (focus (first | (with_reducible exact rfl) | (simp only [size_alloc, size_drew, size_drewN, size_set]; done))); (focus (exact rfl))) | (with_reducible refine Box.alloc ?_ _) | ((with_reducible refine Box.put ?_ ?_ _ _ ?_); rotate_left) | ((with_reducible refine Box.set ?_ ?_ _ _); (focus (first | (with_reducible assumption) | (refine Ne.symm ?_; (with_reducible assumption))))) | (exact rfl)))
      have hXr' : Box W4 (b9) [Value.bool na34, Value.slice ao34 nn34 ac34] := by rw [hW]; (repeat (first | (with_reducible assumption) | (with_reducible refine Box.drew ?_) | (with_reducible refine Box.drewN ?_ _) | ((with_reducible refine Box.new _ _ ?_ ?_); (focus (first | (with_reducible exact rfl) | (simp only [size_alloc, size_drew, size_drewN, size_set]; done))); (focus (exact rfl))) | (with_reducible refine Box.alloc ?_ _) | ((with_reducible refine Box.put ?_ ?_ _ _ ?_); rotate_left) | ((with_reducible refine Box.set ?_ ?_ _ _); (focus (first | (with_reducible assumption) | (refine Ne.symm ?_; (with_reducible assumption))))) | (exact rfl)))
      have FJ28' : Fr a28 (b28) W4 := by rw [hW]; (repeat (first | (with_reducible assumption) | exact Fr.refl _ _ | (with_reducible refine Fr.drew ?_) | (with_reducible refine Fr.drewN ?_ _) | (with_reducible refine Fr.alloc ?_ _) | ((with_reducible refine Fr.set ?_ ?_ _); (focus (with_reducible assumption)))))
      have FJ33' : Fr a32 (b32) W4 := by rw [hW]; (repeat (first | (with_reducible assumption) | exact Fr.refl _ _ | (with_reducible refine Fr.drew ?_) | (with_reducible refine Fr.drewN ?_ _) | (with_reducible refine Fr.alloc ?_ _) | ((with_reducible refine Fr.set ?_ ?_ _); (focus (with_reducible assumption)))))
      have FJ34' : Fr a32 (b32) W4 := by rw [hW]; (repeat (first | (with_reducible assumption) | exact Fr.refl _ _ | (with_reducible refine Fr.drew ?_) | (with_reducible refine Fr.drewN ?_ _) | (with_reducible refine Fr.alloc ?_ _) | ((with_reducible refine Fr.set ?_ ?_ _); (focus (with_reducible assumption)))))
      clear hW
      clear FJ34 FJ33 FJ28 hXr hXq hXo hXc hXb hXa hB
      have hB := hB'; have hXa := hXa'; have hXb := hXb'; have hXc := hXc'; have hXo := hXo'; have hXq := hXq'; have hXr := hXr'; have FJ28 := FJ28'; have FJ33 := FJ33'; have FJ34 := FJ34'
      clear hB' hXa' hXb' hXc' hXo' hXq' hXr' FJ28' FJ33' FJ34'
      refine wp_region_facts7 (by kernel_rfl) (fun i => (Fk.at [.nz z 1000, .ni (0), .nv (.int .i64 0), .nv (.bool true)] i).says) (fun i => List.getD [] i []) [36, 37, 38, 39] ?A700 4 [] [] (fun _ => rfl) (fun h => absurd rfl h) ?hA700 _ rfl (by kernel_rfl) (by kernel_rfl) (fun _ _ _ _ _ _ _ => Fk.keep _) ?steps700 ?fin700
      case hA700 => intro t; (try simp only [putAll, Act.put, List.setIfInBounds_toArray, List.set_cons_zero, List.set_cons_succ]); (try exact rfl)
      case steps700 =>
        refine ⟨?_, ?_, ?_, ?_, trivial⟩
        · intro a wk hx hb hg K hK
          have g4 : a.tmps.getD 4 undef = .pointer (some ⟨w.heap.size + 1, 0, none⟩) := hx 4 (by kernel_rfl)
          exact step_run rfl (op_load g4 (ld_int _ _ 0 _ _ (hXb.below hb).c0 (hXb.below hb).c1) (hK _ _ (Below.refl _ _) ((IB.out.keep hB).keep hb)))
        · intro a wk hx hb hg K hK
          have g7 : a.tmps.getD 7 undef = .pointer (some ⟨b7, 0, none⟩) := hx 7 (by kernel_rfl)
          exact step_run rfl (op_load g7 (ld_int _ _ 0 _ _ (hXo.below hb).c0 (hXo.below hb).c1) (hK _ _ (Below.refl _ _) ((J28.out.fr FJ28).i2.keep hb)))
        · intro a wk hx hb hg K hK
          have g36 := fk_z (z := z) (k := 1000) (hg 0 36 (by kernel_rfl) rfl)
          have g37 := fk_i (z := (0)) (hg 1 37 (by kernel_rfl) rfl)
          exact step_run rfl (op_call2 (by kernel_rfl) (cmp_law g36 (I2.iz g37 ((zb1 (by decide) : ZB (0) 1))) (by decide) (cmpI_eq HZ.out)) (TellsV.step hK))
        · intro a wk hx hb hg K hK
          have g38 : a.tmps.getD 38 undef = .int .i64 0 := fk_v (hg 2 38 (by kernel_rfl) rfl)
          exact step_run rfl (op_bin g38 rfl (bin_eqI.trans (congrArg (fun x => Result.ok (Value.bool x) wk) (by decide))) (hK _ _ (Below.refl _ _) rfl))
      intro t700 lo700 hi700 V700 hb2 hF hD
      have gb : t700 39 = .bool true := (hF 3 39 rfl).2.2.2
      clear hF hD
      refine wpList_nil ?_
      simp only [gb]
      clear gb
      have hB' := bw_below hB (hb2)
      have hXa' := hXa.below (hb2)
      have hXb' := hXb.below (hb2)
      have hXc' := hXc.below (hb2)
      have hXo' := hXo.below (hb2)
      have hXq' := hXq.below (hb2)
      have hXr' := hXr.below (hb2)
      have FJ28' := FJ28.below (hb2)
      have FJ33' := FJ33.below (hb2)
      have FJ34' := FJ34.below (hb2)
      clear hb2
      clear FJ34 FJ33 FJ28 hXr hXq hXo hXc hXb hXa hB
      have hB := hB'; have hXa := hXa'; have hXb := hXb'; have hXc := hXc'; have hXo := hXo'; have hXq := hXq'; have hXr := hXr'; have FJ28 := FJ28'; have FJ33 := FJ33'; have FJ34 := FJ34'
      clear hB' hXa' hXb' hXc' hXo' hXq' hXr' FJ28' FJ33' FJ34'
      go_upto_region 8 with (fail)
      refine wp_region_facts7 (by kernel_rfl) (fun i => (Fk.at [.nv (.int .i64 9), .nv (.bool true), .nv (.bool true), .ni 0, .ni (0), .nv (.bool true), .nv (.bool true), .nv (.bool true), .ni 0, .ni (0), .nv (.bool true), .nv (.bool true), .nv (.bool true)] i).says) (fun i => List.getD [] i []) [40, 41, 42, 43, 44, 45, 46, 47, 48, 49, 50, 51, 6] ?A800 13 [] [] (fun _ => rfl) (fun h => absurd rfl h) ?hA800 _ rfl (by kernel_rfl) (by kernel_rfl) (fun _ _ _ _ _ _ _ => Fk.keep _) ?steps800 ?fin800
      case hA800 => intro t; (try simp only [putAll, Act.put, List.setIfInBounds_toArray, List.set_cons_zero, List.set_cons_succ]); (try exact rfl)
      case steps800 =>
        refine ⟨?_, ?_, ?_, ?_, ?_, ?_, ?_, ?_, ?_, ?_, ?_, ?_, ?_, trivial⟩
        · intro a wk hx hb hg K hK
          have g10 : a.tmps.getD 10 undef = .int .i64 9 := hx 10 (by kernel_rfl)
          exact step_run rfl (op_move g10 (hK _ _ (Below.refl _ _) rfl))
        · intro a wk hx hb hg K hK
          have g40 : a.tmps.getD 40 undef = .int .i64 9 := fk_v (hg 0 40 (by kernel_rfl) rfl)
          exact step_run rfl (op_bin g40 rfl (bin_eqI.trans (congrArg (fun x => Result.ok (Value.bool x) wk) (by decide))) (hK _ _ (Below.refl _ _) rfl))
        · intro a wk hx hb hg K hK
          have g41 : a.tmps.getD 41 undef = .bool true := fk_v (hg 1 41 (by kernel_rfl) rfl)
          exact step_run rfl (op_move g41 (hK _ _ (Below.refl _ _) rfl))
        · intro a wk hx hb hg K hK
          have g8 : a.tmps.getD 8 undef = .pointer (some ⟨b8, 0, none⟩) := hx 8 (by kernel_rfl)
          have g42 : a.tmps.getD 42 undef = .bool true := fk_v (hg 2 42 (by kernel_rfl) rfl)
          exact step_run (wanted_some (d := 42) rfl g42 rfl) (op_load g8 (ld_int _ _ 0 _ _ (hXq.below hb).c0 (hXq.below hb).c1) (hK _ _ (Below.refl _ _) ((J33.out.fr FJ33).i2.keep hb)))
        · intro a wk hx hb hg K hK
          have g7 : a.tmps.getD 7 undef = .pointer (some ⟨b7, 0, none⟩) := hx 7 (by kernel_rfl)
          have g42 : a.tmps.getD 42 undef = .bool true := fk_v (hg 2 42 (by kernel_rfl) rfl)
          exact step_run (wanted_some (d := 42) rfl g42 rfl) (op_load g7 (ld_int _ _ 0 _ _ (hXo.below hb).c0 (hXo.below hb).c1) (hK _ _ (Below.refl _ _) ((J28.out.fr FJ28).i2.keep hb)))
        · intro a wk hx hb hg K hK
          have g43 := fk_i (z := 0) (hg 3 43 (by kernel_rfl) rfl)
          have g44 := fk_i (z := (0)) (hg 4 44 (by kernel_rfl) rfl)
          have g42 : a.tmps.getD 42 undef = .bool true := fk_v (hg 2 42 (by kernel_rfl) rfl)
          exact step_run (wanted_some (d := 42) rfl g42 rfl) (op_call2 (by kernel_rfl) (same_law g43 g44 ((zb1 (by decide) : ZB 0 1)) (by decide) (by decide)) (TellsV.step hK))
        · intro a wk hx hb hg K hK
          have g42 : a.tmps.getD 42 undef = .bool true := fk_v (hg 2 42 (by kernel_rfl) rfl)
          have g45 : a.tmps.getD 45 undef = .bool true := fk_v (hg 5 45 (by kernel_rfl) rfl)
          exact step_run rfl (op_pickT g42 g45 (hK _ _ (Below.refl _ _) rfl))
        · intro a wk hx hb hg K hK
          have g46 : a.tmps.getD 46 undef = .bool true := fk_v (hg 6 46 (by kernel_rfl) rfl)
          exact step_run rfl (op_move g46 (hK _ _ (Below.refl _ _) rfl))
        · intro a wk hx hb hg K hK
          have g9 : a.tmps.getD 9 undef = .pointer (some ⟨b9, 0, none⟩) := hx 9 (by kernel_rfl)
          have g47 : a.tmps.getD 47 undef = .bool true := fk_v (hg 7 47 (by kernel_rfl) rfl)
          exact step_run (wanted_some (d := 47) rfl g47 rfl) (op_load g9 (ld_int _ _ 0 _ _ (hXr.below hb).c0 (hXr.below hb).c1) (hK _ _ (Below.refl _ _) ((J34.out.fr FJ34).i2.keep hb)))
        · intro a wk hx hb hg K hK
          have g7 : a.tmps.getD 7 undef = .pointer (some ⟨b7, 0, none⟩) := hx 7 (by kernel_rfl)
          have g47 : a.tmps.getD 47 undef = .bool true := fk_v (hg 7 47 (by kernel_rfl) rfl)
          exact step_run (wanted_some (d := 47) rfl g47 rfl) (op_load g7 (ld_int _ _ 0 _ _ (hXo.below hb).c0 (hXo.below hb).c1) (hK _ _ (Below.refl _ _) ((J28.out.fr FJ28).i2.keep hb)))
        · intro a wk hx hb hg K hK
          have g48 := fk_i (z := 0) (hg 8 48 (by kernel_rfl) rfl)
          have g49 := fk_i (z := (0)) (hg 9 49 (by kernel_rfl) rfl)
          have g47 : a.tmps.getD 47 undef = .bool true := fk_v (hg 7 47 (by kernel_rfl) rfl)
          exact step_run (wanted_some (d := 47) rfl g47 rfl) (op_call2 (by kernel_rfl) (same_law g48 g49 ((zb1 (by decide) : ZB 0 1)) (by decide) (by decide)) (TellsV.step hK))
        · intro a wk hx hb hg K hK
          have g47 : a.tmps.getD 47 undef = .bool true := fk_v (hg 7 47 (by kernel_rfl) rfl)
          have g50 : a.tmps.getD 50 undef = .bool true := fk_v (hg 10 50 (by kernel_rfl) rfl)
          exact step_run rfl (op_pickT g47 g50 (hK _ _ (Below.refl _ _) rfl))
        · intro a wk hx hb hg K hK
          have g51 : a.tmps.getD 51 undef = .bool true := fk_v (hg 11 51 (by kernel_rfl) rfl)
          exact step_run rfl (op_assign g51 (hK _ _ (Below.refl _ _) rfl))
      intro t800 lo800 hi800 V800 hb2 hF hD
      have gb : t800 6 = .bool true := (hF 12 6 rfl).2.2.2
      clear hF hD
      refine wpList_nil ?_
      simp only [gb]
      go_wp2_with fail
      go_ret
      exact ⟨rfl, bw_below hB hb2⟩
    · have HZ := Lib.hid hz0
      obtain ⟨fq, Hfq⟩ : ∃ q : Int, q = Int.fdiv y z := ⟨_, rfl⟩
      have Bfq := Lib.hid (show ZB fq 1002 by rw [Hfq]; exact ZB.mono (ZB.fdiv By.out HZ.out) (by decide))
      replace Hfq := Lib.hid Hfq
      obtain ⟨fr, Hfr⟩ : ∃ q : Int, q = Int.fmod y z := ⟨_, rfl⟩
      have Bfr := Lib.hid (show ZB fr 1001 by rw [Hfr]; exact ZB.mono (ZB.fmod Bz.out HZ.out) (by decide))
      replace Hfr := Lib.hid Hfr
      obtain ⟨z58, Hz58⟩ : ∃ q : Int, q = ((1 * fq) * z) := ⟨_, rfl⟩
      have Bz58 := Lib.hid (show ZB z58 2004 by rw [Hz58]; exact ZB.mono (ZB.mul (ZB.mul ZB.one Bfq.out) Bz.out) (by decide))
      replace Hz58 := Lib.hid Hz58
      obtain ⟨z61, Hz61⟩ : ∃ q : Int, q = ((0 + z58) + fr) := ⟨_, rfl⟩
      have Bz61 := Lib.hid (show ZB z61 3007 by rw [Hz61]; exact ZB.mono (ZB.add (ZB.add (ZB.zero 0) Bz58.out) Bfr.out) (by decide))
      replace Hz61 := Lib.hid Hz61
      have HRNG := Lib.hid (fdm_range y hz0)
      clear hz0
      refine wp_region_facts7 (by kernel_rfl) (fun i => (Fk.at [.nz y 1000, .nz z 1000, .nq fq fr 0, .nm 32 3 [(2, .int .i64 0)], .ne 29 0, .ne 29 1, .nv (.int .i64 0), .np [Value.bool false, Value.slice none 0 0], .np [Value.bool false, Value.slice none 0 0]] i).says) (fun i => List.getD [[], [], [], [32], [29], [29], [], [], []] i []) [30, 31, 32, 29, 33, 34, 35, 8, 9] ?A601 9 [] [] (fun _ => rfl) (fun h => absurd rfl h) ?hA601 _ rfl (by kernel_rfl) (by kernel_rfl) (fun _ _ _ _ _ _ _ => Fk.keep _) ?steps601 ?fin601
      case hA601 => intro t; (try simp only [putAll, Act.put, List.setIfInBounds_toArray, List.set_cons_zero, List.set_cons_succ]); (try exact rfl)
      case steps601 =>
        refine ⟨?_, ?_, ?_, ?_, ?_, ?_, ?_, ?_, ?_, trivial⟩
        · intro a wk hx hb hg K hK
          have g3 : a.tmps.getD 3 undef = .pointer (some ⟨w.heap.size, 0, none⟩) := hx 3 (by kernel_rfl)
          exact step_run rfl (op_load g3 (ld_int _ _ 0 _ _ (hXa.below hb).c0 (hXa.below hb).c1) (hK _ _ (Below.refl _ _) ((IA.out.keep hB).keep hb)))
        · intro a wk hx hb hg K hK
          have g4 : a.tmps.getD 4 undef = .pointer (some ⟨w.heap.size + 1, 0, none⟩) := hx 4 (by kernel_rfl)
          exact step_run rfl (op_load g4 (ld_int _ _ 0 _ _ (hXb.below hb).c0 (hXb.below hb).c1) (hK _ _ (Below.refl _ _) ((IB.out.keep hB).keep hb)))
        · intro a wk hx hb hg K hK
          have g30 := fk_z (z := y) (k := 1000) (hg 0 30 (by kernel_rfl) rfl)
          have g31 := fk_z (z := z) (k := 1000) (hg 1 31 (by kernel_rfl) rfl)
          exact step_run rfl (op_call2 (by kernel_rfl) (div_law g30 g31 (by decide) HZ.out Hfq.out.symm Hfr.out.symm) (TellsQ.step hK))
        · intro a wk hx hb hg K hK
          have g32 := fk_q (q := fq) (r := fr) (n := 0) (hg 2 32 (by kernel_rfl) rfl)
          obtain ⟨x32, y32, e32⟩ := g32
          exact step_run rfl (op_move rfl (hK _ _ (Below.refl _ _) ⟨(rs_at (l := [32]) (t := fun d => a.tmps.getD d undef) (d := 32) rfl).symm, _, e32, rfl, by intro p hp; simp only [List.mem_singleton] at hp; subst hp; rfl⟩))
        · intro a wk hx hb hg K hK
          have g29 := fk_m (src := 32) (m := 3) (ks := [(2, .int .i64 0)]) (hg 3 29 (by kernel_rfl) rfl)
          obtain ⟨vs, e29, hm, hk⟩ := g29
          exact step_run rfl (op_extract e29 (Array.getElem?_eq_getElem (by omega)) (hK _ _ (Below.refl _ _) ⟨vs, (rs_at (l := [29]) (t := fun d => a.tmps.getD d undef) (d := 29) rfl).trans e29, Array.getElem?_eq_getElem (by omega)⟩))
        · intro a wk hx hb hg K hK
          have g29 := fk_m (src := 32) (m := 3) (ks := [(2, .int .i64 0)]) (hg 3 29 (by kernel_rfl) rfl)
          obtain ⟨vs, e29, hm, hk⟩ := g29
          exact step_run rfl (op_extract e29 (Array.getElem?_eq_getElem (by omega)) (hK _ _ (Below.refl _ _) ⟨vs, (rs_at (l := [29]) (t := fun d => a.tmps.getD d undef) (d := 29) rfl).trans e29, Array.getElem?_eq_getElem (by omega)⟩))
        · intro a wk hx hb hg K hK
          have g29 := fk_m (src := 32) (m := 3) (ks := [(2, .int .i64 0)]) (hg 3 29 (by kernel_rfl) rfl)
          obtain ⟨vs, e29, hm, hk⟩ := g29
          exact step_run rfl (op_extract e29 (hk (2, _) (List.mem_singleton.2 rfl)) (hK _ _ (Below.refl _ _) rfl))
        · intro a wk hx hb hg K hK
          exact step_run rfl (op_alloc (al_int _) (hK _ _ ((Below.refl _ _).alloc (Nat.le_refl _) _) ⟨rfl, size_alloc _ _, Box.new _ _ rfl rfl⟩))
        · intro a wk hx hb hg K hK
          exact step_run rfl (op_alloc (al_int _) (hK _ _ ((Below.refl _ _).alloc (Nat.le_refl _) _) ⟨rfl, size_alloc _ _, Box.new _ _ rfl rfl⟩))
      intro t601 lo601 hi601 V601 hb2 hF hD
      obtain ⟨j32, k32, m32, a32, ha32, ⟨x32_0, x32_1, e32, hio32_0, hio32_1⟩, hfr32⟩ : _ ∧ _ ∧ _ ∧ (.nq fq fr 0 : Fk).says _ (lo601 2) (hi601 2) V601 (t601 32) := hF 2 32 rfl
      obtain ⟨j8, k8, m8, e8, hh8, hX8⟩ : _ ∧ _ ∧ _ ∧ (.np [Value.bool false, Value.slice none 0 0] : Fk).says _ (lo601 7) (hi601 7) V601 (t601 8) := hF 7 8 rfl
      obtain ⟨j9, k9, m9, e9, hh9, hX9⟩ : _ ∧ _ ∧ _ ∧ (.np [Value.bool false, Value.slice none 0 0] : Fk).says _ (lo601 8) (hi601 8) V601 (t601 9) := hF 8 9 rfl
      have em33 : t601 29 = t601 32 := (hF 3 29 rfl).2.2.2.1.trans (rs_at (l := [32]) (t := t601) (d := 32) rfl)
      have e33 : t601 33 = x32_0 := by obtain ⟨vs, h1, h2⟩ : ∃ vs : Array Value, rs [29] t601 29 = .tuple vs ∧ vs[0]? = some (t601 33) := (hF 4 33 rfl).2.2.2; rw [rs_at rfl, em33, e32] at h1; injection h1 with h1; subst h1; injection h2 with h2; exact h2.symm
      clear em33
      obtain ⟨na33, ao33, nn33, ac33, ex33⟩ := hio32_0.opq
      rw [ex33] at hio32_0 e33
      have em34 : t601 29 = t601 32 := (hF 3 29 rfl).2.2.2.1.trans (rs_at (l := [32]) (t := t601) (d := 32) rfl)
      have e34 : t601 34 = x32_1 := by obtain ⟨vs, h1, h2⟩ : ∃ vs : Array Value, rs [29] t601 29 = .tuple vs ∧ vs[1]? = some (t601 34) := (hF 5 34 rfl).2.2.2; rw [rs_at rfl, em34, e32] at h1; injection h1 with h1; subst h1; injection h2 with h2; exact h2.symm
      clear em34
      obtain ⟨na34, ao34, nn34, ac34, ex34⟩ := hio32_1.opq
      rw [ex34] at hio32_1 e34
      have q1 := hD 2 7 (by decide) (by decide) (by decide)
      have q2 := hD 2 8 (by decide) (by decide) (by decide)
      have q3 := hD 7 8 (by decide) (by decide) (by decide)
      have e35 : t601 35 = .int .i64 0 := (hF 6 35 rfl).2.2.2
      clear hF hD
      obtain ⟨b32, eb32⟩ : ∃ b, b = lo601 2 := ⟨_, rfl⟩
      obtain ⟨b8, eb8⟩ : ∃ b, b = lo601 7 := ⟨_, rfl⟩
      obtain ⟨b9, eb9⟩ : ∃ b, b = lo601 8 := ⟨_, rfl⟩
      rw [← eb32] at hio32_0 hio32_1 hfr32 q1 q2 j32 k32
      rw [← ha32] at q1 q2 k32 m32
      rw [← eb8] at e8 hX8 q1 q3 hh8 j8 k8
      rw [hh8] at q1 q3 m8
      rw [← eb9] at e9 hX9 q2 q3 hh9 j9 k9
      rw [hh9] at q2 q3 m9
      clear ha32 hh8 hh9 eb32 eb8 eb9 k32 k8 k9
      have hbs := hB.size
      have hlta := hXa.lt
      have hltb := hXb.lt
      have hltc := hXc.lt
      have hlto := hXo.lt
      have hszJ28 := FJ28.size
      have hgq : w.heap.size ≤ b8 := Nat.le_trans hbs j8
      have hgr : w.heap.size ≤ b9 := Nat.le_trans hbs j9
      have hn_q_a : b8 ≠ w.heap.size := Nat.ne_of_gt (Nat.lt_of_lt_of_le hlta j8)
      have hn_q_b : b8 ≠ w.heap.size + 1 := Nat.ne_of_gt (Nat.lt_of_lt_of_le hltb j8)
      have hn_q_c : b8 ≠ w.heap.size + 2 := Nat.ne_of_gt (Nat.lt_of_lt_of_le hltc j8)
      have hn_q_o : b8 ≠ b7 := Nat.ne_of_gt (Nat.lt_of_lt_of_le hlto j8)
      have hd_J28_q : b8 < b28 ∨ a28.heap.size ≤ b8 := .inr (Nat.le_trans hszJ28 j8)
      have hn_r_a : b9 ≠ w.heap.size := Nat.ne_of_gt (Nat.lt_of_lt_of_le hlta j9)
      have hn_r_b : b9 ≠ w.heap.size + 1 := Nat.ne_of_gt (Nat.lt_of_lt_of_le hltb j9)
      have hn_r_c : b9 ≠ w.heap.size + 2 := Nat.ne_of_gt (Nat.lt_of_lt_of_le hltc j9)
      have hn_r_o : b9 ≠ b7 := Nat.ne_of_gt (Nat.lt_of_lt_of_le hlto j9)
      have hn_r_q : b9 ≠ b8 := ne_of_disj q3
      have hd_J28_r : b9 < b28 ∨ a28.heap.size ≤ b9 := .inr (Nat.le_trans hszJ28 j9)
      have hd_J33_q : b8 < b32 ∨ a32.heap.size ≤ b8 := q1.symm
      have hd_J33_r : b9 < b32 ∨ a32.heap.size ≤ b9 := q2.symm
      have hd_J33_a : w.heap.size < b32 ∨ a32.heap.size ≤ w.heap.size := .inl (Nat.lt_of_lt_of_le hlta j32)
      have hd_J33_b : w.heap.size + 1 < b32 ∨ a32.heap.size ≤ w.heap.size + 1 := .inl (Nat.lt_of_lt_of_le hltb j32)
      have hd_J33_c : w.heap.size + 2 < b32 ∨ a32.heap.size ≤ w.heap.size + 2 := .inl (Nat.lt_of_lt_of_le hltc j32)
      have hd_J33_o : b7 < b32 ∨ a32.heap.size ≤ b7 := .inl (Nat.lt_of_lt_of_le hlto j32)
      have hd_J34_q : b8 < b32 ∨ a32.heap.size ≤ b8 := q1.symm
      have hd_J34_r : b9 < b32 ∨ a32.heap.size ≤ b9 := q2.symm
      have hd_J34_a : w.heap.size < b32 ∨ a32.heap.size ≤ w.heap.size := .inl (Nat.lt_of_lt_of_le hlta j32)
      have hd_J34_b : w.heap.size + 1 < b32 ∨ a32.heap.size ≤ w.heap.size + 1 := .inl (Nat.lt_of_lt_of_le hltb j32)
      have hd_J34_c : w.heap.size + 2 < b32 ∨ a32.heap.size ≤ w.heap.size + 2 := .inl (Nat.lt_of_lt_of_le hltc j32)
      have hd_J34_o : b7 < b32 ∨ a32.heap.size ≤ b7 := .inl (Nat.lt_of_lt_of_le hlto j32)
      clear q1 q2 q3 j32 m32 j8 m8 j9 m9 hlta hltb hltc hlto hszJ28 hbs
      have hB' := bw_below hB (hb2)
      have hXa' := hXa.below (hb2)
      have hXb' := hXb.below (hb2)
      have hXc' := hXc.below (hb2)
      have hXo' := hXo.below (hb2)
      have FJ28' := FJ28.below (hb2)
      clear hb2
      clear hfo_1 hco_1 hfo_0 hco_0 hcc_1 hcc_0 hcb_1 hcb_0 hca_1 hca_0 FJ28 hXo hXc hXb hXa hB
      have hB := hB'; have hXa := hXa'; have hXb := hXb'; have hXc := hXc'; have hXo := hXo'; have FJ28 := FJ28'
      clear hB' hXa' hXb' hXc' hXo' FJ28'
      have J33 := Lib.hid hio32_0
      have FJ33 := hfr32
      have J34 := Lib.hid hio32_1
      have FJ34 := hfr32
      clear hio32_0 hio32_1 hfr32
      have hXq := hX8; clear hX8
      have hXr := hX9; clear hX9
      
      show wpList _ _ _ [_, _, _] _ _
      simp only [e8, e9, e33, e34, e35]
      clear e8 e9 e33 e34 e35
      refine wl_store (b := b8) rfl rfl hXq ?_
      refine wl_store (b := b9) rfl rfl (Box.set hn_r_q (Box.set hn_r_q hXr 0 _) 1 _) ?_
      refine wl_assign rfl ?_
      simp only [Act.put, List.setIfInBounds_toArray, List.set_cons_zero, List.set_cons_succ]
      refine wpList_nil ?_
      go_upto_region 7 with (fail)
      refine wp_gen fun W4 hW => ?_
      have hm4 : V601.heap.size ≤ W4.heap.size := by rw [hW]; (first | (simp only [size_alloc, size_drew, size_drewN, size_set]; (repeat (first | exact Nat.le_refl _ | refine Nat.le_succ_of_le ?_)); done) | omega | (simp only [size_alloc, size_drew, size_drewN, size_set]; omega) | (simp only [size_alloc, size_drew, size_drewN, size_set]; done))
      have hB' : Below w.heap.size w W4 := by rw [hW]; (repeat (first | (with_reducible assumption) | exact Below.refl _ _ | (with_reducible refine Below.drew ?_) | (with_reducible refine belowN ?_ _) | (with_reducible refine bw_alloc ?_ _) | ((with_reducible refine bw_set ?_ ?_ _ _); (focus (with_reducible assumption)))))
      have hXa' : Box W4 (w.heap.size) [Value.bool na, Value.slice ao la.length ac] := by rw [hW]; (repeat (first | (with_reducible assumption) | (with_reducible refine Box.drew ?_) | (with_reducible refine Box.drewN ?_ _) | ((with_reducible refine Box.new _ _ ?_ ?_); (focus (first | (with_reducible exact rfl) | (simp only [size_alloc, size_drew, size_drewN, size_set]; done))); (focus (exact rfl))) | (with_reducible refine Box.alloc ?_ _) | ((with_reducible refine Box.put ?_ ?_ _ _ ?_); rotate_left) | ((with_reducible refine Box.set ?_ ?_ _ _); (focus (first | (with_reducible assumption) | (refine Ne.symm ?_; (with_reducible assumption))))) | (exact rfl)))
      have hXb' : Box W4 (w.heap.size + 1) [Value.bool nb, Value.slice bo lb.length bc] := by rw [hW]; (repeat (first | (with_reducible assumption) | (with_reducible refine Box.drew ?_) | (with_reducible refine Box.drewN ?_ _) | ((with_reducible refine Box.new _ _ ?_ ?_); (focus (first | (with_reducible exact rfl) | (simp only [size_alloc, size_drew, size_drewN, size_set]; done))); (focus (exact rfl))) | (with_reducible refine Box.alloc ?_ _) | ((with_reducible refine Box.put ?_ ?_ _ _ ?_); rotate_left) | ((with_reducible refine Box.set ?_ ?_ _ _); (focus (first | (with_reducible assumption) | (refine Ne.symm ?_; (with_reducible assumption))))) | (exact rfl)))
      have hXc' : Box W4 (w.heap.size + 2) [Value.bool nc, Value.slice co lc.length cc] := by rw [hW]; (repeat (first | (with_reducible assumption) | (with_reducible refine Box.drew ?_) | (with_reducible refine Box.drewN ?_ _) | ((with_reducible refine Box.new _ _ ?_ ?_); (focus (first | (with_reducible exact rfl) | (simp only [size_alloc, size_drew, size_drewN, size_set]; done))); (focus (exact rfl))) | (with_reducible refine Box.alloc ?_ _) | ((with_reducible refine Box.put ?_ ?_ _ _ ?_); rotate_left) | ((with_reducible refine Box.set ?_ ?_ _ _); (focus (first | (with_reducible assumption) | (refine Ne.symm ?_; (with_reducible assumption))))) | (exact rfl)))
      have hXo' : Box W4 (b7) [Value.bool na28, Value.slice ao28 nn28 ac28] := by rw [hW]; (repeat (first | (with_reducible assumption) | (with_reducible refine Box.drew ?_) | (with_reducible refine Box.drewN ?_ _) | ((with_reducible refine Box.new _ _ ?_ ?_); (focus (first | (with_reducible exact rfl) | (simp only [size_alloc, size_drew, size_drewN, size_set]; done))); (focus (exact rfl))) | (with_reducible refine Box.alloc ?_ _) | ((with_reducible refine Box.put ?_ ?_ _ _ ?_); rotate_left) | ((with_reducible refine Box.set ?_ ?_ _ _); (focus (first | (with_reducible assumption) | (refine Ne.symm ?_; (with_reducible assumption))))) | (exact rfl)))
      have hXq' : Box W4 (b8) [Value.bool na33, Value.slice ao33 nn33 ac33] := by rw [hW]; (repeat (first | (with_reducible assumption) | (with_reducible refine Box.drew ?_) | (with_reducible refine Box.drewN ?_ _) | ((with_reducible refine Box.new _ _ ?_ ?_); (focus (first | (with_reducible exact rfl) | (simp only [size_alloc, size_drew, size_drewN, size_set]; done))); (focus (exact rfl))) | (with_reducible refine Box.alloc ?_ _) | ((with_reducible refine Box.put ?_ ?_ _ _ ?_); rotate_left) | ((with_reducible refine Box.set ?_ ?_ _ _); (focus (first | (with_reducible assumption) | (refine Ne.symm ?_; (with_reducible assumption))))) | (exact rfl)))
      have hXr' : Box W4 (b9) [Value.bool na34, Value.slice ao34 nn34 ac34] := by rw [hW]; (repeat (first | (with_reducible assumption) | (with_reducible refine Box.drew ?_) | (with_reducible refine Box.drewN ?_ _) | ((with_reducible refine Box.new _ _ ?_ ?_); (focus (first | (with_reducible exact rfl) | (simp only [size_alloc, size_drew, size_drewN, size_set]; done))); (focus (exact rfl))) | (with_reducible refine Box.alloc ?_ _) | ((with_reducible refine Box.put ?_ ?_ _ _ ?_); rotate_left) | ((with_reducible refine Box.set ?_ ?_ _ _); (focus (first | (with_reducible assumption) | (refine Ne.symm ?_; (with_reducible assumption))))) | (exact rfl)))
      have FJ28' : Fr a28 (b28) W4 := by rw [hW]; (repeat (first | (with_reducible assumption) | exact Fr.refl _ _ | (with_reducible refine Fr.drew ?_) | (with_reducible refine Fr.drewN ?_ _) | (with_reducible refine Fr.alloc ?_ _) | ((with_reducible refine Fr.set ?_ ?_ _); (focus (with_reducible assumption)))))
      have FJ33' : Fr a32 (b32) W4 := by rw [hW]; (repeat (first | (with_reducible assumption) | exact Fr.refl _ _ | (with_reducible refine Fr.drew ?_) | (with_reducible refine Fr.drewN ?_ _) | (with_reducible refine Fr.alloc ?_ _) | ((with_reducible refine Fr.set ?_ ?_ _); (focus (with_reducible assumption)))))
      have FJ34' : Fr a32 (b32) W4 := by rw [hW]; (repeat (first | (with_reducible assumption) | exact Fr.refl _ _ | (with_reducible refine Fr.drew ?_) | (with_reducible refine Fr.drewN ?_ _) | (with_reducible refine Fr.alloc ?_ _) | ((with_reducible refine Fr.set ?_ ?_ _); (focus (with_reducible assumption)))))
      clear hW
      clear FJ34 FJ33 FJ28 hXr hXq hXo hXc hXb hXa hB
      have hB := hB'; have hXa := hXa'; have hXb := hXb'; have hXc := hXc'; have hXo := hXo'; have hXq := hXq'; have hXr := hXr'; have FJ28 := FJ28'; have FJ33 := FJ33'; have FJ34 := FJ34'
      clear hB' hXa' hXb' hXc' hXo' hXq' hXr' FJ28' FJ33' FJ34'
      obtain ⟨c38, HC38⟩ : ∃ c, c = cmpI z 0 := ⟨_, rfl⟩
      replace HC38 := Lib.hid HC38
      refine wp_region_facts7 (by kernel_rfl) (fun i => (Fk.at [.nz z 1000, .ni (0), .nv (.int .i64 c38), .nv (.bool false)] i).says) (fun i => List.getD [] i []) [36, 37, 38, 39] ?A701 4 [] [] (fun _ => rfl) (fun h => absurd rfl h) ?hA701 _ rfl (by kernel_rfl) (by kernel_rfl) (fun _ _ _ _ _ _ _ => Fk.keep _) ?steps701 ?fin701
      case hA701 => intro t; (try simp only [putAll, Act.put, List.setIfInBounds_toArray, List.set_cons_zero, List.set_cons_succ]); (try exact rfl)
      case steps701 =>
        refine ⟨?_, ?_, ?_, ?_, trivial⟩
        · intro a wk hx hb hg K hK
          have g4 : a.tmps.getD 4 undef = .pointer (some ⟨w.heap.size + 1, 0, none⟩) := hx 4 (by kernel_rfl)
          exact step_run rfl (op_load g4 (ld_int _ _ 0 _ _ (hXb.below hb).c0 (hXb.below hb).c1) (hK _ _ (Below.refl _ _) ((IB.out.keep hB).keep hb)))
        · intro a wk hx hb hg K hK
          have g7 : a.tmps.getD 7 undef = .pointer (some ⟨b7, 0, none⟩) := hx 7 (by kernel_rfl)
          exact step_run rfl (op_load g7 (ld_int _ _ 0 _ _ (hXo.below hb).c0 (hXo.below hb).c1) (hK _ _ (Below.refl _ _) ((J28.out.fr FJ28).i2.keep hb)))
        · intro a wk hx hb hg K hK
          have g36 := fk_z (z := z) (k := 1000) (hg 0 36 (by kernel_rfl) rfl)
          have g37 := fk_i (z := (0)) (hg 1 37 (by kernel_rfl) rfl)
          exact step_run rfl (op_call2 (by kernel_rfl) (cmp_law g36 (I2.iz g37 ((zb1 (by decide) : ZB (0) 1))) (by decide) (HC38.out.symm)) (TellsV.step hK))
        · intro a wk hx hb hg K hK
          have g38 : a.tmps.getD 38 undef = .int .i64 c38 := fk_v (hg 2 38 (by kernel_rfl) rfl)
          exact step_run rfl (op_bin g38 rfl (bin_eqI.trans (congrArg (fun x => Result.ok (Value.bool x) wk) (by rw [HC38.out]; exact cmpI_ne HZ.out))) (hK _ _ (Below.refl _ _) rfl))
      intro t701 lo701 hi701 V701 hb2 hF hD
      have gb : t701 39 = .bool false := (hF 3 39 rfl).2.2.2
      clear hF hD
      refine wpList_nil ?_
      simp only [gb]
      clear gb
      have hB' := bw_below hB (hb2)
      have hXa' := hXa.below (hb2)
      have hXb' := hXb.below (hb2)
      have hXc' := hXc.below (hb2)
      have hXo' := hXo.below (hb2)
      have hXq' := hXq.below (hb2)
      have hXr' := hXr.below (hb2)
      have FJ28' := FJ28.below (hb2)
      have FJ33' := FJ33.below (hb2)
      have FJ34' := FJ34.below (hb2)
      clear hb2
      clear FJ34 FJ33 FJ28 hXr hXq hXo hXc hXb hXa hB
      have hB := hB'; have hXa := hXa'; have hXb := hXb'; have hXc := hXc'; have hXo := hXo'; have hXq := hXq'; have hXr := hXr'; have FJ28 := FJ28'; have FJ33 := FJ33'; have FJ34 := FJ34'
      clear hB' hXa' hXb' hXc' hXo' hXq' hXr' FJ28' FJ33' FJ34'
      go_upto_region 9 with (fail)
      refine wp_region_facts7 (by kernel_rfl) (fun i => (Fk.at [.nv (.int .i64 0), .nv (.bool false), .nv (.bool false), .ni fq, .nz z 1000, .nl [fq, z] 2006, .no z58, .ni fr, .nl [z58, fr] 3009, .no z61, .nz y 1000, .nv (.int .i64 0), .nv (.bool false), .nv (.bool false)] i).says) (fun i => List.getD [] i []) [52, 53, 54, 55, 56, 57, 58, 59, 60, 61, 62, 63, 64, 65] ?A901 14 [] [] (fun h => by cases h) (fun h => absurd rfl h) ?hA901 _ rfl (by kernel_rfl) (by kernel_rfl) (fun _ _ _ _ _ _ _ => Fk.keep _) ?steps901 ?fin901
      case hA901 => intro t; (try simp only [putAll, Act.put, List.setIfInBounds_toArray, List.set_cons_zero, List.set_cons_succ]); (try exact rfl)
      case steps901 =>
        refine ⟨?_, ?_, ?_, ?_, ?_, ?_, ?_, ?_, ?_, ?_, ?_, ?_, ?_, ?_, trivial⟩
        · intro a wk hx hb hg K hK
          have g10 : a.tmps.getD 10 undef = .int .i64 0 := hx 10 (by kernel_rfl)
          exact step_run rfl (op_move g10 (hK _ _ (Below.refl _ _) rfl))
        · intro a wk hx hb hg K hK
          have g52 : a.tmps.getD 52 undef = .int .i64 0 := fk_v (hg 0 52 (by kernel_rfl) rfl)
          exact step_run rfl (op_bin g52 rfl (bin_neI.trans (congrArg (fun x => Result.ok (Value.bool x) wk) (by decide))) (hK _ _ (Below.refl _ _) rfl))
        · intro a wk hx hb hg K hK
          have g53 : a.tmps.getD 53 undef = .bool false := fk_v (hg 1 53 (by kernel_rfl) rfl)
          exact step_run rfl (op_move g53 (hK _ _ (Below.refl _ _) rfl))
        · intro a wk hx hb hg K hK
          have g8 : a.tmps.getD 8 undef = .pointer (some ⟨b8, 0, none⟩) := hx 8 (by kernel_rfl)
          have g54 : a.tmps.getD 54 undef = .bool false := fk_v (hg 2 54 (by kernel_rfl) rfl)
          exact step_run (wanted_some (d := 54) rfl g54 rfl) (op_load g8 (ld_int _ _ 0 _ _ (hXq.below hb).c0 (hXq.below hb).c1) (hK _ _ (Below.refl _ _) ((J33.out.fr FJ33).i2.keep hb)))
        · intro a wk hx hb hg K hK
          have g4 : a.tmps.getD 4 undef = .pointer (some ⟨w.heap.size + 1, 0, none⟩) := hx 4 (by kernel_rfl)
          have g54 : a.tmps.getD 54 undef = .bool false := fk_v (hg 2 54 (by kernel_rfl) rfl)
          exact step_run (wanted_some (d := 54) rfl g54 rfl) (op_load g4 (ld_int _ _ 0 _ _ (hXb.below hb).c0 (hXb.below hb).c1) (hK _ _ (Below.refl _ _) ((IB.out.keep hB).keep hb)))
        · intro a wk hx hb hg K hK
          have g55 := fk_i (z := fq) (hg 3 55 (by kernel_rfl) rfl)
          have g56 := fk_z (z := z) (k := 1000) (hg 4 56 (by kernel_rfl) rfl)
          have g54 : a.tmps.getD 54 undef = .bool false := fk_v (hg 2 54 (by kernel_rfl) rfl)
          obtain ⟨x, w2, hr, hb2, hl⟩ := lz2 (I2.iz g55 (Bfq.out)) g56
          exact step_run (wanted_some (d := 54) rfl g54 rfl) (op_slice (by simp [Act.eval]) hr (hK _ _ hb2 hl))
        · intro a wk hx hb hg K hK
          have g57 := fk_l (ys := [fq, z]) (k := 2006) (hg 5 57 (by kernel_rfl) rfl)
          have g54 : a.tmps.getD 54 undef = .bool false := fk_v (hg 2 54 (by kernel_rfl) rfl)
          exact step_run (wanted_some (d := 54) rfl g54 rfl) (op_call1 (by kernel_rfl) (mul_law g57 (by decide) (Hz58.out.symm)) (TellsO.step hK))
        · intro a wk hx hb hg K hK
          have g9 : a.tmps.getD 9 undef = .pointer (some ⟨b9, 0, none⟩) := hx 9 (by kernel_rfl)
          have g54 : a.tmps.getD 54 undef = .bool false := fk_v (hg 2 54 (by kernel_rfl) rfl)
          exact step_run (wanted_some (d := 54) rfl g54 rfl) (op_load g9 (ld_int _ _ 0 _ _ (hXr.below hb).c0 (hXr.below hb).c1) (hK _ _ (Below.refl _ _) ((J34.out.fr FJ34).i2.keep hb)))
        · intro a wk hx hb hg K hK
          have g58 := fk_o (z := z58) (hg 6 58 (by kernel_rfl) rfl)
          have g59 := fk_i (z := fr) (hg 7 59 (by kernel_rfl) rfl)
          have g54 : a.tmps.getD 54 undef = .bool false := fk_v (hg 2 54 (by kernel_rfl) rfl)
          obtain ⟨x, w2, hr, hb2, hl⟩ := lz2 (I2.iz g58 (Bz58.out)) (I2.iz g59 (Bfr.out))
          exact step_run (wanted_some (d := 54) rfl g54 rfl) (op_slice (by simp [Act.eval]) hr (hK _ _ hb2 hl))
        · intro a wk hx hb hg K hK
          have g60 := fk_l (ys := [z58, fr]) (k := 3009) (hg 8 60 (by kernel_rfl) rfl)
          have g54 : a.tmps.getD 54 undef = .bool false := fk_v (hg 2 54 (by kernel_rfl) rfl)
          exact step_run (wanted_some (d := 54) rfl g54 rfl) (op_call1 (by kernel_rfl) (add_law g60 (by decide) (Hz61.out.symm)) (TellsO.step hK))
        · intro a wk hx hb hg K hK
          have g3 : a.tmps.getD 3 undef = .pointer (some ⟨w.heap.size, 0, none⟩) := hx 3 (by kernel_rfl)
          have g54 : a.tmps.getD 54 undef = .bool false := fk_v (hg 2 54 (by kernel_rfl) rfl)
          exact step_run (wanted_some (d := 54) rfl g54 rfl) (op_load g3 (ld_int _ _ 0 _ _ (hXa.below hb).c0 (hXa.below hb).c1) (hK _ _ (Below.refl _ _) ((IA.out.keep hB).keep hb)))
        · intro a wk hx hb hg K hK
          have g61 := fk_o (z := z61) (hg 9 61 (by kernel_rfl) rfl)
          have g62 := fk_z (z := y) (k := 1000) (hg 10 62 (by kernel_rfl) rfl)
          have g54 : a.tmps.getD 54 undef = .bool false := fk_v (hg 2 54 (by kernel_rfl) rfl)
          exact step_run (wanted_some (d := 54) rfl g54 rfl) (op_call2 (by kernel_rfl) (cmp_law (I2.iz g61 (Bz61.out)) g62 (by decide) (by rw [Hz61.out, Hz58.out, Hfq.out, Hfr.out, Int.one_mul, Int.zero_add]; exact cmpI_eq (fdm_eq y z))) (TellsV.step hK))
        · intro a wk hx hb hg K hK
          have g63 : a.tmps.getD 63 undef = .int .i64 0 := fk_v (hg 11 63 (by kernel_rfl) rfl)
          have g54 : a.tmps.getD 54 undef = .bool false := fk_v (hg 2 54 (by kernel_rfl) rfl)
          exact step_run (wanted_some (d := 54) rfl g54 rfl) (op_bin g63 rfl (bin_neI.trans (congrArg (fun x => Result.ok (Value.bool x) wk) (by decide))) (hK _ _ (Below.refl _ _) rfl))
        · intro a wk hx hb hg K hK
          have g54 : a.tmps.getD 54 undef = .bool false := fk_v (hg 2 54 (by kernel_rfl) rfl)
          have g64 : a.tmps.getD 64 undef = .bool false := fk_v (hg 12 64 (by kernel_rfl) rfl)
          exact step_run rfl (op_pickF g54 g64 (hK _ _ (Below.refl _ _) rfl))
      intro t901 lo901 hi901 V901 hb2 hF hD
      have gb : t901 65 = .bool false := (hF 13 65 rfl).2.2.2
      clear hF hD
      refine wpList_nil ?_
      simp only [gb]
      clear gb
      have hB' := bw_below hB (hb2)
      have hXa' := hXa.below (hb2)
      have hXb' := hXb.below (hb2)
      have hXc' := hXc.below (hb2)
      have hXo' := hXo.below (hb2)
      have hXq' := hXq.below (hb2)
      have hXr' := hXr.below (hb2)
      have FJ28' := FJ28.below (hb2)
      have FJ33' := FJ33.below (hb2)
      have FJ34' := FJ34.below (hb2)
      clear hb2
      clear FJ34 FJ33 FJ28 hXr hXq hXo hXc hXb hXa hB
      have hB := hB'; have hXa := hXa'; have hXb := hXb'; have hXc := hXc'; have hXo := hXo'; have hXq := hXq'; have hXr := hXr'; have FJ28 := FJ28'; have FJ33 := FJ33'; have FJ34 := FJ34'
      clear hB' hXa' hXb' hXc' hXo' hXq' hXr' FJ28' FJ33' FJ34'
      go_upto_region 11 with (fail)
      obtain ⟨sg, HSP, HSN⟩ : ∃ sg : Bool, (sg = true → 0 < z ∧ 0 ≤ fr ∧ fr < z) ∧ (sg = false → z < 0 ∧ z < fr ∧ fr ≤ 0) := by rw [Hfr.out]; rcases HRNG.out with h | h; exact ⟨true, fun _ => h, (fun h => by cases h)⟩; exact ⟨false, (fun h => by cases h), fun _ => h⟩
      replace HSP := Lib.hid HSP; replace HSN := Lib.hid HSN
      obtain ⟨c0, HC0⟩ : ∃ c, c = cmpI fr 0 := ⟨_, rfl⟩
      replace HC0 := Lib.hid HC0
      refine wp_region_facts7 (by kernel_rfl) (fun i => (Fk.at (bif sg then [.nz z 1000, .ni (0), .nv (.int .i64 1), .nv (.bool true), .nv (.bool true), .ni fr, .ni (0), .nv (.int .i64 c0), .nv (.bool false), .nv (.bool false), .ni fr, .nz z 1000, .nv (.int .i64 (-1)), .nv (.bool false), .nv (.bool false), .nv (.bool false), .nv (.bool false), .nz z 1000, .ni (0), .nv (.int .i64 1), .nv (.bool false), .nv (.bool false), .nv (undef), .nv (undef), .nv (undef), .nv (undef), .nv (undef), .nv (undef), .nv (undef), .nv (undef), .nv (undef), .nv (undef), .nv (.bool false), .nv (.bool false)] else [.nz z 1000, .ni (0), .nv (.int .i64 (-1)), .nv (.bool false), .nv (.bool false), .nv (undef), .nv (undef), .nv (undef), .nv (undef), .nv (undef), .nv (undef), .nv (undef), .nv (undef), .nv (undef), .nv (undef), .nv (.bool false), .nv (.bool false), .nz z 1000, .ni (0), .nv (.int .i64 (-1)), .nv (.bool true), .nv (.bool true), .ni fr, .ni (0), .nv (.int .i64 c0), .nv (.bool false), .nv (.bool false), .ni fr, .nz z 1000, .nv (.int .i64 1), .nv (.bool false), .nv (.bool false), .nv (.bool false), .nv (.bool false)]) i).says) (fun i => List.getD [] i []) [66, 67, 68, 69, 70, 71, 72, 73, 74, 75, 76, 77, 78, 79, 80, 81, 82, 83, 84, 85, 86, 87, 88, 89, 90, 91, 92, 93, 94, 95, 96, 97, 98, 99] ?A11 34 [] [] (fun _ => rfl) (fun h => absurd rfl h) ?hA11 _ rfl (by kernel_rfl) (by kernel_rfl) (fun _ _ _ _ _ _ _ => Fk.keep _) ?steps11 ?fin11
      case hA11 => intro t; (try simp only [putAll, Act.put, List.setIfInBounds_toArray, List.set_cons_zero, List.set_cons_succ]); (try exact rfl)
      case steps11 =>
        cases sg
        · have H := Lib.hid (HSN.out rfl)
          refine ⟨?_, ?_, ?_, ?_, ?_, ?_, ?_, ?_, ?_, ?_, ?_, ?_, ?_, ?_, ?_, ?_, ?_, ?_, ?_, ?_, ?_, ?_, ?_, ?_, ?_, ?_, ?_, ?_, ?_, ?_, ?_, ?_, ?_, ?_, trivial⟩
          · intro a wk hx hb hg K hK
            have g4 : a.tmps.getD 4 undef = .pointer (some ⟨w.heap.size + 1, 0, none⟩) := hx 4 (by kernel_rfl)
            exact step_run rfl (op_load g4 (ld_int _ _ 0 _ _ (hXb.below hb).c0 (hXb.below hb).c1) (hK _ _ (Below.refl _ _) ((IB.out.keep hB).keep hb)))
          · intro a wk hx hb hg K hK
            have g7 : a.tmps.getD 7 undef = .pointer (some ⟨b7, 0, none⟩) := hx 7 (by kernel_rfl)
            exact step_run rfl (op_load g7 (ld_int _ _ 0 _ _ (hXo.below hb).c0 (hXo.below hb).c1) (hK _ _ (Below.refl _ _) ((J28.out.fr FJ28).i2.keep hb)))
          · intro a wk hx hb hg K hK
            have g66 := fk_z (z := z) (k := 1000) (hg 0 66 (by kernel_rfl) rfl)
            have g67 := fk_i (z := (0)) (hg 1 67 (by kernel_rfl) rfl)
            exact step_run rfl (op_call2 (by kernel_rfl) (cmp_law g66 (I2.iz g67 ((zb1 (by decide) : ZB (0) 1))) (by decide) (cmpI_lt H.out.1)) (TellsV.step hK))
          · intro a wk hx hb hg K hK
            have g68 : a.tmps.getD 68 undef = .int .i64 (-1) := fk_v (hg 2 68 (by kernel_rfl) rfl)
            exact step_run rfl (op_bin g68 rfl (bin_gtI.trans (congrArg (fun x => Result.ok (Value.bool x) wk) (by decide))) (hK _ _ (Below.refl _ _) rfl))
          · intro a wk hx hb hg K hK
            have g69 : a.tmps.getD 69 undef = .bool false := fk_v (hg 3 69 (by kernel_rfl) rfl)
            exact step_run rfl (op_move g69 (hK _ _ (Below.refl _ _) rfl))
          · intro a wk hx hb hg K hK
            have g70 : a.tmps.getD 70 undef = .bool false := fk_v (hg 4 70 (by kernel_rfl) rfl)
            exact step_skip (wanted_some (d := 70) rfl g70 rfl) (hK _ _ (Below.refl _ _) rfl)
          · intro a wk hx hb hg K hK
            have g70 : a.tmps.getD 70 undef = .bool false := fk_v (hg 4 70 (by kernel_rfl) rfl)
            exact step_skip (wanted_some (d := 70) rfl g70 rfl) (hK _ _ (Below.refl _ _) rfl)
          · intro a wk hx hb hg K hK
            have g70 : a.tmps.getD 70 undef = .bool false := fk_v (hg 4 70 (by kernel_rfl) rfl)
            exact step_skip (wanted_some (d := 70) rfl g70 rfl) (hK _ _ (Below.refl _ _) rfl)
          · intro a wk hx hb hg K hK
            have g70 : a.tmps.getD 70 undef = .bool false := fk_v (hg 4 70 (by kernel_rfl) rfl)
            exact step_skip (wanted_some (d := 70) rfl g70 rfl) (hK _ _ (Below.refl _ _) rfl)
          · intro a wk hx hb hg K hK
            have g70 : a.tmps.getD 70 undef = .bool false := fk_v (hg 4 70 (by kernel_rfl) rfl)
            exact step_skip (wanted_some (d := 70) rfl g70 rfl) (hK _ _ (Below.refl _ _) rfl)
          · intro a wk hx hb hg K hK
            have g75 : a.tmps.getD 75 undef = undef := fk_v (hg 9 75 (by kernel_rfl) rfl)
            exact step_skip (wanted_undef (d := 75) rfl g75) (hK _ _ (Below.refl _ _) rfl)
          · intro a wk hx hb hg K hK
            have g75 : a.tmps.getD 75 undef = undef := fk_v (hg 9 75 (by kernel_rfl) rfl)
            exact step_skip (wanted_undef (d := 75) rfl g75) (hK _ _ (Below.refl _ _) rfl)
          · intro a wk hx hb hg K hK
            have g75 : a.tmps.getD 75 undef = undef := fk_v (hg 9 75 (by kernel_rfl) rfl)
            exact step_skip (wanted_undef (d := 75) rfl g75) (hK _ _ (Below.refl _ _) rfl)
          · intro a wk hx hb hg K hK
            have g75 : a.tmps.getD 75 undef = undef := fk_v (hg 9 75 (by kernel_rfl) rfl)
            exact step_skip (wanted_undef (d := 75) rfl g75) (hK _ _ (Below.refl _ _) rfl)
          · intro a wk hx hb hg K hK
            have g70 : a.tmps.getD 70 undef = .bool false := fk_v (hg 4 70 (by kernel_rfl) rfl)
            exact step_skip (wanted_some (d := 70) rfl g70 rfl) (hK _ _ (Below.refl _ _) rfl)
          · intro a wk hx hb hg K hK
            have g70 : a.tmps.getD 70 undef = .bool false := fk_v (hg 4 70 (by kernel_rfl) rfl)
            have g80 : a.tmps.getD 80 undef = undef := fk_v (hg 14 80 (by kernel_rfl) rfl)
            exact step_run rfl (op_pickF g70 rfl (hK _ _ (Below.refl _ _) rfl))
          · intro a wk hx hb hg K hK
            have g81 : a.tmps.getD 81 undef = .bool false := fk_v (hg 15 81 (by kernel_rfl) rfl)
            exact step_run rfl (op_move g81 (hK _ _ (Below.refl _ _) rfl))
          · intro a wk hx hb hg K hK
            have g4 : a.tmps.getD 4 undef = .pointer (some ⟨w.heap.size + 1, 0, none⟩) := hx 4 (by kernel_rfl)
            have g82 : a.tmps.getD 82 undef = .bool false := fk_v (hg 16 82 (by kernel_rfl) rfl)
            exact step_run (wanted_some (d := 82) rfl g82 rfl) (op_load g4 (ld_int _ _ 0 _ _ (hXb.below hb).c0 (hXb.below hb).c1) (hK _ _ (Below.refl _ _) ((IB.out.keep hB).keep hb)))
          · intro a wk hx hb hg K hK
            have g7 : a.tmps.getD 7 undef = .pointer (some ⟨b7, 0, none⟩) := hx 7 (by kernel_rfl)
            have g82 : a.tmps.getD 82 undef = .bool false := fk_v (hg 16 82 (by kernel_rfl) rfl)
            exact step_run (wanted_some (d := 82) rfl g82 rfl) (op_load g7 (ld_int _ _ 0 _ _ (hXo.below hb).c0 (hXo.below hb).c1) (hK _ _ (Below.refl _ _) ((J28.out.fr FJ28).i2.keep hb)))
          · intro a wk hx hb hg K hK
            have g83 := fk_z (z := z) (k := 1000) (hg 17 83 (by kernel_rfl) rfl)
            have g84 := fk_i (z := (0)) (hg 18 84 (by kernel_rfl) rfl)
            have g82 : a.tmps.getD 82 undef = .bool false := fk_v (hg 16 82 (by kernel_rfl) rfl)
            exact step_run (wanted_some (d := 82) rfl g82 rfl) (op_call2 (by kernel_rfl) (cmp_law g83 (I2.iz g84 ((zb1 (by decide) : ZB (0) 1))) (by decide) (cmpI_lt H.out.1)) (TellsV.step hK))
          · intro a wk hx hb hg K hK
            have g85 : a.tmps.getD 85 undef = .int .i64 (-1) := fk_v (hg 19 85 (by kernel_rfl) rfl)
            have g82 : a.tmps.getD 82 undef = .bool false := fk_v (hg 16 82 (by kernel_rfl) rfl)
            exact step_run (wanted_some (d := 82) rfl g82 rfl) (op_bin g85 rfl (bin_lsI.trans (congrArg (fun x => Result.ok (Value.bool x) wk) (by decide))) (hK _ _ (Below.refl _ _) rfl))
          · intro a wk hx hb hg K hK
            have g86 : a.tmps.getD 86 undef = .bool true := fk_v (hg 20 86 (by kernel_rfl) rfl)
            have g82 : a.tmps.getD 82 undef = .bool false := fk_v (hg 16 82 (by kernel_rfl) rfl)
            exact step_run (wanted_some (d := 82) rfl g82 rfl) (op_move g86 (hK _ _ (Below.refl _ _) rfl))
          · intro a wk hx hb hg K hK
            have g9 : a.tmps.getD 9 undef = .pointer (some ⟨b9, 0, none⟩) := hx 9 (by kernel_rfl)
            have g87 : a.tmps.getD 87 undef = .bool true := fk_v (hg 21 87 (by kernel_rfl) rfl)
            exact step_run (wanted_some (d := 87) rfl g87 rfl) (op_load g9 (ld_int _ _ 0 _ _ (hXr.below hb).c0 (hXr.below hb).c1) (hK _ _ (Below.refl _ _) ((J34.out.fr FJ34).i2.keep hb)))
          · intro a wk hx hb hg K hK
            have g7 : a.tmps.getD 7 undef = .pointer (some ⟨b7, 0, none⟩) := hx 7 (by kernel_rfl)
            have g87 : a.tmps.getD 87 undef = .bool true := fk_v (hg 21 87 (by kernel_rfl) rfl)
            exact step_run (wanted_some (d := 87) rfl g87 rfl) (op_load g7 (ld_int _ _ 0 _ _ (hXo.below hb).c0 (hXo.below hb).c1) (hK _ _ (Below.refl _ _) ((J28.out.fr FJ28).i2.keep hb)))
          · intro a wk hx hb hg K hK
            have g88 := fk_i (z := fr) (hg 22 88 (by kernel_rfl) rfl)
            have g89 := fk_i (z := (0)) (hg 23 89 (by kernel_rfl) rfl)
            have g87 : a.tmps.getD 87 undef = .bool true := fk_v (hg 21 87 (by kernel_rfl) rfl)
            exact step_run (wanted_some (d := 87) rfl g87 rfl) (op_call2 (by kernel_rfl) (cmp_law (I2.iz g88 (Bfr.out)) (I2.iz g89 ((zb1 (by decide) : ZB (0) 1))) (by decide) (HC0.out.symm)) (TellsV.step hK))
          · intro a wk hx hb hg K hK
            have g90 : a.tmps.getD 90 undef = .int .i64 c0 := fk_v (hg 24 90 (by kernel_rfl) rfl)
            have g87 : a.tmps.getD 87 undef = .bool true := fk_v (hg 21 87 (by kernel_rfl) rfl)
            exact step_run (wanted_some (d := 87) rfl g87 rfl) (op_bin g90 rfl (bin_gtI.trans (congrArg (fun x => Result.ok (Value.bool x) wk) (by rw [HC0.out]; exact cmpI_le H.out.2.2))) (hK _ _ (Below.refl _ _) rfl))
          · intro a wk hx hb hg K hK
            have g91 : a.tmps.getD 91 undef = .bool false := fk_v (hg 25 91 (by kernel_rfl) rfl)
            have g87 : a.tmps.getD 87 undef = .bool true := fk_v (hg 21 87 (by kernel_rfl) rfl)
            exact step_run (wanted_some (d := 87) rfl g87 rfl) (op_move g91 (hK _ _ (Below.refl _ _) rfl))
          · intro a wk hx hb hg K hK
            have g9 : a.tmps.getD 9 undef = .pointer (some ⟨b9, 0, none⟩) := hx 9 (by kernel_rfl)
            have g92 : a.tmps.getD 92 undef = .bool false := fk_v (hg 26 92 (by kernel_rfl) rfl)
            exact step_run (wanted_some (d := 92) rfl g92 rfl) (op_load g9 (ld_int _ _ 0 _ _ (hXr.below hb).c0 (hXr.below hb).c1) (hK _ _ (Below.refl _ _) ((J34.out.fr FJ34).i2.keep hb)))
          · intro a wk hx hb hg K hK
            have g4 : a.tmps.getD 4 undef = .pointer (some ⟨w.heap.size + 1, 0, none⟩) := hx 4 (by kernel_rfl)
            have g92 : a.tmps.getD 92 undef = .bool false := fk_v (hg 26 92 (by kernel_rfl) rfl)
            exact step_run (wanted_some (d := 92) rfl g92 rfl) (op_load g4 (ld_int _ _ 0 _ _ (hXb.below hb).c0 (hXb.below hb).c1) (hK _ _ (Below.refl _ _) ((IB.out.keep hB).keep hb)))
          · intro a wk hx hb hg K hK
            have g93 := fk_i (z := fr) (hg 27 93 (by kernel_rfl) rfl)
            have g94 := fk_z (z := z) (k := 1000) (hg 28 94 (by kernel_rfl) rfl)
            have g92 : a.tmps.getD 92 undef = .bool false := fk_v (hg 26 92 (by kernel_rfl) rfl)
            exact step_run (wanted_some (d := 92) rfl g92 rfl) (op_call2 (by kernel_rfl) (cmp_law (I2.iz g93 (Bfr.out)) g94 (by decide) (cmpI_gt H.out.2.1)) (TellsV.step hK))
          · intro a wk hx hb hg K hK
            have g95 : a.tmps.getD 95 undef = .int .i64 1 := fk_v (hg 29 95 (by kernel_rfl) rfl)
            have g92 : a.tmps.getD 92 undef = .bool false := fk_v (hg 26 92 (by kernel_rfl) rfl)
            exact step_run (wanted_some (d := 92) rfl g92 rfl) (op_bin g95 rfl (bin_leI.trans (congrArg (fun x => Result.ok (Value.bool x) wk) (by decide))) (hK _ _ (Below.refl _ _) rfl))
          · intro a wk hx hb hg K hK
            have g92 : a.tmps.getD 92 undef = .bool false := fk_v (hg 26 92 (by kernel_rfl) rfl)
            have g96 : a.tmps.getD 96 undef = .bool false := fk_v (hg 30 96 (by kernel_rfl) rfl)
            have g87 : a.tmps.getD 87 undef = .bool true := fk_v (hg 21 87 (by kernel_rfl) rfl)
            exact step_run (wanted_some (d := 87) rfl g87 rfl) (op_pickF g92 g96 (hK _ _ (Below.refl _ _) rfl))
          · intro a wk hx hb hg K hK
            have g87 : a.tmps.getD 87 undef = .bool true := fk_v (hg 21 87 (by kernel_rfl) rfl)
            have g97 : a.tmps.getD 97 undef = .bool false := fk_v (hg 31 97 (by kernel_rfl) rfl)
            have g82 : a.tmps.getD 82 undef = .bool false := fk_v (hg 16 82 (by kernel_rfl) rfl)
            exact step_run (wanted_some (d := 82) rfl g82 rfl) (op_pickT g87 g97 (hK _ _ (Below.refl _ _) rfl))
          · intro a wk hx hb hg K hK
            have g82 : a.tmps.getD 82 undef = .bool false := fk_v (hg 16 82 (by kernel_rfl) rfl)
            have g98 : a.tmps.getD 98 undef = .bool false := fk_v (hg 32 98 (by kernel_rfl) rfl)
            exact step_run rfl (op_pickF g82 g98 (hK _ _ (Below.refl _ _) rfl))
        · have H := Lib.hid (HSP.out rfl)
          refine ⟨?_, ?_, ?_, ?_, ?_, ?_, ?_, ?_, ?_, ?_, ?_, ?_, ?_, ?_, ?_, ?_, ?_, ?_, ?_, ?_, ?_, ?_, ?_, ?_, ?_, ?_, ?_, ?_, ?_, ?_, ?_, ?_, ?_, ?_, trivial⟩
          · intro a wk hx hb hg K hK
            have g4 : a.tmps.getD 4 undef = .pointer (some ⟨w.heap.size + 1, 0, none⟩) := hx 4 (by kernel_rfl)
            exact step_run rfl (op_load g4 (ld_int _ _ 0 _ _ (hXb.below hb).c0 (hXb.below hb).c1) (hK _ _ (Below.refl _ _) ((IB.out.keep hB).keep hb)))
          · intro a wk hx hb hg K hK
            have g7 : a.tmps.getD 7 undef = .pointer (some ⟨b7, 0, none⟩) := hx 7 (by kernel_rfl)
            exact step_run rfl (op_load g7 (ld_int _ _ 0 _ _ (hXo.below hb).c0 (hXo.below hb).c1) (hK _ _ (Below.refl _ _) ((J28.out.fr FJ28).i2.keep hb)))
          · intro a wk hx hb hg K hK
            have g66 := fk_z (z := z) (k := 1000) (hg 0 66 (by kernel_rfl) rfl)
            have g67 := fk_i (z := (0)) (hg 1 67 (by kernel_rfl) rfl)
            exact step_run rfl (op_call2 (by kernel_rfl) (cmp_law g66 (I2.iz g67 ((zb1 (by decide) : ZB (0) 1))) (by decide) (cmpI_gt H.out.1)) (TellsV.step hK))
          · intro a wk hx hb hg K hK
            have g68 : a.tmps.getD 68 undef = .int .i64 1 := fk_v (hg 2 68 (by kernel_rfl) rfl)
            exact step_run rfl (op_bin g68 rfl (bin_gtI.trans (congrArg (fun x => Result.ok (Value.bool x) wk) (by decide))) (hK _ _ (Below.refl _ _) rfl))
          · intro a wk hx hb hg K hK
            have g69 : a.tmps.getD 69 undef = .bool true := fk_v (hg 3 69 (by kernel_rfl) rfl)
            exact step_run rfl (op_move g69 (hK _ _ (Below.refl _ _) rfl))
          · intro a wk hx hb hg K hK
            have g9 : a.tmps.getD 9 undef = .pointer (some ⟨b9, 0, none⟩) := hx 9 (by kernel_rfl)
            have g70 : a.tmps.getD 70 undef = .bool true := fk_v (hg 4 70 (by kernel_rfl) rfl)
            exact step_run (wanted_some (d := 70) rfl g70 rfl) (op_load g9 (ld_int _ _ 0 _ _ (hXr.below hb).c0 (hXr.below hb).c1) (hK _ _ (Below.refl _ _) ((J34.out.fr FJ34).i2.keep hb)))
          · intro a wk hx hb hg K hK
            have g7 : a.tmps.getD 7 undef = .pointer (some ⟨b7, 0, none⟩) := hx 7 (by kernel_rfl)
            have g70 : a.tmps.getD 70 undef = .bool true := fk_v (hg 4 70 (by kernel_rfl) rfl)
            exact step_run (wanted_some (d := 70) rfl g70 rfl) (op_load g7 (ld_int _ _ 0 _ _ (hXo.below hb).c0 (hXo.below hb).c1) (hK _ _ (Below.refl _ _) ((J28.out.fr FJ28).i2.keep hb)))
          · intro a wk hx hb hg K hK
            have g71 := fk_i (z := fr) (hg 5 71 (by kernel_rfl) rfl)
            have g72 := fk_i (z := (0)) (hg 6 72 (by kernel_rfl) rfl)
            have g70 : a.tmps.getD 70 undef = .bool true := fk_v (hg 4 70 (by kernel_rfl) rfl)
            exact step_run (wanted_some (d := 70) rfl g70 rfl) (op_call2 (by kernel_rfl) (cmp_law (I2.iz g71 (Bfr.out)) (I2.iz g72 ((zb1 (by decide) : ZB (0) 1))) (by decide) (HC0.out.symm)) (TellsV.step hK))
          · intro a wk hx hb hg K hK
            have g73 : a.tmps.getD 73 undef = .int .i64 c0 := fk_v (hg 7 73 (by kernel_rfl) rfl)
            have g70 : a.tmps.getD 70 undef = .bool true := fk_v (hg 4 70 (by kernel_rfl) rfl)
            exact step_run (wanted_some (d := 70) rfl g70 rfl) (op_bin g73 rfl (bin_lsI.trans (congrArg (fun x => Result.ok (Value.bool x) wk) (by rw [HC0.out]; exact cmpI_ge H.out.2.1))) (hK _ _ (Below.refl _ _) rfl))
          · intro a wk hx hb hg K hK
            have g74 : a.tmps.getD 74 undef = .bool false := fk_v (hg 8 74 (by kernel_rfl) rfl)
            have g70 : a.tmps.getD 70 undef = .bool true := fk_v (hg 4 70 (by kernel_rfl) rfl)
            exact step_run (wanted_some (d := 70) rfl g70 rfl) (op_move g74 (hK _ _ (Below.refl _ _) rfl))
          · intro a wk hx hb hg K hK
            have g9 : a.tmps.getD 9 undef = .pointer (some ⟨b9, 0, none⟩) := hx 9 (by kernel_rfl)
            have g75 : a.tmps.getD 75 undef = .bool false := fk_v (hg 9 75 (by kernel_rfl) rfl)
            exact step_run (wanted_some (d := 75) rfl g75 rfl) (op_load g9 (ld_int _ _ 0 _ _ (hXr.below hb).c0 (hXr.below hb).c1) (hK _ _ (Below.refl _ _) ((J34.out.fr FJ34).i2.keep hb)))
          · intro a wk hx hb hg K hK
            have g4 : a.tmps.getD 4 undef = .pointer (some ⟨w.heap.size + 1, 0, none⟩) := hx 4 (by kernel_rfl)
            have g75 : a.tmps.getD 75 undef = .bool false := fk_v (hg 9 75 (by kernel_rfl) rfl)
            exact step_run (wanted_some (d := 75) rfl g75 rfl) (op_load g4 (ld_int _ _ 0 _ _ (hXb.below hb).c0 (hXb.below hb).c1) (hK _ _ (Below.refl _ _) ((IB.out.keep hB).keep hb)))
          · intro a wk hx hb hg K hK
            have g76 := fk_i (z := fr) (hg 10 76 (by kernel_rfl) rfl)
            have g77 := fk_z (z := z) (k := 1000) (hg 11 77 (by kernel_rfl) rfl)
            have g75 : a.tmps.getD 75 undef = .bool false := fk_v (hg 9 75 (by kernel_rfl) rfl)
            exact step_run (wanted_some (d := 75) rfl g75 rfl) (op_call2 (by kernel_rfl) (cmp_law (I2.iz g76 (Bfr.out)) g77 (by decide) (cmpI_lt H.out.2.2)) (TellsV.step hK))
          · intro a wk hx hb hg K hK
            have g78 : a.tmps.getD 78 undef = .int .i64 (-1) := fk_v (hg 12 78 (by kernel_rfl) rfl)
            have g75 : a.tmps.getD 75 undef = .bool false := fk_v (hg 9 75 (by kernel_rfl) rfl)
            exact step_run (wanted_some (d := 75) rfl g75 rfl) (op_bin g78 rfl (bin_geI.trans (congrArg (fun x => Result.ok (Value.bool x) wk) (by decide))) (hK _ _ (Below.refl _ _) rfl))
          · intro a wk hx hb hg K hK
            have g75 : a.tmps.getD 75 undef = .bool false := fk_v (hg 9 75 (by kernel_rfl) rfl)
            have g79 : a.tmps.getD 79 undef = .bool false := fk_v (hg 13 79 (by kernel_rfl) rfl)
            have g70 : a.tmps.getD 70 undef = .bool true := fk_v (hg 4 70 (by kernel_rfl) rfl)
            exact step_run (wanted_some (d := 70) rfl g70 rfl) (op_pickF g75 g79 (hK _ _ (Below.refl _ _) rfl))
          · intro a wk hx hb hg K hK
            have g70 : a.tmps.getD 70 undef = .bool true := fk_v (hg 4 70 (by kernel_rfl) rfl)
            have g80 : a.tmps.getD 80 undef = .bool false := fk_v (hg 14 80 (by kernel_rfl) rfl)
            exact step_run rfl (op_pickT g70 g80 (hK _ _ (Below.refl _ _) rfl))
          · intro a wk hx hb hg K hK
            have g81 : a.tmps.getD 81 undef = .bool false := fk_v (hg 15 81 (by kernel_rfl) rfl)
            exact step_run rfl (op_move g81 (hK _ _ (Below.refl _ _) rfl))
          · intro a wk hx hb hg K hK
            have g4 : a.tmps.getD 4 undef = .pointer (some ⟨w.heap.size + 1, 0, none⟩) := hx 4 (by kernel_rfl)
            have g82 : a.tmps.getD 82 undef = .bool false := fk_v (hg 16 82 (by kernel_rfl) rfl)
            exact step_run (wanted_some (d := 82) rfl g82 rfl) (op_load g4 (ld_int _ _ 0 _ _ (hXb.below hb).c0 (hXb.below hb).c1) (hK _ _ (Below.refl _ _) ((IB.out.keep hB).keep hb)))
          · intro a wk hx hb hg K hK
            have g7 : a.tmps.getD 7 undef = .pointer (some ⟨b7, 0, none⟩) := hx 7 (by kernel_rfl)
            have g82 : a.tmps.getD 82 undef = .bool false := fk_v (hg 16 82 (by kernel_rfl) rfl)
            exact step_run (wanted_some (d := 82) rfl g82 rfl) (op_load g7 (ld_int _ _ 0 _ _ (hXo.below hb).c0 (hXo.below hb).c1) (hK _ _ (Below.refl _ _) ((J28.out.fr FJ28).i2.keep hb)))
          · intro a wk hx hb hg K hK
            have g83 := fk_z (z := z) (k := 1000) (hg 17 83 (by kernel_rfl) rfl)
            have g84 := fk_i (z := (0)) (hg 18 84 (by kernel_rfl) rfl)
            have g82 : a.tmps.getD 82 undef = .bool false := fk_v (hg 16 82 (by kernel_rfl) rfl)
            exact step_run (wanted_some (d := 82) rfl g82 rfl) (op_call2 (by kernel_rfl) (cmp_law g83 (I2.iz g84 ((zb1 (by decide) : ZB (0) 1))) (by decide) (cmpI_gt H.out.1)) (TellsV.step hK))
          · intro a wk hx hb hg K hK
            have g85 : a.tmps.getD 85 undef = .int .i64 1 := fk_v (hg 19 85 (by kernel_rfl) rfl)
            have g82 : a.tmps.getD 82 undef = .bool false := fk_v (hg 16 82 (by kernel_rfl) rfl)
            exact step_run (wanted_some (d := 82) rfl g82 rfl) (op_bin g85 rfl (bin_lsI.trans (congrArg (fun x => Result.ok (Value.bool x) wk) (by decide))) (hK _ _ (Below.refl _ _) rfl))
          · intro a wk hx hb hg K hK
            have g86 : a.tmps.getD 86 undef = .bool false := fk_v (hg 20 86 (by kernel_rfl) rfl)
            have g82 : a.tmps.getD 82 undef = .bool false := fk_v (hg 16 82 (by kernel_rfl) rfl)
            exact step_run (wanted_some (d := 82) rfl g82 rfl) (op_move g86 (hK _ _ (Below.refl _ _) rfl))
          · intro a wk hx hb hg K hK
            have g87 : a.tmps.getD 87 undef = .bool false := fk_v (hg 21 87 (by kernel_rfl) rfl)
            exact step_skip (wanted_some (d := 87) rfl g87 rfl) (hK _ _ (Below.refl _ _) rfl)
          · intro a wk hx hb hg K hK
            have g87 : a.tmps.getD 87 undef = .bool false := fk_v (hg 21 87 (by kernel_rfl) rfl)
            exact step_skip (wanted_some (d := 87) rfl g87 rfl) (hK _ _ (Below.refl _ _) rfl)
          · intro a wk hx hb hg K hK
            have g87 : a.tmps.getD 87 undef = .bool false := fk_v (hg 21 87 (by kernel_rfl) rfl)
            exact step_skip (wanted_some (d := 87) rfl g87 rfl) (hK _ _ (Below.refl _ _) rfl)
          · intro a wk hx hb hg K hK
            have g87 : a.tmps.getD 87 undef = .bool false := fk_v (hg 21 87 (by kernel_rfl) rfl)
            exact step_skip (wanted_some (d := 87) rfl g87 rfl) (hK _ _ (Below.refl _ _) rfl)
          · intro a wk hx hb hg K hK
            have g87 : a.tmps.getD 87 undef = .bool false := fk_v (hg 21 87 (by kernel_rfl) rfl)
            exact step_skip (wanted_some (d := 87) rfl g87 rfl) (hK _ _ (Below.refl _ _) rfl)
          · intro a wk hx hb hg K hK
            have g92 : a.tmps.getD 92 undef = undef := fk_v (hg 26 92 (by kernel_rfl) rfl)
            exact step_skip (wanted_undef (d := 92) rfl g92) (hK _ _ (Below.refl _ _) rfl)
          · intro a wk hx hb hg K hK
            have g92 : a.tmps.getD 92 undef = undef := fk_v (hg 26 92 (by kernel_rfl) rfl)
            exact step_skip (wanted_undef (d := 92) rfl g92) (hK _ _ (Below.refl _ _) rfl)
          · intro a wk hx hb hg K hK
            have g92 : a.tmps.getD 92 undef = undef := fk_v (hg 26 92 (by kernel_rfl) rfl)
            exact step_skip (wanted_undef (d := 92) rfl g92) (hK _ _ (Below.refl _ _) rfl)
          · intro a wk hx hb hg K hK
            have g92 : a.tmps.getD 92 undef = undef := fk_v (hg 26 92 (by kernel_rfl) rfl)
            exact step_skip (wanted_undef (d := 92) rfl g92) (hK _ _ (Below.refl _ _) rfl)
          · intro a wk hx hb hg K hK
            have g87 : a.tmps.getD 87 undef = .bool false := fk_v (hg 21 87 (by kernel_rfl) rfl)
            exact step_skip (wanted_some (d := 87) rfl g87 rfl) (hK _ _ (Below.refl _ _) rfl)
          · intro a wk hx hb hg K hK
            have g87 : a.tmps.getD 87 undef = .bool false := fk_v (hg 21 87 (by kernel_rfl) rfl)
            have g97 : a.tmps.getD 97 undef = undef := fk_v (hg 31 97 (by kernel_rfl) rfl)
            have g82 : a.tmps.getD 82 undef = .bool false := fk_v (hg 16 82 (by kernel_rfl) rfl)
            exact step_run (wanted_some (d := 82) rfl g82 rfl) (op_pickF g87 rfl (hK _ _ (Below.refl _ _) rfl))
          · intro a wk hx hb hg K hK
            have g82 : a.tmps.getD 82 undef = .bool false := fk_v (hg 16 82 (by kernel_rfl) rfl)
            have g98 : a.tmps.getD 98 undef = .bool false := fk_v (hg 32 98 (by kernel_rfl) rfl)
            exact step_run rfl (op_pickF g82 g98 (hK _ _ (Below.refl _ _) rfl))
      intro t11 lo11 hi11 V11 hb2 hF hD
      have gb : t11 99 = .bool false := by have h := (hF 33 99 rfl).2.2.2; cases sg <;> exact h
      clear hF hD
      refine wpList_nil ?_
      simp only [gb]
      clear gb
      have hB' := bw_below hB (hb2)
      have hXa' := hXa.below (hb2)
      have hXb' := hXb.below (hb2)
      have hXc' := hXc.below (hb2)
      have hXo' := hXo.below (hb2)
      have hXq' := hXq.below (hb2)
      have hXr' := hXr.below (hb2)
      have FJ28' := FJ28.below (hb2)
      have FJ33' := FJ33.below (hb2)
      have FJ34' := FJ34.below (hb2)
      clear hb2
      clear FJ34 FJ33 FJ28 hXr hXq hXo hXc hXb hXa hB
      have hB := hB'; have hXa := hXa'; have hXb := hXb'; have hXc := hXc'; have hXo := hXo'; have hXq := hXq'; have hXr := hXr'; have FJ28 := FJ28'; have FJ33 := FJ33'; have FJ34 := FJ34'
      clear hB' hXa' hXb' hXc' hXo' hXq' hXr' FJ28' FJ33' FJ34'
      go_upto_region 13 with (fail)
      refine wp_region_facts7 (by kernel_rfl) (fun i => (Fk.at [.nz y 1000, .nz x 1000, .nl [y, x] 2004, .no z103, .nz z 1000, .nz x 1000, .nl [z, x] 2004, .no z107, .nl [z103, z107] 4010, .no z109, .np [Value.bool false, Value.slice none 0 0]] i).says) (fun i => List.getD [] i []) [100, 101, 102, 103, 104, 105, 106, 107, 108, 109, 11] ?A1301 11 [0, 0, 3, 7, 0, 0, 48, 127, 255, 511, 0, 2047] [] (fun h => by cases h) (fun h => absurd rfl h) ?hA1301 _ rfl (by kernel_rfl) (by kernel_rfl) (fun _ _ _ _ _ _ _ => Fk.keep _) ?steps1301 ?fin1301
      case hA1301 => intro t; (try simp only [putAll, Act.put, List.setIfInBounds_toArray, List.set_cons_zero, List.set_cons_succ]); (try exact rfl)
      case steps1301 =>
        refine ⟨?_, ?_, ?_, ?_, ?_, ?_, ?_, ?_, ?_, ?_, ?_, trivial⟩
        · intro a wk hx hb hg K hK
          have g3 : a.tmps.getD 3 undef = .pointer (some ⟨w.heap.size, 0, none⟩) := hx 3 (by kernel_rfl)
          exact step_run rfl (op_load g3 (ld_int _ _ 0 _ _ (hXa.below hb).c0 (hXa.below hb).c1) (hK _ _ (Below.refl _ _) ((IA.out.keep hB).keep hb)))
        · intro a wk hx hb hg K hK
          have g5 : a.tmps.getD 5 undef = .pointer (some ⟨w.heap.size + 2, 0, none⟩) := hx 5 (by kernel_rfl)
          exact step_run rfl (op_load g5 (ld_int _ _ 0 _ _ (hXc.below hb).c0 (hXc.below hb).c1) (hK _ _ (Below.refl _ _) ((IC.out.keep hB).keep hb)))
        · intro a wk hx hb hg K hK
          have g100 := fk_z (z := y) (k := 1000) (hg 0 100 (by kernel_rfl) rfl)
          have g101 := fk_z (z := x) (k := 1000) (hg 1 101 (by kernel_rfl) rfl)
          obtain ⟨x, w2, hr, hb2, hl⟩ := lz2 g100 g101
          exact step_run rfl (op_slice (by simp [Act.eval]) hr (hK _ _ hb2 hl))
        · intro a wk hx hb hg K hK
          have g102 := fk_l (ys := [y, x]) (k := 2004) (hg 2 102 (by kernel_rfl) rfl)
          exact step_run rfl (op_call1 (by kernel_rfl) (mul_law g102 (by decide) (Hz103.out.symm)) (TellsO.step hK))
        · intro a wk hx hb hg K hK
          have g4 : a.tmps.getD 4 undef = .pointer (some ⟨w.heap.size + 1, 0, none⟩) := hx 4 (by kernel_rfl)
          exact step_run rfl (op_load g4 (ld_int _ _ 0 _ _ (hXb.below hb).c0 (hXb.below hb).c1) (hK _ _ (Below.refl _ _) ((IB.out.keep hB).keep hb)))
        · intro a wk hx hb hg K hK
          have g5 : a.tmps.getD 5 undef = .pointer (some ⟨w.heap.size + 2, 0, none⟩) := hx 5 (by kernel_rfl)
          exact step_run rfl (op_load g5 (ld_int _ _ 0 _ _ (hXc.below hb).c0 (hXc.below hb).c1) (hK _ _ (Below.refl _ _) ((IC.out.keep hB).keep hb)))
        · intro a wk hx hb hg K hK
          have g104 := fk_z (z := z) (k := 1000) (hg 4 104 (by kernel_rfl) rfl)
          have g105 := fk_z (z := x) (k := 1000) (hg 5 105 (by kernel_rfl) rfl)
          obtain ⟨x, w2, hr, hb2, hl⟩ := lz2 g104 g105
          exact step_run rfl (op_slice (by simp [Act.eval]) hr (hK _ _ hb2 hl))
        · intro a wk hx hb hg K hK
          have g106 := fk_l (ys := [z, x]) (k := 2004) (hg 6 106 (by kernel_rfl) rfl)
          exact step_run rfl (op_call1 (by kernel_rfl) (mul_law g106 (by decide) (Hz107.out.symm)) (TellsO.step hK))
        · intro a wk hx hb hg K hK
          have g103 := fk_o (z := z103) (hg 3 103 (by kernel_rfl) rfl)
          have g107 := fk_o (z := z107) (hg 7 107 (by kernel_rfl) rfl)
          obtain ⟨x, w2, hr, hb2, hl⟩ := lz2 (I2.iz g103 (Bz103.out)) (I2.iz g107 (Bz107.out))
          exact step_run rfl (op_slice (by simp [Act.eval]) hr (hK _ _ hb2 hl))
        · intro a wk hx hb hg K hK
          have g108 := fk_l (ys := [z103, z107]) (k := 4010) (hg 8 108 (by kernel_rfl) rfl)
          exact step_run rfl (op_call1 (by kernel_rfl) (gcd_law g108 (by decide) (Hz109.out.symm)) (TellsO.step hK))
        · intro a wk hx hb hg K hK
          exact step_run rfl (op_alloc (al_int _) (hK _ _ ((Below.refl _ _).alloc (Nat.le_refl _) _) ⟨rfl, size_alloc _ _, Box.new _ _ rfl rfl⟩))
      intro t1301 lo1301 hi1301 V1301 hb2 hF hD
      obtain ⟨j109, k109, m109, a109, ha109, hio109, hfr109⟩ : _ ∧ _ ∧ _ ∧ (.no z109 : Fk).says _ (lo1301 9) (hi1301 9) V1301 (t1301 109) := hF 9 109 rfl
      obtain ⟨j11, k11, m11, e11, hh11, hX11⟩ : _ ∧ _ ∧ _ ∧ (.np [Value.bool false, Value.slice none 0 0] : Fk).says _ (lo1301 10) (hi1301 10) V1301 (t1301 11) := hF 10 11 rfl
      obtain ⟨na109, ao109, nn109, ac109, e109⟩ := hio109.opq
      rw [e109] at hio109
      have q1 := hD 9 10 (by decide) (by decide) (by decide)
      clear hF hD
      obtain ⟨b109, eb109⟩ : ∃ b, b = lo1301 9 := ⟨_, rfl⟩
      obtain ⟨b11, eb11⟩ : ∃ b, b = lo1301 10 := ⟨_, rfl⟩
      rw [← eb109] at hio109 hfr109 q1 j109 k109
      rw [← ha109] at q1 k109 m109
      rw [← eb11] at e11 hX11 q1 hh11 j11 k11
      rw [hh11] at q1 m11
      clear ha109 hh11 eb109 eb11 k109 k11
      have hbs := hB.size
      have hlta := hXa.lt
      have hltb := hXb.lt
      have hltc := hXc.lt
      have hlto := hXo.lt
      have hltq := hXq.lt
      have hltr := hXr.lt
      have hszJ28 := FJ28.size
      have hszJ33 := FJ33.size
      have hszJ34 := FJ34.size
      have hgg : w.heap.size ≤ b11 := Nat.le_trans hbs j11
      have hn_g_a : b11 ≠ w.heap.size := Nat.ne_of_gt (Nat.lt_of_lt_of_le hlta j11)
      have hn_g_b : b11 ≠ w.heap.size + 1 := Nat.ne_of_gt (Nat.lt_of_lt_of_le hltb j11)
      have hn_g_c : b11 ≠ w.heap.size + 2 := Nat.ne_of_gt (Nat.lt_of_lt_of_le hltc j11)
      have hn_g_o : b11 ≠ b7 := Nat.ne_of_gt (Nat.lt_of_lt_of_le hlto j11)
      have hn_g_q : b11 ≠ b8 := Nat.ne_of_gt (Nat.lt_of_lt_of_le hltq j11)
      have hn_g_r : b11 ≠ b9 := Nat.ne_of_gt (Nat.lt_of_lt_of_le hltr j11)
      have hd_J28_g : b11 < b28 ∨ a28.heap.size ≤ b11 := .inr (Nat.le_trans hszJ28 j11)
      have hd_J33_g : b11 < b32 ∨ a32.heap.size ≤ b11 := .inr (Nat.le_trans hszJ33 j11)
      have hd_J34_g : b11 < b32 ∨ a32.heap.size ≤ b11 := .inr (Nat.le_trans hszJ34 j11)
      have hd_J109_g : b11 < b109 ∨ a109.heap.size ≤ b11 := q1.symm
      have hd_J109_a : w.heap.size < b109 ∨ a109.heap.size ≤ w.heap.size := .inl (Nat.lt_of_lt_of_le hlta j109)
      have hd_J109_b : w.heap.size + 1 < b109 ∨ a109.heap.size ≤ w.heap.size + 1 := .inl (Nat.lt_of_lt_of_le hltb j109)
      have hd_J109_c : w.heap.size + 2 < b109 ∨ a109.heap.size ≤ w.heap.size + 2 := .inl (Nat.lt_of_lt_of_le hltc j109)
      have hd_J109_o : b7 < b109 ∨ a109.heap.size ≤ b7 := .inl (Nat.lt_of_lt_of_le hlto j109)
      have hd_J109_q : b8 < b109 ∨ a109.heap.size ≤ b8 := .inl (Nat.lt_of_lt_of_le hltq j109)
      have hd_J109_r : b9 < b109 ∨ a109.heap.size ≤ b9 := .inl (Nat.lt_of_lt_of_le hltr j109)
      clear q1 j109 m109 j11 m11 hlta hltb hltc hlto hltq hltr hszJ28 hszJ33 hszJ34 hbs
      have hB' := bw_below hB (hb2)
      have hXa' := hXa.below (hb2)
      have hXb' := hXb.below (hb2)
      have hXc' := hXc.below (hb2)
      have hXo' := hXo.below (hb2)
      have hXq' := hXq.below (hb2)
      have hXr' := hXr.below (hb2)
      have FJ28' := FJ28.below (hb2)
      have FJ33' := FJ33.below (hb2)
      have FJ34' := FJ34.below (hb2)
      clear hb2
      clear FJ34 FJ33 FJ28 hXr hXq hXo hXc hXb hXa hB
      have hB := hB'; have hXa := hXa'; have hXb := hXb'; have hXc := hXc'; have hXo := hXo'; have hXq := hXq'; have hXr := hXr'; have FJ28 := FJ28'; have FJ33 := FJ33'; have FJ34 := FJ34'
      clear hB' hXa' hXb' hXc' hXo' hXq' hXr' FJ28' FJ33' FJ34'
      have J109 := Lib.hid hio109
      have FJ109 := hfr109
      clear hio109 hfr109
      have hXg := hX11; clear hX11
      
      show wpList _ _ _ [_] _ _
      simp only [e11, e109]
      clear e11 e109
      refine wl_store (b := b11) rfl rfl hXg ?_
      refine wpList_nil ?_
      go_upto_region 14 with (fail)
      refine wp_gen fun W5 hW => ?_
      have hm5 : V1301.heap.size ≤ W5.heap.size := by rw [hW]; (first | (simp only [size_alloc, size_drew, size_drewN, size_set]; (repeat (first | exact Nat.le_refl _ | refine Nat.le_succ_of_le ?_)); done) | omega | (simp only [size_alloc, size_drew, size_drewN, size_set]; omega) | (simp only [size_alloc, size_drew, size_drewN, size_set]; done))
      have hB' : Below w.heap.size w W5 := by rw [hW]; (repeat (first | (with_reducible assumption) | exact Below.refl _ _ | (with_reducible refine Below.drew ?_) | (with_reducible refine belowN ?_ _) | (with_reducible refine bw_alloc ?_ _) | ((with_reducible refine bw_set ?_ ?_ _ _); (focus (with_reducible assumption)))))
      have hXa' : Box W5 (w.heap.size) [Value.bool na, Value.slice ao la.length ac] := by rw [hW]; (repeat (first | (with_reducible assumption) | (with_reducible refine Box.drew ?_) | (with_reducible refine Box.drewN ?_ _) | ((with_reducible refine Box.new _ _ ?_ ?_); (focus (first | (with_reducible exact rfl) | (simp only [size_alloc, size_drew, size_drewN, size_set]; done))); (focus (exact rfl))) | (with_reducible refine Box.alloc ?_ _) | ((with_reducible refine Box.put ?_ ?_ _ _ ?_); rotate_left) | ((with_reducible refine Box.set ?_ ?_ _ _); (focus (first | (with_reducible assumption) | (refine Ne.symm ?_; (with_reducible assumption))))) | (exact rfl)))
      have hXb' : Box W5 (w.heap.size + 1) [Value.bool nb, Value.slice bo lb.length bc] := by rw [hW]; (repeat (first | (with_reducible assumption) | (with_reducible refine Box.drew ?_) | (with_reducible refine Box.drewN ?_ _) | ((with_reducible refine Box.new _ _ ?_ ?_); (focus (first | (with_reducible exact rfl) | (simp only [size_alloc, size_drew, size_drewN, size_set]; done))); (focus (exact rfl))) | (with_reducible refine Box.alloc ?_ _) | ((with_reducible refine Box.put ?_ ?_ _ _ ?_); rotate_left) | ((with_reducible refine Box.set ?_ ?_ _ _); (focus (first | (with_reducible assumption) | (refine Ne.symm ?_; (with_reducible assumption))))) | (exact rfl)))
      have hXc' : Box W5 (w.heap.size + 2) [Value.bool nc, Value.slice co lc.length cc] := by rw [hW]; (repeat (first | (with_reducible assumption) | (with_reducible refine Box.drew ?_) | (with_reducible refine Box.drewN ?_ _) | ((with_reducible refine Box.new _ _ ?_ ?_); (focus (first | (with_reducible exact rfl) | (simp only [size_alloc, size_drew, size_drewN, size_set]; done))); (focus (exact rfl))) | (with_reducible refine Box.alloc ?_ _) | ((with_reducible refine Box.put ?_ ?_ _ _ ?_); rotate_left) | ((with_reducible refine Box.set ?_ ?_ _ _); (focus (first | (with_reducible assumption) | (refine Ne.symm ?_; (with_reducible assumption))))) | (exact rfl)))
      have hXo' : Box W5 (b7) [Value.bool na28, Value.slice ao28 nn28 ac28] := by rw [hW]; (repeat (first | (with_reducible assumption) | (with_reducible refine Box.drew ?_) | (with_reducible refine Box.drewN ?_ _) | ((with_reducible refine Box.new _ _ ?_ ?_); (focus (first | (with_reducible exact rfl) | (simp only [size_alloc, size_drew, size_drewN, size_set]; done))); (focus (exact rfl))) | (with_reducible refine Box.alloc ?_ _) | ((with_reducible refine Box.put ?_ ?_ _ _ ?_); rotate_left) | ((with_reducible refine Box.set ?_ ?_ _ _); (focus (first | (with_reducible assumption) | (refine Ne.symm ?_; (with_reducible assumption))))) | (exact rfl)))
      have hXq' : Box W5 (b8) [Value.bool na33, Value.slice ao33 nn33 ac33] := by rw [hW]; (repeat (first | (with_reducible assumption) | (with_reducible refine Box.drew ?_) | (with_reducible refine Box.drewN ?_ _) | ((with_reducible refine Box.new _ _ ?_ ?_); (focus (first | (with_reducible exact rfl) | (simp only [size_alloc, size_drew, size_drewN, size_set]; done))); (focus (exact rfl))) | (with_reducible refine Box.alloc ?_ _) | ((with_reducible refine Box.put ?_ ?_ _ _ ?_); rotate_left) | ((with_reducible refine Box.set ?_ ?_ _ _); (focus (first | (with_reducible assumption) | (refine Ne.symm ?_; (with_reducible assumption))))) | (exact rfl)))
      have hXr' : Box W5 (b9) [Value.bool na34, Value.slice ao34 nn34 ac34] := by rw [hW]; (repeat (first | (with_reducible assumption) | (with_reducible refine Box.drew ?_) | (with_reducible refine Box.drewN ?_ _) | ((with_reducible refine Box.new _ _ ?_ ?_); (focus (first | (with_reducible exact rfl) | (simp only [size_alloc, size_drew, size_drewN, size_set]; done))); (focus (exact rfl))) | (with_reducible refine Box.alloc ?_ _) | ((with_reducible refine Box.put ?_ ?_ _ _ ?_); rotate_left) | ((with_reducible refine Box.set ?_ ?_ _ _); (focus (first | (with_reducible assumption) | (refine Ne.symm ?_; (with_reducible assumption))))) | (exact rfl)))
      have hXg' : Box W5 (b11) [Value.bool na109, Value.slice ao109 nn109 ac109] := by rw [hW]; (repeat (first | (with_reducible assumption) | (with_reducible refine Box.drew ?_) | (with_reducible refine Box.drewN ?_ _) | ((with_reducible refine Box.new _ _ ?_ ?_); (focus (first | (with_reducible exact rfl) | (simp only [size_alloc, size_drew, size_drewN, size_set]; done))); (focus (exact rfl))) | (with_reducible refine Box.alloc ?_ _) | ((with_reducible refine Box.put ?_ ?_ _ _ ?_); rotate_left) | ((with_reducible refine Box.set ?_ ?_ _ _); (focus (first | (with_reducible assumption) | (refine Ne.symm ?_; (with_reducible assumption))))) | (exact rfl)))
      have FJ28' : Fr a28 (b28) W5 := by rw [hW]; (repeat (first | (with_reducible assumption) | exact Fr.refl _ _ | (with_reducible refine Fr.drew ?_) | (with_reducible refine Fr.drewN ?_ _) | (with_reducible refine Fr.alloc ?_ _) | ((with_reducible refine Fr.set ?_ ?_ _); (focus (with_reducible assumption)))))
      have FJ33' : Fr a32 (b32) W5 := by rw [hW]; (repeat (first | (with_reducible assumption) | exact Fr.refl _ _ | (with_reducible refine Fr.drew ?_) | (with_reducible refine Fr.drewN ?_ _) | (with_reducible refine Fr.alloc ?_ _) | ((with_reducible refine Fr.set ?_ ?_ _); (focus (with_reducible assumption)))))
      have FJ34' : Fr a32 (b32) W5 := by rw [hW]; (repeat (first | (with_reducible assumption) | exact Fr.refl _ _ | (with_reducible refine Fr.drew ?_) | (with_reducible refine Fr.drewN ?_ _) | (with_reducible refine Fr.alloc ?_ _) | ((with_reducible refine Fr.set ?_ ?_ _); (focus (with_reducible assumption)))))
      have FJ109' : Fr a109 (b109) W5 := by rw [hW]; (repeat (first | (with_reducible assumption) | exact Fr.refl _ _ | (with_reducible refine Fr.drew ?_) | (with_reducible refine Fr.drewN ?_ _) | (with_reducible refine Fr.alloc ?_ _) | ((with_reducible refine Fr.set ?_ ?_ _); (focus (with_reducible assumption)))))
      clear hW
      clear FJ109 FJ34 FJ33 FJ28 hXg hXr hXq hXo hXc hXb hXa hB
      have hB := hB'; have hXa := hXa'; have hXb := hXb'; have hXc := hXc'; have hXo := hXo'; have hXq := hXq'; have hXr := hXr'; have hXg := hXg'; have FJ28 := FJ28'; have FJ33 := FJ33'; have FJ34 := FJ34'; have FJ109 := FJ109'
      clear hB' hXa' hXb' hXc' hXo' hXq' hXr' hXg' FJ28' FJ33' FJ34' FJ109'
      by_cases hx0 : x = 0
      · have HX := Lib.hid hx0; clear hx0
        refine wp_region_facts7 (by kernel_rfl) (fun i => (Fk.at [.nz x 1000, .ni (0), .nv (.int .i64 0), .nv (.bool true)] i).says) (fun i => List.getD [] i []) [110, 111, 112, 113] ?A1401 4 [] [] (fun _ => rfl) (fun h => absurd rfl h) ?hA1401 _ rfl (by kernel_rfl) (by kernel_rfl) (fun _ _ _ _ _ _ _ => Fk.keep _) ?steps1401 ?fin1401
        case hA1401 => intro t; (try simp only [putAll, Act.put, List.setIfInBounds_toArray, List.set_cons_zero, List.set_cons_succ]); (try exact rfl)
        case steps1401 =>
          refine ⟨?_, ?_, ?_, ?_, trivial⟩
          · intro a wk hx hb hg K hK
            have g5 : a.tmps.getD 5 undef = .pointer (some ⟨w.heap.size + 2, 0, none⟩) := hx 5 (by kernel_rfl)
            exact step_run rfl (op_load g5 (ld_int _ _ 0 _ _ (hXc.below hb).c0 (hXc.below hb).c1) (hK _ _ (Below.refl _ _) ((IC.out.keep hB).keep hb)))
          · intro a wk hx hb hg K hK
            have g7 : a.tmps.getD 7 undef = .pointer (some ⟨b7, 0, none⟩) := hx 7 (by kernel_rfl)
            exact step_run rfl (op_load g7 (ld_int _ _ 0 _ _ (hXo.below hb).c0 (hXo.below hb).c1) (hK _ _ (Below.refl _ _) ((J28.out.fr FJ28).i2.keep hb)))
          · intro a wk hx hb hg K hK
            have g110 := fk_z (z := x) (k := 1000) (hg 0 110 (by kernel_rfl) rfl)
            have g111 := fk_i (z := (0)) (hg 1 111 (by kernel_rfl) rfl)
            exact step_run rfl (op_call2 (by kernel_rfl) (cmp_law g110 (I2.iz g111 ((zb1 (by decide) : ZB (0) 1))) (by decide) (cmpI_eq HX.out)) (TellsV.step hK))
          · intro a wk hx hb hg K hK
            have g112 : a.tmps.getD 112 undef = .int .i64 0 := fk_v (hg 2 112 (by kernel_rfl) rfl)
            exact step_run rfl (op_bin g112 rfl (bin_eqI.trans (congrArg (fun x => Result.ok (Value.bool x) wk) (by decide))) (hK _ _ (Below.refl _ _) rfl))
        intro t1401 lo1401 hi1401 V1401 hb2 hF hD
        have gb : t1401 113 = .bool true := (hF 3 113 rfl).2.2.2
        clear hF hD
        refine wpList_nil ?_
        simp only [gb]
        clear gb
        have hB' := bw_below hB (hb2)
        have hXa' := hXa.below (hb2)
        have hXb' := hXb.below (hb2)
        have hXc' := hXc.below (hb2)
        have hXo' := hXo.below (hb2)
        have hXq' := hXq.below (hb2)
        have hXr' := hXr.below (hb2)
        have hXg' := hXg.below (hb2)
        have FJ28' := FJ28.below (hb2)
        have FJ33' := FJ33.below (hb2)
        have FJ34' := FJ34.below (hb2)
        have FJ109' := FJ109.below (hb2)
        clear hb2
        clear FJ109 FJ34 FJ33 FJ28 hXg hXr hXq hXo hXc hXb hXa hB
        have hB := hB'; have hXa := hXa'; have hXb := hXb'; have hXc := hXc'; have hXo := hXo'; have hXq := hXq'; have hXr := hXr'; have hXg := hXg'; have FJ28 := FJ28'; have FJ33 := FJ33'; have FJ34 := FJ34'; have FJ109 := FJ109'
        clear hB' hXa' hXb' hXc' hXo' hXq' hXr' hXg' FJ28' FJ33' FJ34' FJ109'
        go_upto_region 15 with (fail)
        refine wp_region_facts7 (by kernel_rfl) (fun i => (Fk.at [.ni z109, .ni (0), .nv (.bool true), .nv (.bool true)] i).says) (fun i => List.getD [] i []) [114, 115, 116, 6] ?A1501 4 [] [] (fun _ => rfl) (fun h => absurd rfl h) ?hA1501 _ rfl (by kernel_rfl) (by kernel_rfl) (fun _ _ _ _ _ _ _ => Fk.keep _) ?steps1501 ?fin1501
        case hA1501 => intro t; (try simp only [putAll, Act.put, List.setIfInBounds_toArray, List.set_cons_zero, List.set_cons_succ]); (try exact rfl)
        case steps1501 =>
          refine ⟨?_, ?_, ?_, ?_, trivial⟩
          · intro a wk hx hb hg K hK
            have g11 : a.tmps.getD 11 undef = .pointer (some ⟨b11, 0, none⟩) := hx 11 (by kernel_rfl)
            exact step_run rfl (op_load g11 (ld_int _ _ 0 _ _ (hXg.below hb).c0 (hXg.below hb).c1) (hK _ _ (Below.refl _ _) ((J109.out.fr FJ109).i2.keep hb)))
          · intro a wk hx hb hg K hK
            have g7 : a.tmps.getD 7 undef = .pointer (some ⟨b7, 0, none⟩) := hx 7 (by kernel_rfl)
            exact step_run rfl (op_load g7 (ld_int _ _ 0 _ _ (hXo.below hb).c0 (hXo.below hb).c1) (hK _ _ (Below.refl _ _) ((J28.out.fr FJ28).i2.keep hb)))
          · intro a wk hx hb hg K hK
            have g114 := fk_i (z := z109) (hg 0 114 (by kernel_rfl) rfl)
            have g115 := fk_i (z := (0)) (hg 1 115 (by kernel_rfl) rfl)
            exact step_run rfl (op_call2 (by kernel_rfl) (same_law g114 g115 (Bz109.out) (by decide) (by rw [decide_eq_true_eq, Hz109.out, Hz103.out, Hz107.out, HX.out, Int.mul_zero, Int.mul_zero]; exact gcd2_nought)) (TellsV.step hK))
          · intro a wk hx hb hg K hK
            have g116 : a.tmps.getD 116 undef = .bool true := fk_v (hg 2 116 (by kernel_rfl) rfl)
            exact step_run rfl (op_assign g116 (hK _ _ (Below.refl _ _) rfl))
        intro t1501 lo1501 hi1501 V1501 hb2 hF hD
        have gb : t1501 6 = .bool true := (hF 3 6 rfl).2.2.2
        clear hF hD
        refine wpList_nil ?_
        simp only [gb]
        go_wp2_with fail
        go_ret
        exact ⟨rfl, bw_below hB hb2⟩
      · have HX := Lib.hid hx0; clear hx0
        have HG0 : Hid (0 < z109) := by rw [Hz109.out, Hz107.out]; exact gcd2_pos (by rw [Int.one_mul]; exact Int.mul_ne_zero HZ.out HX.out)
        have HGN : Hid (z109 ≠ 0) := by have := HG0.out; unfold Hid; omega
        have HG1 : Hid (z109 ∣ z103) := by rw [Hz109.out]; exact Int.dvd_trans (gcd2_dvd_left _ _) (gcd2_dvd_right _ _)
        have HG2 : Hid (z109 ∣ z107) := by rw [Hz109.out]; exact gcd2_dvd_right _ _
        have HG3 : Hid (x ∣ z109) := by rw [Hz109.out, Hz103.out, Hz107.out]; exact dvd_gcd2 (dvd_gcd2 (Int.dvd_zero x) (Int.dvd_mul_left _ _)) (Int.dvd_mul_left _ _)
        obtain ⟨c112, HC112⟩ : ∃ c, c = cmpI x 0 := ⟨_, rfl⟩
        replace HC112 := Lib.hid HC112
        refine wp_region_facts7 (by kernel_rfl) (fun i => (Fk.at [.nz x 1000, .ni (0), .nv (.int .i64 c112), .nv (.bool false)] i).says) (fun i => List.getD [] i []) [110, 111, 112, 113] ?A1451 4 [] [] (fun _ => rfl) (fun h => absurd rfl h) ?hA1451 _ rfl (by kernel_rfl) (by kernel_rfl) (fun _ _ _ _ _ _ _ => Fk.keep _) ?steps1451 ?fin1451
        case hA1451 => intro t; (try simp only [putAll, Act.put, List.setIfInBounds_toArray, List.set_cons_zero, List.set_cons_succ]); (try exact rfl)
        case steps1451 =>
          refine ⟨?_, ?_, ?_, ?_, trivial⟩
          · intro a wk hx hb hg K hK
            have g5 : a.tmps.getD 5 undef = .pointer (some ⟨w.heap.size + 2, 0, none⟩) := hx 5 (by kernel_rfl)
            exact step_run rfl (op_load g5 (ld_int _ _ 0 _ _ (hXc.below hb).c0 (hXc.below hb).c1) (hK _ _ (Below.refl _ _) ((IC.out.keep hB).keep hb)))
          · intro a wk hx hb hg K hK
            have g7 : a.tmps.getD 7 undef = .pointer (some ⟨b7, 0, none⟩) := hx 7 (by kernel_rfl)
            exact step_run rfl (op_load g7 (ld_int _ _ 0 _ _ (hXo.below hb).c0 (hXo.below hb).c1) (hK _ _ (Below.refl _ _) ((J28.out.fr FJ28).i2.keep hb)))
          · intro a wk hx hb hg K hK
            have g110 := fk_z (z := x) (k := 1000) (hg 0 110 (by kernel_rfl) rfl)
            have g111 := fk_i (z := (0)) (hg 1 111 (by kernel_rfl) rfl)
            exact step_run rfl (op_call2 (by kernel_rfl) (cmp_law g110 (I2.iz g111 ((zb1 (by decide) : ZB (0) 1))) (by decide) (HC112.out.symm)) (TellsV.step hK))
          · intro a wk hx hb hg K hK
            have g112 : a.tmps.getD 112 undef = .int .i64 c112 := fk_v (hg 2 112 (by kernel_rfl) rfl)
            exact step_run rfl (op_bin g112 rfl (bin_eqI.trans (congrArg (fun x => Result.ok (Value.bool x) wk) (by rw [HC112.out]; exact cmpI_ne HX.out))) (hK _ _ (Below.refl _ _) rfl))
        intro t1451 lo1451 hi1451 V1451 hb2 hF hD
        have gb : t1451 113 = .bool false := (hF 3 113 rfl).2.2.2
        clear hF hD
        refine wpList_nil ?_
        simp only [gb]
        clear gb
        have hB' := bw_below hB (hb2)
        have hXa' := hXa.below (hb2)
        have hXb' := hXb.below (hb2)
        have hXc' := hXc.below (hb2)
        have hXo' := hXo.below (hb2)
        have hXq' := hXq.below (hb2)
        have hXr' := hXr.below (hb2)
        have hXg' := hXg.below (hb2)
        have FJ28' := FJ28.below (hb2)
        have FJ33' := FJ33.below (hb2)
        have FJ34' := FJ34.below (hb2)
        have FJ109' := FJ109.below (hb2)
        clear hb2
        clear FJ109 FJ34 FJ33 FJ28 hXg hXr hXq hXo hXc hXb hXa hB
        have hB := hB'; have hXa := hXa'; have hXb := hXb'; have hXc := hXc'; have hXo := hXo'; have hXq := hXq'; have hXr := hXr'; have hXg := hXg'; have FJ28 := FJ28'; have FJ33 := FJ33'; have FJ34 := FJ34'; have FJ109 := FJ109'
        clear hB' hXa' hXb' hXc' hXo' hXq' hXr' hXg' FJ28' FJ33' FJ34' FJ109'
        go_upto_region 16 with (fail)
        obtain ⟨f16, Hf16⟩ : ∃ q : Int, q = Int.fdiv z121 z109 := ⟨_, rfl⟩
        replace Hf16 := Lib.hid Hf16
        refine wp_region_facts7 (by kernel_rfl) (fun i => (Fk.at [.nz y 1000, .nz x 1000, .nl [y, x] 2004, .no z121, .ni z109, .nq f16 0 0, .nm 123 3 [(2, .int .i64 0)], .ne 117 0, .ne 117 1, .nv (.int .i64 0), .np [Value.bool false, Value.slice none 0 0], .np [Value.bool false, Value.slice none 0 0]] i).says) (fun i => List.getD [[], [], [], [], [], [], [123], [117], [117], [], [], []] i []) [118, 119, 120, 121, 122, 123, 117, 124, 125, 126, 12, 13] ?A1601 12 [0, 0, 3, 7, 0, 31, 63, 127, 127, 127, 0, 0, 3327, 7679, 16383] [8, 9] (fun h => by cases h) (fun _ _ d _ _ _ h => by cases d <;> exact h) ?hA1601 _ rfl (by kernel_rfl) (by kernel_rfl) (fun _ _ _ _ _ _ _ => Fk.keep _) ?steps1601 ?fin1601
        case hA1601 => intro t; (try simp only [putAll, Act.put, List.setIfInBounds_toArray, List.set_cons_zero, List.set_cons_succ]); (try exact rfl)
        case steps1601 =>
          refine ⟨?_, ?_, ?_, ?_, ?_, ?_, ?_, ?_, ?_, ?_, ?_, ?_, trivial⟩
          · intro a wk hx hb hg K hK
            have g3 : a.tmps.getD 3 undef = .pointer (some ⟨w.heap.size, 0, none⟩) := hx 3 (by kernel_rfl)
            exact step_run rfl (op_load g3 (ld_int _ _ 0 _ _ (hXa.below hb).c0 (hXa.below hb).c1) (hK _ _ (Below.refl _ _) ((IA.out.keep hB).keep hb)))
          · intro a wk hx hb hg K hK
            have g5 : a.tmps.getD 5 undef = .pointer (some ⟨w.heap.size + 2, 0, none⟩) := hx 5 (by kernel_rfl)
            exact step_run rfl (op_load g5 (ld_int _ _ 0 _ _ (hXc.below hb).c0 (hXc.below hb).c1) (hK _ _ (Below.refl _ _) ((IC.out.keep hB).keep hb)))
          · intro a wk hx hb hg K hK
            have g118 := fk_z (z := y) (k := 1000) (hg 0 118 (by kernel_rfl) rfl)
            have g119 := fk_z (z := x) (k := 1000) (hg 1 119 (by kernel_rfl) rfl)
            obtain ⟨x, w2, hr, hb2, hl⟩ := lz2 g118 g119
            exact step_run rfl (op_slice (by simp [Act.eval]) hr (hK _ _ hb2 hl))
          · intro a wk hx hb hg K hK
            have g120 := fk_l (ys := [y, x]) (k := 2004) (hg 2 120 (by kernel_rfl) rfl)
            exact step_run rfl (op_call1 (by kernel_rfl) (mul_law g120 (by decide) (Hz121.out.symm)) (TellsO.step hK))
          · intro a wk hx hb hg K hK
            have g11 : a.tmps.getD 11 undef = .pointer (some ⟨b11, 0, none⟩) := hx 11 (by kernel_rfl)
            exact step_run rfl (op_load g11 (ld_int _ _ 0 _ _ (hXg.below hb).c0 (hXg.below hb).c1) (hK _ _ (Below.refl _ _) ((J109.out.fr FJ109).i2.keep hb)))
          · intro a wk hx hb hg K hK
            have g121 := fk_o (z := z121) (hg 3 121 (by kernel_rfl) rfl)
            have g122 := fk_i (z := z109) (hg 4 122 (by kernel_rfl) rfl)
            exact step_run rfl (op_call2 (by kernel_rfl) (div_law (I2.iz g121 (Bz121.out)) (I2.iz g122 (Bz109.out)) (by decide) HGN.out Hf16.out.symm (by rw [show z121 = z103 by rw [Hz121.out, Hz103.out]]; exact fmod_dvd HG1.out)) (TellsQ.step hK))
          · intro a wk hx hb hg K hK
            have g123 := fk_q (q := f16) (r := 0) (n := 0) (hg 5 123 (by kernel_rfl) rfl)
            obtain ⟨x123, y123, e123⟩ := g123
            exact step_run rfl (op_move rfl (hK _ _ (Below.refl _ _) ⟨(rs_at (l := [123]) (t := fun d => a.tmps.getD d undef) (d := 123) rfl).symm, _, e123, rfl, by intro p hp; simp only [List.mem_singleton] at hp; subst hp; rfl⟩))
          · intro a wk hx hb hg K hK
            have g117 := fk_m (src := 123) (m := 3) (ks := [(2, .int .i64 0)]) (hg 6 117 (by kernel_rfl) rfl)
            obtain ⟨vs, e117, hm, hk⟩ := g117
            exact step_run rfl (op_extract e117 (Array.getElem?_eq_getElem (by omega)) (hK _ _ (Below.refl _ _) ⟨vs, (rs_at (l := [117]) (t := fun d => a.tmps.getD d undef) (d := 117) rfl).trans e117, Array.getElem?_eq_getElem (by omega)⟩))
          · intro a wk hx hb hg
            have g117 := fk_m (src := 123) (m := 3) (ks := [(2, .int .i64 0)]) (hg 6 117 (by kernel_rfl) rfl)
            obtain ⟨vs, e117, hm, hk⟩ := g117
            exact ⟨_, late_extract e117 (Array.getElem?_eq_getElem (by omega)), vs, (rs_at (l := [117]) (t := fun d => a.tmps.getD d undef) (d := 117) rfl).trans e117, Array.getElem?_eq_getElem (by omega)⟩
          · intro a wk hx hb hg
            have g117 := fk_m (src := 123) (m := 3) (ks := [(2, .int .i64 0)]) (hg 6 117 (by kernel_rfl) rfl)
            obtain ⟨vs, e117, hm, hk⟩ := g117
            exact ⟨_, late_extract e117 (hk (2, _) (List.mem_singleton.2 rfl)), rfl⟩
          · intro a wk hx hb hg K hK
            exact step_run rfl (op_alloc (al_int _) (hK _ _ ((Below.refl _ _).alloc (Nat.le_refl _) _) ⟨rfl, size_alloc _ _, Box.new _ _ rfl rfl⟩))
          · intro a wk hx hb hg K hK
            exact step_run rfl (op_alloc (al_int _) (hK _ _ ((Below.refl _ _).alloc (Nat.le_refl _) _) ⟨rfl, size_alloc _ _, Box.new _ _ rfl rfl⟩))
        intro t1601 lo1601 hi1601 V1601 hb2 hF hD
        obtain ⟨j123, k123, m123, a123, ha123, ⟨x123_0, x123_1, e123, hio123_0, hio123_1⟩, hfr123⟩ : _ ∧ _ ∧ _ ∧ (.nq f16 0 0 : Fk).says _ (lo1601 5) (hi1601 5) V1601 (t1601 123) := hF 5 123 rfl
        obtain ⟨j12, k12, m12, e12, hh12, hX12⟩ : _ ∧ _ ∧ _ ∧ (.np [Value.bool false, Value.slice none 0 0] : Fk).says _ (lo1601 10) (hi1601 10) V1601 (t1601 12) := hF 10 12 rfl
        obtain ⟨j13, k13, m13, e13, hh13, hX13⟩ : _ ∧ _ ∧ _ ∧ (.np [Value.bool false, Value.slice none 0 0] : Fk).says _ (lo1601 11) (hi1601 11) V1601 (t1601 13) := hF 11 13 rfl
        have em124 : t1601 117 = t1601 123 := (hF 6 117 rfl).2.2.2.1.trans (rs_at (l := [123]) (t := t1601) (d := 123) rfl)
        have e124 : t1601 124 = x123_0 := by obtain ⟨vs, h1, h2⟩ : ∃ vs : Array Value, rs [117] t1601 117 = .tuple vs ∧ vs[0]? = some (t1601 124) := (hF 7 124 rfl).2.2.2; rw [rs_at rfl, em124, e123] at h1; injection h1 with h1; subst h1; injection h2 with h2; exact h2.symm
        clear em124
        obtain ⟨na124, ao124, nn124, ac124, ex124⟩ := hio123_0.opq
        rw [ex124] at hio123_0 e124
        have em125 : t1601 117 = t1601 123 := (hF 6 117 rfl).2.2.2.1.trans (rs_at (l := [123]) (t := t1601) (d := 123) rfl)
        have e125 : t1601 125 = x123_1 := by obtain ⟨vs, h1, h2⟩ : ∃ vs : Array Value, rs [117] t1601 117 = .tuple vs ∧ vs[1]? = some (t1601 125) := (hF 8 125 rfl).2.2.2; rw [rs_at rfl, em125, e123] at h1; injection h1 with h1; subst h1; injection h2 with h2; exact h2.symm
        clear em125
        obtain ⟨na125, ao125, nn125, ac125, ex125⟩ := hio123_1.opq
        rw [ex125] at hio123_1 e125
        have q1 := hD 5 10 (by decide) (by decide) (by decide)
        have q2 := hD 5 11 (by decide) (by decide) (by decide)
        have q3 := hD 10 11 (by decide) (by decide) (by decide)
        have e126 : t1601 126 = .int .i64 0 := (hF 9 126 rfl).2.2.2
        clear hF hD
        obtain ⟨b123, eb123⟩ : ∃ b, b = lo1601 5 := ⟨_, rfl⟩
        obtain ⟨b12, eb12⟩ : ∃ b, b = lo1601 10 := ⟨_, rfl⟩
        obtain ⟨b13, eb13⟩ : ∃ b, b = lo1601 11 := ⟨_, rfl⟩
        rw [← eb123] at hio123_0 hio123_1 hfr123 q1 q2 j123 k123
        rw [← ha123] at q1 q2 k123 m123
        rw [← eb12] at e12 hX12 q1 q3 hh12 j12 k12
        rw [hh12] at q1 q3 m12
        rw [← eb13] at e13 hX13 q2 q3 hh13 j13 k13
        rw [hh13] at q2 q3 m13
        clear ha123 hh12 hh13 eb123 eb12 eb13 k123 k12 k13
        have hbs := hB.size
        have hlta := hXa.lt
        have hltb := hXb.lt
        have hltc := hXc.lt
        have hlto := hXo.lt
        have hltq := hXq.lt
        have hltr := hXr.lt
        have hltg := hXg.lt
        have hszJ28 := FJ28.size
        have hszJ33 := FJ33.size
        have hszJ34 := FJ34.size
        have hszJ109 := FJ109.size
        have hgq1 : w.heap.size ≤ b12 := Nat.le_trans hbs j12
        have hgx1 : w.heap.size ≤ b13 := Nat.le_trans hbs j13
        have hn_q1_a : b12 ≠ w.heap.size := Nat.ne_of_gt (Nat.lt_of_lt_of_le hlta j12)
        have hn_q1_b : b12 ≠ w.heap.size + 1 := Nat.ne_of_gt (Nat.lt_of_lt_of_le hltb j12)
        have hn_q1_c : b12 ≠ w.heap.size + 2 := Nat.ne_of_gt (Nat.lt_of_lt_of_le hltc j12)
        have hn_q1_o : b12 ≠ b7 := Nat.ne_of_gt (Nat.lt_of_lt_of_le hlto j12)
        have hn_q1_q : b12 ≠ b8 := Nat.ne_of_gt (Nat.lt_of_lt_of_le hltq j12)
        have hn_q1_r : b12 ≠ b9 := Nat.ne_of_gt (Nat.lt_of_lt_of_le hltr j12)
        have hn_q1_g : b12 ≠ b11 := Nat.ne_of_gt (Nat.lt_of_lt_of_le hltg j12)
        have hd_J28_q1 : b12 < b28 ∨ a28.heap.size ≤ b12 := .inr (Nat.le_trans hszJ28 j12)
        have hd_J33_q1 : b12 < b32 ∨ a32.heap.size ≤ b12 := .inr (Nat.le_trans hszJ33 j12)
        have hd_J34_q1 : b12 < b32 ∨ a32.heap.size ≤ b12 := .inr (Nat.le_trans hszJ34 j12)
        have hd_J109_q1 : b12 < b109 ∨ a109.heap.size ≤ b12 := .inr (Nat.le_trans hszJ109 j12)
        have hn_x1_a : b13 ≠ w.heap.size := Nat.ne_of_gt (Nat.lt_of_lt_of_le hlta j13)
        have hn_x1_b : b13 ≠ w.heap.size + 1 := Nat.ne_of_gt (Nat.lt_of_lt_of_le hltb j13)
        have hn_x1_c : b13 ≠ w.heap.size + 2 := Nat.ne_of_gt (Nat.lt_of_lt_of_le hltc j13)
        have hn_x1_o : b13 ≠ b7 := Nat.ne_of_gt (Nat.lt_of_lt_of_le hlto j13)
        have hn_x1_q : b13 ≠ b8 := Nat.ne_of_gt (Nat.lt_of_lt_of_le hltq j13)
        have hn_x1_r : b13 ≠ b9 := Nat.ne_of_gt (Nat.lt_of_lt_of_le hltr j13)
        have hn_x1_g : b13 ≠ b11 := Nat.ne_of_gt (Nat.lt_of_lt_of_le hltg j13)
        have hn_x1_q1 : b13 ≠ b12 := ne_of_disj q3
        have hd_J28_x1 : b13 < b28 ∨ a28.heap.size ≤ b13 := .inr (Nat.le_trans hszJ28 j13)
        have hd_J33_x1 : b13 < b32 ∨ a32.heap.size ≤ b13 := .inr (Nat.le_trans hszJ33 j13)
        have hd_J34_x1 : b13 < b32 ∨ a32.heap.size ≤ b13 := .inr (Nat.le_trans hszJ34 j13)
        have hd_J109_x1 : b13 < b109 ∨ a109.heap.size ≤ b13 := .inr (Nat.le_trans hszJ109 j13)
        have hd_J124_q1 : b12 < b123 ∨ a123.heap.size ≤ b12 := q1.symm
        have hd_J124_x1 : b13 < b123 ∨ a123.heap.size ≤ b13 := q2.symm
        have hd_J124_a : w.heap.size < b123 ∨ a123.heap.size ≤ w.heap.size := .inl (Nat.lt_of_lt_of_le hlta j123)
        have hd_J124_b : w.heap.size + 1 < b123 ∨ a123.heap.size ≤ w.heap.size + 1 := .inl (Nat.lt_of_lt_of_le hltb j123)
        have hd_J124_c : w.heap.size + 2 < b123 ∨ a123.heap.size ≤ w.heap.size + 2 := .inl (Nat.lt_of_lt_of_le hltc j123)
        have hd_J124_o : b7 < b123 ∨ a123.heap.size ≤ b7 := .inl (Nat.lt_of_lt_of_le hlto j123)
        have hd_J124_q : b8 < b123 ∨ a123.heap.size ≤ b8 := .inl (Nat.lt_of_lt_of_le hltq j123)
        have hd_J124_r : b9 < b123 ∨ a123.heap.size ≤ b9 := .inl (Nat.lt_of_lt_of_le hltr j123)
        have hd_J124_g : b11 < b123 ∨ a123.heap.size ≤ b11 := .inl (Nat.lt_of_lt_of_le hltg j123)
        have hd_J125_q1 : b12 < b123 ∨ a123.heap.size ≤ b12 := q1.symm
        have hd_J125_x1 : b13 < b123 ∨ a123.heap.size ≤ b13 := q2.symm
        have hd_J125_a : w.heap.size < b123 ∨ a123.heap.size ≤ w.heap.size := .inl (Nat.lt_of_lt_of_le hlta j123)
        have hd_J125_b : w.heap.size + 1 < b123 ∨ a123.heap.size ≤ w.heap.size + 1 := .inl (Nat.lt_of_lt_of_le hltb j123)
        have hd_J125_c : w.heap.size + 2 < b123 ∨ a123.heap.size ≤ w.heap.size + 2 := .inl (Nat.lt_of_lt_of_le hltc j123)
        have hd_J125_o : b7 < b123 ∨ a123.heap.size ≤ b7 := .inl (Nat.lt_of_lt_of_le hlto j123)
        have hd_J125_q : b8 < b123 ∨ a123.heap.size ≤ b8 := .inl (Nat.lt_of_lt_of_le hltq j123)
        have hd_J125_r : b9 < b123 ∨ a123.heap.size ≤ b9 := .inl (Nat.lt_of_lt_of_le hltr j123)
        have hd_J125_g : b11 < b123 ∨ a123.heap.size ≤ b11 := .inl (Nat.lt_of_lt_of_le hltg j123)
        clear q1 q2 q3 j123 m123 j12 m12 j13 m13 hlta hltb hltc hlto hltq hltr hltg hszJ28 hszJ33 hszJ34 hszJ109 hbs
        have hB' := bw_below hB (hb2)
        have hXa' := hXa.below (hb2)
        have hXb' := hXb.below (hb2)
        have hXc' := hXc.below (hb2)
        have hXo' := hXo.below (hb2)
        have hXq' := hXq.below (hb2)
        have hXr' := hXr.below (hb2)
        have hXg' := hXg.below (hb2)
        have FJ28' := FJ28.below (hb2)
        have FJ33' := FJ33.below (hb2)
        have FJ34' := FJ34.below (hb2)
        have FJ109' := FJ109.below (hb2)
        clear hb2
        clear FJ109 FJ34 FJ33 FJ28 hXg hXr hXq hXo hXc hXb hXa hB
        have hB := hB'; have hXa := hXa'; have hXb := hXb'; have hXc := hXc'; have hXo := hXo'; have hXq := hXq'; have hXr := hXr'; have hXg := hXg'; have FJ28 := FJ28'; have FJ33 := FJ33'; have FJ34 := FJ34'; have FJ109 := FJ109'
        clear hB' hXa' hXb' hXc' hXo' hXq' hXr' hXg' FJ28' FJ33' FJ34' FJ109'
        have J124 := Lib.hid hio123_0
        have FJ124 := hfr123
        have J125 := Lib.hid hio123_1
        have FJ125 := hfr123
        clear hio123_0 hio123_1 hfr123
        have hXq1 := hX12; clear hX12
        have hXx1 := hX13; clear hX13
        
        show wpList _ _ _ [_, _, _] _ _
        simp only [e12, e13, e124, e125, e126]
        clear e12 e13 e124 e125 e126
        refine wl_store (b := b12) rfl rfl hXq1 ?_
        refine wl_store (b := b13) rfl rfl (Box.set hn_x1_q1 (Box.set hn_x1_q1 hXx1 0 _) 1 _) ?_
        refine wl_assign rfl ?_
        simp only [Act.put, List.setIfInBounds_toArray, List.set_cons_zero, List.set_cons_succ]
        refine wpList_nil ?_
        go_upto_region 17 with (fail)
        refine wp_gen fun W6 hW => ?_
        have hm6 : V1601.heap.size ≤ W6.heap.size := by rw [hW]; (first | (simp only [size_alloc, size_drew, size_drewN, size_set]; (repeat (first | exact Nat.le_refl _ | refine Nat.le_succ_of_le ?_)); done) | omega | (simp only [size_alloc, size_drew, size_drewN, size_set]; omega) | (simp only [size_alloc, size_drew, size_drewN, size_set]; done))
        have hB' : Below w.heap.size w W6 := by rw [hW]; (repeat (first | (with_reducible assumption) | exact Below.refl _ _ | (with_reducible refine Below.drew ?_) | (with_reducible refine belowN ?_ _) | (with_reducible refine bw_alloc ?_ _) | ((with_reducible refine bw_set ?_ ?_ _ _); (focus (with_reducible assumption)))))
        have hXa' : Box W6 (w.heap.size) [Value.bool na, Value.slice ao la.length ac] := by rw [hW]; (repeat (first | (with_reducible assumption) | (with_reducible refine Box.drew ?_) | (with_reducible refine Box.drewN ?_ _) | ((with_reducible refine Box.new _ _ ?_ ?_); (focus (first | (with_reducible exact rfl) | (simp only [size_alloc, size_drew, size_drewN, size_set]; done))); (focus (exact rfl))) | (with_reducible refine Box.alloc ?_ _) | ((with_reducible refine Box.put ?_ ?_ _ _ ?_); rotate_left) | ((with_reducible refine Box.set ?_ ?_ _ _); (focus (first | (with_reducible assumption) | (refine Ne.symm ?_; (with_reducible assumption))))) | (exact rfl)))
        have hXb' : Box W6 (w.heap.size + 1) [Value.bool nb, Value.slice bo lb.length bc] := by rw [hW]; (repeat (first | (with_reducible assumption) | (with_reducible refine Box.drew ?_) | (with_reducible refine Box.drewN ?_ _) | ((with_reducible refine Box.new _ _ ?_ ?_); (focus (first | (with_reducible exact rfl) | (simp only [size_alloc, size_drew, size_drewN, size_set]; done))); (focus (exact rfl))) | (with_reducible refine Box.alloc ?_ _) | ((with_reducible refine Box.put ?_ ?_ _ _ ?_); rotate_left) | ((with_reducible refine Box.set ?_ ?_ _ _); (focus (first | (with_reducible assumption) | (refine Ne.symm ?_; (with_reducible assumption))))) | (exact rfl)))
        have hXc' : Box W6 (w.heap.size + 2) [Value.bool nc, Value.slice co lc.length cc] := by rw [hW]; (repeat (first | (with_reducible assumption) | (with_reducible refine Box.drew ?_) | (with_reducible refine Box.drewN ?_ _) | ((with_reducible refine Box.new _ _ ?_ ?_); (focus (first | (with_reducible exact rfl) | (simp only [size_alloc, size_drew, size_drewN, size_set]; done))); (focus (exact rfl))) | (with_reducible refine Box.alloc ?_ _) | ((with_reducible refine Box.put ?_ ?_ _ _ ?_); rotate_left) | ((with_reducible refine Box.set ?_ ?_ _ _); (focus (first | (with_reducible assumption) | (refine Ne.symm ?_; (with_reducible assumption))))) | (exact rfl)))
        have hXo' : Box W6 (b7) [Value.bool na28, Value.slice ao28 nn28 ac28] := by rw [hW]; (repeat (first | (with_reducible assumption) | (with_reducible refine Box.drew ?_) | (with_reducible refine Box.drewN ?_ _) | ((with_reducible refine Box.new _ _ ?_ ?_); (focus (first | (with_reducible exact rfl) | (simp only [size_alloc, size_drew, size_drewN, size_set]; done))); (focus (exact rfl))) | (with_reducible refine Box.alloc ?_ _) | ((with_reducible refine Box.put ?_ ?_ _ _ ?_); rotate_left) | ((with_reducible refine Box.set ?_ ?_ _ _); (focus (first | (with_reducible assumption) | (refine Ne.symm ?_; (with_reducible assumption))))) | (exact rfl)))
        have hXq' : Box W6 (b8) [Value.bool na33, Value.slice ao33 nn33 ac33] := by rw [hW]; (repeat (first | (with_reducible assumption) | (with_reducible refine Box.drew ?_) | (with_reducible refine Box.drewN ?_ _) | ((with_reducible refine Box.new _ _ ?_ ?_); (focus (first | (with_reducible exact rfl) | (simp only [size_alloc, size_drew, size_drewN, size_set]; done))); (focus (exact rfl))) | (with_reducible refine Box.alloc ?_ _) | ((with_reducible refine Box.put ?_ ?_ _ _ ?_); rotate_left) | ((with_reducible refine Box.set ?_ ?_ _ _); (focus (first | (with_reducible assumption) | (refine Ne.symm ?_; (with_reducible assumption))))) | (exact rfl)))
        have hXr' : Box W6 (b9) [Value.bool na34, Value.slice ao34 nn34 ac34] := by rw [hW]; (repeat (first | (with_reducible assumption) | (with_reducible refine Box.drew ?_) | (with_reducible refine Box.drewN ?_ _) | ((with_reducible refine Box.new _ _ ?_ ?_); (focus (first | (with_reducible exact rfl) | (simp only [size_alloc, size_drew, size_drewN, size_set]; done))); (focus (exact rfl))) | (with_reducible refine Box.alloc ?_ _) | ((with_reducible refine Box.put ?_ ?_ _ _ ?_); rotate_left) | ((with_reducible refine Box.set ?_ ?_ _ _); (focus (first | (with_reducible assumption) | (refine Ne.symm ?_; (with_reducible assumption))))) | (exact rfl)))
        have hXg' : Box W6 (b11) [Value.bool na109, Value.slice ao109 nn109 ac109] := by rw [hW]; (repeat (first | (with_reducible assumption) | (with_reducible refine Box.drew ?_) | (with_reducible refine Box.drewN ?_ _) | ((with_reducible refine Box.new _ _ ?_ ?_); (focus (first | (with_reducible exact rfl) | (simp only [size_alloc, size_drew, size_drewN, size_set]; done))); (focus (exact rfl))) | (with_reducible refine Box.alloc ?_ _) | ((with_reducible refine Box.put ?_ ?_ _ _ ?_); rotate_left) | ((with_reducible refine Box.set ?_ ?_ _ _); (focus (first | (with_reducible assumption) | (refine Ne.symm ?_; (with_reducible assumption))))) | (exact rfl)))
        have hXq1' : Box W6 (b12) [Value.bool na124, Value.slice ao124 nn124 ac124] := by rw [hW]; (repeat (first | (with_reducible assumption) | (with_reducible refine Box.drew ?_) | (with_reducible refine Box.drewN ?_ _) | ((with_reducible refine Box.new _ _ ?_ ?_); (focus (first | (with_reducible exact rfl) | (simp only [size_alloc, size_drew, size_drewN, size_set]; done))); (focus (exact rfl))) | (with_reducible refine Box.alloc ?_ _) | ((with_reducible refine Box.put ?_ ?_ _ _ ?_); rotate_left) | ((with_reducible refine Box.set ?_ ?_ _ _); (focus (first | (with_reducible assumption) | (refine Ne.symm ?_; (with_reducible assumption))))) | (exact rfl)))
        have hXx1' : Box W6 (b13) [Value.bool na125, Value.slice ao125 nn125 ac125] := by rw [hW]; (repeat (first | (with_reducible assumption) | (with_reducible refine Box.drew ?_) | (with_reducible refine Box.drewN ?_ _) | ((with_reducible refine Box.new _ _ ?_ ?_); (focus (first | (with_reducible exact rfl) | (simp only [size_alloc, size_drew, size_drewN, size_set]; done))); (focus (exact rfl))) | (with_reducible refine Box.alloc ?_ _) | ((with_reducible refine Box.put ?_ ?_ _ _ ?_); rotate_left) | ((with_reducible refine Box.set ?_ ?_ _ _); (focus (first | (with_reducible assumption) | (refine Ne.symm ?_; (with_reducible assumption))))) | (exact rfl)))
        have FJ28' : Fr a28 (b28) W6 := by rw [hW]; (repeat (first | (with_reducible assumption) | exact Fr.refl _ _ | (with_reducible refine Fr.drew ?_) | (with_reducible refine Fr.drewN ?_ _) | (with_reducible refine Fr.alloc ?_ _) | ((with_reducible refine Fr.set ?_ ?_ _); (focus (with_reducible assumption)))))
        have FJ33' : Fr a32 (b32) W6 := by rw [hW]; (repeat (first | (with_reducible assumption) | exact Fr.refl _ _ | (with_reducible refine Fr.drew ?_) | (with_reducible refine Fr.drewN ?_ _) | (with_reducible refine Fr.alloc ?_ _) | ((with_reducible refine Fr.set ?_ ?_ _); (focus (with_reducible assumption)))))
        have FJ34' : Fr a32 (b32) W6 := by rw [hW]; (repeat (first | (with_reducible assumption) | exact Fr.refl _ _ | (with_reducible refine Fr.drew ?_) | (with_reducible refine Fr.drewN ?_ _) | (with_reducible refine Fr.alloc ?_ _) | ((with_reducible refine Fr.set ?_ ?_ _); (focus (with_reducible assumption)))))
        have FJ109' : Fr a109 (b109) W6 := by rw [hW]; (repeat (first | (with_reducible assumption) | exact Fr.refl _ _ | (with_reducible refine Fr.drew ?_) | (with_reducible refine Fr.drewN ?_ _) | (with_reducible refine Fr.alloc ?_ _) | ((with_reducible refine Fr.set ?_ ?_ _); (focus (with_reducible assumption)))))
        have FJ124' : Fr a123 (b123) W6 := by rw [hW]; (repeat (first | (with_reducible assumption) | exact Fr.refl _ _ | (with_reducible refine Fr.drew ?_) | (with_reducible refine Fr.drewN ?_ _) | (with_reducible refine Fr.alloc ?_ _) | ((with_reducible refine Fr.set ?_ ?_ _); (focus (with_reducible assumption)))))
        have FJ125' : Fr a123 (b123) W6 := by rw [hW]; (repeat (first | (with_reducible assumption) | exact Fr.refl _ _ | (with_reducible refine Fr.drew ?_) | (with_reducible refine Fr.drewN ?_ _) | (with_reducible refine Fr.alloc ?_ _) | ((with_reducible refine Fr.set ?_ ?_ _); (focus (with_reducible assumption)))))
        clear hW
        clear FJ125 FJ124 FJ109 FJ34 FJ33 FJ28 hXx1 hXq1 hXg hXr hXq hXo hXc hXb hXa hB
        have hB := hB'; have hXa := hXa'; have hXb := hXb'; have hXc := hXc'; have hXo := hXo'; have hXq := hXq'; have hXr := hXr'; have hXg := hXg'; have hXq1 := hXq1'; have hXx1 := hXx1'; have FJ28 := FJ28'; have FJ33 := FJ33'; have FJ34 := FJ34'; have FJ109 := FJ109'; have FJ124 := FJ124'; have FJ125 := FJ125'
        clear hB' hXa' hXb' hXc' hXo' hXq' hXr' hXg' hXq1' hXx1' FJ28' FJ33' FJ34' FJ109' FJ124' FJ125'
        go_upto_region 17 with (fail)
        obtain ⟨f17, Hf17⟩ : ∃ q : Int, q = Int.fdiv z131 z109 := ⟨_, rfl⟩
        replace Hf17 := Lib.hid Hf17
        refine wp_region_facts7 (by kernel_rfl) (fun i => (Fk.at [.nz z 1000, .nz x 1000, .nl [z, x] 2004, .no z131, .ni z109, .nq f17 0 0, .nm 133 3 [(2, .int .i64 0)], .ne 127 0, .ne 127 1, .nv (.int .i64 0), .np [Value.bool false, Value.slice none 0 0], .np [Value.bool false, Value.slice none 0 0]] i).says) (fun i => List.getD [[], [], [], [], [], [], [133], [127], [127], [], [], []] i []) [128, 129, 130, 131, 132, 133, 127, 134, 135, 136, 15, 16] ?A1701 12 [0, 0, 3, 7, 0, 31, 63, 127, 127, 127, 0, 0, 3327, 7679, 16383] [8, 9] (fun h => by cases h) (fun _ _ d _ _ _ h => by cases d <;> exact h) ?hA1701 _ rfl (by kernel_rfl) (by kernel_rfl) (fun _ _ _ _ _ _ _ => Fk.keep _) ?steps1701 ?fin1701
        case hA1701 => intro t; (try simp only [putAll, Act.put, List.setIfInBounds_toArray, List.set_cons_zero, List.set_cons_succ]); (try exact rfl)
        case steps1701 =>
          refine ⟨?_, ?_, ?_, ?_, ?_, ?_, ?_, ?_, ?_, ?_, ?_, ?_, trivial⟩
          · intro a wk hx hb hg K hK
            have g4 : a.tmps.getD 4 undef = .pointer (some ⟨w.heap.size + 1, 0, none⟩) := hx 4 (by kernel_rfl)
            exact step_run rfl (op_load g4 (ld_int _ _ 0 _ _ (hXb.below hb).c0 (hXb.below hb).c1) (hK _ _ (Below.refl _ _) ((IB.out.keep hB).keep hb)))
          · intro a wk hx hb hg K hK
            have g5 : a.tmps.getD 5 undef = .pointer (some ⟨w.heap.size + 2, 0, none⟩) := hx 5 (by kernel_rfl)
            exact step_run rfl (op_load g5 (ld_int _ _ 0 _ _ (hXc.below hb).c0 (hXc.below hb).c1) (hK _ _ (Below.refl _ _) ((IC.out.keep hB).keep hb)))
          · intro a wk hx hb hg K hK
            have g128 := fk_z (z := z) (k := 1000) (hg 0 128 (by kernel_rfl) rfl)
            have g129 := fk_z (z := x) (k := 1000) (hg 1 129 (by kernel_rfl) rfl)
            obtain ⟨x, w2, hr, hb2, hl⟩ := lz2 g128 g129
            exact step_run rfl (op_slice (by simp [Act.eval]) hr (hK _ _ hb2 hl))
          · intro a wk hx hb hg K hK
            have g130 := fk_l (ys := [z, x]) (k := 2004) (hg 2 130 (by kernel_rfl) rfl)
            exact step_run rfl (op_call1 (by kernel_rfl) (mul_law g130 (by decide) (Hz131.out.symm)) (TellsO.step hK))
          · intro a wk hx hb hg K hK
            have g11 : a.tmps.getD 11 undef = .pointer (some ⟨b11, 0, none⟩) := hx 11 (by kernel_rfl)
            exact step_run rfl (op_load g11 (ld_int _ _ 0 _ _ (hXg.below hb).c0 (hXg.below hb).c1) (hK _ _ (Below.refl _ _) ((J109.out.fr FJ109).i2.keep hb)))
          · intro a wk hx hb hg K hK
            have g131 := fk_o (z := z131) (hg 3 131 (by kernel_rfl) rfl)
            have g132 := fk_i (z := z109) (hg 4 132 (by kernel_rfl) rfl)
            exact step_run rfl (op_call2 (by kernel_rfl) (div_law (I2.iz g131 (Bz131.out)) (I2.iz g132 (Bz109.out)) (by decide) HGN.out Hf17.out.symm (by rw [show z131 = z107 by rw [Hz131.out, Hz107.out]]; exact fmod_dvd HG2.out)) (TellsQ.step hK))
          · intro a wk hx hb hg K hK
            have g133 := fk_q (q := f17) (r := 0) (n := 0) (hg 5 133 (by kernel_rfl) rfl)
            obtain ⟨x133, y133, e133⟩ := g133
            exact step_run rfl (op_move rfl (hK _ _ (Below.refl _ _) ⟨(rs_at (l := [133]) (t := fun d => a.tmps.getD d undef) (d := 133) rfl).symm, _, e133, rfl, by intro p hp; simp only [List.mem_singleton] at hp; subst hp; rfl⟩))
          · intro a wk hx hb hg K hK
            have g127 := fk_m (src := 133) (m := 3) (ks := [(2, .int .i64 0)]) (hg 6 127 (by kernel_rfl) rfl)
            obtain ⟨vs, e127, hm, hk⟩ := g127
            exact step_run rfl (op_extract e127 (Array.getElem?_eq_getElem (by omega)) (hK _ _ (Below.refl _ _) ⟨vs, (rs_at (l := [127]) (t := fun d => a.tmps.getD d undef) (d := 127) rfl).trans e127, Array.getElem?_eq_getElem (by omega)⟩))
          · intro a wk hx hb hg
            have g127 := fk_m (src := 133) (m := 3) (ks := [(2, .int .i64 0)]) (hg 6 127 (by kernel_rfl) rfl)
            obtain ⟨vs, e127, hm, hk⟩ := g127
            exact ⟨_, late_extract e127 (Array.getElem?_eq_getElem (by omega)), vs, (rs_at (l := [127]) (t := fun d => a.tmps.getD d undef) (d := 127) rfl).trans e127, Array.getElem?_eq_getElem (by omega)⟩
          · intro a wk hx hb hg
            have g127 := fk_m (src := 133) (m := 3) (ks := [(2, .int .i64 0)]) (hg 6 127 (by kernel_rfl) rfl)
            obtain ⟨vs, e127, hm, hk⟩ := g127
            exact ⟨_, late_extract e127 (hk (2, _) (List.mem_singleton.2 rfl)), rfl⟩
          · intro a wk hx hb hg K hK
            exact step_run rfl (op_alloc (al_int _) (hK _ _ ((Below.refl _ _).alloc (Nat.le_refl _) _) ⟨rfl, size_alloc _ _, Box.new _ _ rfl rfl⟩))
          · intro a wk hx hb hg K hK
            exact step_run rfl (op_alloc (al_int _) (hK _ _ ((Below.refl _ _).alloc (Nat.le_refl _) _) ⟨rfl, size_alloc _ _, Box.new _ _ rfl rfl⟩))
        intro t1701 lo1701 hi1701 V1701 hb2 hF hD
        obtain ⟨j133, k133, m133, a133, ha133, ⟨x133_0, x133_1, e133, hio133_0, hio133_1⟩, hfr133⟩ : _ ∧ _ ∧ _ ∧ (.nq f17 0 0 : Fk).says _ (lo1701 5) (hi1701 5) V1701 (t1701 133) := hF 5 133 rfl
        obtain ⟨j15, k15, m15, e15, hh15, hX15⟩ : _ ∧ _ ∧ _ ∧ (.np [Value.bool false, Value.slice none 0 0] : Fk).says _ (lo1701 10) (hi1701 10) V1701 (t1701 15) := hF 10 15 rfl
        obtain ⟨j16, k16, m16, e16, hh16, hX16⟩ : _ ∧ _ ∧ _ ∧ (.np [Value.bool false, Value.slice none 0 0] : Fk).says _ (lo1701 11) (hi1701 11) V1701 (t1701 16) := hF 11 16 rfl
        have em134 : t1701 127 = t1701 133 := (hF 6 127 rfl).2.2.2.1.trans (rs_at (l := [133]) (t := t1701) (d := 133) rfl)
        have e134 : t1701 134 = x133_0 := by obtain ⟨vs, h1, h2⟩ : ∃ vs : Array Value, rs [127] t1701 127 = .tuple vs ∧ vs[0]? = some (t1701 134) := (hF 7 134 rfl).2.2.2; rw [rs_at rfl, em134, e133] at h1; injection h1 with h1; subst h1; injection h2 with h2; exact h2.symm
        clear em134
        obtain ⟨na134, ao134, nn134, ac134, ex134⟩ := hio133_0.opq
        rw [ex134] at hio133_0 e134
        have em135 : t1701 127 = t1701 133 := (hF 6 127 rfl).2.2.2.1.trans (rs_at (l := [133]) (t := t1701) (d := 133) rfl)
        have e135 : t1701 135 = x133_1 := by obtain ⟨vs, h1, h2⟩ : ∃ vs : Array Value, rs [127] t1701 127 = .tuple vs ∧ vs[1]? = some (t1701 135) := (hF 8 135 rfl).2.2.2; rw [rs_at rfl, em135, e133] at h1; injection h1 with h1; subst h1; injection h2 with h2; exact h2.symm
        clear em135
        obtain ⟨na135, ao135, nn135, ac135, ex135⟩ := hio133_1.opq
        rw [ex135] at hio133_1 e135
        have q1 := hD 5 10 (by decide) (by decide) (by decide)
        have q2 := hD 5 11 (by decide) (by decide) (by decide)
        have q3 := hD 10 11 (by decide) (by decide) (by decide)
        have e136 : t1701 136 = .int .i64 0 := (hF 9 136 rfl).2.2.2
        clear hF hD
        obtain ⟨b133, eb133⟩ : ∃ b, b = lo1701 5 := ⟨_, rfl⟩
        obtain ⟨b15, eb15⟩ : ∃ b, b = lo1701 10 := ⟨_, rfl⟩
        obtain ⟨b16, eb16⟩ : ∃ b, b = lo1701 11 := ⟨_, rfl⟩
        rw [← eb133] at hio133_0 hio133_1 hfr133 q1 q2 j133 k133
        rw [← ha133] at q1 q2 k133 m133
        rw [← eb15] at e15 hX15 q1 q3 hh15 j15 k15
        rw [hh15] at q1 q3 m15
        rw [← eb16] at e16 hX16 q2 q3 hh16 j16 k16
        rw [hh16] at q2 q3 m16
        clear ha133 hh15 hh16 eb133 eb15 eb16 k133 k15 k16
        have hbs := hB.size
        have hlta := hXa.lt
        have hltb := hXb.lt
        have hltc := hXc.lt
        have hlto := hXo.lt
        have hltq := hXq.lt
        have hltr := hXr.lt
        have hltg := hXg.lt
        have hltq1 := hXq1.lt
        have hltx1 := hXx1.lt
        have hszJ28 := FJ28.size
        have hszJ33 := FJ33.size
        have hszJ34 := FJ34.size
        have hszJ109 := FJ109.size
        have hszJ124 := FJ124.size
        have hszJ125 := FJ125.size
        have hgq2 : w.heap.size ≤ b15 := Nat.le_trans hbs j15
        have hgx2 : w.heap.size ≤ b16 := Nat.le_trans hbs j16
        have hn_q2_a : b15 ≠ w.heap.size := Nat.ne_of_gt (Nat.lt_of_lt_of_le hlta j15)
        have hn_q2_b : b15 ≠ w.heap.size + 1 := Nat.ne_of_gt (Nat.lt_of_lt_of_le hltb j15)
        have hn_q2_c : b15 ≠ w.heap.size + 2 := Nat.ne_of_gt (Nat.lt_of_lt_of_le hltc j15)
        have hn_q2_o : b15 ≠ b7 := Nat.ne_of_gt (Nat.lt_of_lt_of_le hlto j15)
        have hn_q2_q : b15 ≠ b8 := Nat.ne_of_gt (Nat.lt_of_lt_of_le hltq j15)
        have hn_q2_r : b15 ≠ b9 := Nat.ne_of_gt (Nat.lt_of_lt_of_le hltr j15)
        have hn_q2_g : b15 ≠ b11 := Nat.ne_of_gt (Nat.lt_of_lt_of_le hltg j15)
        have hn_q2_q1 : b15 ≠ b12 := Nat.ne_of_gt (Nat.lt_of_lt_of_le hltq1 j15)
        have hn_q2_x1 : b15 ≠ b13 := Nat.ne_of_gt (Nat.lt_of_lt_of_le hltx1 j15)
        have hd_J28_q2 : b15 < b28 ∨ a28.heap.size ≤ b15 := .inr (Nat.le_trans hszJ28 j15)
        have hd_J33_q2 : b15 < b32 ∨ a32.heap.size ≤ b15 := .inr (Nat.le_trans hszJ33 j15)
        have hd_J34_q2 : b15 < b32 ∨ a32.heap.size ≤ b15 := .inr (Nat.le_trans hszJ34 j15)
        have hd_J109_q2 : b15 < b109 ∨ a109.heap.size ≤ b15 := .inr (Nat.le_trans hszJ109 j15)
        have hd_J124_q2 : b15 < b123 ∨ a123.heap.size ≤ b15 := .inr (Nat.le_trans hszJ124 j15)
        have hd_J125_q2 : b15 < b123 ∨ a123.heap.size ≤ b15 := .inr (Nat.le_trans hszJ125 j15)
        have hn_x2_a : b16 ≠ w.heap.size := Nat.ne_of_gt (Nat.lt_of_lt_of_le hlta j16)
        have hn_x2_b : b16 ≠ w.heap.size + 1 := Nat.ne_of_gt (Nat.lt_of_lt_of_le hltb j16)
        have hn_x2_c : b16 ≠ w.heap.size + 2 := Nat.ne_of_gt (Nat.lt_of_lt_of_le hltc j16)
        have hn_x2_o : b16 ≠ b7 := Nat.ne_of_gt (Nat.lt_of_lt_of_le hlto j16)
        have hn_x2_q : b16 ≠ b8 := Nat.ne_of_gt (Nat.lt_of_lt_of_le hltq j16)
        have hn_x2_r : b16 ≠ b9 := Nat.ne_of_gt (Nat.lt_of_lt_of_le hltr j16)
        have hn_x2_g : b16 ≠ b11 := Nat.ne_of_gt (Nat.lt_of_lt_of_le hltg j16)
        have hn_x2_q1 : b16 ≠ b12 := Nat.ne_of_gt (Nat.lt_of_lt_of_le hltq1 j16)
        have hn_x2_x1 : b16 ≠ b13 := Nat.ne_of_gt (Nat.lt_of_lt_of_le hltx1 j16)
        have hn_x2_q2 : b16 ≠ b15 := ne_of_disj q3
        have hd_J28_x2 : b16 < b28 ∨ a28.heap.size ≤ b16 := .inr (Nat.le_trans hszJ28 j16)
        have hd_J33_x2 : b16 < b32 ∨ a32.heap.size ≤ b16 := .inr (Nat.le_trans hszJ33 j16)
        have hd_J34_x2 : b16 < b32 ∨ a32.heap.size ≤ b16 := .inr (Nat.le_trans hszJ34 j16)
        have hd_J109_x2 : b16 < b109 ∨ a109.heap.size ≤ b16 := .inr (Nat.le_trans hszJ109 j16)
        have hd_J124_x2 : b16 < b123 ∨ a123.heap.size ≤ b16 := .inr (Nat.le_trans hszJ124 j16)
        have hd_J125_x2 : b16 < b123 ∨ a123.heap.size ≤ b16 := .inr (Nat.le_trans hszJ125 j16)
        have hd_J134_q2 : b15 < b133 ∨ a133.heap.size ≤ b15 := q1.symm
        have hd_J134_x2 : b16 < b133 ∨ a133.heap.size ≤ b16 := q2.symm
        have hd_J134_a : w.heap.size < b133 ∨ a133.heap.size ≤ w.heap.size := .inl (Nat.lt_of_lt_of_le hlta j133)
        have hd_J134_b : w.heap.size + 1 < b133 ∨ a133.heap.size ≤ w.heap.size + 1 := .inl (Nat.lt_of_lt_of_le hltb j133)
        have hd_J134_c : w.heap.size + 2 < b133 ∨ a133.heap.size ≤ w.heap.size + 2 := .inl (Nat.lt_of_lt_of_le hltc j133)
        have hd_J134_o : b7 < b133 ∨ a133.heap.size ≤ b7 := .inl (Nat.lt_of_lt_of_le hlto j133)
        have hd_J134_q : b8 < b133 ∨ a133.heap.size ≤ b8 := .inl (Nat.lt_of_lt_of_le hltq j133)
        have hd_J134_r : b9 < b133 ∨ a133.heap.size ≤ b9 := .inl (Nat.lt_of_lt_of_le hltr j133)
        have hd_J134_g : b11 < b133 ∨ a133.heap.size ≤ b11 := .inl (Nat.lt_of_lt_of_le hltg j133)
        have hd_J134_q1 : b12 < b133 ∨ a133.heap.size ≤ b12 := .inl (Nat.lt_of_lt_of_le hltq1 j133)
        have hd_J134_x1 : b13 < b133 ∨ a133.heap.size ≤ b13 := .inl (Nat.lt_of_lt_of_le hltx1 j133)
        have hd_J135_q2 : b15 < b133 ∨ a133.heap.size ≤ b15 := q1.symm
        have hd_J135_x2 : b16 < b133 ∨ a133.heap.size ≤ b16 := q2.symm
        have hd_J135_a : w.heap.size < b133 ∨ a133.heap.size ≤ w.heap.size := .inl (Nat.lt_of_lt_of_le hlta j133)
        have hd_J135_b : w.heap.size + 1 < b133 ∨ a133.heap.size ≤ w.heap.size + 1 := .inl (Nat.lt_of_lt_of_le hltb j133)
        have hd_J135_c : w.heap.size + 2 < b133 ∨ a133.heap.size ≤ w.heap.size + 2 := .inl (Nat.lt_of_lt_of_le hltc j133)
        have hd_J135_o : b7 < b133 ∨ a133.heap.size ≤ b7 := .inl (Nat.lt_of_lt_of_le hlto j133)
        have hd_J135_q : b8 < b133 ∨ a133.heap.size ≤ b8 := .inl (Nat.lt_of_lt_of_le hltq j133)
        have hd_J135_r : b9 < b133 ∨ a133.heap.size ≤ b9 := .inl (Nat.lt_of_lt_of_le hltr j133)
        have hd_J135_g : b11 < b133 ∨ a133.heap.size ≤ b11 := .inl (Nat.lt_of_lt_of_le hltg j133)
        have hd_J135_q1 : b12 < b133 ∨ a133.heap.size ≤ b12 := .inl (Nat.lt_of_lt_of_le hltq1 j133)
        have hd_J135_x1 : b13 < b133 ∨ a133.heap.size ≤ b13 := .inl (Nat.lt_of_lt_of_le hltx1 j133)
        clear q1 q2 q3 j133 m133 j15 m15 j16 m16 hlta hltb hltc hlto hltq hltr hltg hltq1 hltx1 hszJ28 hszJ33 hszJ34 hszJ109 hszJ124 hszJ125 hbs
        have hB' := bw_below hB (hb2)
        have hXa' := hXa.below (hb2)
        have hXb' := hXb.below (hb2)
        have hXc' := hXc.below (hb2)
        have hXo' := hXo.below (hb2)
        have hXq' := hXq.below (hb2)
        have hXr' := hXr.below (hb2)
        have hXg' := hXg.below (hb2)
        have hXq1' := hXq1.below (hb2)
        have hXx1' := hXx1.below (hb2)
        have FJ28' := FJ28.below (hb2)
        have FJ33' := FJ33.below (hb2)
        have FJ34' := FJ34.below (hb2)
        have FJ109' := FJ109.below (hb2)
        have FJ124' := FJ124.below (hb2)
        have FJ125' := FJ125.below (hb2)
        clear hb2
        clear FJ125 FJ124 FJ109 FJ34 FJ33 FJ28 hXx1 hXq1 hXg hXr hXq hXo hXc hXb hXa hB
        have hB := hB'; have hXa := hXa'; have hXb := hXb'; have hXc := hXc'; have hXo := hXo'; have hXq := hXq'; have hXr := hXr'; have hXg := hXg'; have hXq1 := hXq1'; have hXx1 := hXx1'; have FJ28 := FJ28'; have FJ33 := FJ33'; have FJ34 := FJ34'; have FJ109 := FJ109'; have FJ124 := FJ124'; have FJ125 := FJ125'
        clear hB' hXa' hXb' hXc' hXo' hXq' hXr' hXg' hXq1' hXx1' FJ28' FJ33' FJ34' FJ109' FJ124' FJ125'
        have J134 := Lib.hid hio133_0
        have FJ134 := hfr133
        have J135 := Lib.hid hio133_1
        have FJ135 := hfr133
        clear hio133_0 hio133_1 hfr133
        have hXq2 := hX15; clear hX15
        have hXx2 := hX16; clear hX16
        
        show wpList _ _ _ [_, _, _] _ _
        simp only [e15, e16, e134, e135, e136]
        clear e15 e16 e134 e135 e136
        refine wl_store (b := b15) rfl rfl hXq2 ?_
        refine wl_store (b := b16) rfl rfl (Box.set hn_x2_q2 (Box.set hn_x2_q2 hXx2 0 _) 1 _) ?_
        refine wl_assign rfl ?_
        simp only [Act.put, List.setIfInBounds_toArray, List.set_cons_zero, List.set_cons_succ]
        refine wpList_nil ?_
        go_upto_region 18 with (fail)
        refine wp_gen fun W7 hW => ?_
        have hm7 : V1701.heap.size ≤ W7.heap.size := by rw [hW]; (first | (simp only [size_alloc, size_drew, size_drewN, size_set]; (repeat (first | exact Nat.le_refl _ | refine Nat.le_succ_of_le ?_)); done) | omega | (simp only [size_alloc, size_drew, size_drewN, size_set]; omega) | (simp only [size_alloc, size_drew, size_drewN, size_set]; done))
        have hB' : Below w.heap.size w W7 := by rw [hW]; (repeat (first | (with_reducible assumption) | exact Below.refl _ _ | (with_reducible refine Below.drew ?_) | (with_reducible refine belowN ?_ _) | (with_reducible refine bw_alloc ?_ _) | ((with_reducible refine bw_set ?_ ?_ _ _); (focus (with_reducible assumption)))))
        have hXa' : Box W7 (w.heap.size) [Value.bool na, Value.slice ao la.length ac] := by rw [hW]; (repeat (first | (with_reducible assumption) | (with_reducible refine Box.drew ?_) | (with_reducible refine Box.drewN ?_ _) | ((with_reducible refine Box.new _ _ ?_ ?_); (focus (first | (with_reducible exact rfl) | (simp only [size_alloc, size_drew, size_drewN, size_set]; done))); (focus (exact rfl))) | (with_reducible refine Box.alloc ?_ _) | ((with_reducible refine Box.put ?_ ?_ _ _ ?_); rotate_left) | ((with_reducible refine Box.set ?_ ?_ _ _); (focus (first | (with_reducible assumption) | (refine Ne.symm ?_; (with_reducible assumption))))) | (exact rfl)))
        have hXb' : Box W7 (w.heap.size + 1) [Value.bool nb, Value.slice bo lb.length bc] := by rw [hW]; (repeat (first | (with_reducible assumption) | (with_reducible refine Box.drew ?_) | (with_reducible refine Box.drewN ?_ _) | ((with_reducible refine Box.new _ _ ?_ ?_); (focus (first | (with_reducible exact rfl) | (simp only [size_alloc, size_drew, size_drewN, size_set]; done))); (focus (exact rfl))) | (with_reducible refine Box.alloc ?_ _) | ((with_reducible refine Box.put ?_ ?_ _ _ ?_); rotate_left) | ((with_reducible refine Box.set ?_ ?_ _ _); (focus (first | (with_reducible assumption) | (refine Ne.symm ?_; (with_reducible assumption))))) | (exact rfl)))
        have hXc' : Box W7 (w.heap.size + 2) [Value.bool nc, Value.slice co lc.length cc] := by rw [hW]; (repeat (first | (with_reducible assumption) | (with_reducible refine Box.drew ?_) | (with_reducible refine Box.drewN ?_ _) | ((with_reducible refine Box.new _ _ ?_ ?_); (focus (first | (with_reducible exact rfl) | (simp only [size_alloc, size_drew, size_drewN, size_set]; done))); (focus (exact rfl))) | (with_reducible refine Box.alloc ?_ _) | ((with_reducible refine Box.put ?_ ?_ _ _ ?_); rotate_left) | ((with_reducible refine Box.set ?_ ?_ _ _); (focus (first | (with_reducible assumption) | (refine Ne.symm ?_; (with_reducible assumption))))) | (exact rfl)))
        have hXo' : Box W7 (b7) [Value.bool na28, Value.slice ao28 nn28 ac28] := by rw [hW]; (repeat (first | (with_reducible assumption) | (with_reducible refine Box.drew ?_) | (with_reducible refine Box.drewN ?_ _) | ((with_reducible refine Box.new _ _ ?_ ?_); (focus (first | (with_reducible exact rfl) | (simp only [size_alloc, size_drew, size_drewN, size_set]; done))); (focus (exact rfl))) | (with_reducible refine Box.alloc ?_ _) | ((with_reducible refine Box.put ?_ ?_ _ _ ?_); rotate_left) | ((with_reducible refine Box.set ?_ ?_ _ _); (focus (first | (with_reducible assumption) | (refine Ne.symm ?_; (with_reducible assumption))))) | (exact rfl)))
        have hXq' : Box W7 (b8) [Value.bool na33, Value.slice ao33 nn33 ac33] := by rw [hW]; (repeat (first | (with_reducible assumption) | (with_reducible refine Box.drew ?_) | (with_reducible refine Box.drewN ?_ _) | ((with_reducible refine Box.new _ _ ?_ ?_); (focus (first | (with_reducible exact rfl) | (simp only [size_alloc, size_drew, size_drewN, size_set]; done))); (focus (exact rfl))) | (with_reducible refine Box.alloc ?_ _) | ((with_reducible refine Box.put ?_ ?_ _ _ ?_); rotate_left) | ((with_reducible refine Box.set ?_ ?_ _ _); (focus (first | (with_reducible assumption) | (refine Ne.symm ?_; (with_reducible assumption))))) | (exact rfl)))
        have hXr' : Box W7 (b9) [Value.bool na34, Value.slice ao34 nn34 ac34] := by rw [hW]; (repeat (first | (with_reducible assumption) | (with_reducible refine Box.drew ?_) | (with_reducible refine Box.drewN ?_ _) | ((with_reducible refine Box.new _ _ ?_ ?_); (focus (first | (with_reducible exact rfl) | (simp only [size_alloc, size_drew, size_drewN, size_set]; done))); (focus (exact rfl))) | (with_reducible refine Box.alloc ?_ _) | ((with_reducible refine Box.put ?_ ?_ _ _ ?_); rotate_left) | ((with_reducible refine Box.set ?_ ?_ _ _); (focus (first | (with_reducible assumption) | (refine Ne.symm ?_; (with_reducible assumption))))) | (exact rfl)))
        have hXg' : Box W7 (b11) [Value.bool na109, Value.slice ao109 nn109 ac109] := by rw [hW]; (repeat (first | (with_reducible assumption) | (with_reducible refine Box.drew ?_) | (with_reducible refine Box.drewN ?_ _) | ((with_reducible refine Box.new _ _ ?_ ?_); (focus (first | (with_reducible exact rfl) | (simp only [size_alloc, size_drew, size_drewN, size_set]; done))); (focus (exact rfl))) | (with_reducible refine Box.alloc ?_ _) | ((with_reducible refine Box.put ?_ ?_ _ _ ?_); rotate_left) | ((with_reducible refine Box.set ?_ ?_ _ _); (focus (first | (with_reducible assumption) | (refine Ne.symm ?_; (with_reducible assumption))))) | (exact rfl)))
        have hXq1' : Box W7 (b12) [Value.bool na124, Value.slice ao124 nn124 ac124] := by rw [hW]; (repeat (first | (with_reducible assumption) | (with_reducible refine Box.drew ?_) | (with_reducible refine Box.drewN ?_ _) | ((with_reducible refine Box.new _ _ ?_ ?_); (focus (first | (with_reducible exact rfl) | (simp only [size_alloc, size_drew, size_drewN, size_set]; done))); (focus (exact rfl))) | (with_reducible refine Box.alloc ?_ _) | ((with_reducible refine Box.put ?_ ?_ _ _ ?_); rotate_left) | ((with_reducible refine Box.set ?_ ?_ _ _); (focus (first | (with_reducible assumption) | (refine Ne.symm ?_; (with_reducible assumption))))) | (exact rfl)))
        have hXx1' : Box W7 (b13) [Value.bool na125, Value.slice ao125 nn125 ac125] := by rw [hW]; (repeat (first | (with_reducible assumption) | (with_reducible refine Box.drew ?_) | (with_reducible refine Box.drewN ?_ _) | ((with_reducible refine Box.new _ _ ?_ ?_); (focus (first | (with_reducible exact rfl) | (simp only [size_alloc, size_drew, size_drewN, size_set]; done))); (focus (exact rfl))) | (with_reducible refine Box.alloc ?_ _) | ((with_reducible refine Box.put ?_ ?_ _ _ ?_); rotate_left) | ((with_reducible refine Box.set ?_ ?_ _ _); (focus (first | (with_reducible assumption) | (refine Ne.symm ?_; (with_reducible assumption))))) | (exact rfl)))
        have hXq2' : Box W7 (b15) [Value.bool na134, Value.slice ao134 nn134 ac134] := by rw [hW]; (repeat (first | (with_reducible assumption) | (with_reducible refine Box.drew ?_) | (with_reducible refine Box.drewN ?_ _) | ((with_reducible refine Box.new _ _ ?_ ?_); (focus (first | (with_reducible exact rfl) | (simp only [size_alloc, size_drew, size_drewN, size_set]; done))); (focus (exact rfl))) | (with_reducible refine Box.alloc ?_ _) | ((with_reducible refine Box.put ?_ ?_ _ _ ?_); rotate_left) | ((with_reducible refine Box.set ?_ ?_ _ _); (focus (first | (with_reducible assumption) | (refine Ne.symm ?_; (with_reducible assumption))))) | (exact rfl)))
        have hXx2' : Box W7 (b16) [Value.bool na135, Value.slice ao135 nn135 ac135] := by rw [hW]; (repeat (first | (with_reducible assumption) | (with_reducible refine Box.drew ?_) | (with_reducible refine Box.drewN ?_ _) | ((with_reducible refine Box.new _ _ ?_ ?_); (focus (first | (with_reducible exact rfl) | (simp only [size_alloc, size_drew, size_drewN, size_set]; done))); (focus (exact rfl))) | (with_reducible refine Box.alloc ?_ _) | ((with_reducible refine Box.put ?_ ?_ _ _ ?_); rotate_left) | ((with_reducible refine Box.set ?_ ?_ _ _); (focus (first | (with_reducible assumption) | (refine Ne.symm ?_; (with_reducible assumption))))) | (exact rfl)))
        have FJ28' : Fr a28 (b28) W7 := by rw [hW]; (repeat (first | (with_reducible assumption) | exact Fr.refl _ _ | (with_reducible refine Fr.drew ?_) | (with_reducible refine Fr.drewN ?_ _) | (with_reducible refine Fr.alloc ?_ _) | ((with_reducible refine Fr.set ?_ ?_ _); (focus (with_reducible assumption)))))
        have FJ33' : Fr a32 (b32) W7 := by rw [hW]; (repeat (first | (with_reducible assumption) | exact Fr.refl _ _ | (with_reducible refine Fr.drew ?_) | (with_reducible refine Fr.drewN ?_ _) | (with_reducible refine Fr.alloc ?_ _) | ((with_reducible refine Fr.set ?_ ?_ _); (focus (with_reducible assumption)))))
        have FJ34' : Fr a32 (b32) W7 := by rw [hW]; (repeat (first | (with_reducible assumption) | exact Fr.refl _ _ | (with_reducible refine Fr.drew ?_) | (with_reducible refine Fr.drewN ?_ _) | (with_reducible refine Fr.alloc ?_ _) | ((with_reducible refine Fr.set ?_ ?_ _); (focus (with_reducible assumption)))))
        have FJ109' : Fr a109 (b109) W7 := by rw [hW]; (repeat (first | (with_reducible assumption) | exact Fr.refl _ _ | (with_reducible refine Fr.drew ?_) | (with_reducible refine Fr.drewN ?_ _) | (with_reducible refine Fr.alloc ?_ _) | ((with_reducible refine Fr.set ?_ ?_ _); (focus (with_reducible assumption)))))
        have FJ124' : Fr a123 (b123) W7 := by rw [hW]; (repeat (first | (with_reducible assumption) | exact Fr.refl _ _ | (with_reducible refine Fr.drew ?_) | (with_reducible refine Fr.drewN ?_ _) | (with_reducible refine Fr.alloc ?_ _) | ((with_reducible refine Fr.set ?_ ?_ _); (focus (with_reducible assumption)))))
        have FJ125' : Fr a123 (b123) W7 := by rw [hW]; (repeat (first | (with_reducible assumption) | exact Fr.refl _ _ | (with_reducible refine Fr.drew ?_) | (with_reducible refine Fr.drewN ?_ _) | (with_reducible refine Fr.alloc ?_ _) | ((with_reducible refine Fr.set ?_ ?_ _); (focus (with_reducible assumption)))))
        have FJ134' : Fr a133 (b133) W7 := by rw [hW]; (repeat (first | (with_reducible assumption) | exact Fr.refl _ _ | (with_reducible refine Fr.drew ?_) | (with_reducible refine Fr.drewN ?_ _) | (with_reducible refine Fr.alloc ?_ _) | ((with_reducible refine Fr.set ?_ ?_ _); (focus (with_reducible assumption)))))
        have FJ135' : Fr a133 (b133) W7 := by rw [hW]; (repeat (first | (with_reducible assumption) | exact Fr.refl _ _ | (with_reducible refine Fr.drew ?_) | (with_reducible refine Fr.drewN ?_ _) | (with_reducible refine Fr.alloc ?_ _) | ((with_reducible refine Fr.set ?_ ?_ _); (focus (with_reducible assumption)))))
        clear hW
        clear FJ135 FJ134 FJ125 FJ124 FJ109 FJ34 FJ33 FJ28 hXx2 hXq2 hXx1 hXq1 hXg hXr hXq hXo hXc hXb hXa hB
        have hB := hB'; have hXa := hXa'; have hXb := hXb'; have hXc := hXc'; have hXo := hXo'; have hXq := hXq'; have hXr := hXr'; have hXg := hXg'; have hXq1 := hXq1'; have hXx1 := hXx1'; have hXq2 := hXq2'; have hXx2 := hXx2'; have FJ28 := FJ28'; have FJ33 := FJ33'; have FJ34 := FJ34'; have FJ109 := FJ109'; have FJ124 := FJ124'; have FJ125 := FJ125'; have FJ134 := FJ134'; have FJ135 := FJ135'
        clear hB' hXa' hXb' hXc' hXo' hXq' hXr' hXg' hXq1' hXx1' hXq2' hXx2' FJ28' FJ33' FJ34' FJ109' FJ124' FJ125' FJ134' FJ135'
        go_upto_region 18 with (fail)
        obtain ⟨f18, Hf18⟩ : ∃ q : Int, q = Int.fdiv z109 x := ⟨_, rfl⟩
        replace Hf18 := Lib.hid Hf18
        refine wp_region_facts7 (by kernel_rfl) (fun i => (Fk.at [.ni z109, .nz x 1000, .nq f18 0 0, .nm 140 3 [(2, .int .i64 0)], .ne 137 0, .ne 137 1, .nv (.int .i64 0), .np [Value.bool false, Value.slice none 0 0], .np [Value.bool false, Value.slice none 0 0]] i).says) (fun i => List.getD [[], [], [], [140], [137], [137], [], [], []] i []) [138, 139, 140, 137, 141, 142, 143, 18, 19] ?A1801 9 [] [] (fun _ => rfl) (fun h => absurd rfl h) ?hA1801 _ rfl (by kernel_rfl) (by kernel_rfl) (fun _ _ _ _ _ _ _ => Fk.keep _) ?steps1801 ?fin1801
        case hA1801 => intro t; (try simp only [putAll, Act.put, List.setIfInBounds_toArray, List.set_cons_zero, List.set_cons_succ]); (try exact rfl)
        case steps1801 =>
          refine ⟨?_, ?_, ?_, ?_, ?_, ?_, ?_, ?_, ?_, trivial⟩
          · intro a wk hx hb hg K hK
            have g11 : a.tmps.getD 11 undef = .pointer (some ⟨b11, 0, none⟩) := hx 11 (by kernel_rfl)
            exact step_run rfl (op_load g11 (ld_int _ _ 0 _ _ (hXg.below hb).c0 (hXg.below hb).c1) (hK _ _ (Below.refl _ _) ((J109.out.fr FJ109).i2.keep hb)))
          · intro a wk hx hb hg K hK
            have g5 : a.tmps.getD 5 undef = .pointer (some ⟨w.heap.size + 2, 0, none⟩) := hx 5 (by kernel_rfl)
            exact step_run rfl (op_load g5 (ld_int _ _ 0 _ _ (hXc.below hb).c0 (hXc.below hb).c1) (hK _ _ (Below.refl _ _) ((IC.out.keep hB).keep hb)))
          · intro a wk hx hb hg K hK
            have g138 := fk_i (z := z109) (hg 0 138 (by kernel_rfl) rfl)
            have g139 := fk_z (z := x) (k := 1000) (hg 1 139 (by kernel_rfl) rfl)
            exact step_run rfl (op_call2 (by kernel_rfl) (div_law (I2.iz g138 (Bz109.out)) g139 (by decide) HX.out Hf18.out.symm (fmod_dvd HG3.out)) (TellsQ.step hK))
          · intro a wk hx hb hg K hK
            have g140 := fk_q (q := f18) (r := 0) (n := 0) (hg 2 140 (by kernel_rfl) rfl)
            obtain ⟨x140, y140, e140⟩ := g140
            exact step_run rfl (op_move rfl (hK _ _ (Below.refl _ _) ⟨(rs_at (l := [140]) (t := fun d => a.tmps.getD d undef) (d := 140) rfl).symm, _, e140, rfl, by intro p hp; simp only [List.mem_singleton] at hp; subst hp; rfl⟩))
          · intro a wk hx hb hg K hK
            have g137 := fk_m (src := 140) (m := 3) (ks := [(2, .int .i64 0)]) (hg 3 137 (by kernel_rfl) rfl)
            obtain ⟨vs, e137, hm, hk⟩ := g137
            exact step_run rfl (op_extract e137 (Array.getElem?_eq_getElem (by omega)) (hK _ _ (Below.refl _ _) ⟨vs, (rs_at (l := [137]) (t := fun d => a.tmps.getD d undef) (d := 137) rfl).trans e137, Array.getElem?_eq_getElem (by omega)⟩))
          · intro a wk hx hb hg K hK
            have g137 := fk_m (src := 140) (m := 3) (ks := [(2, .int .i64 0)]) (hg 3 137 (by kernel_rfl) rfl)
            obtain ⟨vs, e137, hm, hk⟩ := g137
            exact step_run rfl (op_extract e137 (Array.getElem?_eq_getElem (by omega)) (hK _ _ (Below.refl _ _) ⟨vs, (rs_at (l := [137]) (t := fun d => a.tmps.getD d undef) (d := 137) rfl).trans e137, Array.getElem?_eq_getElem (by omega)⟩))
          · intro a wk hx hb hg K hK
            have g137 := fk_m (src := 140) (m := 3) (ks := [(2, .int .i64 0)]) (hg 3 137 (by kernel_rfl) rfl)
            obtain ⟨vs, e137, hm, hk⟩ := g137
            exact step_run rfl (op_extract e137 (hk (2, _) (List.mem_singleton.2 rfl)) (hK _ _ (Below.refl _ _) rfl))
          · intro a wk hx hb hg K hK
            exact step_run rfl (op_alloc (al_int _) (hK _ _ ((Below.refl _ _).alloc (Nat.le_refl _) _) ⟨rfl, size_alloc _ _, Box.new _ _ rfl rfl⟩))
          · intro a wk hx hb hg K hK
            exact step_run rfl (op_alloc (al_int _) (hK _ _ ((Below.refl _ _).alloc (Nat.le_refl _) _) ⟨rfl, size_alloc _ _, Box.new _ _ rfl rfl⟩))
        intro t1801 lo1801 hi1801 V1801 hb2 hF hD
        obtain ⟨j140, k140, m140, a140, ha140, ⟨x140_0, x140_1, e140, hio140_0, hio140_1⟩, hfr140⟩ : _ ∧ _ ∧ _ ∧ (.nq f18 0 0 : Fk).says _ (lo1801 2) (hi1801 2) V1801 (t1801 140) := hF 2 140 rfl
        obtain ⟨j18, k18, m18, e18, hh18, hX18⟩ : _ ∧ _ ∧ _ ∧ (.np [Value.bool false, Value.slice none 0 0] : Fk).says _ (lo1801 7) (hi1801 7) V1801 (t1801 18) := hF 7 18 rfl
        obtain ⟨j19, k19, m19, e19, hh19, hX19⟩ : _ ∧ _ ∧ _ ∧ (.np [Value.bool false, Value.slice none 0 0] : Fk).says _ (lo1801 8) (hi1801 8) V1801 (t1801 19) := hF 8 19 rfl
        have em141 : t1801 137 = t1801 140 := (hF 3 137 rfl).2.2.2.1.trans (rs_at (l := [140]) (t := t1801) (d := 140) rfl)
        have e141 : t1801 141 = x140_0 := by obtain ⟨vs, h1, h2⟩ : ∃ vs : Array Value, rs [137] t1801 137 = .tuple vs ∧ vs[0]? = some (t1801 141) := (hF 4 141 rfl).2.2.2; rw [rs_at rfl, em141, e140] at h1; injection h1 with h1; subst h1; injection h2 with h2; exact h2.symm
        clear em141
        obtain ⟨na141, ao141, nn141, ac141, ex141⟩ := hio140_0.opq
        rw [ex141] at hio140_0 e141
        have em142 : t1801 137 = t1801 140 := (hF 3 137 rfl).2.2.2.1.trans (rs_at (l := [140]) (t := t1801) (d := 140) rfl)
        have e142 : t1801 142 = x140_1 := by obtain ⟨vs, h1, h2⟩ : ∃ vs : Array Value, rs [137] t1801 137 = .tuple vs ∧ vs[1]? = some (t1801 142) := (hF 5 142 rfl).2.2.2; rw [rs_at rfl, em142, e140] at h1; injection h1 with h1; subst h1; injection h2 with h2; exact h2.symm
        clear em142
        obtain ⟨na142, ao142, nn142, ac142, ex142⟩ := hio140_1.opq
        rw [ex142] at hio140_1 e142
        have q1 := hD 2 7 (by decide) (by decide) (by decide)
        have q2 := hD 2 8 (by decide) (by decide) (by decide)
        have q3 := hD 7 8 (by decide) (by decide) (by decide)
        have e143 : t1801 143 = .int .i64 0 := (hF 6 143 rfl).2.2.2
        clear hF hD
        obtain ⟨b140, eb140⟩ : ∃ b, b = lo1801 2 := ⟨_, rfl⟩
        obtain ⟨b18, eb18⟩ : ∃ b, b = lo1801 7 := ⟨_, rfl⟩
        obtain ⟨b19, eb19⟩ : ∃ b, b = lo1801 8 := ⟨_, rfl⟩
        rw [← eb140] at hio140_0 hio140_1 hfr140 q1 q2 j140 k140
        rw [← ha140] at q1 q2 k140 m140
        rw [← eb18] at e18 hX18 q1 q3 hh18 j18 k18
        rw [hh18] at q1 q3 m18
        rw [← eb19] at e19 hX19 q2 q3 hh19 j19 k19
        rw [hh19] at q2 q3 m19
        clear ha140 hh18 hh19 eb140 eb18 eb19 k140 k18 k19
        have hbs := hB.size
        have hlta := hXa.lt
        have hltb := hXb.lt
        have hltc := hXc.lt
        have hlto := hXo.lt
        have hltq := hXq.lt
        have hltr := hXr.lt
        have hltg := hXg.lt
        have hltq1 := hXq1.lt
        have hltx1 := hXx1.lt
        have hltq2 := hXq2.lt
        have hltx2 := hXx2.lt
        have hszJ28 := FJ28.size
        have hszJ33 := FJ33.size
        have hszJ34 := FJ34.size
        have hszJ109 := FJ109.size
        have hszJ124 := FJ124.size
        have hszJ125 := FJ125.size
        have hszJ134 := FJ134.size
        have hszJ135 := FJ135.size
        have hgq3 : w.heap.size ≤ b18 := Nat.le_trans hbs j18
        have hgx3 : w.heap.size ≤ b19 := Nat.le_trans hbs j19
        have hn_q3_a : b18 ≠ w.heap.size := Nat.ne_of_gt (Nat.lt_of_lt_of_le hlta j18)
        have hn_q3_b : b18 ≠ w.heap.size + 1 := Nat.ne_of_gt (Nat.lt_of_lt_of_le hltb j18)
        have hn_q3_c : b18 ≠ w.heap.size + 2 := Nat.ne_of_gt (Nat.lt_of_lt_of_le hltc j18)
        have hn_q3_o : b18 ≠ b7 := Nat.ne_of_gt (Nat.lt_of_lt_of_le hlto j18)
        have hn_q3_q : b18 ≠ b8 := Nat.ne_of_gt (Nat.lt_of_lt_of_le hltq j18)
        have hn_q3_r : b18 ≠ b9 := Nat.ne_of_gt (Nat.lt_of_lt_of_le hltr j18)
        have hn_q3_g : b18 ≠ b11 := Nat.ne_of_gt (Nat.lt_of_lt_of_le hltg j18)
        have hn_q3_q1 : b18 ≠ b12 := Nat.ne_of_gt (Nat.lt_of_lt_of_le hltq1 j18)
        have hn_q3_x1 : b18 ≠ b13 := Nat.ne_of_gt (Nat.lt_of_lt_of_le hltx1 j18)
        have hn_q3_q2 : b18 ≠ b15 := Nat.ne_of_gt (Nat.lt_of_lt_of_le hltq2 j18)
        have hn_q3_x2 : b18 ≠ b16 := Nat.ne_of_gt (Nat.lt_of_lt_of_le hltx2 j18)
        have hd_J28_q3 : b18 < b28 ∨ a28.heap.size ≤ b18 := .inr (Nat.le_trans hszJ28 j18)
        have hd_J33_q3 : b18 < b32 ∨ a32.heap.size ≤ b18 := .inr (Nat.le_trans hszJ33 j18)
        have hd_J34_q3 : b18 < b32 ∨ a32.heap.size ≤ b18 := .inr (Nat.le_trans hszJ34 j18)
        have hd_J109_q3 : b18 < b109 ∨ a109.heap.size ≤ b18 := .inr (Nat.le_trans hszJ109 j18)
        have hd_J124_q3 : b18 < b123 ∨ a123.heap.size ≤ b18 := .inr (Nat.le_trans hszJ124 j18)
        have hd_J125_q3 : b18 < b123 ∨ a123.heap.size ≤ b18 := .inr (Nat.le_trans hszJ125 j18)
        have hd_J134_q3 : b18 < b133 ∨ a133.heap.size ≤ b18 := .inr (Nat.le_trans hszJ134 j18)
        have hd_J135_q3 : b18 < b133 ∨ a133.heap.size ≤ b18 := .inr (Nat.le_trans hszJ135 j18)
        have hn_x3_a : b19 ≠ w.heap.size := Nat.ne_of_gt (Nat.lt_of_lt_of_le hlta j19)
        have hn_x3_b : b19 ≠ w.heap.size + 1 := Nat.ne_of_gt (Nat.lt_of_lt_of_le hltb j19)
        have hn_x3_c : b19 ≠ w.heap.size + 2 := Nat.ne_of_gt (Nat.lt_of_lt_of_le hltc j19)
        have hn_x3_o : b19 ≠ b7 := Nat.ne_of_gt (Nat.lt_of_lt_of_le hlto j19)
        have hn_x3_q : b19 ≠ b8 := Nat.ne_of_gt (Nat.lt_of_lt_of_le hltq j19)
        have hn_x3_r : b19 ≠ b9 := Nat.ne_of_gt (Nat.lt_of_lt_of_le hltr j19)
        have hn_x3_g : b19 ≠ b11 := Nat.ne_of_gt (Nat.lt_of_lt_of_le hltg j19)
        have hn_x3_q1 : b19 ≠ b12 := Nat.ne_of_gt (Nat.lt_of_lt_of_le hltq1 j19)
        have hn_x3_x1 : b19 ≠ b13 := Nat.ne_of_gt (Nat.lt_of_lt_of_le hltx1 j19)
        have hn_x3_q2 : b19 ≠ b15 := Nat.ne_of_gt (Nat.lt_of_lt_of_le hltq2 j19)
        have hn_x3_x2 : b19 ≠ b16 := Nat.ne_of_gt (Nat.lt_of_lt_of_le hltx2 j19)
        have hn_x3_q3 : b19 ≠ b18 := ne_of_disj q3
        have hd_J28_x3 : b19 < b28 ∨ a28.heap.size ≤ b19 := .inr (Nat.le_trans hszJ28 j19)
        have hd_J33_x3 : b19 < b32 ∨ a32.heap.size ≤ b19 := .inr (Nat.le_trans hszJ33 j19)
        have hd_J34_x3 : b19 < b32 ∨ a32.heap.size ≤ b19 := .inr (Nat.le_trans hszJ34 j19)
        have hd_J109_x3 : b19 < b109 ∨ a109.heap.size ≤ b19 := .inr (Nat.le_trans hszJ109 j19)
        have hd_J124_x3 : b19 < b123 ∨ a123.heap.size ≤ b19 := .inr (Nat.le_trans hszJ124 j19)
        have hd_J125_x3 : b19 < b123 ∨ a123.heap.size ≤ b19 := .inr (Nat.le_trans hszJ125 j19)
        have hd_J134_x3 : b19 < b133 ∨ a133.heap.size ≤ b19 := .inr (Nat.le_trans hszJ134 j19)
        have hd_J135_x3 : b19 < b133 ∨ a133.heap.size ≤ b19 := .inr (Nat.le_trans hszJ135 j19)
        have hd_J141_q3 : b18 < b140 ∨ a140.heap.size ≤ b18 := q1.symm
        have hd_J141_x3 : b19 < b140 ∨ a140.heap.size ≤ b19 := q2.symm
        have hd_J141_a : w.heap.size < b140 ∨ a140.heap.size ≤ w.heap.size := .inl (Nat.lt_of_lt_of_le hlta j140)
        have hd_J141_b : w.heap.size + 1 < b140 ∨ a140.heap.size ≤ w.heap.size + 1 := .inl (Nat.lt_of_lt_of_le hltb j140)
        have hd_J141_c : w.heap.size + 2 < b140 ∨ a140.heap.size ≤ w.heap.size + 2 := .inl (Nat.lt_of_lt_of_le hltc j140)
        have hd_J141_o : b7 < b140 ∨ a140.heap.size ≤ b7 := .inl (Nat.lt_of_lt_of_le hlto j140)
        have hd_J141_q : b8 < b140 ∨ a140.heap.size ≤ b8 := .inl (Nat.lt_of_lt_of_le hltq j140)
        have hd_J141_r : b9 < b140 ∨ a140.heap.size ≤ b9 := .inl (Nat.lt_of_lt_of_le hltr j140)
        have hd_J141_g : b11 < b140 ∨ a140.heap.size ≤ b11 := .inl (Nat.lt_of_lt_of_le hltg j140)
        have hd_J141_q1 : b12 < b140 ∨ a140.heap.size ≤ b12 := .inl (Nat.lt_of_lt_of_le hltq1 j140)
        have hd_J141_x1 : b13 < b140 ∨ a140.heap.size ≤ b13 := .inl (Nat.lt_of_lt_of_le hltx1 j140)
        have hd_J141_q2 : b15 < b140 ∨ a140.heap.size ≤ b15 := .inl (Nat.lt_of_lt_of_le hltq2 j140)
        have hd_J141_x2 : b16 < b140 ∨ a140.heap.size ≤ b16 := .inl (Nat.lt_of_lt_of_le hltx2 j140)
        have hd_J142_q3 : b18 < b140 ∨ a140.heap.size ≤ b18 := q1.symm
        have hd_J142_x3 : b19 < b140 ∨ a140.heap.size ≤ b19 := q2.symm
        have hd_J142_a : w.heap.size < b140 ∨ a140.heap.size ≤ w.heap.size := .inl (Nat.lt_of_lt_of_le hlta j140)
        have hd_J142_b : w.heap.size + 1 < b140 ∨ a140.heap.size ≤ w.heap.size + 1 := .inl (Nat.lt_of_lt_of_le hltb j140)
        have hd_J142_c : w.heap.size + 2 < b140 ∨ a140.heap.size ≤ w.heap.size + 2 := .inl (Nat.lt_of_lt_of_le hltc j140)
        have hd_J142_o : b7 < b140 ∨ a140.heap.size ≤ b7 := .inl (Nat.lt_of_lt_of_le hlto j140)
        have hd_J142_q : b8 < b140 ∨ a140.heap.size ≤ b8 := .inl (Nat.lt_of_lt_of_le hltq j140)
        have hd_J142_r : b9 < b140 ∨ a140.heap.size ≤ b9 := .inl (Nat.lt_of_lt_of_le hltr j140)
        have hd_J142_g : b11 < b140 ∨ a140.heap.size ≤ b11 := .inl (Nat.lt_of_lt_of_le hltg j140)
        have hd_J142_q1 : b12 < b140 ∨ a140.heap.size ≤ b12 := .inl (Nat.lt_of_lt_of_le hltq1 j140)
        have hd_J142_x1 : b13 < b140 ∨ a140.heap.size ≤ b13 := .inl (Nat.lt_of_lt_of_le hltx1 j140)
        have hd_J142_q2 : b15 < b140 ∨ a140.heap.size ≤ b15 := .inl (Nat.lt_of_lt_of_le hltq2 j140)
        have hd_J142_x2 : b16 < b140 ∨ a140.heap.size ≤ b16 := .inl (Nat.lt_of_lt_of_le hltx2 j140)
        clear q1 q2 q3 j140 m140 j18 m18 j19 m19 hlta hltb hltc hlto hltq hltr hltg hltq1 hltx1 hltq2 hltx2 hszJ28 hszJ33 hszJ34 hszJ109 hszJ124 hszJ125 hszJ134 hszJ135 hbs
        have hB' := bw_below hB (hb2)
        have hXa' := hXa.below (hb2)
        have hXb' := hXb.below (hb2)
        have hXc' := hXc.below (hb2)
        have hXo' := hXo.below (hb2)
        have hXq' := hXq.below (hb2)
        have hXr' := hXr.below (hb2)
        have hXg' := hXg.below (hb2)
        have hXq1' := hXq1.below (hb2)
        have hXx1' := hXx1.below (hb2)
        have hXq2' := hXq2.below (hb2)
        have hXx2' := hXx2.below (hb2)
        have FJ28' := FJ28.below (hb2)
        have FJ33' := FJ33.below (hb2)
        have FJ34' := FJ34.below (hb2)
        have FJ109' := FJ109.below (hb2)
        have FJ124' := FJ124.below (hb2)
        have FJ125' := FJ125.below (hb2)
        have FJ134' := FJ134.below (hb2)
        have FJ135' := FJ135.below (hb2)
        clear hb2
        clear FJ135 FJ134 FJ125 FJ124 FJ109 FJ34 FJ33 FJ28 hXx2 hXq2 hXx1 hXq1 hXg hXr hXq hXo hXc hXb hXa hB
        have hB := hB'; have hXa := hXa'; have hXb := hXb'; have hXc := hXc'; have hXo := hXo'; have hXq := hXq'; have hXr := hXr'; have hXg := hXg'; have hXq1 := hXq1'; have hXx1 := hXx1'; have hXq2 := hXq2'; have hXx2 := hXx2'; have FJ28 := FJ28'; have FJ33 := FJ33'; have FJ34 := FJ34'; have FJ109 := FJ109'; have FJ124 := FJ124'; have FJ125 := FJ125'; have FJ134 := FJ134'; have FJ135 := FJ135'
        clear hB' hXa' hXb' hXc' hXo' hXq' hXr' hXg' hXq1' hXx1' hXq2' hXx2' FJ28' FJ33' FJ34' FJ109' FJ124' FJ125' FJ134' FJ135'
        have J141 := Lib.hid hio140_0
        have FJ141 := hfr140
        have J142 := Lib.hid hio140_1
        have FJ142 := hfr140
        clear hio140_0 hio140_1 hfr140
        have hXq3 := hX18; clear hX18
        have hXx3 := hX19; clear hX19
        
        show wpList _ _ _ [_, _, _] _ _
        simp only [e18, e19, e141, e142, e143]
        clear e18 e19 e141 e142 e143
        refine wl_store (b := b18) rfl rfl hXq3 ?_
        refine wl_store (b := b19) rfl rfl (Box.set hn_x3_q3 (Box.set hn_x3_q3 hXx3 0 _) 1 _) ?_
        refine wl_assign rfl ?_
        simp only [Act.put, List.setIfInBounds_toArray, List.set_cons_zero, List.set_cons_succ]
        refine wpList_nil ?_
        go_upto_region 19 with (fail)
        refine wp_gen fun W8 hW => ?_
        have hm8 : V1801.heap.size ≤ W8.heap.size := by rw [hW]; (first | (simp only [size_alloc, size_drew, size_drewN, size_set]; (repeat (first | exact Nat.le_refl _ | refine Nat.le_succ_of_le ?_)); done) | omega | (simp only [size_alloc, size_drew, size_drewN, size_set]; omega) | (simp only [size_alloc, size_drew, size_drewN, size_set]; done))
        have hB' : Below w.heap.size w W8 := by rw [hW]; (repeat (first | (with_reducible assumption) | exact Below.refl _ _ | (with_reducible refine Below.drew ?_) | (with_reducible refine belowN ?_ _) | (with_reducible refine bw_alloc ?_ _) | ((with_reducible refine bw_set ?_ ?_ _ _); (focus (with_reducible assumption)))))
        have hXa' : Box W8 (w.heap.size) [Value.bool na, Value.slice ao la.length ac] := by rw [hW]; (repeat (first | (with_reducible assumption) | (with_reducible refine Box.drew ?_) | (with_reducible refine Box.drewN ?_ _) | ((with_reducible refine Box.new _ _ ?_ ?_); (focus (first | (with_reducible exact rfl) | (simp only [size_alloc, size_drew, size_drewN, size_set]; done))); (focus (exact rfl))) | (with_reducible refine Box.alloc ?_ _) | ((with_reducible refine Box.put ?_ ?_ _ _ ?_); rotate_left) | ((with_reducible refine Box.set ?_ ?_ _ _); (focus (first | (with_reducible assumption) | (refine Ne.symm ?_; (with_reducible assumption))))) | (exact rfl)))
        have hXb' : Box W8 (w.heap.size + 1) [Value.bool nb, Value.slice bo lb.length bc] := by rw [hW]; (repeat (first | (with_reducible assumption) | (with_reducible refine Box.drew ?_) | (with_reducible refine Box.drewN ?_ _) | ((with_reducible refine Box.new _ _ ?_ ?_); (focus (first | (with_reducible exact rfl) | (simp only [size_alloc, size_drew, size_drewN, size_set]; done))); (focus (exact rfl))) | (with_reducible refine Box.alloc ?_ _) | ((with_reducible refine Box.put ?_ ?_ _ _ ?_); rotate_left) | ((with_reducible refine Box.set ?_ ?_ _ _); (focus (first | (with_reducible assumption) | (refine Ne.symm ?_; (with_reducible assumption))))) | (exact rfl)))
        have hXc' : Box W8 (w.heap.size + 2) [Value.bool nc, Value.slice co lc.length cc] := by rw [hW]; (repeat (first | (with_reducible assumption) | (with_reducible refine Box.drew ?_) | (with_reducible refine Box.drewN ?_ _) | ((with_reducible refine Box.new _ _ ?_ ?_); (focus (first | (with_reducible exact rfl) | (simp only [size_alloc, size_drew, size_drewN, size_set]; done))); (focus (exact rfl))) | (with_reducible refine Box.alloc ?_ _) | ((with_reducible refine Box.put ?_ ?_ _ _ ?_); rotate_left) | ((with_reducible refine Box.set ?_ ?_ _ _); (focus (first | (with_reducible assumption) | (refine Ne.symm ?_; (with_reducible assumption))))) | (exact rfl)))
        have hXo' : Box W8 (b7) [Value.bool na28, Value.slice ao28 nn28 ac28] := by rw [hW]; (repeat (first | (with_reducible assumption) | (with_reducible refine Box.drew ?_) | (with_reducible refine Box.drewN ?_ _) | ((with_reducible refine Box.new _ _ ?_ ?_); (focus (first | (with_reducible exact rfl) | (simp only [size_alloc, size_drew, size_drewN, size_set]; done))); (focus (exact rfl))) | (with_reducible refine Box.alloc ?_ _) | ((with_reducible refine Box.put ?_ ?_ _ _ ?_); rotate_left) | ((with_reducible refine Box.set ?_ ?_ _ _); (focus (first | (with_reducible assumption) | (refine Ne.symm ?_; (with_reducible assumption))))) | (exact rfl)))
        have hXq' : Box W8 (b8) [Value.bool na33, Value.slice ao33 nn33 ac33] := by rw [hW]; (repeat (first | (with_reducible assumption) | (with_reducible refine Box.drew ?_) | (with_reducible refine Box.drewN ?_ _) | ((with_reducible refine Box.new _ _ ?_ ?_); (focus (first | (with_reducible exact rfl) | (simp only [size_alloc, size_drew, size_drewN, size_set]; done))); (focus (exact rfl))) | (with_reducible refine Box.alloc ?_ _) | ((with_reducible refine Box.put ?_ ?_ _ _ ?_); rotate_left) | ((with_reducible refine Box.set ?_ ?_ _ _); (focus (first | (with_reducible assumption) | (refine Ne.symm ?_; (with_reducible assumption))))) | (exact rfl)))
        have hXr' : Box W8 (b9) [Value.bool na34, Value.slice ao34 nn34 ac34] := by rw [hW]; (repeat (first | (with_reducible assumption) | (with_reducible refine Box.drew ?_) | (with_reducible refine Box.drewN ?_ _) | ((with_reducible refine Box.new _ _ ?_ ?_); (focus (first | (with_reducible exact rfl) | (simp only [size_alloc, size_drew, size_drewN, size_set]; done))); (focus (exact rfl))) | (with_reducible refine Box.alloc ?_ _) | ((with_reducible refine Box.put ?_ ?_ _ _ ?_); rotate_left) | ((with_reducible refine Box.set ?_ ?_ _ _); (focus (first | (with_reducible assumption) | (refine Ne.symm ?_; (with_reducible assumption))))) | (exact rfl)))
        have hXg' : Box W8 (b11) [Value.bool na109, Value.slice ao109 nn109 ac109] := by rw [hW]; (repeat (first | (with_reducible assumption) | (with_reducible refine Box.drew ?_) | (with_reducible refine Box.drewN ?_ _) | ((with_reducible refine Box.new _ _ ?_ ?_); (focus (first | (with_reducible exact rfl) | (simp only [size_alloc, size_drew, size_drewN, size_set]; done))); (focus (exact rfl))) | (with_reducible refine Box.alloc ?_ _) | ((with_reducible refine Box.put ?_ ?_ _ _ ?_); rotate_left) | ((with_reducible refine Box.set ?_ ?_ _ _); (focus (first | (with_reducible assumption) | (refine Ne.symm ?_; (with_reducible assumption))))) | (exact rfl)))
        have hXq1' : Box W8 (b12) [Value.bool na124, Value.slice ao124 nn124 ac124] := by rw [hW]; (repeat (first | (with_reducible assumption) | (with_reducible refine Box.drew ?_) | (with_reducible refine Box.drewN ?_ _) | ((with_reducible refine Box.new _ _ ?_ ?_); (focus (first | (with_reducible exact rfl) | (simp only [size_alloc, size_drew, size_drewN, size_set]; done))); (focus (exact rfl))) | (with_reducible refine Box.alloc ?_ _) | ((with_reducible refine Box.put ?_ ?_ _ _ ?_); rotate_left) | ((with_reducible refine Box.set ?_ ?_ _ _); (focus (first | (with_reducible assumption) | (refine Ne.symm ?_; (with_reducible assumption))))) | (exact rfl)))
        have hXx1' : Box W8 (b13) [Value.bool na125, Value.slice ao125 nn125 ac125] := by rw [hW]; (repeat (first | (with_reducible assumption) | (with_reducible refine Box.drew ?_) | (with_reducible refine Box.drewN ?_ _) | ((with_reducible refine Box.new _ _ ?_ ?_); (focus (first | (with_reducible exact rfl) | (simp only [size_alloc, size_drew, size_drewN, size_set]; done))); (focus (exact rfl))) | (with_reducible refine Box.alloc ?_ _) | ((with_reducible refine Box.put ?_ ?_ _ _ ?_); rotate_left) | ((with_reducible refine Box.set ?_ ?_ _ _); (focus (first | (with_reducible assumption) | (refine Ne.symm ?_; (with_reducible assumption))))) | (exact rfl)))
        have hXq2' : Box W8 (b15) [Value.bool na134, Value.slice ao134 nn134 ac134] := by rw [hW]; (repeat (first | (with_reducible assumption) | (with_reducible refine Box.drew ?_) | (with_reducible refine Box.drewN ?_ _) | ((with_reducible refine Box.new _ _ ?_ ?_); (focus (first | (with_reducible exact rfl) | (simp only [size_alloc, size_drew, size_drewN, size_set]; done))); (focus (exact rfl))) | (with_reducible refine Box.alloc ?_ _) | ((with_reducible refine Box.put ?_ ?_ _ _ ?_); rotate_left) | ((with_reducible refine Box.set ?_ ?_ _ _); (focus (first | (with_reducible assumption) | (refine Ne.symm ?_; (with_reducible assumption))))) | (exact rfl)))
        have hXx2' : Box W8 (b16) [Value.bool na135, Value.slice ao135 nn135 ac135] := by rw [hW]; (repeat (first | (with_reducible assumption) | (with_reducible refine Box.drew ?_) | (with_reducible refine Box.drewN ?_ _) | ((with_reducible refine Box.new _ _ ?_ ?_); (focus (first | (with_reducible exact rfl) | (simp only [size_alloc, size_drew, size_drewN, size_set]; done))); (focus (exact rfl))) | (with_reducible refine Box.alloc ?_ _) | ((with_reducible refine Box.put ?_ ?_ _ _ ?_); rotate_left) | ((with_reducible refine Box.set ?_ ?_ _ _); (focus (first | (with_reducible assumption) | (refine Ne.symm ?_; (with_reducible assumption))))) | (exact rfl)))
        have hXq3' : Box W8 (b18) [Value.bool na141, Value.slice ao141 nn141 ac141] := by rw [hW]; (repeat (first | (with_reducible assumption) | (with_reducible refine Box.drew ?_) | (with_reducible refine Box.drewN ?_ _) | ((with_reducible refine Box.new _ _ ?_ ?_); (focus (first | (with_reducible exact rfl) | (simp only [size_alloc, size_drew, size_drewN, size_set]; done))); (focus (exact rfl))) | (with_reducible refine Box.alloc ?_ _) | ((with_reducible refine Box.put ?_ ?_ _ _ ?_); rotate_left) | ((with_reducible refine Box.set ?_ ?_ _ _); (focus (first | (with_reducible assumption) | (refine Ne.symm ?_; (with_reducible assumption))))) | (exact rfl)))
        have hXx3' : Box W8 (b19) [Value.bool na142, Value.slice ao142 nn142 ac142] := by rw [hW]; (repeat (first | (with_reducible assumption) | (with_reducible refine Box.drew ?_) | (with_reducible refine Box.drewN ?_ _) | ((with_reducible refine Box.new _ _ ?_ ?_); (focus (first | (with_reducible exact rfl) | (simp only [size_alloc, size_drew, size_drewN, size_set]; done))); (focus (exact rfl))) | (with_reducible refine Box.alloc ?_ _) | ((with_reducible refine Box.put ?_ ?_ _ _ ?_); rotate_left) | ((with_reducible refine Box.set ?_ ?_ _ _); (focus (first | (with_reducible assumption) | (refine Ne.symm ?_; (with_reducible assumption))))) | (exact rfl)))
        have FJ28' : Fr a28 (b28) W8 := by rw [hW]; (repeat (first | (with_reducible assumption) | exact Fr.refl _ _ | (with_reducible refine Fr.drew ?_) | (with_reducible refine Fr.drewN ?_ _) | (with_reducible refine Fr.alloc ?_ _) | ((with_reducible refine Fr.set ?_ ?_ _); (focus (with_reducible assumption)))))
        have FJ33' : Fr a32 (b32) W8 := by rw [hW]; (repeat (first | (with_reducible assumption) | exact Fr.refl _ _ | (with_reducible refine Fr.drew ?_) | (with_reducible refine Fr.drewN ?_ _) | (with_reducible refine Fr.alloc ?_ _) | ((with_reducible refine Fr.set ?_ ?_ _); (focus (with_reducible assumption)))))
        have FJ34' : Fr a32 (b32) W8 := by rw [hW]; (repeat (first | (with_reducible assumption) | exact Fr.refl _ _ | (with_reducible refine Fr.drew ?_) | (with_reducible refine Fr.drewN ?_ _) | (with_reducible refine Fr.alloc ?_ _) | ((with_reducible refine Fr.set ?_ ?_ _); (focus (with_reducible assumption)))))
        have FJ109' : Fr a109 (b109) W8 := by rw [hW]; (repeat (first | (with_reducible assumption) | exact Fr.refl _ _ | (with_reducible refine Fr.drew ?_) | (with_reducible refine Fr.drewN ?_ _) | (with_reducible refine Fr.alloc ?_ _) | ((with_reducible refine Fr.set ?_ ?_ _); (focus (with_reducible assumption)))))
        have FJ124' : Fr a123 (b123) W8 := by rw [hW]; (repeat (first | (with_reducible assumption) | exact Fr.refl _ _ | (with_reducible refine Fr.drew ?_) | (with_reducible refine Fr.drewN ?_ _) | (with_reducible refine Fr.alloc ?_ _) | ((with_reducible refine Fr.set ?_ ?_ _); (focus (with_reducible assumption)))))
        have FJ125' : Fr a123 (b123) W8 := by rw [hW]; (repeat (first | (with_reducible assumption) | exact Fr.refl _ _ | (with_reducible refine Fr.drew ?_) | (with_reducible refine Fr.drewN ?_ _) | (with_reducible refine Fr.alloc ?_ _) | ((with_reducible refine Fr.set ?_ ?_ _); (focus (with_reducible assumption)))))
        have FJ134' : Fr a133 (b133) W8 := by rw [hW]; (repeat (first | (with_reducible assumption) | exact Fr.refl _ _ | (with_reducible refine Fr.drew ?_) | (with_reducible refine Fr.drewN ?_ _) | (with_reducible refine Fr.alloc ?_ _) | ((with_reducible refine Fr.set ?_ ?_ _); (focus (with_reducible assumption)))))
        have FJ135' : Fr a133 (b133) W8 := by rw [hW]; (repeat (first | (with_reducible assumption) | exact Fr.refl _ _ | (with_reducible refine Fr.drew ?_) | (with_reducible refine Fr.drewN ?_ _) | (with_reducible refine Fr.alloc ?_ _) | ((with_reducible refine Fr.set ?_ ?_ _); (focus (with_reducible assumption)))))
        have FJ141' : Fr a140 (b140) W8 := by rw [hW]; (repeat (first | (with_reducible assumption) | exact Fr.refl _ _ | (with_reducible refine Fr.drew ?_) | (with_reducible refine Fr.drewN ?_ _) | (with_reducible refine Fr.alloc ?_ _) | ((with_reducible refine Fr.set ?_ ?_ _); (focus (with_reducible assumption)))))
        have FJ142' : Fr a140 (b140) W8 := by rw [hW]; (repeat (first | (with_reducible assumption) | exact Fr.refl _ _ | (with_reducible refine Fr.drew ?_) | (with_reducible refine Fr.drewN ?_ _) | (with_reducible refine Fr.alloc ?_ _) | ((with_reducible refine Fr.set ?_ ?_ _); (focus (with_reducible assumption)))))
        clear hW
        clear FJ142 FJ141 FJ135 FJ134 FJ125 FJ124 FJ109 FJ34 FJ33 FJ28 hXx3 hXq3 hXx2 hXq2 hXx1 hXq1 hXg hXr hXq hXo hXc hXb hXa hB
        have hB := hB'; have hXa := hXa'; have hXb := hXb'; have hXc := hXc'; have hXo := hXo'; have hXq := hXq'; have hXr := hXr'; have hXg := hXg'; have hXq1 := hXq1'; have hXx1 := hXx1'; have hXq2 := hXq2'; have hXx2 := hXx2'; have hXq3 := hXq3'; have hXx3 := hXx3'; have FJ28 := FJ28'; have FJ33 := FJ33'; have FJ34 := FJ34'; have FJ109 := FJ109'; have FJ124 := FJ124'; have FJ125 := FJ125'; have FJ134 := FJ134'; have FJ135 := FJ135'; have FJ141 := FJ141'; have FJ142 := FJ142'
        clear hB' hXa' hXb' hXc' hXo' hXq' hXr' hXg' hXq1' hXx1' hXq2' hXx2' hXq3' hXx3' FJ28' FJ33' FJ34' FJ109' FJ124' FJ125' FJ134' FJ135' FJ141' FJ142'
        refine wp_region_facts7 (by kernel_rfl) (fun i => (Fk.at [.ni z109, .ni (0), .nv (.int .i64 1), .nv (.bool true), .nv (.bool true), .nv (.int .i64 0), .nv (.bool true), .nv (.bool true), .nv (.bool true), .nv (.int .i64 0), .nv (.bool true), .nv (.bool true), .nv (.bool true), .nv (.int .i64 0), .nv (.bool true), .nv (.bool true), .nv (.bool true), .ni 0, .ni (0), .nv (.bool true), .nv (.bool true), .nv (.bool true), .ni 0, .ni (0), .nv (.bool true), .nv (.bool true), .nv (.bool true), .ni 0, .ni (0), .nv (.bool true), .nv (.bool true), .nv (.bool true)] i).says) (fun i => List.getD [] i []) [144, 145, 146, 147, 148, 149, 150, 151, 152, 153, 154, 155, 156, 157, 158, 159, 160, 161, 162, 163, 164, 165, 166, 167, 168, 169, 170, 171, 172, 173, 174, 6] ?A1901 32 [] [] (fun _ => rfl) (fun h => absurd rfl h) ?hA1901 _ rfl (by kernel_rfl) (by kernel_rfl) (fun _ _ _ _ _ _ _ => Fk.keep _) ?steps1901 ?fin1901
        case hA1901 => intro t; (try simp only [putAll, Act.put, List.setIfInBounds_toArray, List.set_cons_zero, List.set_cons_succ]); (try exact rfl)
        case steps1901 =>
          refine ⟨?_, ?_, ?_, ?_, ?_, ?_, ?_, ?_, ?_, ?_, ?_, ?_, ?_, ?_, ?_, ?_, ?_, ?_, ?_, ?_, ?_, ?_, ?_, ?_, ?_, ?_, ?_, ?_, ?_, ?_, ?_, ?_, trivial⟩
          · intro a wk hx hb hg K hK
            have g11 : a.tmps.getD 11 undef = .pointer (some ⟨b11, 0, none⟩) := hx 11 (by kernel_rfl)
            exact step_run rfl (op_load g11 (ld_int _ _ 0 _ _ (hXg.below hb).c0 (hXg.below hb).c1) (hK _ _ (Below.refl _ _) ((J109.out.fr FJ109).i2.keep hb)))
          · intro a wk hx hb hg K hK
            have g7 : a.tmps.getD 7 undef = .pointer (some ⟨b7, 0, none⟩) := hx 7 (by kernel_rfl)
            exact step_run rfl (op_load g7 (ld_int _ _ 0 _ _ (hXo.below hb).c0 (hXo.below hb).c1) (hK _ _ (Below.refl _ _) ((J28.out.fr FJ28).i2.keep hb)))
          · intro a wk hx hb hg K hK
            have g144 := fk_i (z := z109) (hg 0 144 (by kernel_rfl) rfl)
            have g145 := fk_i (z := (0)) (hg 1 145 (by kernel_rfl) rfl)
            exact step_run rfl (op_call2 (by kernel_rfl) (cmp_law (I2.iz g144 (Bz109.out)) (I2.iz g145 ((zb1 (by decide) : ZB (0) 1))) (by decide) (cmpI_gt HG0.out)) (TellsV.step hK))
          · intro a wk hx hb hg K hK
            have g146 : a.tmps.getD 146 undef = .int .i64 1 := fk_v (hg 2 146 (by kernel_rfl) rfl)
            exact step_run rfl (op_bin g146 rfl (bin_gtI.trans (congrArg (fun x => Result.ok (Value.bool x) wk) (by decide))) (hK _ _ (Below.refl _ _) rfl))
          · intro a wk hx hb hg K hK
            have g147 : a.tmps.getD 147 undef = .bool true := fk_v (hg 3 147 (by kernel_rfl) rfl)
            exact step_run rfl (op_move g147 (hK _ _ (Below.refl _ _) rfl))
          · intro a wk hx hb hg K hK
            have g14 : a.tmps.getD 14 undef = .int .i64 0 := hx 14 (by kernel_rfl)
            have g148 : a.tmps.getD 148 undef = .bool true := fk_v (hg 4 148 (by kernel_rfl) rfl)
            exact step_run (wanted_some (d := 148) rfl g148 rfl) (op_move g14 (hK _ _ (Below.refl _ _) rfl))
          · intro a wk hx hb hg K hK
            have g149 : a.tmps.getD 149 undef = .int .i64 0 := fk_v (hg 5 149 (by kernel_rfl) rfl)
            have g148 : a.tmps.getD 148 undef = .bool true := fk_v (hg 4 148 (by kernel_rfl) rfl)
            exact step_run (wanted_some (d := 148) rfl g148 rfl) (op_bin g149 rfl (bin_eqI.trans (congrArg (fun x => Result.ok (Value.bool x) wk) (by decide))) (hK _ _ (Below.refl _ _) rfl))
          · intro a wk hx hb hg K hK
            have g148 : a.tmps.getD 148 undef = .bool true := fk_v (hg 4 148 (by kernel_rfl) rfl)
            have g150 : a.tmps.getD 150 undef = .bool true := fk_v (hg 6 150 (by kernel_rfl) rfl)
            exact step_run rfl (op_pickT g148 g150 (hK _ _ (Below.refl _ _) rfl))
          · intro a wk hx hb hg K hK
            have g151 : a.tmps.getD 151 undef = .bool true := fk_v (hg 7 151 (by kernel_rfl) rfl)
            exact step_run rfl (op_move g151 (hK _ _ (Below.refl _ _) rfl))
          · intro a wk hx hb hg K hK
            have g17 : a.tmps.getD 17 undef = .int .i64 0 := hx 17 (by kernel_rfl)
            have g152 : a.tmps.getD 152 undef = .bool true := fk_v (hg 8 152 (by kernel_rfl) rfl)
            exact step_run (wanted_some (d := 152) rfl g152 rfl) (op_move g17 (hK _ _ (Below.refl _ _) rfl))
          · intro a wk hx hb hg K hK
            have g153 : a.tmps.getD 153 undef = .int .i64 0 := fk_v (hg 9 153 (by kernel_rfl) rfl)
            have g152 : a.tmps.getD 152 undef = .bool true := fk_v (hg 8 152 (by kernel_rfl) rfl)
            exact step_run (wanted_some (d := 152) rfl g152 rfl) (op_bin g153 rfl (bin_eqI.trans (congrArg (fun x => Result.ok (Value.bool x) wk) (by decide))) (hK _ _ (Below.refl _ _) rfl))
          · intro a wk hx hb hg K hK
            have g152 : a.tmps.getD 152 undef = .bool true := fk_v (hg 8 152 (by kernel_rfl) rfl)
            have g154 : a.tmps.getD 154 undef = .bool true := fk_v (hg 10 154 (by kernel_rfl) rfl)
            exact step_run rfl (op_pickT g152 g154 (hK _ _ (Below.refl _ _) rfl))
          · intro a wk hx hb hg K hK
            have g155 : a.tmps.getD 155 undef = .bool true := fk_v (hg 11 155 (by kernel_rfl) rfl)
            exact step_run rfl (op_move g155 (hK _ _ (Below.refl _ _) rfl))
          · intro a wk hx hb hg K hK
            have g20 : a.tmps.getD 20 undef = .int .i64 0 := hx 20 (by kernel_rfl)
            have g156 : a.tmps.getD 156 undef = .bool true := fk_v (hg 12 156 (by kernel_rfl) rfl)
            exact step_run (wanted_some (d := 156) rfl g156 rfl) (op_move g20 (hK _ _ (Below.refl _ _) rfl))
          · intro a wk hx hb hg K hK
            have g157 : a.tmps.getD 157 undef = .int .i64 0 := fk_v (hg 13 157 (by kernel_rfl) rfl)
            have g156 : a.tmps.getD 156 undef = .bool true := fk_v (hg 12 156 (by kernel_rfl) rfl)
            exact step_run (wanted_some (d := 156) rfl g156 rfl) (op_bin g157 rfl (bin_eqI.trans (congrArg (fun x => Result.ok (Value.bool x) wk) (by decide))) (hK _ _ (Below.refl _ _) rfl))
          · intro a wk hx hb hg K hK
            have g156 : a.tmps.getD 156 undef = .bool true := fk_v (hg 12 156 (by kernel_rfl) rfl)
            have g158 : a.tmps.getD 158 undef = .bool true := fk_v (hg 14 158 (by kernel_rfl) rfl)
            exact step_run rfl (op_pickT g156 g158 (hK _ _ (Below.refl _ _) rfl))
          · intro a wk hx hb hg K hK
            have g159 : a.tmps.getD 159 undef = .bool true := fk_v (hg 15 159 (by kernel_rfl) rfl)
            exact step_run rfl (op_move g159 (hK _ _ (Below.refl _ _) rfl))
          · intro a wk hx hb hg K hK
            have g13 : a.tmps.getD 13 undef = .pointer (some ⟨b13, 0, none⟩) := hx 13 (by kernel_rfl)
            have g160 : a.tmps.getD 160 undef = .bool true := fk_v (hg 16 160 (by kernel_rfl) rfl)
            exact step_run (wanted_some (d := 160) rfl g160 rfl) (op_load g13 (ld_int _ _ 0 _ _ (hXx1.below hb).c0 (hXx1.below hb).c1) (hK _ _ (Below.refl _ _) ((J125.out.fr FJ125).i2.keep hb)))
          · intro a wk hx hb hg K hK
            have g7 : a.tmps.getD 7 undef = .pointer (some ⟨b7, 0, none⟩) := hx 7 (by kernel_rfl)
            have g160 : a.tmps.getD 160 undef = .bool true := fk_v (hg 16 160 (by kernel_rfl) rfl)
            exact step_run (wanted_some (d := 160) rfl g160 rfl) (op_load g7 (ld_int _ _ 0 _ _ (hXo.below hb).c0 (hXo.below hb).c1) (hK _ _ (Below.refl _ _) ((J28.out.fr FJ28).i2.keep hb)))
          · intro a wk hx hb hg K hK
            have g161 := fk_i (z := 0) (hg 17 161 (by kernel_rfl) rfl)
            have g162 := fk_i (z := (0)) (hg 18 162 (by kernel_rfl) rfl)
            have g160 : a.tmps.getD 160 undef = .bool true := fk_v (hg 16 160 (by kernel_rfl) rfl)
            exact step_run (wanted_some (d := 160) rfl g160 rfl) (op_call2 (by kernel_rfl) (same_law g161 g162 ((zb1 (by decide) : ZB 0 1)) (by decide) (by decide)) (TellsV.step hK))
          · intro a wk hx hb hg K hK
            have g160 : a.tmps.getD 160 undef = .bool true := fk_v (hg 16 160 (by kernel_rfl) rfl)
            have g163 : a.tmps.getD 163 undef = .bool true := fk_v (hg 19 163 (by kernel_rfl) rfl)
            exact step_run rfl (op_pickT g160 g163 (hK _ _ (Below.refl _ _) rfl))
          · intro a wk hx hb hg K hK
            have g164 : a.tmps.getD 164 undef = .bool true := fk_v (hg 20 164 (by kernel_rfl) rfl)
            exact step_run rfl (op_move g164 (hK _ _ (Below.refl _ _) rfl))
          · intro a wk hx hb hg K hK
            have g16 : a.tmps.getD 16 undef = .pointer (some ⟨b16, 0, none⟩) := hx 16 (by kernel_rfl)
            have g165 : a.tmps.getD 165 undef = .bool true := fk_v (hg 21 165 (by kernel_rfl) rfl)
            exact step_run (wanted_some (d := 165) rfl g165 rfl) (op_load g16 (ld_int _ _ 0 _ _ (hXx2.below hb).c0 (hXx2.below hb).c1) (hK _ _ (Below.refl _ _) ((J135.out.fr FJ135).i2.keep hb)))
          · intro a wk hx hb hg K hK
            have g7 : a.tmps.getD 7 undef = .pointer (some ⟨b7, 0, none⟩) := hx 7 (by kernel_rfl)
            have g165 : a.tmps.getD 165 undef = .bool true := fk_v (hg 21 165 (by kernel_rfl) rfl)
            exact step_run (wanted_some (d := 165) rfl g165 rfl) (op_load g7 (ld_int _ _ 0 _ _ (hXo.below hb).c0 (hXo.below hb).c1) (hK _ _ (Below.refl _ _) ((J28.out.fr FJ28).i2.keep hb)))
          · intro a wk hx hb hg K hK
            have g166 := fk_i (z := 0) (hg 22 166 (by kernel_rfl) rfl)
            have g167 := fk_i (z := (0)) (hg 23 167 (by kernel_rfl) rfl)
            have g165 : a.tmps.getD 165 undef = .bool true := fk_v (hg 21 165 (by kernel_rfl) rfl)
            exact step_run (wanted_some (d := 165) rfl g165 rfl) (op_call2 (by kernel_rfl) (same_law g166 g167 ((zb1 (by decide) : ZB 0 1)) (by decide) (by decide)) (TellsV.step hK))
          · intro a wk hx hb hg K hK
            have g165 : a.tmps.getD 165 undef = .bool true := fk_v (hg 21 165 (by kernel_rfl) rfl)
            have g168 : a.tmps.getD 168 undef = .bool true := fk_v (hg 24 168 (by kernel_rfl) rfl)
            exact step_run rfl (op_pickT g165 g168 (hK _ _ (Below.refl _ _) rfl))
          · intro a wk hx hb hg K hK
            have g169 : a.tmps.getD 169 undef = .bool true := fk_v (hg 25 169 (by kernel_rfl) rfl)
            exact step_run rfl (op_move g169 (hK _ _ (Below.refl _ _) rfl))
          · intro a wk hx hb hg K hK
            have g19 : a.tmps.getD 19 undef = .pointer (some ⟨b19, 0, none⟩) := hx 19 (by kernel_rfl)
            have g170 : a.tmps.getD 170 undef = .bool true := fk_v (hg 26 170 (by kernel_rfl) rfl)
            exact step_run (wanted_some (d := 170) rfl g170 rfl) (op_load g19 (ld_int _ _ 0 _ _ (hXx3.below hb).c0 (hXx3.below hb).c1) (hK _ _ (Below.refl _ _) ((J142.out.fr FJ142).i2.keep hb)))
          · intro a wk hx hb hg K hK
            have g7 : a.tmps.getD 7 undef = .pointer (some ⟨b7, 0, none⟩) := hx 7 (by kernel_rfl)
            have g170 : a.tmps.getD 170 undef = .bool true := fk_v (hg 26 170 (by kernel_rfl) rfl)
            exact step_run (wanted_some (d := 170) rfl g170 rfl) (op_load g7 (ld_int _ _ 0 _ _ (hXo.below hb).c0 (hXo.below hb).c1) (hK _ _ (Below.refl _ _) ((J28.out.fr FJ28).i2.keep hb)))
          · intro a wk hx hb hg K hK
            have g171 := fk_i (z := 0) (hg 27 171 (by kernel_rfl) rfl)
            have g172 := fk_i (z := (0)) (hg 28 172 (by kernel_rfl) rfl)
            have g170 : a.tmps.getD 170 undef = .bool true := fk_v (hg 26 170 (by kernel_rfl) rfl)
            exact step_run (wanted_some (d := 170) rfl g170 rfl) (op_call2 (by kernel_rfl) (same_law g171 g172 ((zb1 (by decide) : ZB 0 1)) (by decide) (by decide)) (TellsV.step hK))
          · intro a wk hx hb hg K hK
            have g170 : a.tmps.getD 170 undef = .bool true := fk_v (hg 26 170 (by kernel_rfl) rfl)
            have g173 : a.tmps.getD 173 undef = .bool true := fk_v (hg 29 173 (by kernel_rfl) rfl)
            exact step_run rfl (op_pickT g170 g173 (hK _ _ (Below.refl _ _) rfl))
          · intro a wk hx hb hg K hK
            have g174 : a.tmps.getD 174 undef = .bool true := fk_v (hg 30 174 (by kernel_rfl) rfl)
            exact step_run rfl (op_assign g174 (hK _ _ (Below.refl _ _) rfl))
        intro t1901 lo1901 hi1901 V1901 hb2 hF hD
        have gb : t1901 6 = .bool true := (hF 31 6 rfl).2.2.2
        clear hF hD
        refine wpList_nil ?_
        simp only [gb]
        go_wp2_with fail
        go_ret
        exact ⟨rfl, bw_below hB hb2⟩

end Go.Proofs.YtemcpgfoggdaiaaDoor
