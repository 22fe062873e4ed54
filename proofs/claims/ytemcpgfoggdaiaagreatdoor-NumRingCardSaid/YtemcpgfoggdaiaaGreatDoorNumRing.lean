/- The law NumRing, walked. -/
import Derived.Test.YtemcpgfoggdaiaaGreatDoorAwk
namespace Go.Proofs.YtemcpgfoggdaiaaGreatDoor
open Go.RowKit
set_option linter.unusedSimpArgs false
set_option linter.unusedVariables false
attribute [local go_sem ↓] Go.wp_at_zero Go.wp_at_succ

set_option maxRecDepth 100000 in
set_option maxHeartbeats 8000000 in
theorem numRing_any (va vb vc : Value) (na nb nc : Bool) (la lb lc : List Nat) (w : World) (hA : IV w va na la) (hB0 : IV w vb nb lb) (hC : IV w vc nc lc) (hla : la.length ≤ 9223372036854770000) (hlb : lb.length ≤ 9223372036854770000) (hlc : lc.length ≤ 9223372036854770000) (htab : Tab w) :
    Calls Tryz.prog 5 #[va, vb, vc] w fun e w' => e = .returned (.bool true) ∧ Below w.heap.size w w' := by
  have HT := Lib.hid htab
  obtain ⟨ao, ac, rfl, -⟩ := hA.sh2
  obtain ⟨bo, bc, rfl, -⟩ := hB0.sh2
  obtain ⟨co, cc, rfl, -⟩ := hC.sh2
  have HA := Lib.hid hA
  have HB := Lib.hid hB0
  have HC := Lib.hid hC
  have HLA := Lib.hid hla
  have HLB := Lib.hid hlb
  have HLC := Lib.hid hlc
  clear hA hB0 hC htab hla hlb hlc
  go_enter Tryz.func5, Tryz.ntmps5
  go_wp2_with fail
  have hB := Below.refl w.heap.size w
  have hbs := hB.size
  have hga : w.heap.size ≤ w.heap.size := by omega
  have hgb : w.heap.size ≤ w.heap.size + 1 := by omega
  have hn_b_a : w.heap.size + 1 ≠ w.heap.size := by omega
  have hgc : w.heap.size ≤ w.heap.size + 2 := by omega
  have hn_c_a : w.heap.size + 2 ≠ w.heap.size := by omega
  have hn_c_b : w.heap.size + 2 ≠ w.heap.size + 1 := by omega
  clear hbs
  refine calls_gen fun W1 hW => ?_
  have hm1 : w.heap.size ≤ W1.heap.size := by rw [hW]; (first | omega | (simp only [size_alloc, size_drew, size_drewN, size_set]; omega) | (simp only [size_alloc, size_drew, size_drewN, size_set]; done))
  have hB' : Below w.heap.size w W1 := by rw [hW]; (repeat (first | (with_reducible assumption) | exact Below.refl _ _ | (with_reducible refine Below.drew ?_) | (with_reducible refine belowN ?_ _) | (with_reducible refine bw_alloc ?_ _) | ((with_reducible refine bw_set ?_ ?_ _ _); (focus (with_reducible assumption)))))
  have hXa' : Box W1 (w.heap.size) [Value.bool na, Value.slice ao la.length ac] := by rw [hW]; (repeat (first | (with_reducible assumption) | (with_reducible refine Box.drew ?_) | (with_reducible refine Box.drewN ?_ _) | ((with_reducible refine Box.new _ _ ?_ ?_); (focus (first | (with_reducible exact rfl) | (simp only [size_alloc, size_drew, size_drewN, size_set]; done))); (focus (exact rfl))) | (with_reducible refine Box.alloc ?_ _) | ((with_reducible refine Box.put ?_ ?_ _ _ ?_); rotate_left) | ((with_reducible refine Box.set ?_ ?_ _ _); (focus (first | (with_reducible assumption) | (refine Ne.symm ?_; (with_reducible assumption))))) | (exact rfl)))
  have hXb' : Box W1 (w.heap.size + 1) [Value.bool nb, Value.slice bo lb.length bc] := by rw [hW]; (repeat (first | (with_reducible assumption) | (with_reducible refine Box.drew ?_) | (with_reducible refine Box.drewN ?_ _) | ((with_reducible refine Box.new _ _ ?_ ?_); (focus (first | (with_reducible exact rfl) | (simp only [size_alloc, size_drew, size_drewN, size_set]; done))); (focus (exact rfl))) | (with_reducible refine Box.alloc ?_ _) | ((with_reducible refine Box.put ?_ ?_ _ _ ?_); rotate_left) | ((with_reducible refine Box.set ?_ ?_ _ _); (focus (first | (with_reducible assumption) | (refine Ne.symm ?_; (with_reducible assumption))))) | (exact rfl)))
  have hXc' : Box W1 (w.heap.size + 2) [Value.bool nc, Value.slice co lc.length cc] := by rw [hW]; (repeat (first | (with_reducible assumption) | (with_reducible refine Box.drew ?_) | (with_reducible refine Box.drewN ?_ _) | ((with_reducible refine Box.new _ _ ?_ ?_); (focus (first | (with_reducible exact rfl) | (simp only [size_alloc, size_drew, size_drewN, size_set]; done))); (focus (exact rfl))) | (with_reducible refine Box.alloc ?_ _) | ((with_reducible refine Box.put ?_ ?_ _ _ ?_); rotate_left) | ((with_reducible refine Box.set ?_ ?_ _ _); (focus (first | (with_reducible assumption) | (refine Ne.symm ?_; (with_reducible assumption))))) | (exact rfl)))
  clear hW
  clear hB
  have hB := hB'; have hXa := hXa'; have hXb := hXb'; have hXc := hXc'
  clear hB' hXa' hXb' hXc'
  have hca_0 := hXa.c0; have hca_1 := hXa.c1; have hcb_0 := hXb.c0; have hcb_1 := hXb.c1; have hcc_0 := hXc.c0; have hcc_1 := hXc.c1
  refine (awake2_any _ (HT.out.keep hB)).mono ?_
  rintro e W2 ⟨rfl, hb⟩
  have hL : Below W1.heap.size W1 W2 := hb
  have hm2 := hL.size
  have hB' := bw_below hB hL
  have hXa' := hXa.below hL
  have hXb' := hXb.below hL
  have hXc' := hXc.below hL
  clear hL hb
  clear hcc_1 hcc_0 hcb_1 hcb_0 hca_1 hca_0 hXc hXb hXa hB
  have hB := hB'; have hXa := hXa'; have hXb := hXb'; have hXc := hXc'
  clear hB' hXa' hXb' hXc'
  have hca_0 := hXa.c0; have hca_1 := hXa.c1; have hcb_0 := hXb.c0; have hcb_1 := hXb.c1; have hcc_0 := hXc.c0; have hcc_1 := hXc.c1
  go_upto_region 3 with (fail)
  cases hG : greatZ [(na, la), (nb, lb), (nc, lc)]
  rotate_left
  · have HG := Lib.hid hG
    clear hG
    refine wp_region_facts5 (by kernel_rfl) (fun i => (Fk.at [.nw (na, la), .nw (nb, lb), .nw (nc, lc), .nr [(na, la), (nb, lb), (nc, lc)], .nv (.bool true)] i).says) [15, 16, 17, 18, 19] ?A103 5 [] ?hA103 _ rfl (by kernel_rfl) (fun _ _ _ _ _ _ => Fk.keep _) ?steps103 ?fin103
    case hA103 => intro t; (try simp only [putAll, Act.put, List.setIfInBounds_toArray, List.set_cons_zero, List.set_cons_succ]); (try exact rfl)
    case steps103 =>
      refine ⟨?_, ?_, ?_, ?_, ?_, trivial⟩
      · intro a wk hx hb hg K hK
        have g3 : a.tmps.getD 3 undef = .pointer (some ⟨w.heap.size, 0, none⟩) := hx 3 (by kernel_rfl)
        clear hx hg
        intro k hk; obtain rfl : true = k := hk
        have HK := Lib.hid hK; clear hK
        dsimp only
        have hX' := hXa.below hb
        exact op_load g3 (ld_int _ _ 0 _ _ hX'.c0 hX'.c1) (HK.out _ _ (Below.refl _ _) ((HA.out.keep hB).keep hb))
      · intro a wk hx hb hg K hK
        have g4 : a.tmps.getD 4 undef = .pointer (some ⟨w.heap.size + 1, 0, none⟩) := hx 4 (by kernel_rfl)
        clear hx hg
        intro k hk; obtain rfl : true = k := hk
        have HK := Lib.hid hK; clear hK
        dsimp only
        have hX' := hXb.below hb
        exact op_load g4 (ld_int _ _ 0 _ _ hX'.c0 hX'.c1) (HK.out _ _ (Below.refl _ _) ((HB.out.keep hB).keep hb))
      · intro a wk hx hb hg K hK
        have g5 : a.tmps.getD 5 undef = .pointer (some ⟨w.heap.size + 2, 0, none⟩) := hx 5 (by kernel_rfl)
        clear hx hg
        intro k hk; obtain rfl : true = k := hk
        have HK := Lib.hid hK; clear hK
        dsimp only
        have hX' := hXc.below hb
        exact op_load g5 (ld_int _ _ 0 _ _ hX'.c0 hX'.c1) (HK.out _ _ (Below.refl _ _) ((HC.out.keep hB).keep hb))
      · intro a wk hx hb hg K hK
        obtain ⟨l15, h15, -, -, -, g15⟩ : ∃ lo hi, _ ∧ _ ∧ _ ∧ (.nw (na, la) : Fk).says lo hi wk (a.tmps.getD 15 undef) := hg 0 15 (by kernel_rfl) rfl
        obtain ⟨l16, h16, -, -, -, g16⟩ : ∃ lo hi, _ ∧ _ ∧ _ ∧ (.nw (nb, lb) : Fk).says lo hi wk (a.tmps.getD 16 undef) := hg 1 16 (by kernel_rfl) rfl
        obtain ⟨l17, h17, -, -, -, g17⟩ : ∃ lo hi, _ ∧ _ ∧ _ ∧ (.nw (nc, lc) : Fk).says lo hi wk (a.tmps.getD 17 undef) := hg 2 17 (by kernel_rfl) rfl
        clear hx hg
        intro k hk; obtain rfl : true = k := hk
        have HK := Lib.hid hK; clear hK
        dsimp only
        obtain ⟨x, w2, hr, hb2, hl⟩ := lay3 (p0 := (na, la)) g15 (p1 := (nb, lb)) g16 (p2 := (nc, lc)) g17
        exact op_slice (by simp [Act.eval]) hr (HK.out _ _ hb2 hl)
      · intro a wk hx hb hg K hK
        obtain ⟨l18, h18, -, -, -, g18⟩ : ∃ lo hi, _ ∧ _ ∧ _ ∧ (.nr [(na, la), (nb, lb), (nc, lc)] : Fk).says lo hi wk (a.tmps.getD 18 undef) := hg 3 18 (by kernel_rfl) rfl
        clear hx hg
        intro k hk; obtain rfl : true = k := hk
        have HK := Lib.hid hK; clear hK
        dsimp only
        exact op_call1 (by kernel_rfl) (great_law g18 (by intro i hi; match i, hi with | 0, _ => exact HLA.out | 1, _ => exact HLB.out | 2, _ => exact HLC.out) HG.out) (TellsV.step HK.out)
    case fin103 =>
      intro t lo hi W2 hb2 hF hD
      have g19 : t 19 = .bool true := (hF 4 19 rfl).2.2.2
      clear hF hD
      refine wpList_nil ?_
      simp only [g19]
      go_wp2_with fail
      go_ret
      exact ⟨rfl, bw_below hB hb2⟩
  · have HG := Lib.hid hG
    obtain ⟨k1, k2, k3⟩ := great3 hG
    clear hG
    have IA : Hid (IZ w (.agg #[.bool na, .slice ao la.length ac]) (zV na la) 1000) := HA.out.iz k1
    have IB : Hid (IZ w (.agg #[.bool nb, .slice bo lb.length bc]) (zV nb lb) 1000) := HB.out.iz k2
    have IC : Hid (IZ w (.agg #[.bool nc, .slice co lc.length cc]) (zV nc lc) 1000) := HC.out.iz k3
    generalize ey : zV na la = y at IA
    generalize ez : zV nb lb = z at IB
    generalize ex : zV nc lc = x at IC
    clear ey ez ex k1 k2 k3
    have By := Lib.hid (ZB.mono (k := 1001) IA.out.zb (by decide))
    have Bz := Lib.hid (ZB.mono (k := 1001) IB.out.zb (by decide))
    have Bx := Lib.hid (ZB.mono (k := 1001) IC.out.zb (by decide))
    obtain ⟨z24, Hz24⟩ : ∃ q : Int, q = (((0 + y) + z) + x) := ⟨_, rfl⟩
    have Bz24 := Lib.hid (show ZB z24 3006 by rw [Hz24]; exact ZB.mono (ZB.add (ZB.add (ZB.add (ZB.zero 0) By.out) Bz.out) Bx.out) (by decide))
    replace Hz24 := Lib.hid Hz24
    obtain ⟨z29, Hz29⟩ : ∃ q : Int, q = (((1 * y) * z) * x) := ⟨_, rfl⟩
    have Bz29 := Lib.hid (show ZB z29 3004 by rw [Hz29]; exact ZB.mono (ZB.mul (ZB.mul (ZB.mul ZB.one By.out) Bz.out) Bx.out) (by decide))
    replace Hz29 := Lib.hid Hz29
    obtain ⟨z33, Hz33⟩ : ∃ q : Int, q = -y := ⟨_, rfl⟩
    have Bz33 := Lib.hid (show ZB z33 1001 by rw [Hz33]; exact ZB.mono (ZB.neg By.out) (by decide))
    replace Hz33 := Lib.hid Hz33
    obtain ⟨z36, Hz36⟩ : ∃ q : Int, q = y - z := ⟨_, rfl⟩
    have Bz36 := Lib.hid (show ZB z36 2003 by rw [Hz36]; exact ZB.mono (ZB.sub By.out Bz.out) (by decide))
    replace Hz36 := Lib.hid Hz36
    obtain ⟨z41, Hz41⟩ : ∃ q : Int, q = (gcd2 (gcd2 (gcd2 0 y) z) x) := ⟨_, rfl⟩
    have Bz41 := Lib.hid (show ZB z41 3006 by rw [Hz41]; exact ZB.mono (zb_gcd2 (zb_gcd2 (zb_gcd2 (ZB.zero 0) By.out) Bz.out) Bx.out) (by decide))
    replace Hz41 := Lib.hid Hz41
    obtain ⟨z84, Hz84⟩ : ∃ q : Int, q = ((0 + z) + y) := ⟨_, rfl⟩
    have Bz84 := Lib.hid (show ZB z84 2004 by rw [Hz84]; exact ZB.mono (ZB.add (ZB.add (ZB.zero 0) Bz.out) By.out) (by decide))
    replace Hz84 := Lib.hid Hz84
    obtain ⟨z86, Hz86⟩ : ∃ q : Int, q = ((0 + x) + z84) := ⟨_, rfl⟩
    have Bz86 := Lib.hid (show ZB z86 3007 by rw [Hz86]; exact ZB.mono (ZB.add (ZB.add (ZB.zero 0) Bx.out) Bz84.out) (by decide))
    replace Hz86 := Lib.hid Hz86
    obtain ⟨z94, Hz94⟩ : ∃ q : Int, q = ((1 * x) * z) := ⟨_, rfl⟩
    have Bz94 := Lib.hid (show ZB z94 2003 by rw [Hz94]; exact ZB.mono (ZB.mul (ZB.mul ZB.one Bx.out) Bz.out) (by decide))
    replace Hz94 := Lib.hid Hz94
    obtain ⟨z97, Hz97⟩ : ∃ q : Int, q = ((1 * z94) * y) := ⟨_, rfl⟩
    have Bz97 := Lib.hid (show ZB z97 3005 by rw [Hz97]; exact ZB.mono (ZB.mul (ZB.mul ZB.one Bz94.out) By.out) (by decide))
    replace Hz97 := Lib.hid Hz97
    obtain ⟨z106, Hz106⟩ : ∃ q : Int, q = ((0 + z) + x) := ⟨_, rfl⟩
    have Bz106 := Lib.hid (show ZB z106 2004 by rw [Hz106]; exact ZB.mono (ZB.add (ZB.add (ZB.zero 0) Bz.out) Bx.out) (by decide))
    replace Hz106 := Lib.hid Hz106
    obtain ⟨z108, Hz108⟩ : ∃ q : Int, q = ((1 * y) * z106) := ⟨_, rfl⟩
    have Bz108 := Lib.hid (show ZB z108 3006 by rw [Hz108]; exact ZB.mono (ZB.mul (ZB.mul ZB.one By.out) Bz106.out) (by decide))
    replace Hz108 := Lib.hid Hz108
    obtain ⟨z112, Hz112⟩ : ∃ q : Int, q = ((1 * y) * z) := ⟨_, rfl⟩
    have Bz112 := Lib.hid (show ZB z112 2003 by rw [Hz112]; exact ZB.mono (ZB.mul (ZB.mul ZB.one By.out) Bz.out) (by decide))
    replace Hz112 := Lib.hid Hz112
    obtain ⟨z116, Hz116⟩ : ∃ q : Int, q = ((1 * y) * x) := ⟨_, rfl⟩
    have Bz116 := Lib.hid (show ZB z116 2003 by rw [Hz116]; exact ZB.mono (ZB.mul (ZB.mul ZB.one By.out) Bx.out) (by decide))
    replace Hz116 := Lib.hid Hz116
    obtain ⟨z118, Hz118⟩ : ∃ q : Int, q = ((0 + z112) + z116) := ⟨_, rfl⟩
    have Bz118 := Lib.hid (show ZB z118 4008 by rw [Hz118]; exact ZB.mono (ZB.add (ZB.add (ZB.zero 0) Bz112.out) Bz116.out) (by decide))
    replace Hz118 := Lib.hid Hz118
    obtain ⟨z124, Hz124⟩ : ∃ q : Int, q = y - y := ⟨_, rfl⟩
    have Bz124 := Lib.hid (show ZB z124 2003 by rw [Hz124]; exact ZB.mono (ZB.sub By.out By.out) (by decide))
    replace Hz124 := Lib.hid Hz124
    obtain ⟨z131, Hz131⟩ : ∃ q : Int, q = y - z := ⟨_, rfl⟩
    have Bz131 := Lib.hid (show ZB z131 2003 by rw [Hz131]; exact ZB.mono (ZB.sub By.out Bz.out) (by decide))
    replace Hz131 := Lib.hid Hz131
    obtain ⟨z134, Hz134⟩ : ∃ q : Int, q = z - y := ⟨_, rfl⟩
    have Bz134 := Lib.hid (show ZB z134 2003 by rw [Hz134]; exact ZB.mono (ZB.sub Bz.out By.out) (by decide))
    replace Hz134 := Lib.hid Hz134
    obtain ⟨z135, Hz135⟩ : ∃ q : Int, q = -z134 := ⟨_, rfl⟩
    have Bz135 := Lib.hid (show ZB z135 2003 by rw [Hz135]; exact ZB.mono (ZB.neg Bz134.out) (by decide))
    replace Hz135 := Lib.hid Hz135
    obtain ⟨z142, Hz142⟩ : ∃ q : Int, q = y - z := ⟨_, rfl⟩
    have Bz142 := Lib.hid (show ZB z142 2003 by rw [Hz142]; exact ZB.mono (ZB.sub By.out Bz.out) (by decide))
    replace Hz142 := Lib.hid Hz142
    obtain ⟨z145, Hz145⟩ : ∃ q : Int, q = ((0 + z142) + z) := ⟨_, rfl⟩
    have Bz145 := Lib.hid (show ZB z145 3006 by rw [Hz145]; exact ZB.mono (ZB.add (ZB.add (ZB.zero 0) Bz142.out) Bz.out) (by decide))
    replace Hz145 := Lib.hid Hz145
    obtain ⟨z148, Hz148⟩ : ∃ q : Int, q = (0 + y) := ⟨_, rfl⟩
    have Bz148 := Lib.hid (show ZB z148 1002 by rw [Hz148]; exact ZB.mono (ZB.add (ZB.zero 0) By.out) (by decide))
    replace Hz148 := Lib.hid Hz148
    obtain ⟨z158, Hz158⟩ : ∃ q : Int, q = ((0 + y) + x) := ⟨_, rfl⟩
    have Bz158 := Lib.hid (show ZB z158 2004 by rw [Hz158]; exact ZB.mono (ZB.add (ZB.add (ZB.zero 0) By.out) Bx.out) (by decide))
    replace Hz158 := Lib.hid Hz158
    obtain ⟨z162, Hz162⟩ : ∃ q : Int, q = ((0 + z) + x) := ⟨_, rfl⟩
    have Bz162 := Lib.hid (show ZB z162 2004 by rw [Hz162]; exact ZB.mono (ZB.add (ZB.add (ZB.zero 0) Bz.out) Bx.out) (by decide))
    replace Hz162 := Lib.hid Hz162
    obtain ⟨z181, Hz181⟩ : ∃ q : Int, q = y - z := ⟨_, rfl⟩
    have Bz181 := Lib.hid (show ZB z181 2003 by rw [Hz181]; exact ZB.mono (ZB.sub By.out Bz.out) (by decide))
    replace Hz181 := Lib.hid Hz181
    refine wp_region_facts5 (by kernel_rfl) (fun i => (Fk.at [.nw (na, la), .nw (nb, lb), .nw (nc, lc), .nr [(na, la), (nb, lb), (nc, lc)], .nv (.bool false)] i).says) [15, 16, 17, 18, 19] ?A3 5 [] ?hA3 _ rfl (by kernel_rfl) (fun _ _ _ _ _ _ => Fk.keep _) ?steps3 ?fin3
    case hA3 => intro t; (try simp only [putAll, Act.put, List.setIfInBounds_toArray, List.set_cons_zero, List.set_cons_succ]); (try exact rfl)
    case steps3 =>
      refine ⟨?_, ?_, ?_, ?_, ?_, trivial⟩
      · intro a wk hx hb hg K hK
        have g3 : a.tmps.getD 3 undef = .pointer (some ⟨w.heap.size, 0, none⟩) := hx 3 (by kernel_rfl)
        clear hx hg
        intro k hk; obtain rfl : true = k := hk
        have HK := Lib.hid hK; clear hK
        dsimp only
        have hX' := hXa.below hb
        exact op_load g3 (ld_int _ _ 0 _ _ hX'.c0 hX'.c1) (HK.out _ _ (Below.refl _ _) ((HA.out.keep hB).keep hb))
      · intro a wk hx hb hg K hK
        have g4 : a.tmps.getD 4 undef = .pointer (some ⟨w.heap.size + 1, 0, none⟩) := hx 4 (by kernel_rfl)
        clear hx hg
        intro k hk; obtain rfl : true = k := hk
        have HK := Lib.hid hK; clear hK
        dsimp only
        have hX' := hXb.below hb
        exact op_load g4 (ld_int _ _ 0 _ _ hX'.c0 hX'.c1) (HK.out _ _ (Below.refl _ _) ((HB.out.keep hB).keep hb))
      · intro a wk hx hb hg K hK
        have g5 : a.tmps.getD 5 undef = .pointer (some ⟨w.heap.size + 2, 0, none⟩) := hx 5 (by kernel_rfl)
        clear hx hg
        intro k hk; obtain rfl : true = k := hk
        have HK := Lib.hid hK; clear hK
        dsimp only
        have hX' := hXc.below hb
        exact op_load g5 (ld_int _ _ 0 _ _ hX'.c0 hX'.c1) (HK.out _ _ (Below.refl _ _) ((HC.out.keep hB).keep hb))
      · intro a wk hx hb hg K hK
        obtain ⟨l15, h15, -, -, -, g15⟩ : ∃ lo hi, _ ∧ _ ∧ _ ∧ (.nw (na, la) : Fk).says lo hi wk (a.tmps.getD 15 undef) := hg 0 15 (by kernel_rfl) rfl
        obtain ⟨l16, h16, -, -, -, g16⟩ : ∃ lo hi, _ ∧ _ ∧ _ ∧ (.nw (nb, lb) : Fk).says lo hi wk (a.tmps.getD 16 undef) := hg 1 16 (by kernel_rfl) rfl
        obtain ⟨l17, h17, -, -, -, g17⟩ : ∃ lo hi, _ ∧ _ ∧ _ ∧ (.nw (nc, lc) : Fk).says lo hi wk (a.tmps.getD 17 undef) := hg 2 17 (by kernel_rfl) rfl
        clear hx hg
        intro k hk; obtain rfl : true = k := hk
        have HK := Lib.hid hK; clear hK
        dsimp only
        obtain ⟨x, w2, hr, hb2, hl⟩ := lay3 (p0 := (na, la)) g15 (p1 := (nb, lb)) g16 (p2 := (nc, lc)) g17
        exact op_slice (by simp [Act.eval]) hr (HK.out _ _ hb2 hl)
      · intro a wk hx hb hg K hK
        obtain ⟨l18, h18, -, -, -, g18⟩ : ∃ lo hi, _ ∧ _ ∧ _ ∧ (.nr [(na, la), (nb, lb), (nc, lc)] : Fk).says lo hi wk (a.tmps.getD 18 undef) := hg 3 18 (by kernel_rfl) rfl
        clear hx hg
        intro k hk; obtain rfl : true = k := hk
        have HK := Lib.hid hK; clear hK
        dsimp only
        exact op_call1 (by kernel_rfl) (great_law g18 (by intro i hi; match i, hi with | 0, _ => exact HLA.out | 1, _ => exact HLB.out | 2, _ => exact HLC.out) HG.out) (TellsV.step HK.out)
    case fin3 =>
      intro t3 lo3 hi3 WG hb2 hF hD
      have g19 : t3 19 = .bool false := (hF 4 19 rfl).2.2.2
      clear hF hD
      refine wpList_nil ?_
      simp only [g19]
      clear g19
      have hB' := bw_below hB (hb2)
      have hXa' := hXa.below (hb2)
      have hXb' := hXb.below (hb2)
      have hXc' := hXc.below (hb2)
      clear hb2
      clear hcc_1 hcc_0 hcb_1 hcb_0 hca_1 hca_0 hXc hXb hXa hB
      have hB := hB'; have hXa := hXa'; have hXb := hXb'; have hXc := hXc'
      clear hB' hXa' hXb' hXc'
      have hca_0 := hXa.c0; have hca_1 := hXa.c1; have hcb_0 := hXb.c0; have hcb_1 := hXb.c1; have hcc_0 := hXc.c0; have hcc_1 := hXc.c1
      go_wp2_with fail
      refine wp_region_facts5 (by kernel_rfl) (fun i => (Fk.at [.nz y 1000, .nz z 1000, .nz x 1000, .nl [y, z, x] 3006, .no z24, .nz y 1000, .nz z 1000, .nz x 1000, .nl [y, z, x] 3006, .no z29, .np [Value.bool false, Value.slice none 0 0], .np [Value.bool false, Value.slice none 0 0]] i).says) [20, 21, 22, 23, 24, 25, 26, 27, 28, 29, 7, 8] ?A5 12 [0, 0, 0, 7, 15, 0, 0, 0, 224, 511, 0, 0, 4095, 8191] ?hA5 _ rfl (by kernel_rfl) (fun _ _ _ _ _ _ => Fk.keep _) ?steps5 ?fin5
      case hA5 => intro t; (try simp only [putAll, Act.put, List.setIfInBounds_toArray, List.set_cons_zero, List.set_cons_succ]); (try exact rfl)
      case steps5 =>
        refine ⟨?_, ?_, ?_, ?_, ?_, ?_, ?_, ?_, ?_, ?_, ?_, ?_, trivial⟩
        · intro a wk hx hb hg K hK
          have g3 : a.tmps.getD 3 undef = .pointer (some ⟨w.heap.size, 0, none⟩) := hx 3 (by kernel_rfl)
          clear hx hg
          intro k hk; obtain rfl : true = k := hk
          have HK := Lib.hid hK; clear hK
          dsimp only
          have hX' := hXa.below hb
          exact op_load g3 (ld_int _ _ 0 _ _ hX'.c0 hX'.c1) (HK.out _ _ (Below.refl _ _) ((IA.out.keep hB).keep hb))
        · intro a wk hx hb hg K hK
          have g4 : a.tmps.getD 4 undef = .pointer (some ⟨w.heap.size + 1, 0, none⟩) := hx 4 (by kernel_rfl)
          clear hx hg
          intro k hk; obtain rfl : true = k := hk
          have HK := Lib.hid hK; clear hK
          dsimp only
          have hX' := hXb.below hb
          exact op_load g4 (ld_int _ _ 0 _ _ hX'.c0 hX'.c1) (HK.out _ _ (Below.refl _ _) ((IB.out.keep hB).keep hb))
        · intro a wk hx hb hg K hK
          have g5 : a.tmps.getD 5 undef = .pointer (some ⟨w.heap.size + 2, 0, none⟩) := hx 5 (by kernel_rfl)
          clear hx hg
          intro k hk; obtain rfl : true = k := hk
          have HK := Lib.hid hK; clear hK
          dsimp only
          have hX' := hXc.below hb
          exact op_load g5 (ld_int _ _ 0 _ _ hX'.c0 hX'.c1) (HK.out _ _ (Below.refl _ _) ((IC.out.keep hB).keep hb))
        · intro a wk hx hb hg K hK
          obtain ⟨l20, h20, -, -, -, g20⟩ : ∃ lo hi, _ ∧ _ ∧ _ ∧ (.nz y 1000 : Fk).says lo hi wk (a.tmps.getD 20 undef) := hg 0 20 (by kernel_rfl) rfl
          obtain ⟨l21, h21, -, -, -, g21⟩ : ∃ lo hi, _ ∧ _ ∧ _ ∧ (.nz z 1000 : Fk).says lo hi wk (a.tmps.getD 21 undef) := hg 1 21 (by kernel_rfl) rfl
          obtain ⟨l22, h22, -, -, -, g22⟩ : ∃ lo hi, _ ∧ _ ∧ _ ∧ (.nz x 1000 : Fk).says lo hi wk (a.tmps.getD 22 undef) := hg 2 22 (by kernel_rfl) rfl
          clear hx hg
          intro k hk; obtain rfl : true = k := hk
          have HK := Lib.hid hK; clear hK
          dsimp only
          obtain ⟨x, w2, hr, hb2, hl⟩ := lz3 g20 g21 g22
          exact op_slice (by simp [Act.eval]) hr (HK.out _ _ hb2 hl)
        · intro a wk hx hb hg K hK
          obtain ⟨l23, h23, -, -, -, g23⟩ : ∃ lo hi, _ ∧ _ ∧ _ ∧ (.nl [y, z, x] 3006 : Fk).says lo hi wk (a.tmps.getD 23 undef) := hg 3 23 (by kernel_rfl) rfl
          clear hx hg
          intro k hk; obtain rfl : true = k := hk
          have HK := Lib.hid hK; clear hK
          dsimp only
          exact op_call1 (by kernel_rfl) (add_law g23 (by decide) (Hz24.out.symm)) (TellsO.step HK.out)
        · intro a wk hx hb hg K hK
          have g3 : a.tmps.getD 3 undef = .pointer (some ⟨w.heap.size, 0, none⟩) := hx 3 (by kernel_rfl)
          clear hx hg
          intro k hk; obtain rfl : true = k := hk
          have HK := Lib.hid hK; clear hK
          dsimp only
          have hX' := hXa.below hb
          exact op_load g3 (ld_int _ _ 0 _ _ hX'.c0 hX'.c1) (HK.out _ _ (Below.refl _ _) ((IA.out.keep hB).keep hb))
        · intro a wk hx hb hg K hK
          have g4 : a.tmps.getD 4 undef = .pointer (some ⟨w.heap.size + 1, 0, none⟩) := hx 4 (by kernel_rfl)
          clear hx hg
          intro k hk; obtain rfl : true = k := hk
          have HK := Lib.hid hK; clear hK
          dsimp only
          have hX' := hXb.below hb
          exact op_load g4 (ld_int _ _ 0 _ _ hX'.c0 hX'.c1) (HK.out _ _ (Below.refl _ _) ((IB.out.keep hB).keep hb))
        · intro a wk hx hb hg K hK
          have g5 : a.tmps.getD 5 undef = .pointer (some ⟨w.heap.size + 2, 0, none⟩) := hx 5 (by kernel_rfl)
          clear hx hg
          intro k hk; obtain rfl : true = k := hk
          have HK := Lib.hid hK; clear hK
          dsimp only
          have hX' := hXc.below hb
          exact op_load g5 (ld_int _ _ 0 _ _ hX'.c0 hX'.c1) (HK.out _ _ (Below.refl _ _) ((IC.out.keep hB).keep hb))
        · intro a wk hx hb hg K hK
          obtain ⟨l25, h25, -, -, -, g25⟩ : ∃ lo hi, _ ∧ _ ∧ _ ∧ (.nz y 1000 : Fk).says lo hi wk (a.tmps.getD 25 undef) := hg 5 25 (by kernel_rfl) rfl
          obtain ⟨l26, h26, -, -, -, g26⟩ : ∃ lo hi, _ ∧ _ ∧ _ ∧ (.nz z 1000 : Fk).says lo hi wk (a.tmps.getD 26 undef) := hg 6 26 (by kernel_rfl) rfl
          obtain ⟨l27, h27, -, -, -, g27⟩ : ∃ lo hi, _ ∧ _ ∧ _ ∧ (.nz x 1000 : Fk).says lo hi wk (a.tmps.getD 27 undef) := hg 7 27 (by kernel_rfl) rfl
          clear hx hg
          intro k hk; obtain rfl : true = k := hk
          have HK := Lib.hid hK; clear hK
          dsimp only
          obtain ⟨x, w2, hr, hb2, hl⟩ := lz3 g25 g26 g27
          exact op_slice (by simp [Act.eval]) hr (HK.out _ _ hb2 hl)
        · intro a wk hx hb hg K hK
          obtain ⟨l28, h28, -, -, -, g28⟩ : ∃ lo hi, _ ∧ _ ∧ _ ∧ (.nl [y, z, x] 3006 : Fk).says lo hi wk (a.tmps.getD 28 undef) := hg 8 28 (by kernel_rfl) rfl
          clear hx hg
          intro k hk; obtain rfl : true = k := hk
          have HK := Lib.hid hK; clear hK
          dsimp only
          exact op_call1 (by kernel_rfl) (mul_law g28 (by decide) (Hz29.out.symm)) (TellsO.step HK.out)
        · intro a wk hx hb hg K hK
          clear hx hg
          intro k hk; obtain rfl : true = k := hk
          have HK := Lib.hid hK; clear hK
          dsimp only
          exact op_alloc (al_int _) (HK.out _ _ ((Below.refl _ _).alloc (Nat.le_refl _) _) ⟨rfl, size_alloc _ _, Box.new _ _ rfl rfl⟩)
        · intro a wk hx hb hg K hK
          clear hx hg
          intro k hk; obtain rfl : true = k := hk
          have HK := Lib.hid hK; clear hK
          dsimp only
          exact op_alloc (al_int _) (HK.out _ _ ((Below.refl _ _).alloc (Nat.le_refl _) _) ⟨rfl, size_alloc _ _, Box.new _ _ rfl rfl⟩)
      case fin5 =>
        intro t5 lo5 hi5 W5 hb2 hF hD
        obtain ⟨j24, k24, m24, a24, ha24, hio24, hfr24⟩ : _ ∧ _ ∧ _ ∧ (Fk.no z24).says (lo5 4) (hi5 4) W5 (t5 24) := hF 4 24 rfl
        obtain ⟨na24, ao24, nn24, ac24, e24⟩ := hio24.opq
        rw [e24] at hio24
        obtain ⟨j29, k29, m29, a29, ha29, hio29, hfr29⟩ : _ ∧ _ ∧ _ ∧ (Fk.no z29).says (lo5 9) (hi5 9) W5 (t5 29) := hF 9 29 rfl
        obtain ⟨na29, ao29, nn29, ac29, e29⟩ := hio29.opq
        rw [e29] at hio29
        obtain ⟨j7, k7, m7, e7, hh7, hX7⟩ : _ ∧ _ ∧ _ ∧ (Fk.np [Value.bool false, Value.slice none 0 0]).says (lo5 10) (hi5 10) W5 (t5 7) := hF 10 7 rfl
        obtain ⟨j8, k8, m8, e8, hh8, hX8⟩ : _ ∧ _ ∧ _ ∧ (Fk.np [Value.bool false, Value.slice none 0 0]).says (lo5 11) (hi5 11) W5 (t5 8) := hF 11 8 rfl
        have q1 := hD 4 10 (by decide) (by decide) (by decide); have q2 := hD 4 11 (by decide) (by decide) (by decide); have q3 := hD 9 10 (by decide) (by decide) (by decide); have q4 := hD 9 11 (by decide) (by decide) (by decide); have q5 := hD 10 11 (by decide) (by decide) (by decide); have q6 := hD 4 9 (by decide) (by decide) (by decide)
        clear hF hD
        obtain ⟨b7, eb7⟩ : ∃ b, b = lo5 10 := ⟨_, rfl⟩; obtain ⟨b8, eb8⟩ : ∃ b, b = lo5 11 := ⟨_, rfl⟩; obtain ⟨b24, eb24⟩ : ∃ b, b = lo5 4 := ⟨_, rfl⟩; obtain ⟨b29, eb29⟩ : ∃ b, b = lo5 9 := ⟨_, rfl⟩
        rw [← eb7] at e7 hX7 q1 q3 q5 hh7 j7 k7; rw [← eb8] at e8 hX8 q2 q4 q5 hh8 j8 k8; rw [← eb24] at hio24 hfr24 q1 q2 q6 j24 k24; rw [← eb29] at hio29 hfr29 q3 q4 q6 j29 k29; rw [← ha24] at q1 q2 q6 k24 m24; rw [← ha29] at q3 q4 q6 k29 m29; rw [hh7] at q1 q3 q5 m7; rw [hh8] at q2 q4 q5 m8
        clear ha24 ha29 hh7 hh8 eb7 eb8 eb24 eb29 k7 k8 k24 k29
        have hbs := hB.size
        have hlta := hXa.lt
        have hltb := hXb.lt
        have hltc := hXc.lt
        have hgs : w.heap.size ≤ b7 := by omega
        have hgp : w.heap.size ≤ b8 := by omega
        have hn_s_a : b7 ≠ w.heap.size := by omega
        have hn_p_a : b8 ≠ w.heap.size := by omega
        have hn_s_b : b7 ≠ w.heap.size + 1 := by omega
        have hn_p_b : b8 ≠ w.heap.size + 1 := by omega
        have hn_s_c : b7 ≠ w.heap.size + 2 := by omega
        have hn_p_c : b8 ≠ w.heap.size + 2 := by omega
        have hn_p_s : b8 ≠ b7 := by omega
        have hd_S_s : b7 < b24 ∨ a24.heap.size ≤ b7 := by omega
        have hd_S_p : b8 < b24 ∨ a24.heap.size ≤ b8 := by omega
        have hd_S_a : w.heap.size < b24 ∨ a24.heap.size ≤ w.heap.size := .inl (by omega)
        have hd_S_b : w.heap.size + 1 < b24 ∨ a24.heap.size ≤ w.heap.size + 1 := .inl (by omega)
        have hd_S_c : w.heap.size + 2 < b24 ∨ a24.heap.size ≤ w.heap.size + 2 := .inl (by omega)
        have hd_P_s : b7 < b29 ∨ a29.heap.size ≤ b7 := by omega
        have hd_P_p : b8 < b29 ∨ a29.heap.size ≤ b8 := by omega
        have hd_P_a : w.heap.size < b29 ∨ a29.heap.size ≤ w.heap.size := .inl (by omega)
        have hd_P_b : w.heap.size + 1 < b29 ∨ a29.heap.size ≤ w.heap.size + 1 := .inl (by omega)
        have hd_P_c : w.heap.size + 2 < b29 ∨ a29.heap.size ≤ w.heap.size + 2 := .inl (by omega)
        clear q1 q2 q3 q4 q5 q6 j7 j8 j24 j29 m7 m8 m24 m29 hlta hltb hltc hbs
        have S := Lib.hid hio24; have P := Lib.hid hio29; clear hio24 hio29
        have hB' := bw_below hB (hb2)
        have hXa' := hXa.below (hb2)
        have hXb' := hXb.below (hb2)
        have hXc' := hXc.below (hb2)
        clear hb2
        clear hcc_1 hcc_0 hcb_1 hcb_0 hca_1 hca_0 hXc hXb hXa hB
        have hB := hB'; have hXa := hXa'; have hXb := hXb'; have hXc := hXc'
        clear hB' hXa' hXb' hXc'
        have hca_0 := hXa.c0; have hca_1 := hXa.c1; have hcb_0 := hXb.c0; have hcb_1 := hXb.c1; have hcc_0 := hXc.c0; have hcc_1 := hXc.c1
        have hXs := hX7; have hXp := hX8; have FS := hfr24; have FP := hfr29; clear hX7 hX8 hfr24 hfr29
        have hcs_0 := hXs.c0; have hfs_0 := hXs.free 0; have hcs_1 := hXs.c1; have hfs_1 := hXs.free 1; have hcp_0 := hXp.c0; have hfp_0 := hXp.free 0; have hcp_1 := hXp.c1; have hfp_1 := hXp.free 1
        show wpList _ _ _ [_, _] _ _
        simp only [e7, e8, e24, e29]
        clear e7 e8 e24 e29
        go_wp2_with fail
        refine wp_gen fun W3 hW => ?_
        have hm3 : W5.heap.size ≤ W3.heap.size := by rw [hW]; (first | omega | (simp only [size_alloc, size_drew, size_drewN, size_set]; omega) | (simp only [size_alloc, size_drew, size_drewN, size_set]; done))
        have hB' : Below w.heap.size w W3 := by rw [hW]; (repeat (first | (with_reducible assumption) | exact Below.refl _ _ | (with_reducible refine Below.drew ?_) | (with_reducible refine belowN ?_ _) | (with_reducible refine bw_alloc ?_ _) | ((with_reducible refine bw_set ?_ ?_ _ _); (focus (with_reducible assumption)))))
        have hXa' : Box W3 (w.heap.size) [Value.bool na, Value.slice ao la.length ac] := by rw [hW]; (repeat (first | (with_reducible assumption) | (with_reducible refine Box.drew ?_) | (with_reducible refine Box.drewN ?_ _) | ((with_reducible refine Box.new _ _ ?_ ?_); (focus (first | (with_reducible exact rfl) | (simp only [size_alloc, size_drew, size_drewN, size_set]; done))); (focus (exact rfl))) | (with_reducible refine Box.alloc ?_ _) | ((with_reducible refine Box.put ?_ ?_ _ _ ?_); rotate_left) | ((with_reducible refine Box.set ?_ ?_ _ _); (focus (first | (with_reducible assumption) | (refine Ne.symm ?_; (with_reducible assumption))))) | (exact rfl)))
        have hXb' : Box W3 (w.heap.size + 1) [Value.bool nb, Value.slice bo lb.length bc] := by rw [hW]; (repeat (first | (with_reducible assumption) | (with_reducible refine Box.drew ?_) | (with_reducible refine Box.drewN ?_ _) | ((with_reducible refine Box.new _ _ ?_ ?_); (focus (first | (with_reducible exact rfl) | (simp only [size_alloc, size_drew, size_drewN, size_set]; done))); (focus (exact rfl))) | (with_reducible refine Box.alloc ?_ _) | ((with_reducible refine Box.put ?_ ?_ _ _ ?_); rotate_left) | ((with_reducible refine Box.set ?_ ?_ _ _); (focus (first | (with_reducible assumption) | (refine Ne.symm ?_; (with_reducible assumption))))) | (exact rfl)))
        have hXc' : Box W3 (w.heap.size + 2) [Value.bool nc, Value.slice co lc.length cc] := by rw [hW]; (repeat (first | (with_reducible assumption) | (with_reducible refine Box.drew ?_) | (with_reducible refine Box.drewN ?_ _) | ((with_reducible refine Box.new _ _ ?_ ?_); (focus (first | (with_reducible exact rfl) | (simp only [size_alloc, size_drew, size_drewN, size_set]; done))); (focus (exact rfl))) | (with_reducible refine Box.alloc ?_ _) | ((with_reducible refine Box.put ?_ ?_ _ _ ?_); rotate_left) | ((with_reducible refine Box.set ?_ ?_ _ _); (focus (first | (with_reducible assumption) | (refine Ne.symm ?_; (with_reducible assumption))))) | (exact rfl)))
        have hXs' : Box W3 (b7) [Value.bool na24, Value.slice ao24 nn24 ac24] := by rw [hW]; (repeat (first | (with_reducible assumption) | (with_reducible refine Box.drew ?_) | (with_reducible refine Box.drewN ?_ _) | ((with_reducible refine Box.new _ _ ?_ ?_); (focus (first | (with_reducible exact rfl) | (simp only [size_alloc, size_drew, size_drewN, size_set]; done))); (focus (exact rfl))) | (with_reducible refine Box.alloc ?_ _) | ((with_reducible refine Box.put ?_ ?_ _ _ ?_); rotate_left) | ((with_reducible refine Box.set ?_ ?_ _ _); (focus (first | (with_reducible assumption) | (refine Ne.symm ?_; (with_reducible assumption))))) | (exact rfl)))
        have hXp' : Box W3 (b8) [Value.bool na29, Value.slice ao29 nn29 ac29] := by rw [hW]; (repeat (first | (with_reducible assumption) | (with_reducible refine Box.drew ?_) | (with_reducible refine Box.drewN ?_ _) | ((with_reducible refine Box.new _ _ ?_ ?_); (focus (first | (with_reducible exact rfl) | (simp only [size_alloc, size_drew, size_drewN, size_set]; done))); (focus (exact rfl))) | (with_reducible refine Box.alloc ?_ _) | ((with_reducible refine Box.put ?_ ?_ _ _ ?_); rotate_left) | ((with_reducible refine Box.set ?_ ?_ _ _); (focus (first | (with_reducible assumption) | (refine Ne.symm ?_; (with_reducible assumption))))) | (exact rfl)))
        have FS' : Fr a24 (b24) W3 := by rw [hW]; (repeat (first | (with_reducible assumption) | exact Fr.refl _ _ | (with_reducible refine Fr.drew ?_) | (with_reducible refine Fr.drewN ?_ _) | (with_reducible refine Fr.alloc ?_ _) | ((with_reducible refine Fr.set ?_ ?_ _); (focus (with_reducible assumption)))))
        have FP' : Fr a29 (b29) W3 := by rw [hW]; (repeat (first | (with_reducible assumption) | exact Fr.refl _ _ | (with_reducible refine Fr.drew ?_) | (with_reducible refine Fr.drewN ?_ _) | (with_reducible refine Fr.alloc ?_ _) | ((with_reducible refine Fr.set ?_ ?_ _); (focus (with_reducible assumption)))))
        clear hW
        clear hfp_1 hcp_1 hfp_0 hcp_0 hfs_1 hcs_1 hfs_0 hcs_0 hcc_1 hcc_0 hcb_1 hcb_0 hca_1 hca_0 FP FS hXp hXs hXc hXb hXa hB
        have hB := hB'; have hXa := hXa'; have hXb := hXb'; have hXc := hXc'; have hXs := hXs'; have hXp := hXp'; have FS := FS'; have FP := FP'
        clear hB' hXa' hXb' hXc' hXs' hXp' FS' FP'
        have hca_0 := hXa.c0; have hca_1 := hXa.c1; have hcb_0 := hXb.c0; have hcb_1 := hXb.c1; have hcc_0 := hXc.c0; have hcc_1 := hXc.c1; have hcs_0 := hXs.c0; have hfs_0 := hXs.free 0; have hcs_1 := hXs.c1; have hfs_1 := hXs.free 1; have hcp_0 := hXp.c0; have hfp_0 := hXp.free 0; have hcp_1 := hXp.c1; have hfp_1 := hXp.free 1
        refine wp_region_facts5 (by kernel_rfl) (fun i => (Fk.at [.ni z24, .ni z29, .nz y 1000, .no z33, .nz y 1000, .nz z 1000, .no z36, .nz y 1000, .nz z 1000, .nz x 1000, .nl [y, z, x] 3006, .no z41, .no 1, .no 0, .nc [z24, z29, z33, z36, z41, 1, 0], .nc [z24, z29, z33, z36, z41, 1, 0]] i).says) [30, 31, 32, 33, 34, 35, 36, 37, 38, 39, 40, 41, 42, 43, 44, 9] ?A6 16 [] ?hA6 _ rfl (by kernel_rfl) (fun _ _ _ _ _ _ => Fk.keep _) ?steps6 ?fin6
        case hA6 => intro t; (try simp only [putAll, Act.put, List.setIfInBounds_toArray, List.set_cons_zero, List.set_cons_succ]); (try exact rfl)
        case steps6 =>
          refine ⟨?_, ?_, ?_, ?_, ?_, ?_, ?_, ?_, ?_, ?_, ?_, ?_, ?_, ?_, ?_, ?_, trivial⟩
          · intro a wk hx hb hg K hK
            have g7 : a.tmps.getD 7 undef = .pointer (some ⟨b7, 0, none⟩) := hx 7 (by kernel_rfl)
            clear hx hg
            intro k hk; obtain rfl : true = k := hk
            have HK := Lib.hid hK; clear hK
            dsimp only
            have hX' := hXs.below hb
            exact op_load g7 (ld_int _ _ 0 _ _ hX'.c0 hX'.c1) (HK.out _ _ (Below.refl _ _) ((S.out.fr FS).i2.keep hb))
          · intro a wk hx hb hg K hK
            have g8 : a.tmps.getD 8 undef = .pointer (some ⟨b8, 0, none⟩) := hx 8 (by kernel_rfl)
            clear hx hg
            intro k hk; obtain rfl : true = k := hk
            have HK := Lib.hid hK; clear hK
            dsimp only
            have hX' := hXp.below hb
            exact op_load g8 (ld_int _ _ 0 _ _ hX'.c0 hX'.c1) (HK.out _ _ (Below.refl _ _) ((P.out.fr FP).i2.keep hb))
          · intro a wk hx hb hg K hK
            have g3 : a.tmps.getD 3 undef = .pointer (some ⟨w.heap.size, 0, none⟩) := hx 3 (by kernel_rfl)
            clear hx hg
            intro k hk; obtain rfl : true = k := hk
            have HK := Lib.hid hK; clear hK
            dsimp only
            have hX' := hXa.below hb
            exact op_load g3 (ld_int _ _ 0 _ _ hX'.c0 hX'.c1) (HK.out _ _ (Below.refl _ _) ((IA.out.keep hB).keep hb))
          · intro a wk hx hb hg K hK
            obtain ⟨l32, h32, -, -, -, g32⟩ : ∃ lo hi, _ ∧ _ ∧ _ ∧ (.nz y 1000 : Fk).says lo hi wk (a.tmps.getD 32 undef) := hg 2 32 (by kernel_rfl) rfl
            clear hx hg
            intro k hk; obtain rfl : true = k := hk
            have HK := Lib.hid hK; clear hK
            dsimp only
            exact op_call1 (by kernel_rfl) (neg_law g32 (by decide) Hz33.out.symm) (TellsO.step HK.out)
          · intro a wk hx hb hg K hK
            have g3 : a.tmps.getD 3 undef = .pointer (some ⟨w.heap.size, 0, none⟩) := hx 3 (by kernel_rfl)
            clear hx hg
            intro k hk; obtain rfl : true = k := hk
            have HK := Lib.hid hK; clear hK
            dsimp only
            have hX' := hXa.below hb
            exact op_load g3 (ld_int _ _ 0 _ _ hX'.c0 hX'.c1) (HK.out _ _ (Below.refl _ _) ((IA.out.keep hB).keep hb))
          · intro a wk hx hb hg K hK
            have g4 : a.tmps.getD 4 undef = .pointer (some ⟨w.heap.size + 1, 0, none⟩) := hx 4 (by kernel_rfl)
            clear hx hg
            intro k hk; obtain rfl : true = k := hk
            have HK := Lib.hid hK; clear hK
            dsimp only
            have hX' := hXb.below hb
            exact op_load g4 (ld_int _ _ 0 _ _ hX'.c0 hX'.c1) (HK.out _ _ (Below.refl _ _) ((IB.out.keep hB).keep hb))
          · intro a wk hx hb hg K hK
            obtain ⟨l34, h34, -, -, -, g34⟩ : ∃ lo hi, _ ∧ _ ∧ _ ∧ (.nz y 1000 : Fk).says lo hi wk (a.tmps.getD 34 undef) := hg 4 34 (by kernel_rfl) rfl
            obtain ⟨l35, h35, -, -, -, g35⟩ : ∃ lo hi, _ ∧ _ ∧ _ ∧ (.nz z 1000 : Fk).says lo hi wk (a.tmps.getD 35 undef) := hg 5 35 (by kernel_rfl) rfl
            clear hx hg
            intro k hk; obtain rfl : true = k := hk
            have HK := Lib.hid hK; clear hK
            dsimp only
            exact op_call2 (by kernel_rfl) (sub_law g34 g35 (by decide) Hz36.out.symm) (TellsO.step HK.out)
          · intro a wk hx hb hg K hK
            have g3 : a.tmps.getD 3 undef = .pointer (some ⟨w.heap.size, 0, none⟩) := hx 3 (by kernel_rfl)
            clear hx hg
            intro k hk; obtain rfl : true = k := hk
            have HK := Lib.hid hK; clear hK
            dsimp only
            have hX' := hXa.below hb
            exact op_load g3 (ld_int _ _ 0 _ _ hX'.c0 hX'.c1) (HK.out _ _ (Below.refl _ _) ((IA.out.keep hB).keep hb))
          · intro a wk hx hb hg K hK
            have g4 : a.tmps.getD 4 undef = .pointer (some ⟨w.heap.size + 1, 0, none⟩) := hx 4 (by kernel_rfl)
            clear hx hg
            intro k hk; obtain rfl : true = k := hk
            have HK := Lib.hid hK; clear hK
            dsimp only
            have hX' := hXb.below hb
            exact op_load g4 (ld_int _ _ 0 _ _ hX'.c0 hX'.c1) (HK.out _ _ (Below.refl _ _) ((IB.out.keep hB).keep hb))
          · intro a wk hx hb hg K hK
            have g5 : a.tmps.getD 5 undef = .pointer (some ⟨w.heap.size + 2, 0, none⟩) := hx 5 (by kernel_rfl)
            clear hx hg
            intro k hk; obtain rfl : true = k := hk
            have HK := Lib.hid hK; clear hK
            dsimp only
            have hX' := hXc.below hb
            exact op_load g5 (ld_int _ _ 0 _ _ hX'.c0 hX'.c1) (HK.out _ _ (Below.refl _ _) ((IC.out.keep hB).keep hb))
          · intro a wk hx hb hg K hK
            obtain ⟨l37, h37, -, -, -, g37⟩ : ∃ lo hi, _ ∧ _ ∧ _ ∧ (.nz y 1000 : Fk).says lo hi wk (a.tmps.getD 37 undef) := hg 7 37 (by kernel_rfl) rfl
            obtain ⟨l38, h38, -, -, -, g38⟩ : ∃ lo hi, _ ∧ _ ∧ _ ∧ (.nz z 1000 : Fk).says lo hi wk (a.tmps.getD 38 undef) := hg 8 38 (by kernel_rfl) rfl
            obtain ⟨l39, h39, -, -, -, g39⟩ : ∃ lo hi, _ ∧ _ ∧ _ ∧ (.nz x 1000 : Fk).says lo hi wk (a.tmps.getD 39 undef) := hg 9 39 (by kernel_rfl) rfl
            clear hx hg
            intro k hk; obtain rfl : true = k := hk
            have HK := Lib.hid hK; clear hK
            dsimp only
            obtain ⟨x, w2, hr, hb2, hl⟩ := lz3 g37 g38 g39
            exact op_slice (by simp [Act.eval]) hr (HK.out _ _ hb2 hl)
          · intro a wk hx hb hg K hK
            obtain ⟨l40, h40, -, -, -, g40⟩ : ∃ lo hi, _ ∧ _ ∧ _ ∧ (.nl [y, z, x] 3006 : Fk).says lo hi wk (a.tmps.getD 40 undef) := hg 10 40 (by kernel_rfl) rfl
            clear hx hg
            intro k hk; obtain rfl : true = k := hk
            have HK := Lib.hid hK; clear hK
            dsimp only
            exact op_call1 (by kernel_rfl) (gcd_law g40 (by decide) (Hz41.out.symm)) (TellsO.step HK.out)
          · intro a wk hx hb hg K hK
            clear hx hg
            intro k hk; obtain rfl : true = k := hk
            have HK := Lib.hid hK; clear hK
            dsimp only
            exact op_callc (by kernel_rfl) (mul_law (LZ.nil _) (by decide) rfl) (TellsO.step HK.out)
          · intro a wk hx hb hg K hK
            clear hx hg
            intro k hk; obtain rfl : true = k := hk
            have HK := Lib.hid hK; clear hK
            dsimp only
            exact op_callc (by kernel_rfl) (add_law (LZ.nil _) (by decide) rfl) (TellsO.step HK.out)
          · intro a wk hx hb hg K hK
            obtain ⟨l30, h30, -, -, -, g30⟩ : ∃ lo hi, _ ∧ _ ∧ _ ∧ (.ni z24 : Fk).says lo hi wk (a.tmps.getD 30 undef) := hg 0 30 (by kernel_rfl) rfl
            obtain ⟨l31, h31, -, -, -, g31⟩ : ∃ lo hi, _ ∧ _ ∧ _ ∧ (.ni z29 : Fk).says lo hi wk (a.tmps.getD 31 undef) := hg 1 31 (by kernel_rfl) rfl
            obtain ⟨l33, h33, -, -, -, g33⟩ : ∃ lo hi, _ ∧ _ ∧ _ ∧ (.no z33 : Fk).says lo hi wk (a.tmps.getD 33 undef) := hg 3 33 (by kernel_rfl) rfl
            obtain ⟨l36, h36, -, -, -, g36⟩ : ∃ lo hi, _ ∧ _ ∧ _ ∧ (.no z36 : Fk).says lo hi wk (a.tmps.getD 36 undef) := hg 6 36 (by kernel_rfl) rfl
            obtain ⟨l41, h41, -, -, -, g41⟩ : ∃ lo hi, _ ∧ _ ∧ _ ∧ (.no z41 : Fk).says lo hi wk (a.tmps.getD 41 undef) := hg 11 41 (by kernel_rfl) rfl
            obtain ⟨l42, h42, -, -, -, g42⟩ : ∃ lo hi, _ ∧ _ ∧ _ ∧ (.no 1 : Fk).says lo hi wk (a.tmps.getD 42 undef) := hg 12 42 (by kernel_rfl) rfl
            obtain ⟨l43, h43, -, -, -, g43⟩ : ∃ lo hi, _ ∧ _ ∧ _ ∧ (.no 0 : Fk).says lo hi wk (a.tmps.getD 43 undef) := hg 13 43 (by kernel_rfl) rfl
            clear hx hg
            intro k hk; obtain rfl : true = k := hk
            have HK := Lib.hid hK; clear hK
            dsimp only
            obtain ⟨x, w2, hr, hb2, hl⟩ := lay7 (p0 := zl z24) (I2.iv g30) (p1 := zl z29) (I2.iv g31) (p2 := zl z33) (I2.iv (Fk.oi g33)) (p3 := zl z36) (I2.iv (Fk.oi g36)) (p4 := zl z41) (I2.iv (Fk.oi g41)) (p5 := zl 1) (I2.iv (Fk.oi g42)) (p6 := zl 0) (I2.iv (Fk.oi g43))
            exact op_slice (by simp [Act.eval]) hr (HK.out _ _ hb2 hl)
          · intro a wk hx hb hg K hK
            obtain ⟨l44, h44, -, -, -, g44⟩ : ∃ lo hi, _ ∧ _ ∧ _ ∧ (.nc [z24, z29, z33, z36, z41, 1, 0] : Fk).says lo hi wk (a.tmps.getD 44 undef) := hg 14 44 (by kernel_rfl) rfl
            clear hx hg
            intro k hk; obtain rfl : true = k := hk
            have HK := Lib.hid hK; clear hK
            dsimp only
            exact op_assign rfl (HK.out _ _ (Below.refl _ _) g44)
        case fin6 =>
          intro t6 lo6 hi6 V6 hb2 hF hD
          obtain ⟨-, -, -, g9⟩ : _ ∧ _ ∧ _ ∧ (Fk.nc [z24, z29, z33, z36, z41, 1, 0]).says (lo6 15) (hi6 15) V6 (t6 9) := hF 15 9 rfl
          clear hF hD
          replace g9 : RdZ V6 (t6 9) ([z24, z29, z33, z36, z41, 1, 0].map zl) := g9
          obtain ⟨l9, c9, e9⟩ : ∃ ao ac, t6 9 = .slice ao 7 ac := by obtain ⟨ao, ac, h⟩ := g9.sl; exact ⟨ao, ac, h⟩
          rw [e9] at g9
          have HL := Lib.hid g9; clear g9
          refine wpList_nil ?_
          simp only [e9]; clear e9
          have hB' := bw_below hB (hb2)
          have hXa' := hXa.below (hb2)
          have hXb' := hXb.below (hb2)
          have hXc' := hXc.below (hb2)
          have hXs' := hXs.below (hb2)
          have hXp' := hXp.below (hb2)
          have FS' := FS.below (hb2)
          have FP' := FP.below (hb2)
          clear hb2
          clear hfp_1 hcp_1 hfp_0 hcp_0 hfs_1 hcs_1 hfs_0 hcs_0 hcc_1 hcc_0 hcb_1 hcb_0 hca_1 hca_0 FP FS hXp hXs hXc hXb hXa hB
          have hB := hB'; have hXa := hXa'; have hXb := hXb'; have hXc := hXc'; have hXs := hXs'; have hXp := hXp'; have FS := FS'; have FP := FP'
          clear hB' hXa' hXb' hXc' hXs' hXp' FS' FP'
          have hca_0 := hXa.c0; have hca_1 := hXa.c1; have hcb_0 := hXb.c0; have hcb_1 := hXb.c1; have hcc_0 := hXc.c0; have hcc_1 := hXc.c1; have hcs_0 := hXs.c0; have hfs_0 := hXs.free 0; have hcs_1 := hXs.c1; have hfs_1 := hXs.free 1; have hcp_0 := hXp.c0; have hfp_0 := hXp.free 0; have hcp_1 := hXp.c1; have hfp_1 := hXp.free 1
          go_wp2_with fail
          go_loopw [10] (fun i wr => ∃ kk : Nat, i = .int .i64 kk ∧ kk ≤ 7 ∧ Below V6.heap.size V6 wr) (fun i _ => 7 - (intOf i).toNat)
          case atStart => exact ⟨0, rfl, by omega, Below.refl _ _⟩
          case round =>
            obtain ⟨k, rfl, hk, hbr⟩ := hrel
            replace HL := Lib.hid (HL.out.keep hbr)
            have HQ : Hid (Bel V6 wr) := hbr
            have hB' := bw_below hB (hbr)
            have hXa' := hXa.below (hbr)
            have hXb' := hXb.below (hbr)
            have hXc' := hXc.below (hbr)
            have hXs' := hXs.below (hbr)
            have hXp' := hXp.below (hbr)
            have FS' := FS.below (hbr)
            have FP' := FP.below (hbr)
            clear hbr
            clear hfp_1 hcp_1 hfp_0 hcp_0 hfs_1 hcs_1 hfs_0 hcs_0 hcc_1 hcc_0 hcb_1 hcb_0 hca_1 hca_0 FP FS hXp hXs hXc hXb hXa hB
            have hB := hB'; have hXa := hXa'; have hXb := hXb'; have hXc := hXc'; have hXs := hXs'; have hXp := hXp'; have FS := FS'; have FP := FP'
            clear hB' hXa' hXb' hXc' hXs' hXp' FS' FP'
            have hca_0 := hXa.c0; have hca_1 := hXa.c1; have hcb_0 := hXb.c0; have hcb_1 := hXb.c1; have hcc_0 := hXc.c0; have hcc_1 := hXc.c1; have hcs_0 := hXs.c0; have hfs_0 := hXs.free 0; have hcs_1 := hXs.c1; have hfs_1 := hXs.free 1; have hcp_0 := hXp.c0; have hfp_0 := hXp.free 0; have hcp_1 := hXp.c1; have hfp_1 := hXp.free 1
            by_cases hlt : k < 7
            · obtain ⟨zk, hz⟩ : ∃ z, [z24, z29, z33, z36, z41, 1, 0][k]? = some z := ⟨_, List.getElem?_eq_getElem (by simpa using hlt)⟩
              have Bzk : Hid (ZB zk 9900) := by
                have hk7 : k = 0 ∨ k = 1 ∨ k = 2 ∨ k = 3 ∨ k = 4 ∨ k = 5 ∨ k = 6 := by omega
                rcases hk7 with rfl | rfl | rfl | rfl | rfl | rfl | rfl
                · cases hz; exact Lib.hid (ZB.mono (Bz24.out) (by decide))
                · cases hz; exact Lib.hid (ZB.mono (Bz29.out) (by decide))
                · cases hz; exact Lib.hid (ZB.mono (Bz33.out) (by decide))
                · cases hz; exact Lib.hid (ZB.mono (Bz36.out) (by decide))
                · cases hz; exact Lib.hid (ZB.mono (Bz41.out) (by decide))
                · cases hz; exact Lib.hid (ZB.mono ((zb1 (by decide) : ZB 1 1)) (by decide))
                · cases hz; exact Lib.hid (ZB.mono ((zb1 (by decide) : ZB 0 1)) (by decide))
              have HZ := Lib.hid hz; clear hz
              obtain ⟨ad, sk, had, -, -, hc0, hc1, hI⟩ := RdZ.nth HL.out HZ.out
              subst had
              obtain ⟨so, sn, sc, rfl⟩ := hI.sl
              have HI := Lib.hid hI; clear hI
              have hk0 : (0 : Int) ≤ (k : Int) := by omega
              have hk1 : (k : Int) < 7 := by omega
              go_wp2_with fail
              refine (text_law (HI.out.iz Bzk.out) (by decide) (HT.out.keep hB)).mono ?_
              rintro e W4 ⟨rfl, hb⟩
              have hL : Below wr.heap.size wr W4 := hb
              have hm4 := hL.size
              have hB' := bw_below hB hL
              have hXa' := hXa.below hL
              have hXb' := hXb.below hL
              have hXc' := hXc.below hL
              have hXs' := hXs.below hL
              have hXp' := hXp.below hL
              have FS' := FS.below hL
              have FP' := FP.below hL
              replace HL := Lib.hid (HL.out.keep hL)
              replace HQ := Lib.hid (HQ.out.keep hL)
              clear hL hb
              clear hfp_1 hcp_1 hfp_0 hcp_0 hfs_1 hcs_1 hfs_0 hcs_0 hcc_1 hcc_0 hcb_1 hcb_0 hca_1 hca_0 FP FS hXp hXs hXc hXb hXa hB
              have hB := hB'; have hXa := hXa'; have hXb := hXb'; have hXc := hXc'; have hXs := hXs'; have hXp := hXp'; have FS := FS'; have FP := FP'
              clear hB' hXa' hXb' hXc' hXs' hXp' FS' FP'
              have hca_0 := hXa.c0; have hca_1 := hXa.c1; have hcb_0 := hXb.c0; have hcb_1 := hXb.c1; have hcc_0 := hXc.c0; have hcc_1 := hXc.c1; have hcs_0 := hXs.c0; have hfs_0 := hXs.free 0; have hcs_1 := hXs.c1; have hfs_1 := hXs.free 1; have hcp_0 := hXp.c0; have hfp_0 := hXp.free 0; have hcp_1 := hXp.c1; have hfp_1 := hXp.free 1
              clear HI hc0 hc1
              go_wp2_with fail
              refine (parse_law _ Bzk.out (by decide)).mono ?_
              rintro e W5 ⟨xk, rfl, hio, hb⟩
              obtain ⟨kn, ko, kl, kc, rfl⟩ := hio.opq
              have hL : Below W4.heap.size W4 W5 := hb
              have hm5 := hL.size
              have hB' := bw_below hB hL
              have hXa' := hXa.below hL
              have hXb' := hXb.below hL
              have hXc' := hXc.below hL
              have hXs' := hXs.below hL
              have hXp' := hXp.below hL
              have FS' := FS.below hL
              have FP' := FP.below hL
              replace HL := Lib.hid (HL.out.keep hL)
              replace HQ := Lib.hid (HQ.out.keep hL)
              have R := Lib.hid hio
              have hd_R_a : w.heap.size < W4.heap.size ∨ W5.heap.size ≤ w.heap.size := .inl hXa.lt
              have hd_R_b : w.heap.size + 1 < W4.heap.size ∨ W5.heap.size ≤ w.heap.size + 1 := .inl hXb.lt
              have hd_R_c : w.heap.size + 2 < W4.heap.size ∨ W5.heap.size ≤ w.heap.size + 2 := .inl hXc.lt
              have hd_R_s : b7 < W4.heap.size ∨ W5.heap.size ≤ b7 := .inl hXs.lt
              have hd_R_p : b8 < W4.heap.size ∨ W5.heap.size ≤ b8 := .inl hXp.lt
              have FR' := Fr.refl (W4.heap.size) W5
              clear hL hb hio
              clear hfp_1 hcp_1 hfp_0 hcp_0 hfs_1 hcs_1 hfs_0 hcs_0 hcc_1 hcc_0 hcb_1 hcb_0 hca_1 hca_0 FP FS hXp hXs hXc hXb hXa hB
              have hB := hB'; have hXa := hXa'; have hXb := hXb'; have hXc := hXc'; have hXs := hXs'; have hXp := hXp'; have FS := FS'; have FP := FP'; have FR := FR'
              clear hB' hXa' hXb' hXc' hXs' hXp' FS' FP' FR'
              have hca_0 := hXa.c0; have hca_1 := hXa.c1; have hcb_0 := hXb.c0; have hcb_1 := hXb.c1; have hcc_0 := hXc.c0; have hcc_1 := hXc.c1; have hcs_0 := hXs.c0; have hfs_0 := hXs.free 0; have hcs_1 := hXs.c1; have hfs_1 := hXs.free 1; have hcp_0 := hXp.c0; have hfp_0 := hXp.free 0; have hcp_1 := hXp.c1; have hfp_1 := hXp.free 1
              go_wp2_with fail
              have hbs := hB.size
              have hlta := hXa.lt
              have hltb := hXb.lt
              have hltc := hXc.lt
              have hlts := hXs.lt
              have hltp := hXp.lt
              have hszS := FS.size
              have hszP := FP.size
              have hszR := FR.size
              have hgr : w.heap.size ≤ W5.heap.size := by omega
              have hn_r_a : W5.heap.size ≠ w.heap.size := by omega
              have hn_r_b : W5.heap.size ≠ w.heap.size + 1 := by omega
              have hn_r_c : W5.heap.size ≠ w.heap.size + 2 := by omega
              have hn_r_s : W5.heap.size ≠ b7 := by omega
              have hn_r_p : W5.heap.size ≠ b8 := by omega
              have hd_S_r : W5.heap.size < b24 ∨ a24.heap.size ≤ W5.heap.size := .inr (by omega)
              have hd_P_r : W5.heap.size < b29 ∨ a29.heap.size ≤ W5.heap.size := .inr (by omega)
              have hd_R_r : W5.heap.size < W4.heap.size ∨ W5.heap.size ≤ W5.heap.size := .inr (by omega)
              clear hbs hlta hltb hltc hlts hltp hszS hszP hszR
              refine wp_gen fun W6 hW => ?_
              have hm6 : W5.heap.size ≤ W6.heap.size := by rw [hW]; (first | omega | (simp only [size_alloc, size_drew, size_drewN, size_set]; omega) | (simp only [size_alloc, size_drew, size_drewN, size_set]; done))
              have hB' : Below w.heap.size w W6 := by rw [hW]; (repeat (first | (with_reducible assumption) | exact Below.refl _ _ | (with_reducible refine Below.drew ?_) | (with_reducible refine belowN ?_ _) | (with_reducible refine bw_alloc ?_ _) | ((with_reducible refine bw_set ?_ ?_ _ _); (focus (with_reducible assumption)))))
              have hXa' : Box W6 (w.heap.size) [Value.bool na, Value.slice ao la.length ac] := by rw [hW]; (repeat (first | (with_reducible assumption) | (with_reducible refine Box.drew ?_) | (with_reducible refine Box.drewN ?_ _) | ((with_reducible refine Box.new _ _ ?_ ?_); (focus (first | (with_reducible exact rfl) | (simp only [size_alloc, size_drew, size_drewN, size_set]; done))); (focus (exact rfl))) | (with_reducible refine Box.alloc ?_ _) | ((with_reducible refine Box.put ?_ ?_ _ _ ?_); rotate_left) | ((with_reducible refine Box.set ?_ ?_ _ _); (focus (first | (with_reducible assumption) | (refine Ne.symm ?_; (with_reducible assumption))))) | (exact rfl)))
              have hXb' : Box W6 (w.heap.size + 1) [Value.bool nb, Value.slice bo lb.length bc] := by rw [hW]; (repeat (first | (with_reducible assumption) | (with_reducible refine Box.drew ?_) | (with_reducible refine Box.drewN ?_ _) | ((with_reducible refine Box.new _ _ ?_ ?_); (focus (first | (with_reducible exact rfl) | (simp only [size_alloc, size_drew, size_drewN, size_set]; done))); (focus (exact rfl))) | (with_reducible refine Box.alloc ?_ _) | ((with_reducible refine Box.put ?_ ?_ _ _ ?_); rotate_left) | ((with_reducible refine Box.set ?_ ?_ _ _); (focus (first | (with_reducible assumption) | (refine Ne.symm ?_; (with_reducible assumption))))) | (exact rfl)))
              have hXc' : Box W6 (w.heap.size + 2) [Value.bool nc, Value.slice co lc.length cc] := by rw [hW]; (repeat (first | (with_reducible assumption) | (with_reducible refine Box.drew ?_) | (with_reducible refine Box.drewN ?_ _) | ((with_reducible refine Box.new _ _ ?_ ?_); (focus (first | (with_reducible exact rfl) | (simp only [size_alloc, size_drew, size_drewN, size_set]; done))); (focus (exact rfl))) | (with_reducible refine Box.alloc ?_ _) | ((with_reducible refine Box.put ?_ ?_ _ _ ?_); rotate_left) | ((with_reducible refine Box.set ?_ ?_ _ _); (focus (first | (with_reducible assumption) | (refine Ne.symm ?_; (with_reducible assumption))))) | (exact rfl)))
              have hXs' : Box W6 (b7) [Value.bool na24, Value.slice ao24 nn24 ac24] := by rw [hW]; (repeat (first | (with_reducible assumption) | (with_reducible refine Box.drew ?_) | (with_reducible refine Box.drewN ?_ _) | ((with_reducible refine Box.new _ _ ?_ ?_); (focus (first | (with_reducible exact rfl) | (simp only [size_alloc, size_drew, size_drewN, size_set]; done))); (focus (exact rfl))) | (with_reducible refine Box.alloc ?_ _) | ((with_reducible refine Box.put ?_ ?_ _ _ ?_); rotate_left) | ((with_reducible refine Box.set ?_ ?_ _ _); (focus (first | (with_reducible assumption) | (refine Ne.symm ?_; (with_reducible assumption))))) | (exact rfl)))
              have hXp' : Box W6 (b8) [Value.bool na29, Value.slice ao29 nn29 ac29] := by rw [hW]; (repeat (first | (with_reducible assumption) | (with_reducible refine Box.drew ?_) | (with_reducible refine Box.drewN ?_ _) | ((with_reducible refine Box.new _ _ ?_ ?_); (focus (first | (with_reducible exact rfl) | (simp only [size_alloc, size_drew, size_drewN, size_set]; done))); (focus (exact rfl))) | (with_reducible refine Box.alloc ?_ _) | ((with_reducible refine Box.put ?_ ?_ _ _ ?_); rotate_left) | ((with_reducible refine Box.set ?_ ?_ _ _); (focus (first | (with_reducible assumption) | (refine Ne.symm ?_; (with_reducible assumption))))) | (exact rfl)))
              have hXr' : Box W6 (W5.heap.size) [Value.bool kn, Value.slice ko kl kc] := by rw [hW]; (repeat (first | (with_reducible assumption) | (with_reducible refine Box.drew ?_) | (with_reducible refine Box.drewN ?_ _) | ((with_reducible refine Box.new _ _ ?_ ?_); (focus (first | (with_reducible exact rfl) | (simp only [size_alloc, size_drew, size_drewN, size_set]; done))); (focus (exact rfl))) | (with_reducible refine Box.alloc ?_ _) | ((with_reducible refine Box.put ?_ ?_ _ _ ?_); rotate_left) | ((with_reducible refine Box.set ?_ ?_ _ _); (focus (first | (with_reducible assumption) | (refine Ne.symm ?_; (with_reducible assumption))))) | (exact rfl)))
              have FS' : Fr a24 (b24) W6 := by rw [hW]; (repeat (first | (with_reducible assumption) | exact Fr.refl _ _ | (with_reducible refine Fr.drew ?_) | (with_reducible refine Fr.drewN ?_ _) | (with_reducible refine Fr.alloc ?_ _) | ((with_reducible refine Fr.set ?_ ?_ _); (focus (with_reducible assumption)))))
              have FP' : Fr a29 (b29) W6 := by rw [hW]; (repeat (first | (with_reducible assumption) | exact Fr.refl _ _ | (with_reducible refine Fr.drew ?_) | (with_reducible refine Fr.drewN ?_ _) | (with_reducible refine Fr.alloc ?_ _) | ((with_reducible refine Fr.set ?_ ?_ _); (focus (with_reducible assumption)))))
              have FR' : Fr W5 (W4.heap.size) W6 := by rw [hW]; (repeat (first | (with_reducible assumption) | exact Fr.refl _ _ | (with_reducible refine Fr.drew ?_) | (with_reducible refine Fr.drewN ?_ _) | (with_reducible refine Fr.alloc ?_ _) | ((with_reducible refine Fr.set ?_ ?_ _); (focus (with_reducible assumption)))))
              have hL : Below W5.heap.size W5 W6 := by rw [hW]; (repeat (first | (with_reducible assumption) | exact Below.refl _ _ | (with_reducible refine Below.drew ?_) | (with_reducible refine belowN ?_ _) | (with_reducible refine bw_alloc ?_ _) | ((with_reducible refine bw_set ?_ ?_ _ _); (focus (with_reducible assumption)))))
              replace HL := Lib.hid (HL.out.keep hL)
              replace HQ := Lib.hid (HQ.out.keep hL)
              clear hL
              clear hW
              clear hfp_1 hcp_1 hfp_0 hcp_0 hfs_1 hcs_1 hfs_0 hcs_0 hcc_1 hcc_0 hcb_1 hcb_0 hca_1 hca_0 FR FP FS hXp hXs hXc hXb hXa hB
              have hB := hB'; have hXa := hXa'; have hXb := hXb'; have hXc := hXc'; have hXs := hXs'; have hXp := hXp'; have hXr := hXr'; have FS := FS'; have FP := FP'; have FR := FR'
              clear hB' hXa' hXb' hXc' hXs' hXp' hXr' FS' FP' FR'
              have hca_0 := hXa.c0; have hca_1 := hXa.c1; have hcb_0 := hXb.c0; have hcb_1 := hXb.c1; have hcc_0 := hXc.c0; have hcc_1 := hXc.c1; have hcs_0 := hXs.c0; have hfs_0 := hXs.free 0; have hcs_1 := hXs.c1; have hfs_1 := hXs.free 1; have hcp_0 := hXp.c0; have hfp_0 := hXp.free 0; have hcp_1 := hXp.c1; have hfp_1 := hXp.free 1; have hcr_0 := hXr.c0; have hcr_1 := hXr.c1
              refine wp_region_facts5 (by kernel_rfl) (fun i => (Fk.at [.nv (.slice (some ad) 7 c9), .nv (.int .i64 k), .nv (.pointer (some (ad.add (k * 2)))), .ni zk, .nv (.bool true), .nv (.bool false), .nv (.bool false), .nv (.bool true), .nv (.bool false), .nv (.bool false), .nv (.bool false), .ni zk, .nv (.slice (some ad) 7 c9), .nv (.int .i64 k), .nv (.pointer (some (ad.add (k * 2)))), .ni zk, .nv (.bool true), .nv (.bool false), .nv (.bool false)] i).says) [60, 61, 62, 63, 64, 65, 66, 67, 68, 69, 70, 71, 72, 73, 74, 75, 76, 77, 78] ?A11 19 [] ?hA11 _ rfl (by kernel_rfl) (fun _ _ _ _ _ _ => Fk.keep _) ?steps11 ?fin11
              case hA11 => intro t; (try simp only [putAll, Act.put, List.setIfInBounds_toArray, List.set_cons_zero, List.set_cons_succ]); (try exact rfl)
              case steps11 =>
                refine ⟨?_, ?_, ?_, ?_, ?_, ?_, ?_, ?_, ?_, ?_, ?_, ?_, ?_, ?_, ?_, ?_, ?_, ?_, ?_, trivial⟩
                · intro a wk hx hb hg K hK
                  have g9 : a.tmps.getD 9 undef = .slice (some ad) 7 c9 := hx 9 (by kernel_rfl)
                  clear hx hg
                  intro k hk; obtain rfl : true = k := hk
                  have HK := Lib.hid hK; clear hK
                  dsimp only
                  exact op_move g9 (HK.out _ _ (Below.refl _ _) rfl)
                · intro a wk hx hb hg K hK
                  have g10 : a.tmps.getD 10 undef = .int .i64 k := hx 10 (by kernel_rfl)
                  clear hx hg
                  intro k hk; obtain rfl : true = k := hk
                  have HK := Lib.hid hK; clear hK
                  dsimp only
                  exact op_move g10 (HK.out _ _ (Below.refl _ _) rfl)
                · intro a wk hx hb hg K hK
                  obtain ⟨l60, h60, -, -, -, g60⟩ : ∃ lo hi, _ ∧ _ ∧ _ ∧ (.nv (.slice (some ad) 7 c9) : Fk).says lo hi wk (a.tmps.getD 60 undef) := hg 0 60 (by kernel_rfl) rfl
                  replace g60 : a.tmps.getD 60 undef = .slice (some ad) 7 c9 := g60
                  obtain ⟨l61, h61, -, -, -, g61⟩ : ∃ lo hi, _ ∧ _ ∧ _ ∧ (.nv (.int .i64 k) : Fk).says lo hi wk (a.tmps.getD 61 undef) := hg 1 61 (by kernel_rfl) rfl
                  replace g61 : a.tmps.getD 61 undef = .int .i64 k := g61
                  clear hx hg
                  intro k hk; obtain rfl : true = k := hk
                  have HK := Lib.hid hK; clear hK
                  dsimp only
                  exact op_idx g60 g61 hlt (HK.out _ _ (Below.refl _ _) rfl)
                · intro a wk hx hb hg K hK
                  obtain ⟨l62, h62, -, -, -, g62⟩ : ∃ lo hi, _ ∧ _ ∧ _ ∧ (.nv (.pointer (some (ad.add (k * 2)))) : Fk).says lo hi wk (a.tmps.getD 62 undef) := hg 2 62 (by kernel_rfl) rfl
                  replace g62 : a.tmps.getD 62 undef = .pointer (some (ad.add (k * 2))) := g62
                  clear hx hg
                  intro k hk; obtain rfl : true = k := hk
                  have HK := Lib.hid hK; clear hK
                  dsimp only
                  obtain ⟨ad', s', h1, -, -, h4, h5, h6⟩ := RdZ.nth (HL.out.keep hb) HZ.out
                  cases h1
                  exact op_load g62 (ld_intA _ _ _ _ h4 h5) (HK.out _ _ (Below.refl _ _) h6)
                · intro a wk hx hb hg K hK
                  obtain ⟨l63, h63, -, -, -, g63⟩ : ∃ lo hi, _ ∧ _ ∧ _ ∧ (.ni zk : Fk).says lo hi wk (a.tmps.getD 63 undef) := hg 3 63 (by kernel_rfl) rfl
                  clear hx hg
                  intro k hk; obtain rfl : true = k := hk
                  have HK := Lib.hid hK; clear hK
                  dsimp only
                  exact op_call1 (by kernel_rfl) (right_law g63 Bzk.out (by decide)) (TellsV.step HK.out)
                · intro a wk hx hb hg K hK
                  obtain ⟨l64, h64, -, -, -, g64⟩ : ∃ lo hi, _ ∧ _ ∧ _ ∧ (.nv (.bool true) : Fk).says lo hi wk (a.tmps.getD 64 undef) := hg 4 64 (by kernel_rfl) rfl
                  replace g64 : a.tmps.getD 64 undef = .bool true := g64
                  clear hx hg
                  intro k hk; obtain rfl : true = k := hk
                  have HK := Lib.hid hK; clear hK
                  dsimp only
                  exact op_not g64 rfl (HK.out _ _ (Below.refl _ _) rfl)
                · intro a wk hx hb hg K hK
                  obtain ⟨l65, h65, -, -, -, g65⟩ : ∃ lo hi, _ ∧ _ ∧ _ ∧ (.nv (.bool false) : Fk).says lo hi wk (a.tmps.getD 65 undef) := hg 5 65 (by kernel_rfl) rfl
                  replace g65 : a.tmps.getD 65 undef = .bool false := g65
                  clear hx hg
                  intro k hk; obtain rfl : true = k := hk
                  have HK := Lib.hid hK; clear hK
                  dsimp only
                  exact op_move g65 (HK.out _ _ (Below.refl _ _) rfl)
                · intro a wk hx hb hg K hK
                  have g12 : a.tmps.getD 12 undef = .bool true := hx 12 (by kernel_rfl)
                  obtain ⟨l66, h66, -, -, -, g66⟩ : ∃ lo hi, _ ∧ _ ∧ _ ∧ (.nv (.bool false) : Fk).says lo hi wk (a.tmps.getD 66 undef) := hg 6 66 (by kernel_rfl) rfl
                  replace g66 : a.tmps.getD 66 undef = .bool false := g66
                  clear hx hg
                  intro k hk; obtain rfl : true = k := by rw [← hk]; show true = (match a.tmps.getD 66 undef with | .bool b => b == false | _ => false); rw [g66]; rfl
                  clear hk
                  have HK := Lib.hid hK; clear hK
                  dsimp only
                  exact op_move g12 (HK.out _ _ (Below.refl _ _) rfl)
                · intro a wk hx hb hg K hK
                  obtain ⟨l67, h67, -, -, -, g67⟩ : ∃ lo hi, _ ∧ _ ∧ _ ∧ (.nv (.bool true) : Fk).says lo hi wk (a.tmps.getD 67 undef) := hg 7 67 (by kernel_rfl) rfl
                  replace g67 : a.tmps.getD 67 undef = .bool true := g67
                  obtain ⟨l66, h66, -, -, -, g66⟩ : ∃ lo hi, _ ∧ _ ∧ _ ∧ (.nv (.bool false) : Fk).says lo hi wk (a.tmps.getD 66 undef) := hg 6 66 (by kernel_rfl) rfl
                  replace g66 : a.tmps.getD 66 undef = .bool false := g66
                  clear hx hg
                  intro k hk; obtain rfl : true = k := by rw [← hk]; show true = (match a.tmps.getD 66 undef with | .bool b => b == false | _ => false); rw [g66]; rfl
                  clear hk
                  have HK := Lib.hid hK; clear hK
                  dsimp only
                  exact op_not g67 rfl (HK.out _ _ (Below.refl _ _) rfl)
                · intro a wk hx hb hg K hK
                  obtain ⟨l66, h66, -, -, -, g66⟩ : ∃ lo hi, _ ∧ _ ∧ _ ∧ (.nv (.bool false) : Fk).says lo hi wk (a.tmps.getD 66 undef) := hg 6 66 (by kernel_rfl) rfl
                  replace g66 : a.tmps.getD 66 undef = .bool false := g66
                  obtain ⟨l68, h68, -, -, -, g68⟩ : ∃ lo hi, _ ∧ _ ∧ _ ∧ (.nv (.bool false) : Fk).says lo hi wk (a.tmps.getD 68 undef) := hg 8 68 (by kernel_rfl) rfl
                  replace g68 : a.tmps.getD 68 undef = .bool false := g68
                  clear hx hg
                  intro k hk; obtain rfl : true = k := hk
                  have HK := Lib.hid hK; clear hK
                  dsimp only
                  exact op_pickF g66 g68 (HK.out _ _ (Below.refl _ _) rfl)
                · intro a wk hx hb hg K hK
                  obtain ⟨l69, h69, -, -, -, g69⟩ : ∃ lo hi, _ ∧ _ ∧ _ ∧ (.nv (.bool false) : Fk).says lo hi wk (a.tmps.getD 69 undef) := hg 9 69 (by kernel_rfl) rfl
                  replace g69 : a.tmps.getD 69 undef = .bool false := g69
                  clear hx hg
                  intro k hk; obtain rfl : true = k := hk
                  have HK := Lib.hid hK; clear hK
                  dsimp only
                  exact op_move g69 (HK.out _ _ (Below.refl _ _) rfl)
                · intro a wk hx hb hg K hK
                  have g11 : a.tmps.getD 11 undef = .pointer (some ⟨W5.heap.size, 0, none⟩) := hx 11 (by kernel_rfl)
                  obtain ⟨l70, h70, -, -, -, g70⟩ : ∃ lo hi, _ ∧ _ ∧ _ ∧ (.nv (.bool false) : Fk).says lo hi wk (a.tmps.getD 70 undef) := hg 10 70 (by kernel_rfl) rfl
                  replace g70 : a.tmps.getD 70 undef = .bool false := g70
                  clear hx hg
                  intro k hk; obtain rfl : true = k := by rw [← hk]; show true = (match a.tmps.getD 70 undef with | .bool b => b == false | _ => false); rw [g70]; rfl
                  clear hk
                  have HK := Lib.hid hK; clear hK
                  dsimp only
                  have hX' := hXr.below hb
                  exact op_load g11 (ld_int _ _ 0 _ _ hX'.c0 hX'.c1) (HK.out _ _ (Below.refl _ _) ((R.out.fr FR).i2.keep hb))
                · intro a wk hx hb hg K hK
                  have g9 : a.tmps.getD 9 undef = .slice (some ad) 7 c9 := hx 9 (by kernel_rfl)
                  obtain ⟨l70, h70, -, -, -, g70⟩ : ∃ lo hi, _ ∧ _ ∧ _ ∧ (.nv (.bool false) : Fk).says lo hi wk (a.tmps.getD 70 undef) := hg 10 70 (by kernel_rfl) rfl
                  replace g70 : a.tmps.getD 70 undef = .bool false := g70
                  clear hx hg
                  intro k hk; obtain rfl : true = k := by rw [← hk]; show true = (match a.tmps.getD 70 undef with | .bool b => b == false | _ => false); rw [g70]; rfl
                  clear hk
                  have HK := Lib.hid hK; clear hK
                  dsimp only
                  exact op_move g9 (HK.out _ _ (Below.refl _ _) rfl)
                · intro a wk hx hb hg K hK
                  have g10 : a.tmps.getD 10 undef = .int .i64 k := hx 10 (by kernel_rfl)
                  obtain ⟨l70, h70, -, -, -, g70⟩ : ∃ lo hi, _ ∧ _ ∧ _ ∧ (.nv (.bool false) : Fk).says lo hi wk (a.tmps.getD 70 undef) := hg 10 70 (by kernel_rfl) rfl
                  replace g70 : a.tmps.getD 70 undef = .bool false := g70
                  clear hx hg
                  intro k hk; obtain rfl : true = k := by rw [← hk]; show true = (match a.tmps.getD 70 undef with | .bool b => b == false | _ => false); rw [g70]; rfl
                  clear hk
                  have HK := Lib.hid hK; clear hK
                  dsimp only
                  exact op_move g10 (HK.out _ _ (Below.refl _ _) rfl)
                · intro a wk hx hb hg K hK
                  obtain ⟨l72, h72, -, -, -, g72⟩ : ∃ lo hi, _ ∧ _ ∧ _ ∧ (.nv (.slice (some ad) 7 c9) : Fk).says lo hi wk (a.tmps.getD 72 undef) := hg 12 72 (by kernel_rfl) rfl
                  replace g72 : a.tmps.getD 72 undef = .slice (some ad) 7 c9 := g72
                  obtain ⟨l73, h73, -, -, -, g73⟩ : ∃ lo hi, _ ∧ _ ∧ _ ∧ (.nv (.int .i64 k) : Fk).says lo hi wk (a.tmps.getD 73 undef) := hg 13 73 (by kernel_rfl) rfl
                  replace g73 : a.tmps.getD 73 undef = .int .i64 k := g73
                  obtain ⟨l70, h70, -, -, -, g70⟩ : ∃ lo hi, _ ∧ _ ∧ _ ∧ (.nv (.bool false) : Fk).says lo hi wk (a.tmps.getD 70 undef) := hg 10 70 (by kernel_rfl) rfl
                  replace g70 : a.tmps.getD 70 undef = .bool false := g70
                  clear hx hg
                  intro k hk; obtain rfl : true = k := by rw [← hk]; show true = (match a.tmps.getD 70 undef with | .bool b => b == false | _ => false); rw [g70]; rfl
                  clear hk
                  have HK := Lib.hid hK; clear hK
                  dsimp only
                  exact op_idx g72 g73 hlt (HK.out _ _ (Below.refl _ _) rfl)
                · intro a wk hx hb hg K hK
                  obtain ⟨l74, h74, -, -, -, g74⟩ : ∃ lo hi, _ ∧ _ ∧ _ ∧ (.nv (.pointer (some (ad.add (k * 2)))) : Fk).says lo hi wk (a.tmps.getD 74 undef) := hg 14 74 (by kernel_rfl) rfl
                  replace g74 : a.tmps.getD 74 undef = .pointer (some (ad.add (k * 2))) := g74
                  obtain ⟨l70, h70, -, -, -, g70⟩ : ∃ lo hi, _ ∧ _ ∧ _ ∧ (.nv (.bool false) : Fk).says lo hi wk (a.tmps.getD 70 undef) := hg 10 70 (by kernel_rfl) rfl
                  replace g70 : a.tmps.getD 70 undef = .bool false := g70
                  clear hx hg
                  intro k hk; obtain rfl : true = k := by rw [← hk]; show true = (match a.tmps.getD 70 undef with | .bool b => b == false | _ => false); rw [g70]; rfl
                  clear hk
                  have HK := Lib.hid hK; clear hK
                  dsimp only
                  obtain ⟨ad', s', h1, -, -, h4, h5, h6⟩ := RdZ.nth (HL.out.keep hb) HZ.out
                  cases h1
                  exact op_load g74 (ld_intA _ _ _ _ h4 h5) (HK.out _ _ (Below.refl _ _) h6)
                · intro a wk hx hb hg K hK
                  obtain ⟨l71, h71, -, -, -, g71⟩ : ∃ lo hi, _ ∧ _ ∧ _ ∧ (.ni zk : Fk).says lo hi wk (a.tmps.getD 71 undef) := hg 11 71 (by kernel_rfl) rfl
                  obtain ⟨l75, h75, -, -, -, g75⟩ : ∃ lo hi, _ ∧ _ ∧ _ ∧ (.ni zk : Fk).says lo hi wk (a.tmps.getD 75 undef) := hg 15 75 (by kernel_rfl) rfl
                  obtain ⟨l70, h70, -, -, -, g70⟩ : ∃ lo hi, _ ∧ _ ∧ _ ∧ (.nv (.bool false) : Fk).says lo hi wk (a.tmps.getD 70 undef) := hg 10 70 (by kernel_rfl) rfl
                  replace g70 : a.tmps.getD 70 undef = .bool false := g70
                  clear hx hg
                  intro k hk; obtain rfl : true = k := by rw [← hk]; show true = (match a.tmps.getD 70 undef with | .bool b => b == false | _ => false); rw [g70]; rfl
                  clear hk
                  have HK := Lib.hid hK; clear hK
                  dsimp only
                  exact op_call2 (by kernel_rfl) (same_law g71 g75 (Bzk.out) (by decide) (by simp)) (TellsV.step HK.out)
                · intro a wk hx hb hg K hK
                  obtain ⟨l76, h76, -, -, -, g76⟩ : ∃ lo hi, _ ∧ _ ∧ _ ∧ (.nv (.bool true) : Fk).says lo hi wk (a.tmps.getD 76 undef) := hg 16 76 (by kernel_rfl) rfl
                  replace g76 : a.tmps.getD 76 undef = .bool true := g76
                  obtain ⟨l70, h70, -, -, -, g70⟩ : ∃ lo hi, _ ∧ _ ∧ _ ∧ (.nv (.bool false) : Fk).says lo hi wk (a.tmps.getD 70 undef) := hg 10 70 (by kernel_rfl) rfl
                  replace g70 : a.tmps.getD 70 undef = .bool false := g70
                  clear hx hg
                  intro k hk; obtain rfl : true = k := by rw [← hk]; show true = (match a.tmps.getD 70 undef with | .bool b => b == false | _ => false); rw [g70]; rfl
                  clear hk
                  have HK := Lib.hid hK; clear hK
                  dsimp only
                  exact op_not g76 rfl (HK.out _ _ (Below.refl _ _) rfl)
                · intro a wk hx hb hg K hK
                  obtain ⟨l70, h70, -, -, -, g70⟩ : ∃ lo hi, _ ∧ _ ∧ _ ∧ (.nv (.bool false) : Fk).says lo hi wk (a.tmps.getD 70 undef) := hg 10 70 (by kernel_rfl) rfl
                  replace g70 : a.tmps.getD 70 undef = .bool false := g70
                  obtain ⟨l77, h77, -, -, -, g77⟩ : ∃ lo hi, _ ∧ _ ∧ _ ∧ (.nv (.bool false) : Fk).says lo hi wk (a.tmps.getD 77 undef) := hg 17 77 (by kernel_rfl) rfl
                  replace g77 : a.tmps.getD 77 undef = .bool false := g77
                  clear hx hg
                  intro k hk; obtain rfl : true = k := hk
                  have HK := Lib.hid hK; clear hK
                  dsimp only
                  exact op_pickF g70 g77 (HK.out _ _ (Below.refl _ _) rfl)
              case fin11 =>
                intro t11 lo11 hi11 V11 hb2 hF hD
                have g78 : t11 78 = .bool false := (hF 18 78 rfl).2.2.2
                clear hF hD
                refine wpList_nil ?_
                simp only [g78]
                go_wp2_with fail
                go_roundw
                case rel => exact ⟨k + 1, by go_num, by omega, bw_below HQ.out hb2⟩
                case measure => simp [intOf]; omega
            · obtain rfl : k = 7 := by omega
              go_wp2_with fail
              refine wp_region_facts5 (by kernel_rfl) (fun i => (Fk.at [.ni z24, .nz x 1000, .nz z 1000, .nz y 1000, .nl [z, y] 2004, .no z84, .nl [x, z84] 3008, .no z86, .nv (.bool true), .nv (.bool false), .nv (.bool false), .ni z29, .nz x 1000, .nz z 1000, .nl [x, z] 2004, .no z94, .nz y 1000, .nl [z94, y] 3007, .no z97, .nv (.bool true), .nv (.bool false), .nv (.bool false), .nv (.bool false), .nz y 1000, .nz z 1000, .nz x 1000, .nl [z, x] 2004, .no z106, .nl [y, z106] 3008, .no z108, .nz y 1000, .nz z 1000, .nl [y, z] 2004, .no z112, .nz y 1000, .nz x 1000, .nl [y, x] 2004, .no z116, .nl [z112, z116] 4010, .no z118, .nv (.bool true), .nv (.bool false), .nv (.bool false)] i).says) [79, 80, 81, 82, 83, 84, 85, 86, 87, 88, 89, 90, 91, 92, 93, 94, 95, 96, 97, 98, 99, 100, 101, 102, 103, 104, 105, 106, 107, 108, 109, 110, 111, 112, 113, 114, 115, 116, 117, 118, 119, 120, 121] ?A13 43 [] ?hA13 _ rfl (by kernel_rfl) (fun _ _ _ _ _ _ => Fk.keep _) ?steps13 ?fin13
              case hA13 => intro t; (try simp only [putAll, Act.put, List.setIfInBounds_toArray, List.set_cons_zero, List.set_cons_succ]); (try exact rfl)
              case steps13 =>
                refine ⟨?_, ?_, ?_, ?_, ?_, ?_, ?_, ?_, ?_, ?_, ?_, ?_, ?_, ?_, ?_, ?_, ?_, ?_, ?_, ?_, ?_, ?_, ?_, ?_, ?_, ?_, ?_, ?_, ?_, ?_, ?_, ?_, ?_, ?_, ?_, ?_, ?_, ?_, ?_, ?_, ?_, ?_, ?_, trivial⟩
                · intro a wk hx hb hg K hK
                  have g7 : a.tmps.getD 7 undef = .pointer (some ⟨b7, 0, none⟩) := hx 7 (by kernel_rfl)
                  clear hx hg
                  intro k hk; obtain rfl : true = k := hk
                  have HK := Lib.hid hK; clear hK
                  dsimp only
                  have hX' := hXs.below hb
                  exact op_load g7 (ld_int _ _ 0 _ _ hX'.c0 hX'.c1) (HK.out _ _ (Below.refl _ _) ((S.out.fr FS).i2.keep hb))
                · intro a wk hx hb hg K hK
                  have g5 : a.tmps.getD 5 undef = .pointer (some ⟨w.heap.size + 2, 0, none⟩) := hx 5 (by kernel_rfl)
                  clear hx hg
                  intro k hk; obtain rfl : true = k := hk
                  have HK := Lib.hid hK; clear hK
                  dsimp only
                  have hX' := hXc.below hb
                  exact op_load g5 (ld_int _ _ 0 _ _ hX'.c0 hX'.c1) (HK.out _ _ (Below.refl _ _) ((IC.out.keep hB).keep hb))
                · intro a wk hx hb hg K hK
                  have g4 : a.tmps.getD 4 undef = .pointer (some ⟨w.heap.size + 1, 0, none⟩) := hx 4 (by kernel_rfl)
                  clear hx hg
                  intro k hk; obtain rfl : true = k := hk
                  have HK := Lib.hid hK; clear hK
                  dsimp only
                  have hX' := hXb.below hb
                  exact op_load g4 (ld_int _ _ 0 _ _ hX'.c0 hX'.c1) (HK.out _ _ (Below.refl _ _) ((IB.out.keep hB).keep hb))
                · intro a wk hx hb hg K hK
                  have g3 : a.tmps.getD 3 undef = .pointer (some ⟨w.heap.size, 0, none⟩) := hx 3 (by kernel_rfl)
                  clear hx hg
                  intro k hk; obtain rfl : true = k := hk
                  have HK := Lib.hid hK; clear hK
                  dsimp only
                  have hX' := hXa.below hb
                  exact op_load g3 (ld_int _ _ 0 _ _ hX'.c0 hX'.c1) (HK.out _ _ (Below.refl _ _) ((IA.out.keep hB).keep hb))
                · intro a wk hx hb hg K hK
                  obtain ⟨l81, h81, -, -, -, g81⟩ : ∃ lo hi, _ ∧ _ ∧ _ ∧ (.nz z 1000 : Fk).says lo hi wk (a.tmps.getD 81 undef) := hg 2 81 (by kernel_rfl) rfl
                  obtain ⟨l82, h82, -, -, -, g82⟩ : ∃ lo hi, _ ∧ _ ∧ _ ∧ (.nz y 1000 : Fk).says lo hi wk (a.tmps.getD 82 undef) := hg 3 82 (by kernel_rfl) rfl
                  clear hx hg
                  intro k hk; obtain rfl : true = k := hk
                  have HK := Lib.hid hK; clear hK
                  dsimp only
                  obtain ⟨x, w2, hr, hb2, hl⟩ := lz2 g81 g82
                  exact op_slice (by simp [Act.eval]) hr (HK.out _ _ hb2 hl)
                · intro a wk hx hb hg K hK
                  obtain ⟨l83, h83, -, -, -, g83⟩ : ∃ lo hi, _ ∧ _ ∧ _ ∧ (.nl [z, y] 2004 : Fk).says lo hi wk (a.tmps.getD 83 undef) := hg 4 83 (by kernel_rfl) rfl
                  clear hx hg
                  intro k hk; obtain rfl : true = k := hk
                  have HK := Lib.hid hK; clear hK
                  dsimp only
                  exact op_call1 (by kernel_rfl) (add_law g83 (by decide) (Hz84.out.symm)) (TellsO.step HK.out)
                · intro a wk hx hb hg K hK
                  obtain ⟨l80, h80, -, -, -, g80⟩ : ∃ lo hi, _ ∧ _ ∧ _ ∧ (.nz x 1000 : Fk).says lo hi wk (a.tmps.getD 80 undef) := hg 1 80 (by kernel_rfl) rfl
                  obtain ⟨l84, h84, -, -, -, g84⟩ : ∃ lo hi, _ ∧ _ ∧ _ ∧ (.no z84 : Fk).says lo hi wk (a.tmps.getD 84 undef) := hg 5 84 (by kernel_rfl) rfl
                  clear hx hg
                  intro k hk; obtain rfl : true = k := hk
                  have HK := Lib.hid hK; clear hK
                  dsimp only
                  obtain ⟨x, w2, hr, hb2, hl⟩ := lz2 g80 ((Fk.oi g84).iz (Bz84.out))
                  exact op_slice (by simp [Act.eval]) hr (HK.out _ _ hb2 hl)
                · intro a wk hx hb hg K hK
                  obtain ⟨l85, h85, -, -, -, g85⟩ : ∃ lo hi, _ ∧ _ ∧ _ ∧ (.nl [x, z84] 3008 : Fk).says lo hi wk (a.tmps.getD 85 undef) := hg 6 85 (by kernel_rfl) rfl
                  clear hx hg
                  intro k hk; obtain rfl : true = k := hk
                  have HK := Lib.hid hK; clear hK
                  dsimp only
                  exact op_call1 (by kernel_rfl) (add_law g85 (by decide) (Hz86.out.symm)) (TellsO.step HK.out)
                · intro a wk hx hb hg K hK
                  obtain ⟨l79, h79, -, -, -, g79⟩ : ∃ lo hi, _ ∧ _ ∧ _ ∧ (.ni z24 : Fk).says lo hi wk (a.tmps.getD 79 undef) := hg 0 79 (by kernel_rfl) rfl
                  obtain ⟨l86, h86, -, -, -, g86⟩ : ∃ lo hi, _ ∧ _ ∧ _ ∧ (.no z86 : Fk).says lo hi wk (a.tmps.getD 86 undef) := hg 7 86 (by kernel_rfl) rfl
                  clear hx hg
                  intro k hk; obtain rfl : true = k := hk
                  have HK := Lib.hid hK; clear hK
                  dsimp only
                  exact op_call2 (by kernel_rfl) (same_law g79 (Fk.oi g86) (Bz24.out) (by decide) (by rw [decide_eq_true_eq, Hz24.out, Hz86.out, Hz84.out]; omega)) (TellsV.step HK.out)
                · intro a wk hx hb hg K hK
                  obtain ⟨l87, h87, -, -, -, g87⟩ : ∃ lo hi, _ ∧ _ ∧ _ ∧ (.nv (.bool true) : Fk).says lo hi wk (a.tmps.getD 87 undef) := hg 8 87 (by kernel_rfl) rfl
                  replace g87 : a.tmps.getD 87 undef = .bool true := g87
                  clear hx hg
                  intro k hk; obtain rfl : true = k := hk
                  have HK := Lib.hid hK; clear hK
                  dsimp only
                  exact op_not g87 rfl (HK.out _ _ (Below.refl _ _) rfl)
                · intro a wk hx hb hg K hK
                  obtain ⟨l88, h88, -, -, -, g88⟩ : ∃ lo hi, _ ∧ _ ∧ _ ∧ (.nv (.bool false) : Fk).says lo hi wk (a.tmps.getD 88 undef) := hg 9 88 (by kernel_rfl) rfl
                  replace g88 : a.tmps.getD 88 undef = .bool false := g88
                  clear hx hg
                  intro k hk; obtain rfl : true = k := hk
                  have HK := Lib.hid hK; clear hK
                  dsimp only
                  exact op_move g88 (HK.out _ _ (Below.refl _ _) rfl)
                · intro a wk hx hb hg K hK
                  have g8 : a.tmps.getD 8 undef = .pointer (some ⟨b8, 0, none⟩) := hx 8 (by kernel_rfl)
                  obtain ⟨l89, h89, -, -, -, g89⟩ : ∃ lo hi, _ ∧ _ ∧ _ ∧ (.nv (.bool false) : Fk).says lo hi wk (a.tmps.getD 89 undef) := hg 10 89 (by kernel_rfl) rfl
                  replace g89 : a.tmps.getD 89 undef = .bool false := g89
                  clear hx hg
                  intro k hk; obtain rfl : true = k := by rw [← hk]; show true = (match a.tmps.getD 89 undef with | .bool b => b == false | _ => false); rw [g89]; rfl
                  clear hk
                  have HK := Lib.hid hK; clear hK
                  dsimp only
                  have hX' := hXp.below hb
                  exact op_load g8 (ld_int _ _ 0 _ _ hX'.c0 hX'.c1) (HK.out _ _ (Below.refl _ _) ((P.out.fr FP).i2.keep hb))
                · intro a wk hx hb hg K hK
                  have g5 : a.tmps.getD 5 undef = .pointer (some ⟨w.heap.size + 2, 0, none⟩) := hx 5 (by kernel_rfl)
                  obtain ⟨l89, h89, -, -, -, g89⟩ : ∃ lo hi, _ ∧ _ ∧ _ ∧ (.nv (.bool false) : Fk).says lo hi wk (a.tmps.getD 89 undef) := hg 10 89 (by kernel_rfl) rfl
                  replace g89 : a.tmps.getD 89 undef = .bool false := g89
                  clear hx hg
                  intro k hk; obtain rfl : true = k := by rw [← hk]; show true = (match a.tmps.getD 89 undef with | .bool b => b == false | _ => false); rw [g89]; rfl
                  clear hk
                  have HK := Lib.hid hK; clear hK
                  dsimp only
                  have hX' := hXc.below hb
                  exact op_load g5 (ld_int _ _ 0 _ _ hX'.c0 hX'.c1) (HK.out _ _ (Below.refl _ _) ((IC.out.keep hB).keep hb))
                · intro a wk hx hb hg K hK
                  have g4 : a.tmps.getD 4 undef = .pointer (some ⟨w.heap.size + 1, 0, none⟩) := hx 4 (by kernel_rfl)
                  obtain ⟨l89, h89, -, -, -, g89⟩ : ∃ lo hi, _ ∧ _ ∧ _ ∧ (.nv (.bool false) : Fk).says lo hi wk (a.tmps.getD 89 undef) := hg 10 89 (by kernel_rfl) rfl
                  replace g89 : a.tmps.getD 89 undef = .bool false := g89
                  clear hx hg
                  intro k hk; obtain rfl : true = k := by rw [← hk]; show true = (match a.tmps.getD 89 undef with | .bool b => b == false | _ => false); rw [g89]; rfl
                  clear hk
                  have HK := Lib.hid hK; clear hK
                  dsimp only
                  have hX' := hXb.below hb
                  exact op_load g4 (ld_int _ _ 0 _ _ hX'.c0 hX'.c1) (HK.out _ _ (Below.refl _ _) ((IB.out.keep hB).keep hb))
                · intro a wk hx hb hg K hK
                  obtain ⟨l91, h91, -, -, -, g91⟩ : ∃ lo hi, _ ∧ _ ∧ _ ∧ (.nz x 1000 : Fk).says lo hi wk (a.tmps.getD 91 undef) := hg 12 91 (by kernel_rfl) rfl
                  obtain ⟨l92, h92, -, -, -, g92⟩ : ∃ lo hi, _ ∧ _ ∧ _ ∧ (.nz z 1000 : Fk).says lo hi wk (a.tmps.getD 92 undef) := hg 13 92 (by kernel_rfl) rfl
                  obtain ⟨l89, h89, -, -, -, g89⟩ : ∃ lo hi, _ ∧ _ ∧ _ ∧ (.nv (.bool false) : Fk).says lo hi wk (a.tmps.getD 89 undef) := hg 10 89 (by kernel_rfl) rfl
                  replace g89 : a.tmps.getD 89 undef = .bool false := g89
                  clear hx hg
                  intro k hk; obtain rfl : true = k := by rw [← hk]; show true = (match a.tmps.getD 89 undef with | .bool b => b == false | _ => false); rw [g89]; rfl
                  clear hk
                  have HK := Lib.hid hK; clear hK
                  dsimp only
                  obtain ⟨x, w2, hr, hb2, hl⟩ := lz2 g91 g92
                  exact op_slice (by simp [Act.eval]) hr (HK.out _ _ hb2 hl)
                · intro a wk hx hb hg K hK
                  obtain ⟨l93, h93, -, -, -, g93⟩ : ∃ lo hi, _ ∧ _ ∧ _ ∧ (.nl [x, z] 2004 : Fk).says lo hi wk (a.tmps.getD 93 undef) := hg 14 93 (by kernel_rfl) rfl
                  obtain ⟨l89, h89, -, -, -, g89⟩ : ∃ lo hi, _ ∧ _ ∧ _ ∧ (.nv (.bool false) : Fk).says lo hi wk (a.tmps.getD 89 undef) := hg 10 89 (by kernel_rfl) rfl
                  replace g89 : a.tmps.getD 89 undef = .bool false := g89
                  clear hx hg
                  intro k hk; obtain rfl : true = k := by rw [← hk]; show true = (match a.tmps.getD 89 undef with | .bool b => b == false | _ => false); rw [g89]; rfl
                  clear hk
                  have HK := Lib.hid hK; clear hK
                  dsimp only
                  exact op_call1 (by kernel_rfl) (mul_law g93 (by decide) (Hz94.out.symm)) (TellsO.step HK.out)
                · intro a wk hx hb hg K hK
                  have g3 : a.tmps.getD 3 undef = .pointer (some ⟨w.heap.size, 0, none⟩) := hx 3 (by kernel_rfl)
                  obtain ⟨l89, h89, -, -, -, g89⟩ : ∃ lo hi, _ ∧ _ ∧ _ ∧ (.nv (.bool false) : Fk).says lo hi wk (a.tmps.getD 89 undef) := hg 10 89 (by kernel_rfl) rfl
                  replace g89 : a.tmps.getD 89 undef = .bool false := g89
                  clear hx hg
                  intro k hk; obtain rfl : true = k := by rw [← hk]; show true = (match a.tmps.getD 89 undef with | .bool b => b == false | _ => false); rw [g89]; rfl
                  clear hk
                  have HK := Lib.hid hK; clear hK
                  dsimp only
                  have hX' := hXa.below hb
                  exact op_load g3 (ld_int _ _ 0 _ _ hX'.c0 hX'.c1) (HK.out _ _ (Below.refl _ _) ((IA.out.keep hB).keep hb))
                · intro a wk hx hb hg K hK
                  obtain ⟨l94, h94, -, -, -, g94⟩ : ∃ lo hi, _ ∧ _ ∧ _ ∧ (.no z94 : Fk).says lo hi wk (a.tmps.getD 94 undef) := hg 15 94 (by kernel_rfl) rfl
                  obtain ⟨l95, h95, -, -, -, g95⟩ : ∃ lo hi, _ ∧ _ ∧ _ ∧ (.nz y 1000 : Fk).says lo hi wk (a.tmps.getD 95 undef) := hg 16 95 (by kernel_rfl) rfl
                  obtain ⟨l89, h89, -, -, -, g89⟩ : ∃ lo hi, _ ∧ _ ∧ _ ∧ (.nv (.bool false) : Fk).says lo hi wk (a.tmps.getD 89 undef) := hg 10 89 (by kernel_rfl) rfl
                  replace g89 : a.tmps.getD 89 undef = .bool false := g89
                  clear hx hg
                  intro k hk; obtain rfl : true = k := by rw [← hk]; show true = (match a.tmps.getD 89 undef with | .bool b => b == false | _ => false); rw [g89]; rfl
                  clear hk
                  have HK := Lib.hid hK; clear hK
                  dsimp only
                  obtain ⟨x, w2, hr, hb2, hl⟩ := lz2 ((Fk.oi g94).iz (Bz94.out)) g95
                  exact op_slice (by simp [Act.eval]) hr (HK.out _ _ hb2 hl)
                · intro a wk hx hb hg K hK
                  obtain ⟨l96, h96, -, -, -, g96⟩ : ∃ lo hi, _ ∧ _ ∧ _ ∧ (.nl [z94, y] 3007 : Fk).says lo hi wk (a.tmps.getD 96 undef) := hg 17 96 (by kernel_rfl) rfl
                  obtain ⟨l89, h89, -, -, -, g89⟩ : ∃ lo hi, _ ∧ _ ∧ _ ∧ (.nv (.bool false) : Fk).says lo hi wk (a.tmps.getD 89 undef) := hg 10 89 (by kernel_rfl) rfl
                  replace g89 : a.tmps.getD 89 undef = .bool false := g89
                  clear hx hg
                  intro k hk; obtain rfl : true = k := by rw [← hk]; show true = (match a.tmps.getD 89 undef with | .bool b => b == false | _ => false); rw [g89]; rfl
                  clear hk
                  have HK := Lib.hid hK; clear hK
                  dsimp only
                  exact op_call1 (by kernel_rfl) (mul_law g96 (by decide) (Hz97.out.symm)) (TellsO.step HK.out)
                · intro a wk hx hb hg K hK
                  obtain ⟨l90, h90, -, -, -, g90⟩ : ∃ lo hi, _ ∧ _ ∧ _ ∧ (.ni z29 : Fk).says lo hi wk (a.tmps.getD 90 undef) := hg 11 90 (by kernel_rfl) rfl
                  obtain ⟨l97, h97, -, -, -, g97⟩ : ∃ lo hi, _ ∧ _ ∧ _ ∧ (.no z97 : Fk).says lo hi wk (a.tmps.getD 97 undef) := hg 18 97 (by kernel_rfl) rfl
                  obtain ⟨l89, h89, -, -, -, g89⟩ : ∃ lo hi, _ ∧ _ ∧ _ ∧ (.nv (.bool false) : Fk).says lo hi wk (a.tmps.getD 89 undef) := hg 10 89 (by kernel_rfl) rfl
                  replace g89 : a.tmps.getD 89 undef = .bool false := g89
                  clear hx hg
                  intro k hk; obtain rfl : true = k := by rw [← hk]; show true = (match a.tmps.getD 89 undef with | .bool b => b == false | _ => false); rw [g89]; rfl
                  clear hk
                  have HK := Lib.hid hK; clear hK
                  dsimp only
                  exact op_call2 (by kernel_rfl) (same_law g90 (Fk.oi g97) (Bz29.out) (by decide) (by rw [decide_eq_true_eq, Hz29.out, Hz97.out, Hz94.out]; simp only [Int.one_mul, Int.zero_add, Int.mul_add]; ac_rfl)) (TellsV.step HK.out)
                · intro a wk hx hb hg K hK
                  obtain ⟨l98, h98, -, -, -, g98⟩ : ∃ lo hi, _ ∧ _ ∧ _ ∧ (.nv (.bool true) : Fk).says lo hi wk (a.tmps.getD 98 undef) := hg 19 98 (by kernel_rfl) rfl
                  replace g98 : a.tmps.getD 98 undef = .bool true := g98
                  obtain ⟨l89, h89, -, -, -, g89⟩ : ∃ lo hi, _ ∧ _ ∧ _ ∧ (.nv (.bool false) : Fk).says lo hi wk (a.tmps.getD 89 undef) := hg 10 89 (by kernel_rfl) rfl
                  replace g89 : a.tmps.getD 89 undef = .bool false := g89
                  clear hx hg
                  intro k hk; obtain rfl : true = k := by rw [← hk]; show true = (match a.tmps.getD 89 undef with | .bool b => b == false | _ => false); rw [g89]; rfl
                  clear hk
                  have HK := Lib.hid hK; clear hK
                  dsimp only
                  exact op_not g98 rfl (HK.out _ _ (Below.refl _ _) rfl)
                · intro a wk hx hb hg K hK
                  obtain ⟨l89, h89, -, -, -, g89⟩ : ∃ lo hi, _ ∧ _ ∧ _ ∧ (.nv (.bool false) : Fk).says lo hi wk (a.tmps.getD 89 undef) := hg 10 89 (by kernel_rfl) rfl
                  replace g89 : a.tmps.getD 89 undef = .bool false := g89
                  obtain ⟨l99, h99, -, -, -, g99⟩ : ∃ lo hi, _ ∧ _ ∧ _ ∧ (.nv (.bool false) : Fk).says lo hi wk (a.tmps.getD 99 undef) := hg 20 99 (by kernel_rfl) rfl
                  replace g99 : a.tmps.getD 99 undef = .bool false := g99
                  clear hx hg
                  intro k hk; obtain rfl : true = k := hk
                  have HK := Lib.hid hK; clear hK
                  dsimp only
                  exact op_pickF g89 g99 (HK.out _ _ (Below.refl _ _) rfl)
                · intro a wk hx hb hg K hK
                  obtain ⟨l100, h100, -, -, -, g100⟩ : ∃ lo hi, _ ∧ _ ∧ _ ∧ (.nv (.bool false) : Fk).says lo hi wk (a.tmps.getD 100 undef) := hg 21 100 (by kernel_rfl) rfl
                  replace g100 : a.tmps.getD 100 undef = .bool false := g100
                  clear hx hg
                  intro k hk; obtain rfl : true = k := hk
                  have HK := Lib.hid hK; clear hK
                  dsimp only
                  exact op_move g100 (HK.out _ _ (Below.refl _ _) rfl)
                · intro a wk hx hb hg K hK
                  have g3 : a.tmps.getD 3 undef = .pointer (some ⟨w.heap.size, 0, none⟩) := hx 3 (by kernel_rfl)
                  obtain ⟨l101, h101, -, -, -, g101⟩ : ∃ lo hi, _ ∧ _ ∧ _ ∧ (.nv (.bool false) : Fk).says lo hi wk (a.tmps.getD 101 undef) := hg 22 101 (by kernel_rfl) rfl
                  replace g101 : a.tmps.getD 101 undef = .bool false := g101
                  clear hx hg
                  intro k hk; obtain rfl : true = k := by rw [← hk]; show true = (match a.tmps.getD 101 undef with | .bool b => b == false | _ => false); rw [g101]; rfl
                  clear hk
                  have HK := Lib.hid hK; clear hK
                  dsimp only
                  have hX' := hXa.below hb
                  exact op_load g3 (ld_int _ _ 0 _ _ hX'.c0 hX'.c1) (HK.out _ _ (Below.refl _ _) ((IA.out.keep hB).keep hb))
                · intro a wk hx hb hg K hK
                  have g4 : a.tmps.getD 4 undef = .pointer (some ⟨w.heap.size + 1, 0, none⟩) := hx 4 (by kernel_rfl)
                  obtain ⟨l101, h101, -, -, -, g101⟩ : ∃ lo hi, _ ∧ _ ∧ _ ∧ (.nv (.bool false) : Fk).says lo hi wk (a.tmps.getD 101 undef) := hg 22 101 (by kernel_rfl) rfl
                  replace g101 : a.tmps.getD 101 undef = .bool false := g101
                  clear hx hg
                  intro k hk; obtain rfl : true = k := by rw [← hk]; show true = (match a.tmps.getD 101 undef with | .bool b => b == false | _ => false); rw [g101]; rfl
                  clear hk
                  have HK := Lib.hid hK; clear hK
                  dsimp only
                  have hX' := hXb.below hb
                  exact op_load g4 (ld_int _ _ 0 _ _ hX'.c0 hX'.c1) (HK.out _ _ (Below.refl _ _) ((IB.out.keep hB).keep hb))
                · intro a wk hx hb hg K hK
                  have g5 : a.tmps.getD 5 undef = .pointer (some ⟨w.heap.size + 2, 0, none⟩) := hx 5 (by kernel_rfl)
                  obtain ⟨l101, h101, -, -, -, g101⟩ : ∃ lo hi, _ ∧ _ ∧ _ ∧ (.nv (.bool false) : Fk).says lo hi wk (a.tmps.getD 101 undef) := hg 22 101 (by kernel_rfl) rfl
                  replace g101 : a.tmps.getD 101 undef = .bool false := g101
                  clear hx hg
                  intro k hk; obtain rfl : true = k := by rw [← hk]; show true = (match a.tmps.getD 101 undef with | .bool b => b == false | _ => false); rw [g101]; rfl
                  clear hk
                  have HK := Lib.hid hK; clear hK
                  dsimp only
                  have hX' := hXc.below hb
                  exact op_load g5 (ld_int _ _ 0 _ _ hX'.c0 hX'.c1) (HK.out _ _ (Below.refl _ _) ((IC.out.keep hB).keep hb))
                · intro a wk hx hb hg K hK
                  obtain ⟨l103, h103, -, -, -, g103⟩ : ∃ lo hi, _ ∧ _ ∧ _ ∧ (.nz z 1000 : Fk).says lo hi wk (a.tmps.getD 103 undef) := hg 24 103 (by kernel_rfl) rfl
                  obtain ⟨l104, h104, -, -, -, g104⟩ : ∃ lo hi, _ ∧ _ ∧ _ ∧ (.nz x 1000 : Fk).says lo hi wk (a.tmps.getD 104 undef) := hg 25 104 (by kernel_rfl) rfl
                  obtain ⟨l101, h101, -, -, -, g101⟩ : ∃ lo hi, _ ∧ _ ∧ _ ∧ (.nv (.bool false) : Fk).says lo hi wk (a.tmps.getD 101 undef) := hg 22 101 (by kernel_rfl) rfl
                  replace g101 : a.tmps.getD 101 undef = .bool false := g101
                  clear hx hg
                  intro k hk; obtain rfl : true = k := by rw [← hk]; show true = (match a.tmps.getD 101 undef with | .bool b => b == false | _ => false); rw [g101]; rfl
                  clear hk
                  have HK := Lib.hid hK; clear hK
                  dsimp only
                  obtain ⟨x, w2, hr, hb2, hl⟩ := lz2 g103 g104
                  exact op_slice (by simp [Act.eval]) hr (HK.out _ _ hb2 hl)
                · intro a wk hx hb hg K hK
                  obtain ⟨l105, h105, -, -, -, g105⟩ : ∃ lo hi, _ ∧ _ ∧ _ ∧ (.nl [z, x] 2004 : Fk).says lo hi wk (a.tmps.getD 105 undef) := hg 26 105 (by kernel_rfl) rfl
                  obtain ⟨l101, h101, -, -, -, g101⟩ : ∃ lo hi, _ ∧ _ ∧ _ ∧ (.nv (.bool false) : Fk).says lo hi wk (a.tmps.getD 101 undef) := hg 22 101 (by kernel_rfl) rfl
                  replace g101 : a.tmps.getD 101 undef = .bool false := g101
                  clear hx hg
                  intro k hk; obtain rfl : true = k := by rw [← hk]; show true = (match a.tmps.getD 101 undef with | .bool b => b == false | _ => false); rw [g101]; rfl
                  clear hk
                  have HK := Lib.hid hK; clear hK
                  dsimp only
                  exact op_call1 (by kernel_rfl) (add_law g105 (by decide) (Hz106.out.symm)) (TellsO.step HK.out)
                · intro a wk hx hb hg K hK
                  obtain ⟨l102, h102, -, -, -, g102⟩ : ∃ lo hi, _ ∧ _ ∧ _ ∧ (.nz y 1000 : Fk).says lo hi wk (a.tmps.getD 102 undef) := hg 23 102 (by kernel_rfl) rfl
                  obtain ⟨l106, h106, -, -, -, g106⟩ : ∃ lo hi, _ ∧ _ ∧ _ ∧ (.no z106 : Fk).says lo hi wk (a.tmps.getD 106 undef) := hg 27 106 (by kernel_rfl) rfl
                  obtain ⟨l101, h101, -, -, -, g101⟩ : ∃ lo hi, _ ∧ _ ∧ _ ∧ (.nv (.bool false) : Fk).says lo hi wk (a.tmps.getD 101 undef) := hg 22 101 (by kernel_rfl) rfl
                  replace g101 : a.tmps.getD 101 undef = .bool false := g101
                  clear hx hg
                  intro k hk; obtain rfl : true = k := by rw [← hk]; show true = (match a.tmps.getD 101 undef with | .bool b => b == false | _ => false); rw [g101]; rfl
                  clear hk
                  have HK := Lib.hid hK; clear hK
                  dsimp only
                  obtain ⟨x, w2, hr, hb2, hl⟩ := lz2 g102 ((Fk.oi g106).iz (Bz106.out))
                  exact op_slice (by simp [Act.eval]) hr (HK.out _ _ hb2 hl)
                · intro a wk hx hb hg K hK
                  obtain ⟨l107, h107, -, -, -, g107⟩ : ∃ lo hi, _ ∧ _ ∧ _ ∧ (.nl [y, z106] 3008 : Fk).says lo hi wk (a.tmps.getD 107 undef) := hg 28 107 (by kernel_rfl) rfl
                  obtain ⟨l101, h101, -, -, -, g101⟩ : ∃ lo hi, _ ∧ _ ∧ _ ∧ (.nv (.bool false) : Fk).says lo hi wk (a.tmps.getD 101 undef) := hg 22 101 (by kernel_rfl) rfl
                  replace g101 : a.tmps.getD 101 undef = .bool false := g101
                  clear hx hg
                  intro k hk; obtain rfl : true = k := by rw [← hk]; show true = (match a.tmps.getD 101 undef with | .bool b => b == false | _ => false); rw [g101]; rfl
                  clear hk
                  have HK := Lib.hid hK; clear hK
                  dsimp only
                  exact op_call1 (by kernel_rfl) (mul_law g107 (by decide) (Hz108.out.symm)) (TellsO.step HK.out)
                · intro a wk hx hb hg K hK
                  have g3 : a.tmps.getD 3 undef = .pointer (some ⟨w.heap.size, 0, none⟩) := hx 3 (by kernel_rfl)
                  obtain ⟨l101, h101, -, -, -, g101⟩ : ∃ lo hi, _ ∧ _ ∧ _ ∧ (.nv (.bool false) : Fk).says lo hi wk (a.tmps.getD 101 undef) := hg 22 101 (by kernel_rfl) rfl
                  replace g101 : a.tmps.getD 101 undef = .bool false := g101
                  clear hx hg
                  intro k hk; obtain rfl : true = k := by rw [← hk]; show true = (match a.tmps.getD 101 undef with | .bool b => b == false | _ => false); rw [g101]; rfl
                  clear hk
                  have HK := Lib.hid hK; clear hK
                  dsimp only
                  have hX' := hXa.below hb
                  exact op_load g3 (ld_int _ _ 0 _ _ hX'.c0 hX'.c1) (HK.out _ _ (Below.refl _ _) ((IA.out.keep hB).keep hb))
                · intro a wk hx hb hg K hK
                  have g4 : a.tmps.getD 4 undef = .pointer (some ⟨w.heap.size + 1, 0, none⟩) := hx 4 (by kernel_rfl)
                  obtain ⟨l101, h101, -, -, -, g101⟩ : ∃ lo hi, _ ∧ _ ∧ _ ∧ (.nv (.bool false) : Fk).says lo hi wk (a.tmps.getD 101 undef) := hg 22 101 (by kernel_rfl) rfl
                  replace g101 : a.tmps.getD 101 undef = .bool false := g101
                  clear hx hg
                  intro k hk; obtain rfl : true = k := by rw [← hk]; show true = (match a.tmps.getD 101 undef with | .bool b => b == false | _ => false); rw [g101]; rfl
                  clear hk
                  have HK := Lib.hid hK; clear hK
                  dsimp only
                  have hX' := hXb.below hb
                  exact op_load g4 (ld_int _ _ 0 _ _ hX'.c0 hX'.c1) (HK.out _ _ (Below.refl _ _) ((IB.out.keep hB).keep hb))
                · intro a wk hx hb hg K hK
                  obtain ⟨l109, h109, -, -, -, g109⟩ : ∃ lo hi, _ ∧ _ ∧ _ ∧ (.nz y 1000 : Fk).says lo hi wk (a.tmps.getD 109 undef) := hg 30 109 (by kernel_rfl) rfl
                  obtain ⟨l110, h110, -, -, -, g110⟩ : ∃ lo hi, _ ∧ _ ∧ _ ∧ (.nz z 1000 : Fk).says lo hi wk (a.tmps.getD 110 undef) := hg 31 110 (by kernel_rfl) rfl
                  obtain ⟨l101, h101, -, -, -, g101⟩ : ∃ lo hi, _ ∧ _ ∧ _ ∧ (.nv (.bool false) : Fk).says lo hi wk (a.tmps.getD 101 undef) := hg 22 101 (by kernel_rfl) rfl
                  replace g101 : a.tmps.getD 101 undef = .bool false := g101
                  clear hx hg
                  intro k hk; obtain rfl : true = k := by rw [← hk]; show true = (match a.tmps.getD 101 undef with | .bool b => b == false | _ => false); rw [g101]; rfl
                  clear hk
                  have HK := Lib.hid hK; clear hK
                  dsimp only
                  obtain ⟨x, w2, hr, hb2, hl⟩ := lz2 g109 g110
                  exact op_slice (by simp [Act.eval]) hr (HK.out _ _ hb2 hl)
                · intro a wk hx hb hg K hK
                  obtain ⟨l111, h111, -, -, -, g111⟩ : ∃ lo hi, _ ∧ _ ∧ _ ∧ (.nl [y, z] 2004 : Fk).says lo hi wk (a.tmps.getD 111 undef) := hg 32 111 (by kernel_rfl) rfl
                  obtain ⟨l101, h101, -, -, -, g101⟩ : ∃ lo hi, _ ∧ _ ∧ _ ∧ (.nv (.bool false) : Fk).says lo hi wk (a.tmps.getD 101 undef) := hg 22 101 (by kernel_rfl) rfl
                  replace g101 : a.tmps.getD 101 undef = .bool false := g101
                  clear hx hg
                  intro k hk; obtain rfl : true = k := by rw [← hk]; show true = (match a.tmps.getD 101 undef with | .bool b => b == false | _ => false); rw [g101]; rfl
                  clear hk
                  have HK := Lib.hid hK; clear hK
                  dsimp only
                  exact op_call1 (by kernel_rfl) (mul_law g111 (by decide) (Hz112.out.symm)) (TellsO.step HK.out)
                · intro a wk hx hb hg K hK
                  have g3 : a.tmps.getD 3 undef = .pointer (some ⟨w.heap.size, 0, none⟩) := hx 3 (by kernel_rfl)
                  obtain ⟨l101, h101, -, -, -, g101⟩ : ∃ lo hi, _ ∧ _ ∧ _ ∧ (.nv (.bool false) : Fk).says lo hi wk (a.tmps.getD 101 undef) := hg 22 101 (by kernel_rfl) rfl
                  replace g101 : a.tmps.getD 101 undef = .bool false := g101
                  clear hx hg
                  intro k hk; obtain rfl : true = k := by rw [← hk]; show true = (match a.tmps.getD 101 undef with | .bool b => b == false | _ => false); rw [g101]; rfl
                  clear hk
                  have HK := Lib.hid hK; clear hK
                  dsimp only
                  have hX' := hXa.below hb
                  exact op_load g3 (ld_int _ _ 0 _ _ hX'.c0 hX'.c1) (HK.out _ _ (Below.refl _ _) ((IA.out.keep hB).keep hb))
                · intro a wk hx hb hg K hK
                  have g5 : a.tmps.getD 5 undef = .pointer (some ⟨w.heap.size + 2, 0, none⟩) := hx 5 (by kernel_rfl)
                  obtain ⟨l101, h101, -, -, -, g101⟩ : ∃ lo hi, _ ∧ _ ∧ _ ∧ (.nv (.bool false) : Fk).says lo hi wk (a.tmps.getD 101 undef) := hg 22 101 (by kernel_rfl) rfl
                  replace g101 : a.tmps.getD 101 undef = .bool false := g101
                  clear hx hg
                  intro k hk; obtain rfl : true = k := by rw [← hk]; show true = (match a.tmps.getD 101 undef with | .bool b => b == false | _ => false); rw [g101]; rfl
                  clear hk
                  have HK := Lib.hid hK; clear hK
                  dsimp only
                  have hX' := hXc.below hb
                  exact op_load g5 (ld_int _ _ 0 _ _ hX'.c0 hX'.c1) (HK.out _ _ (Below.refl _ _) ((IC.out.keep hB).keep hb))
                · intro a wk hx hb hg K hK
                  obtain ⟨l113, h113, -, -, -, g113⟩ : ∃ lo hi, _ ∧ _ ∧ _ ∧ (.nz y 1000 : Fk).says lo hi wk (a.tmps.getD 113 undef) := hg 34 113 (by kernel_rfl) rfl
                  obtain ⟨l114, h114, -, -, -, g114⟩ : ∃ lo hi, _ ∧ _ ∧ _ ∧ (.nz x 1000 : Fk).says lo hi wk (a.tmps.getD 114 undef) := hg 35 114 (by kernel_rfl) rfl
                  obtain ⟨l101, h101, -, -, -, g101⟩ : ∃ lo hi, _ ∧ _ ∧ _ ∧ (.nv (.bool false) : Fk).says lo hi wk (a.tmps.getD 101 undef) := hg 22 101 (by kernel_rfl) rfl
                  replace g101 : a.tmps.getD 101 undef = .bool false := g101
                  clear hx hg
                  intro k hk; obtain rfl : true = k := by rw [← hk]; show true = (match a.tmps.getD 101 undef with | .bool b => b == false | _ => false); rw [g101]; rfl
                  clear hk
                  have HK := Lib.hid hK; clear hK
                  dsimp only
                  obtain ⟨x, w2, hr, hb2, hl⟩ := lz2 g113 g114
                  exact op_slice (by simp [Act.eval]) hr (HK.out _ _ hb2 hl)
                · intro a wk hx hb hg K hK
                  obtain ⟨l115, h115, -, -, -, g115⟩ : ∃ lo hi, _ ∧ _ ∧ _ ∧ (.nl [y, x] 2004 : Fk).says lo hi wk (a.tmps.getD 115 undef) := hg 36 115 (by kernel_rfl) rfl
                  obtain ⟨l101, h101, -, -, -, g101⟩ : ∃ lo hi, _ ∧ _ ∧ _ ∧ (.nv (.bool false) : Fk).says lo hi wk (a.tmps.getD 101 undef) := hg 22 101 (by kernel_rfl) rfl
                  replace g101 : a.tmps.getD 101 undef = .bool false := g101
                  clear hx hg
                  intro k hk; obtain rfl : true = k := by rw [← hk]; show true = (match a.tmps.getD 101 undef with | .bool b => b == false | _ => false); rw [g101]; rfl
                  clear hk
                  have HK := Lib.hid hK; clear hK
                  dsimp only
                  exact op_call1 (by kernel_rfl) (mul_law g115 (by decide) (Hz116.out.symm)) (TellsO.step HK.out)
                · intro a wk hx hb hg K hK
                  obtain ⟨l112, h112, -, -, -, g112⟩ : ∃ lo hi, _ ∧ _ ∧ _ ∧ (.no z112 : Fk).says lo hi wk (a.tmps.getD 112 undef) := hg 33 112 (by kernel_rfl) rfl
                  obtain ⟨l116, h116, -, -, -, g116⟩ : ∃ lo hi, _ ∧ _ ∧ _ ∧ (.no z116 : Fk).says lo hi wk (a.tmps.getD 116 undef) := hg 37 116 (by kernel_rfl) rfl
                  obtain ⟨l101, h101, -, -, -, g101⟩ : ∃ lo hi, _ ∧ _ ∧ _ ∧ (.nv (.bool false) : Fk).says lo hi wk (a.tmps.getD 101 undef) := hg 22 101 (by kernel_rfl) rfl
                  replace g101 : a.tmps.getD 101 undef = .bool false := g101
                  clear hx hg
                  intro k hk; obtain rfl : true = k := by rw [← hk]; show true = (match a.tmps.getD 101 undef with | .bool b => b == false | _ => false); rw [g101]; rfl
                  clear hk
                  have HK := Lib.hid hK; clear hK
                  dsimp only
                  obtain ⟨x, w2, hr, hb2, hl⟩ := lz2 ((Fk.oi g112).iz (Bz112.out)) ((Fk.oi g116).iz (Bz116.out))
                  exact op_slice (by simp [Act.eval]) hr (HK.out _ _ hb2 hl)
                · intro a wk hx hb hg K hK
                  obtain ⟨l117, h117, -, -, -, g117⟩ : ∃ lo hi, _ ∧ _ ∧ _ ∧ (.nl [z112, z116] 4010 : Fk).says lo hi wk (a.tmps.getD 117 undef) := hg 38 117 (by kernel_rfl) rfl
                  obtain ⟨l101, h101, -, -, -, g101⟩ : ∃ lo hi, _ ∧ _ ∧ _ ∧ (.nv (.bool false) : Fk).says lo hi wk (a.tmps.getD 101 undef) := hg 22 101 (by kernel_rfl) rfl
                  replace g101 : a.tmps.getD 101 undef = .bool false := g101
                  clear hx hg
                  intro k hk; obtain rfl : true = k := by rw [← hk]; show true = (match a.tmps.getD 101 undef with | .bool b => b == false | _ => false); rw [g101]; rfl
                  clear hk
                  have HK := Lib.hid hK; clear hK
                  dsimp only
                  exact op_call1 (by kernel_rfl) (add_law g117 (by decide) (Hz118.out.symm)) (TellsO.step HK.out)
                · intro a wk hx hb hg K hK
                  obtain ⟨l108, h108, -, -, -, g108⟩ : ∃ lo hi, _ ∧ _ ∧ _ ∧ (.no z108 : Fk).says lo hi wk (a.tmps.getD 108 undef) := hg 29 108 (by kernel_rfl) rfl
                  obtain ⟨l118, h118, -, -, -, g118⟩ : ∃ lo hi, _ ∧ _ ∧ _ ∧ (.no z118 : Fk).says lo hi wk (a.tmps.getD 118 undef) := hg 39 118 (by kernel_rfl) rfl
                  obtain ⟨l101, h101, -, -, -, g101⟩ : ∃ lo hi, _ ∧ _ ∧ _ ∧ (.nv (.bool false) : Fk).says lo hi wk (a.tmps.getD 101 undef) := hg 22 101 (by kernel_rfl) rfl
                  replace g101 : a.tmps.getD 101 undef = .bool false := g101
                  clear hx hg
                  intro k hk; obtain rfl : true = k := by rw [← hk]; show true = (match a.tmps.getD 101 undef with | .bool b => b == false | _ => false); rw [g101]; rfl
                  clear hk
                  have HK := Lib.hid hK; clear hK
                  dsimp only
                  exact op_call2 (by kernel_rfl) (same_law (Fk.oi g108) (Fk.oi g118) (Bz108.out) (by decide) (by rw [decide_eq_true_eq, Hz108.out, Hz106.out, Hz118.out, Hz112.out, Hz116.out]; simp only [Int.one_mul, Int.zero_add, Int.mul_add])) (TellsV.step HK.out)
                · intro a wk hx hb hg K hK
                  obtain ⟨l119, h119, -, -, -, g119⟩ : ∃ lo hi, _ ∧ _ ∧ _ ∧ (.nv (.bool true) : Fk).says lo hi wk (a.tmps.getD 119 undef) := hg 40 119 (by kernel_rfl) rfl
                  replace g119 : a.tmps.getD 119 undef = .bool true := g119
                  obtain ⟨l101, h101, -, -, -, g101⟩ : ∃ lo hi, _ ∧ _ ∧ _ ∧ (.nv (.bool false) : Fk).says lo hi wk (a.tmps.getD 101 undef) := hg 22 101 (by kernel_rfl) rfl
                  replace g101 : a.tmps.getD 101 undef = .bool false := g101
                  clear hx hg
                  intro k hk; obtain rfl : true = k := by rw [← hk]; show true = (match a.tmps.getD 101 undef with | .bool b => b == false | _ => false); rw [g101]; rfl
                  clear hk
                  have HK := Lib.hid hK; clear hK
                  dsimp only
                  exact op_not g119 rfl (HK.out _ _ (Below.refl _ _) rfl)
                · intro a wk hx hb hg K hK
                  obtain ⟨l101, h101, -, -, -, g101⟩ : ∃ lo hi, _ ∧ _ ∧ _ ∧ (.nv (.bool false) : Fk).says lo hi wk (a.tmps.getD 101 undef) := hg 22 101 (by kernel_rfl) rfl
                  replace g101 : a.tmps.getD 101 undef = .bool false := g101
                  obtain ⟨l120, h120, -, -, -, g120⟩ : ∃ lo hi, _ ∧ _ ∧ _ ∧ (.nv (.bool false) : Fk).says lo hi wk (a.tmps.getD 120 undef) := hg 41 120 (by kernel_rfl) rfl
                  replace g120 : a.tmps.getD 120 undef = .bool false := g120
                  clear hx hg
                  intro k hk; obtain rfl : true = k := hk
                  have HK := Lib.hid hK; clear hK
                  dsimp only
                  exact op_pickF g101 g120 (HK.out _ _ (Below.refl _ _) rfl)
              case fin13 =>
                intro t13 lo13 hi13 V13 hb2 hF hD
                have gb : t13 121 = .bool false := (hF 42 121 rfl).2.2.2
                clear hF hD
                refine wpList_nil ?_
                simp only [gb]
                clear gb
                have hB' := bw_below hB (hb2)
                have hXa' := hXa.below (hb2)
                have hXb' := hXb.below (hb2)
                have hXc' := hXc.below (hb2)
                have hXs' := hXs.below (hb2)
                have hXp' := hXp.below (hb2)
                have FS' := FS.below (hb2)
                have FP' := FP.below (hb2)
                clear hb2
                clear hfp_1 hcp_1 hfp_0 hcp_0 hfs_1 hcs_1 hfs_0 hcs_0 hcc_1 hcc_0 hcb_1 hcb_0 hca_1 hca_0 FP FS hXp hXs hXc hXb hXa hB
                have hB := hB'; have hXa := hXa'; have hXb := hXb'; have hXc := hXc'; have hXs := hXs'; have hXp := hXp'; have FS := FS'; have FP := FP'
                clear hB' hXa' hXb' hXc' hXs' hXp' FS' FP'
                have hca_0 := hXa.c0; have hca_1 := hXa.c1; have hcb_0 := hXb.c0; have hcb_1 := hXb.c1; have hcc_0 := hXc.c0; have hcc_1 := hXc.c1; have hcs_0 := hXs.c0; have hfs_0 := hXs.free 0; have hcs_1 := hXs.c1; have hfs_1 := hXs.free 1; have hcp_0 := hXp.c0; have hfp_0 := hXp.free 0; have hcp_1 := hXp.c1; have hfp_1 := hXp.free 1
                go_wp2_with fail
                refine wp_region_facts5 (by kernel_rfl) (fun i => (Fk.at [.nz y 1000, .nz y 1000, .no z124, .no (0), .nv (.int .i64 0), .nv (.bool false), .nv (.bool false), .nz y 1000, .nz z 1000, .no z131, .nz z 1000, .nz y 1000, .no z134, .no z135, .nv (.bool true), .nv (.bool false), .nv (.bool false), .nv (.bool false), .nz y 1000, .nz z 1000, .no z142, .nz z 1000, .nl [z142, z] 3007, .no z145, .nz y 1000, .nl [y] 1002, .no z148, .nv (.bool true), .nv (.bool false), .nv (.bool false)] i).says) [122, 123, 124, 125, 126, 127, 128, 129, 130, 131, 132, 133, 134, 135, 136, 137, 138, 139, 140, 141, 142, 143, 144, 145, 146, 147, 148, 149, 150, 151] ?A15 30 [] ?hA15 _ rfl (by kernel_rfl) (fun _ _ _ _ _ _ => Fk.keep _) ?steps15 ?fin15
                case hA15 => intro t; (try simp only [putAll, Act.put, List.setIfInBounds_toArray, List.set_cons_zero, List.set_cons_succ]); (try exact rfl)
                case steps15 =>
                  refine ⟨?_, ?_, ?_, ?_, ?_, ?_, ?_, ?_, ?_, ?_, ?_, ?_, ?_, ?_, ?_, ?_, ?_, ?_, ?_, ?_, ?_, ?_, ?_, ?_, ?_, ?_, ?_, ?_, ?_, ?_, trivial⟩
                  · intro a wk hx hb hg K hK
                    have g3 : a.tmps.getD 3 undef = .pointer (some ⟨w.heap.size, 0, none⟩) := hx 3 (by kernel_rfl)
                    clear hx hg
                    intro k hk; obtain rfl : true = k := hk
                    have HK := Lib.hid hK; clear hK
                    dsimp only
                    have hX' := hXa.below hb
                    exact op_load g3 (ld_int _ _ 0 _ _ hX'.c0 hX'.c1) (HK.out _ _ (Below.refl _ _) ((IA.out.keep hB).keep hb))
                  · intro a wk hx hb hg K hK
                    have g3 : a.tmps.getD 3 undef = .pointer (some ⟨w.heap.size, 0, none⟩) := hx 3 (by kernel_rfl)
                    clear hx hg
                    intro k hk; obtain rfl : true = k := hk
                    have HK := Lib.hid hK; clear hK
                    dsimp only
                    have hX' := hXa.below hb
                    exact op_load g3 (ld_int _ _ 0 _ _ hX'.c0 hX'.c1) (HK.out _ _ (Below.refl _ _) ((IA.out.keep hB).keep hb))
                  · intro a wk hx hb hg K hK
                    obtain ⟨l122, h122, -, -, -, g122⟩ : ∃ lo hi, _ ∧ _ ∧ _ ∧ (.nz y 1000 : Fk).says lo hi wk (a.tmps.getD 122 undef) := hg 0 122 (by kernel_rfl) rfl
                    obtain ⟨l123, h123, -, -, -, g123⟩ : ∃ lo hi, _ ∧ _ ∧ _ ∧ (.nz y 1000 : Fk).says lo hi wk (a.tmps.getD 123 undef) := hg 1 123 (by kernel_rfl) rfl
                    clear hx hg
                    intro k hk; obtain rfl : true = k := hk
                    have HK := Lib.hid hK; clear hK
                    dsimp only
                    exact op_call2 (by kernel_rfl) (sub_law g122 g123 (by decide) Hz124.out.symm) (TellsO.step HK.out)
                  · intro a wk hx hb hg K hK
                    clear hx hg
                    intro k hk; obtain rfl : true = k := hk
                    have HK := Lib.hid hK; clear hK
                    dsimp only
                    exact op_callc (by kernel_rfl) (of_law _ (0) _ (by decide) (by decide) rfl) (TellsO.step HK.out)
                  · intro a wk hx hb hg K hK
                    obtain ⟨l124, h124, -, -, -, g124⟩ : ∃ lo hi, _ ∧ _ ∧ _ ∧ (.no z124 : Fk).says lo hi wk (a.tmps.getD 124 undef) := hg 2 124 (by kernel_rfl) rfl
                    obtain ⟨l125, h125, -, -, -, g125⟩ : ∃ lo hi, _ ∧ _ ∧ _ ∧ (.no (0) : Fk).says lo hi wk (a.tmps.getD 125 undef) := hg 3 125 (by kernel_rfl) rfl
                    clear hx hg
                    intro k hk; obtain rfl : true = k := hk
                    have HK := Lib.hid hK; clear hK
                    dsimp only
                    exact op_call2 (by kernel_rfl) (cmp_law ((Fk.oi g124).iz (Bz124.out)) ((Fk.oi g125).iz ((zb1 (by decide) : ZB (0) 1))) (by decide) (by rw [Hz124.out]; exact cmpI_eq (by omega))) (TellsV.step HK.out)
                  · intro a wk hx hb hg K hK
                    obtain ⟨l126, h126, -, -, -, g126⟩ : ∃ lo hi, _ ∧ _ ∧ _ ∧ (.nv (.int .i64 0) : Fk).says lo hi wk (a.tmps.getD 126 undef) := hg 4 126 (by kernel_rfl) rfl
                    replace g126 : a.tmps.getD 126 undef = .int .i64 0 := g126
                    clear hx hg
                    intro k hk; obtain rfl : true = k := hk
                    have HK := Lib.hid hK; clear hK
                    dsimp only
                    exact op_bin g126 rfl (bin_neI.trans (congrArg (fun x => Result.ok (Value.bool x) wk) (by decide))) (HK.out _ _ (Below.refl _ _) rfl)
                  · intro a wk hx hb hg K hK
                    obtain ⟨l127, h127, -, -, -, g127⟩ : ∃ lo hi, _ ∧ _ ∧ _ ∧ (.nv (.bool false) : Fk).says lo hi wk (a.tmps.getD 127 undef) := hg 5 127 (by kernel_rfl) rfl
                    replace g127 : a.tmps.getD 127 undef = .bool false := g127
                    clear hx hg
                    intro k hk; obtain rfl : true = k := hk
                    have HK := Lib.hid hK; clear hK
                    dsimp only
                    exact op_move g127 (HK.out _ _ (Below.refl _ _) rfl)
                  · intro a wk hx hb hg K hK
                    have g3 : a.tmps.getD 3 undef = .pointer (some ⟨w.heap.size, 0, none⟩) := hx 3 (by kernel_rfl)
                    obtain ⟨l128, h128, -, -, -, g128⟩ : ∃ lo hi, _ ∧ _ ∧ _ ∧ (.nv (.bool false) : Fk).says lo hi wk (a.tmps.getD 128 undef) := hg 6 128 (by kernel_rfl) rfl
                    replace g128 : a.tmps.getD 128 undef = .bool false := g128
                    clear hx hg
                    intro k hk; obtain rfl : true = k := by rw [← hk]; show true = (match a.tmps.getD 128 undef with | .bool b => b == false | _ => false); rw [g128]; rfl
                    clear hk
                    have HK := Lib.hid hK; clear hK
                    dsimp only
                    have hX' := hXa.below hb
                    exact op_load g3 (ld_int _ _ 0 _ _ hX'.c0 hX'.c1) (HK.out _ _ (Below.refl _ _) ((IA.out.keep hB).keep hb))
                  · intro a wk hx hb hg K hK
                    have g4 : a.tmps.getD 4 undef = .pointer (some ⟨w.heap.size + 1, 0, none⟩) := hx 4 (by kernel_rfl)
                    obtain ⟨l128, h128, -, -, -, g128⟩ : ∃ lo hi, _ ∧ _ ∧ _ ∧ (.nv (.bool false) : Fk).says lo hi wk (a.tmps.getD 128 undef) := hg 6 128 (by kernel_rfl) rfl
                    replace g128 : a.tmps.getD 128 undef = .bool false := g128
                    clear hx hg
                    intro k hk; obtain rfl : true = k := by rw [← hk]; show true = (match a.tmps.getD 128 undef with | .bool b => b == false | _ => false); rw [g128]; rfl
                    clear hk
                    have HK := Lib.hid hK; clear hK
                    dsimp only
                    have hX' := hXb.below hb
                    exact op_load g4 (ld_int _ _ 0 _ _ hX'.c0 hX'.c1) (HK.out _ _ (Below.refl _ _) ((IB.out.keep hB).keep hb))
                  · intro a wk hx hb hg K hK
                    obtain ⟨l129, h129, -, -, -, g129⟩ : ∃ lo hi, _ ∧ _ ∧ _ ∧ (.nz y 1000 : Fk).says lo hi wk (a.tmps.getD 129 undef) := hg 7 129 (by kernel_rfl) rfl
                    obtain ⟨l130, h130, -, -, -, g130⟩ : ∃ lo hi, _ ∧ _ ∧ _ ∧ (.nz z 1000 : Fk).says lo hi wk (a.tmps.getD 130 undef) := hg 8 130 (by kernel_rfl) rfl
                    obtain ⟨l128, h128, -, -, -, g128⟩ : ∃ lo hi, _ ∧ _ ∧ _ ∧ (.nv (.bool false) : Fk).says lo hi wk (a.tmps.getD 128 undef) := hg 6 128 (by kernel_rfl) rfl
                    replace g128 : a.tmps.getD 128 undef = .bool false := g128
                    clear hx hg
                    intro k hk; obtain rfl : true = k := by rw [← hk]; show true = (match a.tmps.getD 128 undef with | .bool b => b == false | _ => false); rw [g128]; rfl
                    clear hk
                    have HK := Lib.hid hK; clear hK
                    dsimp only
                    exact op_call2 (by kernel_rfl) (sub_law g129 g130 (by decide) Hz131.out.symm) (TellsO.step HK.out)
                  · intro a wk hx hb hg K hK
                    have g4 : a.tmps.getD 4 undef = .pointer (some ⟨w.heap.size + 1, 0, none⟩) := hx 4 (by kernel_rfl)
                    obtain ⟨l128, h128, -, -, -, g128⟩ : ∃ lo hi, _ ∧ _ ∧ _ ∧ (.nv (.bool false) : Fk).says lo hi wk (a.tmps.getD 128 undef) := hg 6 128 (by kernel_rfl) rfl
                    replace g128 : a.tmps.getD 128 undef = .bool false := g128
                    clear hx hg
                    intro k hk; obtain rfl : true = k := by rw [← hk]; show true = (match a.tmps.getD 128 undef with | .bool b => b == false | _ => false); rw [g128]; rfl
                    clear hk
                    have HK := Lib.hid hK; clear hK
                    dsimp only
                    have hX' := hXb.below hb
                    exact op_load g4 (ld_int _ _ 0 _ _ hX'.c0 hX'.c1) (HK.out _ _ (Below.refl _ _) ((IB.out.keep hB).keep hb))
                  · intro a wk hx hb hg K hK
                    have g3 : a.tmps.getD 3 undef = .pointer (some ⟨w.heap.size, 0, none⟩) := hx 3 (by kernel_rfl)
                    obtain ⟨l128, h128, -, -, -, g128⟩ : ∃ lo hi, _ ∧ _ ∧ _ ∧ (.nv (.bool false) : Fk).says lo hi wk (a.tmps.getD 128 undef) := hg 6 128 (by kernel_rfl) rfl
                    replace g128 : a.tmps.getD 128 undef = .bool false := g128
                    clear hx hg
                    intro k hk; obtain rfl : true = k := by rw [← hk]; show true = (match a.tmps.getD 128 undef with | .bool b => b == false | _ => false); rw [g128]; rfl
                    clear hk
                    have HK := Lib.hid hK; clear hK
                    dsimp only
                    have hX' := hXa.below hb
                    exact op_load g3 (ld_int _ _ 0 _ _ hX'.c0 hX'.c1) (HK.out _ _ (Below.refl _ _) ((IA.out.keep hB).keep hb))
                  · intro a wk hx hb hg K hK
                    obtain ⟨l132, h132, -, -, -, g132⟩ : ∃ lo hi, _ ∧ _ ∧ _ ∧ (.nz z 1000 : Fk).says lo hi wk (a.tmps.getD 132 undef) := hg 10 132 (by kernel_rfl) rfl
                    obtain ⟨l133, h133, -, -, -, g133⟩ : ∃ lo hi, _ ∧ _ ∧ _ ∧ (.nz y 1000 : Fk).says lo hi wk (a.tmps.getD 133 undef) := hg 11 133 (by kernel_rfl) rfl
                    obtain ⟨l128, h128, -, -, -, g128⟩ : ∃ lo hi, _ ∧ _ ∧ _ ∧ (.nv (.bool false) : Fk).says lo hi wk (a.tmps.getD 128 undef) := hg 6 128 (by kernel_rfl) rfl
                    replace g128 : a.tmps.getD 128 undef = .bool false := g128
                    clear hx hg
                    intro k hk; obtain rfl : true = k := by rw [← hk]; show true = (match a.tmps.getD 128 undef with | .bool b => b == false | _ => false); rw [g128]; rfl
                    clear hk
                    have HK := Lib.hid hK; clear hK
                    dsimp only
                    exact op_call2 (by kernel_rfl) (sub_law g132 g133 (by decide) Hz134.out.symm) (TellsO.step HK.out)
                  · intro a wk hx hb hg K hK
                    obtain ⟨l134, h134, -, -, -, g134⟩ : ∃ lo hi, _ ∧ _ ∧ _ ∧ (.no z134 : Fk).says lo hi wk (a.tmps.getD 134 undef) := hg 12 134 (by kernel_rfl) rfl
                    obtain ⟨l128, h128, -, -, -, g128⟩ : ∃ lo hi, _ ∧ _ ∧ _ ∧ (.nv (.bool false) : Fk).says lo hi wk (a.tmps.getD 128 undef) := hg 6 128 (by kernel_rfl) rfl
                    replace g128 : a.tmps.getD 128 undef = .bool false := g128
                    clear hx hg
                    intro k hk; obtain rfl : true = k := by rw [← hk]; show true = (match a.tmps.getD 128 undef with | .bool b => b == false | _ => false); rw [g128]; rfl
                    clear hk
                    have HK := Lib.hid hK; clear hK
                    dsimp only
                    exact op_call1 (by kernel_rfl) (neg_law ((Fk.oi g134).iz (Bz134.out)) (by decide) Hz135.out.symm) (TellsO.step HK.out)
                  · intro a wk hx hb hg K hK
                    obtain ⟨l131, h131, -, -, -, g131⟩ : ∃ lo hi, _ ∧ _ ∧ _ ∧ (.no z131 : Fk).says lo hi wk (a.tmps.getD 131 undef) := hg 9 131 (by kernel_rfl) rfl
                    obtain ⟨l135, h135, -, -, -, g135⟩ : ∃ lo hi, _ ∧ _ ∧ _ ∧ (.no z135 : Fk).says lo hi wk (a.tmps.getD 135 undef) := hg 13 135 (by kernel_rfl) rfl
                    obtain ⟨l128, h128, -, -, -, g128⟩ : ∃ lo hi, _ ∧ _ ∧ _ ∧ (.nv (.bool false) : Fk).says lo hi wk (a.tmps.getD 128 undef) := hg 6 128 (by kernel_rfl) rfl
                    replace g128 : a.tmps.getD 128 undef = .bool false := g128
                    clear hx hg
                    intro k hk; obtain rfl : true = k := by rw [← hk]; show true = (match a.tmps.getD 128 undef with | .bool b => b == false | _ => false); rw [g128]; rfl
                    clear hk
                    have HK := Lib.hid hK; clear hK
                    dsimp only
                    exact op_call2 (by kernel_rfl) (same_law (Fk.oi g131) (Fk.oi g135) (Bz131.out) (by decide) (by rw [decide_eq_true_eq, Hz131.out, Hz135.out, Hz134.out]; omega)) (TellsV.step HK.out)
                  · intro a wk hx hb hg K hK
                    obtain ⟨l136, h136, -, -, -, g136⟩ : ∃ lo hi, _ ∧ _ ∧ _ ∧ (.nv (.bool true) : Fk).says lo hi wk (a.tmps.getD 136 undef) := hg 14 136 (by kernel_rfl) rfl
                    replace g136 : a.tmps.getD 136 undef = .bool true := g136
                    obtain ⟨l128, h128, -, -, -, g128⟩ : ∃ lo hi, _ ∧ _ ∧ _ ∧ (.nv (.bool false) : Fk).says lo hi wk (a.tmps.getD 128 undef) := hg 6 128 (by kernel_rfl) rfl
                    replace g128 : a.tmps.getD 128 undef = .bool false := g128
                    clear hx hg
                    intro k hk; obtain rfl : true = k := by rw [← hk]; show true = (match a.tmps.getD 128 undef with | .bool b => b == false | _ => false); rw [g128]; rfl
                    clear hk
                    have HK := Lib.hid hK; clear hK
                    dsimp only
                    exact op_not g136 rfl (HK.out _ _ (Below.refl _ _) rfl)
                  · intro a wk hx hb hg K hK
                    obtain ⟨l128, h128, -, -, -, g128⟩ : ∃ lo hi, _ ∧ _ ∧ _ ∧ (.nv (.bool false) : Fk).says lo hi wk (a.tmps.getD 128 undef) := hg 6 128 (by kernel_rfl) rfl
                    replace g128 : a.tmps.getD 128 undef = .bool false := g128
                    obtain ⟨l137, h137, -, -, -, g137⟩ : ∃ lo hi, _ ∧ _ ∧ _ ∧ (.nv (.bool false) : Fk).says lo hi wk (a.tmps.getD 137 undef) := hg 15 137 (by kernel_rfl) rfl
                    replace g137 : a.tmps.getD 137 undef = .bool false := g137
                    clear hx hg
                    intro k hk; obtain rfl : true = k := hk
                    have HK := Lib.hid hK; clear hK
                    dsimp only
                    exact op_pickF g128 g137 (HK.out _ _ (Below.refl _ _) rfl)
                  · intro a wk hx hb hg K hK
                    obtain ⟨l138, h138, -, -, -, g138⟩ : ∃ lo hi, _ ∧ _ ∧ _ ∧ (.nv (.bool false) : Fk).says lo hi wk (a.tmps.getD 138 undef) := hg 16 138 (by kernel_rfl) rfl
                    replace g138 : a.tmps.getD 138 undef = .bool false := g138
                    clear hx hg
                    intro k hk; obtain rfl : true = k := hk
                    have HK := Lib.hid hK; clear hK
                    dsimp only
                    exact op_move g138 (HK.out _ _ (Below.refl _ _) rfl)
                  · intro a wk hx hb hg K hK
                    have g3 : a.tmps.getD 3 undef = .pointer (some ⟨w.heap.size, 0, none⟩) := hx 3 (by kernel_rfl)
                    obtain ⟨l139, h139, -, -, -, g139⟩ : ∃ lo hi, _ ∧ _ ∧ _ ∧ (.nv (.bool false) : Fk).says lo hi wk (a.tmps.getD 139 undef) := hg 17 139 (by kernel_rfl) rfl
                    replace g139 : a.tmps.getD 139 undef = .bool false := g139
                    clear hx hg
                    intro k hk; obtain rfl : true = k := by rw [← hk]; show true = (match a.tmps.getD 139 undef with | .bool b => b == false | _ => false); rw [g139]; rfl
                    clear hk
                    have HK := Lib.hid hK; clear hK
                    dsimp only
                    have hX' := hXa.below hb
                    exact op_load g3 (ld_int _ _ 0 _ _ hX'.c0 hX'.c1) (HK.out _ _ (Below.refl _ _) ((IA.out.keep hB).keep hb))
                  · intro a wk hx hb hg K hK
                    have g4 : a.tmps.getD 4 undef = .pointer (some ⟨w.heap.size + 1, 0, none⟩) := hx 4 (by kernel_rfl)
                    obtain ⟨l139, h139, -, -, -, g139⟩ : ∃ lo hi, _ ∧ _ ∧ _ ∧ (.nv (.bool false) : Fk).says lo hi wk (a.tmps.getD 139 undef) := hg 17 139 (by kernel_rfl) rfl
                    replace g139 : a.tmps.getD 139 undef = .bool false := g139
                    clear hx hg
                    intro k hk; obtain rfl : true = k := by rw [← hk]; show true = (match a.tmps.getD 139 undef with | .bool b => b == false | _ => false); rw [g139]; rfl
                    clear hk
                    have HK := Lib.hid hK; clear hK
                    dsimp only
                    have hX' := hXb.below hb
                    exact op_load g4 (ld_int _ _ 0 _ _ hX'.c0 hX'.c1) (HK.out _ _ (Below.refl _ _) ((IB.out.keep hB).keep hb))
                  · intro a wk hx hb hg K hK
                    obtain ⟨l140, h140, -, -, -, g140⟩ : ∃ lo hi, _ ∧ _ ∧ _ ∧ (.nz y 1000 : Fk).says lo hi wk (a.tmps.getD 140 undef) := hg 18 140 (by kernel_rfl) rfl
                    obtain ⟨l141, h141, -, -, -, g141⟩ : ∃ lo hi, _ ∧ _ ∧ _ ∧ (.nz z 1000 : Fk).says lo hi wk (a.tmps.getD 141 undef) := hg 19 141 (by kernel_rfl) rfl
                    obtain ⟨l139, h139, -, -, -, g139⟩ : ∃ lo hi, _ ∧ _ ∧ _ ∧ (.nv (.bool false) : Fk).says lo hi wk (a.tmps.getD 139 undef) := hg 17 139 (by kernel_rfl) rfl
                    replace g139 : a.tmps.getD 139 undef = .bool false := g139
                    clear hx hg
                    intro k hk; obtain rfl : true = k := by rw [← hk]; show true = (match a.tmps.getD 139 undef with | .bool b => b == false | _ => false); rw [g139]; rfl
                    clear hk
                    have HK := Lib.hid hK; clear hK
                    dsimp only
                    exact op_call2 (by kernel_rfl) (sub_law g140 g141 (by decide) Hz142.out.symm) (TellsO.step HK.out)
                  · intro a wk hx hb hg K hK
                    have g4 : a.tmps.getD 4 undef = .pointer (some ⟨w.heap.size + 1, 0, none⟩) := hx 4 (by kernel_rfl)
                    obtain ⟨l139, h139, -, -, -, g139⟩ : ∃ lo hi, _ ∧ _ ∧ _ ∧ (.nv (.bool false) : Fk).says lo hi wk (a.tmps.getD 139 undef) := hg 17 139 (by kernel_rfl) rfl
                    replace g139 : a.tmps.getD 139 undef = .bool false := g139
                    clear hx hg
                    intro k hk; obtain rfl : true = k := by rw [← hk]; show true = (match a.tmps.getD 139 undef with | .bool b => b == false | _ => false); rw [g139]; rfl
                    clear hk
                    have HK := Lib.hid hK; clear hK
                    dsimp only
                    have hX' := hXb.below hb
                    exact op_load g4 (ld_int _ _ 0 _ _ hX'.c0 hX'.c1) (HK.out _ _ (Below.refl _ _) ((IB.out.keep hB).keep hb))
                  · intro a wk hx hb hg K hK
                    obtain ⟨l142, h142, -, -, -, g142⟩ : ∃ lo hi, _ ∧ _ ∧ _ ∧ (.no z142 : Fk).says lo hi wk (a.tmps.getD 142 undef) := hg 20 142 (by kernel_rfl) rfl
                    obtain ⟨l143, h143, -, -, -, g143⟩ : ∃ lo hi, _ ∧ _ ∧ _ ∧ (.nz z 1000 : Fk).says lo hi wk (a.tmps.getD 143 undef) := hg 21 143 (by kernel_rfl) rfl
                    obtain ⟨l139, h139, -, -, -, g139⟩ : ∃ lo hi, _ ∧ _ ∧ _ ∧ (.nv (.bool false) : Fk).says lo hi wk (a.tmps.getD 139 undef) := hg 17 139 (by kernel_rfl) rfl
                    replace g139 : a.tmps.getD 139 undef = .bool false := g139
                    clear hx hg
                    intro k hk; obtain rfl : true = k := by rw [← hk]; show true = (match a.tmps.getD 139 undef with | .bool b => b == false | _ => false); rw [g139]; rfl
                    clear hk
                    have HK := Lib.hid hK; clear hK
                    dsimp only
                    obtain ⟨x, w2, hr, hb2, hl⟩ := lz2 ((Fk.oi g142).iz (Bz142.out)) g143
                    exact op_slice (by simp [Act.eval]) hr (HK.out _ _ hb2 hl)
                  · intro a wk hx hb hg K hK
                    obtain ⟨l144, h144, -, -, -, g144⟩ : ∃ lo hi, _ ∧ _ ∧ _ ∧ (.nl [z142, z] 3007 : Fk).says lo hi wk (a.tmps.getD 144 undef) := hg 22 144 (by kernel_rfl) rfl
                    obtain ⟨l139, h139, -, -, -, g139⟩ : ∃ lo hi, _ ∧ _ ∧ _ ∧ (.nv (.bool false) : Fk).says lo hi wk (a.tmps.getD 139 undef) := hg 17 139 (by kernel_rfl) rfl
                    replace g139 : a.tmps.getD 139 undef = .bool false := g139
                    clear hx hg
                    intro k hk; obtain rfl : true = k := by rw [← hk]; show true = (match a.tmps.getD 139 undef with | .bool b => b == false | _ => false); rw [g139]; rfl
                    clear hk
                    have HK := Lib.hid hK; clear hK
                    dsimp only
                    exact op_call1 (by kernel_rfl) (add_law g144 (by decide) (Hz145.out.symm)) (TellsO.step HK.out)
                  · intro a wk hx hb hg K hK
                    have g3 : a.tmps.getD 3 undef = .pointer (some ⟨w.heap.size, 0, none⟩) := hx 3 (by kernel_rfl)
                    obtain ⟨l139, h139, -, -, -, g139⟩ : ∃ lo hi, _ ∧ _ ∧ _ ∧ (.nv (.bool false) : Fk).says lo hi wk (a.tmps.getD 139 undef) := hg 17 139 (by kernel_rfl) rfl
                    replace g139 : a.tmps.getD 139 undef = .bool false := g139
                    clear hx hg
                    intro k hk; obtain rfl : true = k := by rw [← hk]; show true = (match a.tmps.getD 139 undef with | .bool b => b == false | _ => false); rw [g139]; rfl
                    clear hk
                    have HK := Lib.hid hK; clear hK
                    dsimp only
                    have hX' := hXa.below hb
                    exact op_load g3 (ld_int _ _ 0 _ _ hX'.c0 hX'.c1) (HK.out _ _ (Below.refl _ _) ((IA.out.keep hB).keep hb))
                  · intro a wk hx hb hg K hK
                    obtain ⟨l146, h146, -, -, -, g146⟩ : ∃ lo hi, _ ∧ _ ∧ _ ∧ (.nz y 1000 : Fk).says lo hi wk (a.tmps.getD 146 undef) := hg 24 146 (by kernel_rfl) rfl
                    obtain ⟨l139, h139, -, -, -, g139⟩ : ∃ lo hi, _ ∧ _ ∧ _ ∧ (.nv (.bool false) : Fk).says lo hi wk (a.tmps.getD 139 undef) := hg 17 139 (by kernel_rfl) rfl
                    replace g139 : a.tmps.getD 139 undef = .bool false := g139
                    clear hx hg
                    intro k hk; obtain rfl : true = k := by rw [← hk]; show true = (match a.tmps.getD 139 undef with | .bool b => b == false | _ => false); rw [g139]; rfl
                    clear hk
                    have HK := Lib.hid hK; clear hK
                    dsimp only
                    obtain ⟨x, w2, hr, hb2, hl⟩ := lz1 g146
                    exact op_slice (by simp [Act.eval]) hr (HK.out _ _ hb2 hl)
                  · intro a wk hx hb hg K hK
                    obtain ⟨l147, h147, -, -, -, g147⟩ : ∃ lo hi, _ ∧ _ ∧ _ ∧ (.nl [y] 1002 : Fk).says lo hi wk (a.tmps.getD 147 undef) := hg 25 147 (by kernel_rfl) rfl
                    obtain ⟨l139, h139, -, -, -, g139⟩ : ∃ lo hi, _ ∧ _ ∧ _ ∧ (.nv (.bool false) : Fk).says lo hi wk (a.tmps.getD 139 undef) := hg 17 139 (by kernel_rfl) rfl
                    replace g139 : a.tmps.getD 139 undef = .bool false := g139
                    clear hx hg
                    intro k hk; obtain rfl : true = k := by rw [← hk]; show true = (match a.tmps.getD 139 undef with | .bool b => b == false | _ => false); rw [g139]; rfl
                    clear hk
                    have HK := Lib.hid hK; clear hK
                    dsimp only
                    exact op_call1 (by kernel_rfl) (add_law g147 (by decide) (Hz148.out.symm)) (TellsO.step HK.out)
                  · intro a wk hx hb hg K hK
                    obtain ⟨l145, h145, -, -, -, g145⟩ : ∃ lo hi, _ ∧ _ ∧ _ ∧ (.no z145 : Fk).says lo hi wk (a.tmps.getD 145 undef) := hg 23 145 (by kernel_rfl) rfl
                    obtain ⟨l148, h148, -, -, -, g148⟩ : ∃ lo hi, _ ∧ _ ∧ _ ∧ (.no z148 : Fk).says lo hi wk (a.tmps.getD 148 undef) := hg 26 148 (by kernel_rfl) rfl
                    obtain ⟨l139, h139, -, -, -, g139⟩ : ∃ lo hi, _ ∧ _ ∧ _ ∧ (.nv (.bool false) : Fk).says lo hi wk (a.tmps.getD 139 undef) := hg 17 139 (by kernel_rfl) rfl
                    replace g139 : a.tmps.getD 139 undef = .bool false := g139
                    clear hx hg
                    intro k hk; obtain rfl : true = k := by rw [← hk]; show true = (match a.tmps.getD 139 undef with | .bool b => b == false | _ => false); rw [g139]; rfl
                    clear hk
                    have HK := Lib.hid hK; clear hK
                    dsimp only
                    exact op_call2 (by kernel_rfl) (same_law (Fk.oi g145) (Fk.oi g148) (Bz145.out) (by decide) (by rw [decide_eq_true_eq, Hz145.out, Hz142.out, Hz148.out]; omega)) (TellsV.step HK.out)
                  · intro a wk hx hb hg K hK
                    obtain ⟨l149, h149, -, -, -, g149⟩ : ∃ lo hi, _ ∧ _ ∧ _ ∧ (.nv (.bool true) : Fk).says lo hi wk (a.tmps.getD 149 undef) := hg 27 149 (by kernel_rfl) rfl
                    replace g149 : a.tmps.getD 149 undef = .bool true := g149
                    obtain ⟨l139, h139, -, -, -, g139⟩ : ∃ lo hi, _ ∧ _ ∧ _ ∧ (.nv (.bool false) : Fk).says lo hi wk (a.tmps.getD 139 undef) := hg 17 139 (by kernel_rfl) rfl
                    replace g139 : a.tmps.getD 139 undef = .bool false := g139
                    clear hx hg
                    intro k hk; obtain rfl : true = k := by rw [← hk]; show true = (match a.tmps.getD 139 undef with | .bool b => b == false | _ => false); rw [g139]; rfl
                    clear hk
                    have HK := Lib.hid hK; clear hK
                    dsimp only
                    exact op_not g149 rfl (HK.out _ _ (Below.refl _ _) rfl)
                  · intro a wk hx hb hg K hK
                    obtain ⟨l139, h139, -, -, -, g139⟩ : ∃ lo hi, _ ∧ _ ∧ _ ∧ (.nv (.bool false) : Fk).says lo hi wk (a.tmps.getD 139 undef) := hg 17 139 (by kernel_rfl) rfl
                    replace g139 : a.tmps.getD 139 undef = .bool false := g139
                    obtain ⟨l150, h150, -, -, -, g150⟩ : ∃ lo hi, _ ∧ _ ∧ _ ∧ (.nv (.bool false) : Fk).says lo hi wk (a.tmps.getD 150 undef) := hg 28 150 (by kernel_rfl) rfl
                    replace g150 : a.tmps.getD 150 undef = .bool false := g150
                    clear hx hg
                    intro k hk; obtain rfl : true = k := hk
                    have HK := Lib.hid hK; clear hK
                    dsimp only
                    exact op_pickF g139 g150 (HK.out _ _ (Below.refl _ _) rfl)
                case fin15 =>
                  intro t15 lo15 hi15 V15 hb2 hF hD
                  have gb : t15 151 = .bool false := (hF 29 151 rfl).2.2.2
                  clear hF hD
                  refine wpList_nil ?_
                  simp only [gb]
                  clear gb
                  have hB' := bw_below hB (hb2)
                  have hXa' := hXa.below (hb2)
                  have hXb' := hXb.below (hb2)
                  have hXc' := hXc.below (hb2)
                  have hXs' := hXs.below (hb2)
                  have hXp' := hXp.below (hb2)
                  have FS' := FS.below (hb2)
                  have FP' := FP.below (hb2)
                  clear hb2
                  clear hfp_1 hcp_1 hfp_0 hcp_0 hfs_1 hcs_1 hfs_0 hcs_0 hcc_1 hcc_0 hcb_1 hcb_0 hca_1 hca_0 FP FS hXp hXs hXc hXb hXa hB
                  have hB := hB'; have hXa := hXa'; have hXb := hXb'; have hXc := hXc'; have hXs := hXs'; have hXp := hXp'; have FS := FS'; have FP := FP'
                  clear hB' hXa' hXb' hXc' hXs' hXp' FS' FP'
                  have hca_0 := hXa.c0; have hca_1 := hXa.c1; have hcb_0 := hXb.c0; have hcb_1 := hXb.c1; have hcc_0 := hXc.c0; have hcc_1 := hXc.c1; have hcs_0 := hXs.c0; have hfs_0 := hXs.free 0; have hcs_1 := hXs.c1; have hfs_1 := hXs.free 1; have hcp_0 := hXp.c0; have hfp_0 := hXp.free 0; have hcp_1 := hXp.c1; have hfp_1 := hXp.free 1
                  go_wp2_with fail
                  rcases Int.lt_trichotomy y z with hyz | hyz | hyz
                  · have HCC := Lib.hid (cmpI_lt hyz)
                    clear hyz
                    refine wp_region_facts5 (by kernel_rfl) (fun i => (Fk.at [.nz y 1000, .nz z 1000, .nv (.int .i64 (-1)), .nz y 1000, .nz x 1000, .nl [y, x] 2004, .no z158, .nz z 1000, .nz x 1000, .nl [z, x] 2004, .no z162, .nv (.int .i64 (-1)), .nv (.bool true), .nv (.bool true), .nz y 1000, .nz z 1000, .nv (.int .i64 (-1)), .nz z 1000, .nz y 1000, .nv (.int .i64 (1)), .nv (.int .i64 (-1)), .nv (.bool true), .nv (.bool true), .nv (.bool true), .nz y 1000, .nz z 1000, .nv (.int .i64 (-1)), .nz y 1000, .nz z 1000, .no z181, .no (0), .nv (.int .i64 (-1)), .nv (.bool true), .nv (.bool true), .nv (.bool true), .nz y 1000, .nz z 1000, .nv (.int .i64 (-1)), .nv (.bool true), .nv (.bool true), .nv (undef), .nv (undef), .nv (undef), .nv (undef), .nv (undef), .nv (.bool true), .nv (.bool true), .nv (.bool true)] i).says) [152, 153, 154, 155, 156, 157, 158, 159, 160, 161, 162, 163, 164, 165, 166, 167, 168, 169, 170, 171, 172, 173, 174, 175, 176, 177, 178, 179, 180, 181, 182, 183, 184, 185, 186, 187, 188, 189, 190, 191, 192, 193, 194, 195, 196, 197, 198, 6] ?A171 48 [] ?hA171 _ rfl (by kernel_rfl) (fun _ _ _ _ _ _ => Fk.keep _) ?steps171 ?fin171
                    case hA171 => intro t; (try simp only [putAll, Act.put, List.setIfInBounds_toArray, List.set_cons_zero, List.set_cons_succ]); (try exact rfl)
                    case steps171 =>
                      refine ⟨?_, ?_, ?_, ?_, ?_, ?_, ?_, ?_, ?_, ?_, ?_, ?_, ?_, ?_, ?_, ?_, ?_, ?_, ?_, ?_, ?_, ?_, ?_, ?_, ?_, ?_, ?_, ?_, ?_, ?_, ?_, ?_, ?_, ?_, ?_, ?_, ?_, ?_, ?_, ?_, ?_, ?_, ?_, ?_, ?_, ?_, ?_, ?_, trivial⟩
                      · intro a wk hx hb hg K hK
                        have g3 : a.tmps.getD 3 undef = .pointer (some ⟨w.heap.size, 0, none⟩) := hx 3 (by kernel_rfl)
                        clear hx hg
                        intro k hk; obtain rfl : true = k := hk
                        have HK := Lib.hid hK; clear hK
                        dsimp only
                        have hX' := hXa.below hb
                        exact op_load g3 (ld_int _ _ 0 _ _ hX'.c0 hX'.c1) (HK.out _ _ (Below.refl _ _) ((IA.out.keep hB).keep hb))
                      · intro a wk hx hb hg K hK
                        have g4 : a.tmps.getD 4 undef = .pointer (some ⟨w.heap.size + 1, 0, none⟩) := hx 4 (by kernel_rfl)
                        clear hx hg
                        intro k hk; obtain rfl : true = k := hk
                        have HK := Lib.hid hK; clear hK
                        dsimp only
                        have hX' := hXb.below hb
                        exact op_load g4 (ld_int _ _ 0 _ _ hX'.c0 hX'.c1) (HK.out _ _ (Below.refl _ _) ((IB.out.keep hB).keep hb))
                      · intro a wk hx hb hg K hK
                        obtain ⟨l152, h152, -, -, -, g152⟩ : ∃ lo hi, _ ∧ _ ∧ _ ∧ (.nz y 1000 : Fk).says lo hi wk (a.tmps.getD 152 undef) := hg 0 152 (by kernel_rfl) rfl
                        obtain ⟨l153, h153, -, -, -, g153⟩ : ∃ lo hi, _ ∧ _ ∧ _ ∧ (.nz z 1000 : Fk).says lo hi wk (a.tmps.getD 153 undef) := hg 1 153 (by kernel_rfl) rfl
                        clear hx hg
                        intro k hk; obtain rfl : true = k := hk
                        have HK := Lib.hid hK; clear hK
                        dsimp only
                        exact op_call2 (by kernel_rfl) (cmp_law g152 g153 (by decide) (HCC.out)) (TellsV.step HK.out)
                      · intro a wk hx hb hg K hK
                        have g3 : a.tmps.getD 3 undef = .pointer (some ⟨w.heap.size, 0, none⟩) := hx 3 (by kernel_rfl)
                        clear hx hg
                        intro k hk; obtain rfl : true = k := hk
                        have HK := Lib.hid hK; clear hK
                        dsimp only
                        have hX' := hXa.below hb
                        exact op_load g3 (ld_int _ _ 0 _ _ hX'.c0 hX'.c1) (HK.out _ _ (Below.refl _ _) ((IA.out.keep hB).keep hb))
                      · intro a wk hx hb hg K hK
                        have g5 : a.tmps.getD 5 undef = .pointer (some ⟨w.heap.size + 2, 0, none⟩) := hx 5 (by kernel_rfl)
                        clear hx hg
                        intro k hk; obtain rfl : true = k := hk
                        have HK := Lib.hid hK; clear hK
                        dsimp only
                        have hX' := hXc.below hb
                        exact op_load g5 (ld_int _ _ 0 _ _ hX'.c0 hX'.c1) (HK.out _ _ (Below.refl _ _) ((IC.out.keep hB).keep hb))
                      · intro a wk hx hb hg K hK
                        obtain ⟨l155, h155, -, -, -, g155⟩ : ∃ lo hi, _ ∧ _ ∧ _ ∧ (.nz y 1000 : Fk).says lo hi wk (a.tmps.getD 155 undef) := hg 3 155 (by kernel_rfl) rfl
                        obtain ⟨l156, h156, -, -, -, g156⟩ : ∃ lo hi, _ ∧ _ ∧ _ ∧ (.nz x 1000 : Fk).says lo hi wk (a.tmps.getD 156 undef) := hg 4 156 (by kernel_rfl) rfl
                        clear hx hg
                        intro k hk; obtain rfl : true = k := hk
                        have HK := Lib.hid hK; clear hK
                        dsimp only
                        obtain ⟨x, w2, hr, hb2, hl⟩ := lz2 g155 g156
                        exact op_slice (by simp [Act.eval]) hr (HK.out _ _ hb2 hl)
                      · intro a wk hx hb hg K hK
                        obtain ⟨l157, h157, -, -, -, g157⟩ : ∃ lo hi, _ ∧ _ ∧ _ ∧ (.nl [y, x] 2004 : Fk).says lo hi wk (a.tmps.getD 157 undef) := hg 5 157 (by kernel_rfl) rfl
                        clear hx hg
                        intro k hk; obtain rfl : true = k := hk
                        have HK := Lib.hid hK; clear hK
                        dsimp only
                        exact op_call1 (by kernel_rfl) (add_law g157 (by decide) (Hz158.out.symm)) (TellsO.step HK.out)
                      · intro a wk hx hb hg K hK
                        have g4 : a.tmps.getD 4 undef = .pointer (some ⟨w.heap.size + 1, 0, none⟩) := hx 4 (by kernel_rfl)
                        clear hx hg
                        intro k hk; obtain rfl : true = k := hk
                        have HK := Lib.hid hK; clear hK
                        dsimp only
                        have hX' := hXb.below hb
                        exact op_load g4 (ld_int _ _ 0 _ _ hX'.c0 hX'.c1) (HK.out _ _ (Below.refl _ _) ((IB.out.keep hB).keep hb))
                      · intro a wk hx hb hg K hK
                        have g5 : a.tmps.getD 5 undef = .pointer (some ⟨w.heap.size + 2, 0, none⟩) := hx 5 (by kernel_rfl)
                        clear hx hg
                        intro k hk; obtain rfl : true = k := hk
                        have HK := Lib.hid hK; clear hK
                        dsimp only
                        have hX' := hXc.below hb
                        exact op_load g5 (ld_int _ _ 0 _ _ hX'.c0 hX'.c1) (HK.out _ _ (Below.refl _ _) ((IC.out.keep hB).keep hb))
                      · intro a wk hx hb hg K hK
                        obtain ⟨l159, h159, -, -, -, g159⟩ : ∃ lo hi, _ ∧ _ ∧ _ ∧ (.nz z 1000 : Fk).says lo hi wk (a.tmps.getD 159 undef) := hg 7 159 (by kernel_rfl) rfl
                        obtain ⟨l160, h160, -, -, -, g160⟩ : ∃ lo hi, _ ∧ _ ∧ _ ∧ (.nz x 1000 : Fk).says lo hi wk (a.tmps.getD 160 undef) := hg 8 160 (by kernel_rfl) rfl
                        clear hx hg
                        intro k hk; obtain rfl : true = k := hk
                        have HK := Lib.hid hK; clear hK
                        dsimp only
                        obtain ⟨x, w2, hr, hb2, hl⟩ := lz2 g159 g160
                        exact op_slice (by simp [Act.eval]) hr (HK.out _ _ hb2 hl)
                      · intro a wk hx hb hg K hK
                        obtain ⟨l161, h161, -, -, -, g161⟩ : ∃ lo hi, _ ∧ _ ∧ _ ∧ (.nl [z, x] 2004 : Fk).says lo hi wk (a.tmps.getD 161 undef) := hg 9 161 (by kernel_rfl) rfl
                        clear hx hg
                        intro k hk; obtain rfl : true = k := hk
                        have HK := Lib.hid hK; clear hK
                        dsimp only
                        exact op_call1 (by kernel_rfl) (add_law g161 (by decide) (Hz162.out.symm)) (TellsO.step HK.out)
                      · intro a wk hx hb hg K hK
                        obtain ⟨l158, h158, -, -, -, g158⟩ : ∃ lo hi, _ ∧ _ ∧ _ ∧ (.no z158 : Fk).says lo hi wk (a.tmps.getD 158 undef) := hg 6 158 (by kernel_rfl) rfl
                        obtain ⟨l162, h162, -, -, -, g162⟩ : ∃ lo hi, _ ∧ _ ∧ _ ∧ (.no z162 : Fk).says lo hi wk (a.tmps.getD 162 undef) := hg 10 162 (by kernel_rfl) rfl
                        clear hx hg
                        intro k hk; obtain rfl : true = k := hk
                        have HK := Lib.hid hK; clear hK
                        dsimp only
                        exact op_call2 (by kernel_rfl) (cmp_law ((Fk.oi g158).iz (Bz158.out)) ((Fk.oi g162).iz (Bz162.out)) (by decide) (by rw [Hz158.out, Hz162.out, Int.zero_add, Int.zero_add, cmpI_add]; exact HCC.out)) (TellsV.step HK.out)
                      · intro a wk hx hb hg K hK
                        obtain ⟨l154, h154, -, -, -, g154⟩ : ∃ lo hi, _ ∧ _ ∧ _ ∧ (.nv (.int .i64 (-1)) : Fk).says lo hi wk (a.tmps.getD 154 undef) := hg 2 154 (by kernel_rfl) rfl
                        replace g154 : a.tmps.getD 154 undef = .int .i64 (-1) := g154
                        obtain ⟨l163, h163, -, -, -, g163⟩ : ∃ lo hi, _ ∧ _ ∧ _ ∧ (.nv (.int .i64 (-1)) : Fk).says lo hi wk (a.tmps.getD 163 undef) := hg 11 163 (by kernel_rfl) rfl
                        replace g163 : a.tmps.getD 163 undef = .int .i64 (-1) := g163
                        clear hx hg
                        intro k hk; obtain rfl : true = k := hk
                        have HK := Lib.hid hK; clear hK
                        dsimp only
                        exact op_bin g154 g163 (bin_eqI.trans (congrArg (fun x => Result.ok (Value.bool x) wk) (by decide))) (HK.out _ _ (Below.refl _ _) rfl)
                      · intro a wk hx hb hg K hK
                        obtain ⟨l164, h164, -, -, -, g164⟩ : ∃ lo hi, _ ∧ _ ∧ _ ∧ (.nv (.bool true) : Fk).says lo hi wk (a.tmps.getD 164 undef) := hg 12 164 (by kernel_rfl) rfl
                        replace g164 : a.tmps.getD 164 undef = .bool true := g164
                        clear hx hg
                        intro k hk; obtain rfl : true = k := hk
                        have HK := Lib.hid hK; clear hK
                        dsimp only
                        exact op_move g164 (HK.out _ _ (Below.refl _ _) rfl)
                      · intro a wk hx hb hg K hK
                        have g3 : a.tmps.getD 3 undef = .pointer (some ⟨w.heap.size, 0, none⟩) := hx 3 (by kernel_rfl)
                        obtain ⟨l165, h165, -, -, -, g165⟩ : ∃ lo hi, _ ∧ _ ∧ _ ∧ (.nv (.bool true) : Fk).says lo hi wk (a.tmps.getD 165 undef) := hg 13 165 (by kernel_rfl) rfl
                        replace g165 : a.tmps.getD 165 undef = .bool true := g165
                        clear hx hg
                        intro k hk; obtain rfl : true = k := by rw [← hk]; show true = (match a.tmps.getD 165 undef with | .bool b => b == true | _ => false); rw [g165]; rfl
                        clear hk
                        have HK := Lib.hid hK; clear hK
                        dsimp only
                        have hX' := hXa.below hb
                        exact op_load g3 (ld_int _ _ 0 _ _ hX'.c0 hX'.c1) (HK.out _ _ (Below.refl _ _) ((IA.out.keep hB).keep hb))
                      · intro a wk hx hb hg K hK
                        have g4 : a.tmps.getD 4 undef = .pointer (some ⟨w.heap.size + 1, 0, none⟩) := hx 4 (by kernel_rfl)
                        obtain ⟨l165, h165, -, -, -, g165⟩ : ∃ lo hi, _ ∧ _ ∧ _ ∧ (.nv (.bool true) : Fk).says lo hi wk (a.tmps.getD 165 undef) := hg 13 165 (by kernel_rfl) rfl
                        replace g165 : a.tmps.getD 165 undef = .bool true := g165
                        clear hx hg
                        intro k hk; obtain rfl : true = k := by rw [← hk]; show true = (match a.tmps.getD 165 undef with | .bool b => b == true | _ => false); rw [g165]; rfl
                        clear hk
                        have HK := Lib.hid hK; clear hK
                        dsimp only
                        have hX' := hXb.below hb
                        exact op_load g4 (ld_int _ _ 0 _ _ hX'.c0 hX'.c1) (HK.out _ _ (Below.refl _ _) ((IB.out.keep hB).keep hb))
                      · intro a wk hx hb hg K hK
                        obtain ⟨l166, h166, -, -, -, g166⟩ : ∃ lo hi, _ ∧ _ ∧ _ ∧ (.nz y 1000 : Fk).says lo hi wk (a.tmps.getD 166 undef) := hg 14 166 (by kernel_rfl) rfl
                        obtain ⟨l167, h167, -, -, -, g167⟩ : ∃ lo hi, _ ∧ _ ∧ _ ∧ (.nz z 1000 : Fk).says lo hi wk (a.tmps.getD 167 undef) := hg 15 167 (by kernel_rfl) rfl
                        obtain ⟨l165, h165, -, -, -, g165⟩ : ∃ lo hi, _ ∧ _ ∧ _ ∧ (.nv (.bool true) : Fk).says lo hi wk (a.tmps.getD 165 undef) := hg 13 165 (by kernel_rfl) rfl
                        replace g165 : a.tmps.getD 165 undef = .bool true := g165
                        clear hx hg
                        intro k hk; obtain rfl : true = k := by rw [← hk]; show true = (match a.tmps.getD 165 undef with | .bool b => b == true | _ => false); rw [g165]; rfl
                        clear hk
                        have HK := Lib.hid hK; clear hK
                        dsimp only
                        exact op_call2 (by kernel_rfl) (cmp_law g166 g167 (by decide) (HCC.out)) (TellsV.step HK.out)
                      · intro a wk hx hb hg K hK
                        have g4 : a.tmps.getD 4 undef = .pointer (some ⟨w.heap.size + 1, 0, none⟩) := hx 4 (by kernel_rfl)
                        obtain ⟨l165, h165, -, -, -, g165⟩ : ∃ lo hi, _ ∧ _ ∧ _ ∧ (.nv (.bool true) : Fk).says lo hi wk (a.tmps.getD 165 undef) := hg 13 165 (by kernel_rfl) rfl
                        replace g165 : a.tmps.getD 165 undef = .bool true := g165
                        clear hx hg
                        intro k hk; obtain rfl : true = k := by rw [← hk]; show true = (match a.tmps.getD 165 undef with | .bool b => b == true | _ => false); rw [g165]; rfl
                        clear hk
                        have HK := Lib.hid hK; clear hK
                        dsimp only
                        have hX' := hXb.below hb
                        exact op_load g4 (ld_int _ _ 0 _ _ hX'.c0 hX'.c1) (HK.out _ _ (Below.refl _ _) ((IB.out.keep hB).keep hb))
                      · intro a wk hx hb hg K hK
                        have g3 : a.tmps.getD 3 undef = .pointer (some ⟨w.heap.size, 0, none⟩) := hx 3 (by kernel_rfl)
                        obtain ⟨l165, h165, -, -, -, g165⟩ : ∃ lo hi, _ ∧ _ ∧ _ ∧ (.nv (.bool true) : Fk).says lo hi wk (a.tmps.getD 165 undef) := hg 13 165 (by kernel_rfl) rfl
                        replace g165 : a.tmps.getD 165 undef = .bool true := g165
                        clear hx hg
                        intro k hk; obtain rfl : true = k := by rw [← hk]; show true = (match a.tmps.getD 165 undef with | .bool b => b == true | _ => false); rw [g165]; rfl
                        clear hk
                        have HK := Lib.hid hK; clear hK
                        dsimp only
                        have hX' := hXa.below hb
                        exact op_load g3 (ld_int _ _ 0 _ _ hX'.c0 hX'.c1) (HK.out _ _ (Below.refl _ _) ((IA.out.keep hB).keep hb))
                      · intro a wk hx hb hg K hK
                        obtain ⟨l169, h169, -, -, -, g169⟩ : ∃ lo hi, _ ∧ _ ∧ _ ∧ (.nz z 1000 : Fk).says lo hi wk (a.tmps.getD 169 undef) := hg 17 169 (by kernel_rfl) rfl
                        obtain ⟨l170, h170, -, -, -, g170⟩ : ∃ lo hi, _ ∧ _ ∧ _ ∧ (.nz y 1000 : Fk).says lo hi wk (a.tmps.getD 170 undef) := hg 18 170 (by kernel_rfl) rfl
                        obtain ⟨l165, h165, -, -, -, g165⟩ : ∃ lo hi, _ ∧ _ ∧ _ ∧ (.nv (.bool true) : Fk).says lo hi wk (a.tmps.getD 165 undef) := hg 13 165 (by kernel_rfl) rfl
                        replace g165 : a.tmps.getD 165 undef = .bool true := g165
                        clear hx hg
                        intro k hk; obtain rfl : true = k := by rw [← hk]; show true = (match a.tmps.getD 165 undef with | .bool b => b == true | _ => false); rw [g165]; rfl
                        clear hk
                        have HK := Lib.hid hK; clear hK
                        dsimp only
                        exact op_call2 (by kernel_rfl) (cmp_law g169 g170 (by decide) (by rw [cmpI_swap, HCC.out] <;> rfl)) (TellsV.step HK.out)
                      · intro a wk hx hb hg K hK
                        obtain ⟨l171, h171, -, -, -, g171⟩ : ∃ lo hi, _ ∧ _ ∧ _ ∧ (.nv (.int .i64 (1)) : Fk).says lo hi wk (a.tmps.getD 171 undef) := hg 19 171 (by kernel_rfl) rfl
                        replace g171 : a.tmps.getD 171 undef = .int .i64 (1) := g171
                        obtain ⟨l165, h165, -, -, -, g165⟩ : ∃ lo hi, _ ∧ _ ∧ _ ∧ (.nv (.bool true) : Fk).says lo hi wk (a.tmps.getD 165 undef) := hg 13 165 (by kernel_rfl) rfl
                        replace g165 : a.tmps.getD 165 undef = .bool true := g165
                        clear hx hg
                        intro k hk; obtain rfl : true = k := by rw [← hk]; show true = (match a.tmps.getD 165 undef with | .bool b => b == true | _ => false); rw [g165]; rfl
                        clear hk
                        have HK := Lib.hid hK; clear hK
                        dsimp only
                        exact op_negI g171 (by decide) (HK.out _ _ (Below.refl _ _) rfl)
                      · intro a wk hx hb hg K hK
                        obtain ⟨l168, h168, -, -, -, g168⟩ : ∃ lo hi, _ ∧ _ ∧ _ ∧ (.nv (.int .i64 (-1)) : Fk).says lo hi wk (a.tmps.getD 168 undef) := hg 16 168 (by kernel_rfl) rfl
                        replace g168 : a.tmps.getD 168 undef = .int .i64 (-1) := g168
                        obtain ⟨l172, h172, -, -, -, g172⟩ : ∃ lo hi, _ ∧ _ ∧ _ ∧ (.nv (.int .i64 (-1)) : Fk).says lo hi wk (a.tmps.getD 172 undef) := hg 20 172 (by kernel_rfl) rfl
                        replace g172 : a.tmps.getD 172 undef = .int .i64 (-1) := g172
                        obtain ⟨l165, h165, -, -, -, g165⟩ : ∃ lo hi, _ ∧ _ ∧ _ ∧ (.nv (.bool true) : Fk).says lo hi wk (a.tmps.getD 165 undef) := hg 13 165 (by kernel_rfl) rfl
                        replace g165 : a.tmps.getD 165 undef = .bool true := g165
                        clear hx hg
                        intro k hk; obtain rfl : true = k := by rw [← hk]; show true = (match a.tmps.getD 165 undef with | .bool b => b == true | _ => false); rw [g165]; rfl
                        clear hk
                        have HK := Lib.hid hK; clear hK
                        dsimp only
                        exact op_bin g168 g172 (bin_eqI.trans (congrArg (fun x => Result.ok (Value.bool x) wk) (by decide))) (HK.out _ _ (Below.refl _ _) rfl)
                      · intro a wk hx hb hg K hK
                        obtain ⟨l165, h165, -, -, -, g165⟩ : ∃ lo hi, _ ∧ _ ∧ _ ∧ (.nv (.bool true) : Fk).says lo hi wk (a.tmps.getD 165 undef) := hg 13 165 (by kernel_rfl) rfl
                        replace g165 : a.tmps.getD 165 undef = .bool true := g165
                        obtain ⟨l173, h173, -, -, -, g173⟩ : ∃ lo hi, _ ∧ _ ∧ _ ∧ (.nv (.bool true) : Fk).says lo hi wk (a.tmps.getD 173 undef) := hg 21 173 (by kernel_rfl) rfl
                        replace g173 : a.tmps.getD 173 undef = .bool true := g173
                        clear hx hg
                        intro k hk; obtain rfl : true = k := hk
                        have HK := Lib.hid hK; clear hK
                        dsimp only
                        exact op_pickT g165 g173 (HK.out _ _ (Below.refl _ _) rfl)
                      · intro a wk hx hb hg K hK
                        obtain ⟨l174, h174, -, -, -, g174⟩ : ∃ lo hi, _ ∧ _ ∧ _ ∧ (.nv (.bool true) : Fk).says lo hi wk (a.tmps.getD 174 undef) := hg 22 174 (by kernel_rfl) rfl
                        replace g174 : a.tmps.getD 174 undef = .bool true := g174
                        clear hx hg
                        intro k hk; obtain rfl : true = k := hk
                        have HK := Lib.hid hK; clear hK
                        dsimp only
                        exact op_move g174 (HK.out _ _ (Below.refl _ _) rfl)
                      · intro a wk hx hb hg K hK
                        have g3 : a.tmps.getD 3 undef = .pointer (some ⟨w.heap.size, 0, none⟩) := hx 3 (by kernel_rfl)
                        obtain ⟨l175, h175, -, -, -, g175⟩ : ∃ lo hi, _ ∧ _ ∧ _ ∧ (.nv (.bool true) : Fk).says lo hi wk (a.tmps.getD 175 undef) := hg 23 175 (by kernel_rfl) rfl
                        replace g175 : a.tmps.getD 175 undef = .bool true := g175
                        clear hx hg
                        intro k hk; obtain rfl : true = k := by rw [← hk]; show true = (match a.tmps.getD 175 undef with | .bool b => b == true | _ => false); rw [g175]; rfl
                        clear hk
                        have HK := Lib.hid hK; clear hK
                        dsimp only
                        have hX' := hXa.below hb
                        exact op_load g3 (ld_int _ _ 0 _ _ hX'.c0 hX'.c1) (HK.out _ _ (Below.refl _ _) ((IA.out.keep hB).keep hb))
                      · intro a wk hx hb hg K hK
                        have g4 : a.tmps.getD 4 undef = .pointer (some ⟨w.heap.size + 1, 0, none⟩) := hx 4 (by kernel_rfl)
                        obtain ⟨l175, h175, -, -, -, g175⟩ : ∃ lo hi, _ ∧ _ ∧ _ ∧ (.nv (.bool true) : Fk).says lo hi wk (a.tmps.getD 175 undef) := hg 23 175 (by kernel_rfl) rfl
                        replace g175 : a.tmps.getD 175 undef = .bool true := g175
                        clear hx hg
                        intro k hk; obtain rfl : true = k := by rw [← hk]; show true = (match a.tmps.getD 175 undef with | .bool b => b == true | _ => false); rw [g175]; rfl
                        clear hk
                        have HK := Lib.hid hK; clear hK
                        dsimp only
                        have hX' := hXb.below hb
                        exact op_load g4 (ld_int _ _ 0 _ _ hX'.c0 hX'.c1) (HK.out _ _ (Below.refl _ _) ((IB.out.keep hB).keep hb))
                      · intro a wk hx hb hg K hK
                        obtain ⟨l176, h176, -, -, -, g176⟩ : ∃ lo hi, _ ∧ _ ∧ _ ∧ (.nz y 1000 : Fk).says lo hi wk (a.tmps.getD 176 undef) := hg 24 176 (by kernel_rfl) rfl
                        obtain ⟨l177, h177, -, -, -, g177⟩ : ∃ lo hi, _ ∧ _ ∧ _ ∧ (.nz z 1000 : Fk).says lo hi wk (a.tmps.getD 177 undef) := hg 25 177 (by kernel_rfl) rfl
                        obtain ⟨l175, h175, -, -, -, g175⟩ : ∃ lo hi, _ ∧ _ ∧ _ ∧ (.nv (.bool true) : Fk).says lo hi wk (a.tmps.getD 175 undef) := hg 23 175 (by kernel_rfl) rfl
                        replace g175 : a.tmps.getD 175 undef = .bool true := g175
                        clear hx hg
                        intro k hk; obtain rfl : true = k := by rw [← hk]; show true = (match a.tmps.getD 175 undef with | .bool b => b == true | _ => false); rw [g175]; rfl
                        clear hk
                        have HK := Lib.hid hK; clear hK
                        dsimp only
                        exact op_call2 (by kernel_rfl) (cmp_law g176 g177 (by decide) (HCC.out)) (TellsV.step HK.out)
                      · intro a wk hx hb hg K hK
                        have g3 : a.tmps.getD 3 undef = .pointer (some ⟨w.heap.size, 0, none⟩) := hx 3 (by kernel_rfl)
                        obtain ⟨l175, h175, -, -, -, g175⟩ : ∃ lo hi, _ ∧ _ ∧ _ ∧ (.nv (.bool true) : Fk).says lo hi wk (a.tmps.getD 175 undef) := hg 23 175 (by kernel_rfl) rfl
                        replace g175 : a.tmps.getD 175 undef = .bool true := g175
                        clear hx hg
                        intro k hk; obtain rfl : true = k := by rw [← hk]; show true = (match a.tmps.getD 175 undef with | .bool b => b == true | _ => false); rw [g175]; rfl
                        clear hk
                        have HK := Lib.hid hK; clear hK
                        dsimp only
                        have hX' := hXa.below hb
                        exact op_load g3 (ld_int _ _ 0 _ _ hX'.c0 hX'.c1) (HK.out _ _ (Below.refl _ _) ((IA.out.keep hB).keep hb))
                      · intro a wk hx hb hg K hK
                        have g4 : a.tmps.getD 4 undef = .pointer (some ⟨w.heap.size + 1, 0, none⟩) := hx 4 (by kernel_rfl)
                        obtain ⟨l175, h175, -, -, -, g175⟩ : ∃ lo hi, _ ∧ _ ∧ _ ∧ (.nv (.bool true) : Fk).says lo hi wk (a.tmps.getD 175 undef) := hg 23 175 (by kernel_rfl) rfl
                        replace g175 : a.tmps.getD 175 undef = .bool true := g175
                        clear hx hg
                        intro k hk; obtain rfl : true = k := by rw [← hk]; show true = (match a.tmps.getD 175 undef with | .bool b => b == true | _ => false); rw [g175]; rfl
                        clear hk
                        have HK := Lib.hid hK; clear hK
                        dsimp only
                        have hX' := hXb.below hb
                        exact op_load g4 (ld_int _ _ 0 _ _ hX'.c0 hX'.c1) (HK.out _ _ (Below.refl _ _) ((IB.out.keep hB).keep hb))
                      · intro a wk hx hb hg K hK
                        obtain ⟨l179, h179, -, -, -, g179⟩ : ∃ lo hi, _ ∧ _ ∧ _ ∧ (.nz y 1000 : Fk).says lo hi wk (a.tmps.getD 179 undef) := hg 27 179 (by kernel_rfl) rfl
                        obtain ⟨l180, h180, -, -, -, g180⟩ : ∃ lo hi, _ ∧ _ ∧ _ ∧ (.nz z 1000 : Fk).says lo hi wk (a.tmps.getD 180 undef) := hg 28 180 (by kernel_rfl) rfl
                        obtain ⟨l175, h175, -, -, -, g175⟩ : ∃ lo hi, _ ∧ _ ∧ _ ∧ (.nv (.bool true) : Fk).says lo hi wk (a.tmps.getD 175 undef) := hg 23 175 (by kernel_rfl) rfl
                        replace g175 : a.tmps.getD 175 undef = .bool true := g175
                        clear hx hg
                        intro k hk; obtain rfl : true = k := by rw [← hk]; show true = (match a.tmps.getD 175 undef with | .bool b => b == true | _ => false); rw [g175]; rfl
                        clear hk
                        have HK := Lib.hid hK; clear hK
                        dsimp only
                        exact op_call2 (by kernel_rfl) (sub_law g179 g180 (by decide) Hz181.out.symm) (TellsO.step HK.out)
                      · intro a wk hx hb hg K hK
                        obtain ⟨l175, h175, -, -, -, g175⟩ : ∃ lo hi, _ ∧ _ ∧ _ ∧ (.nv (.bool true) : Fk).says lo hi wk (a.tmps.getD 175 undef) := hg 23 175 (by kernel_rfl) rfl
                        replace g175 : a.tmps.getD 175 undef = .bool true := g175
                        clear hx hg
                        intro k hk; obtain rfl : true = k := by rw [← hk]; show true = (match a.tmps.getD 175 undef with | .bool b => b == true | _ => false); rw [g175]; rfl
                        clear hk
                        have HK := Lib.hid hK; clear hK
                        dsimp only
                        exact op_callc (by kernel_rfl) (of_law _ (0) _ (by decide) (by decide) rfl) (TellsO.step HK.out)
                      · intro a wk hx hb hg K hK
                        obtain ⟨l181, h181, -, -, -, g181⟩ : ∃ lo hi, _ ∧ _ ∧ _ ∧ (.no z181 : Fk).says lo hi wk (a.tmps.getD 181 undef) := hg 29 181 (by kernel_rfl) rfl
                        obtain ⟨l182, h182, -, -, -, g182⟩ : ∃ lo hi, _ ∧ _ ∧ _ ∧ (.no (0) : Fk).says lo hi wk (a.tmps.getD 182 undef) := hg 30 182 (by kernel_rfl) rfl
                        obtain ⟨l175, h175, -, -, -, g175⟩ : ∃ lo hi, _ ∧ _ ∧ _ ∧ (.nv (.bool true) : Fk).says lo hi wk (a.tmps.getD 175 undef) := hg 23 175 (by kernel_rfl) rfl
                        replace g175 : a.tmps.getD 175 undef = .bool true := g175
                        clear hx hg
                        intro k hk; obtain rfl : true = k := by rw [← hk]; show true = (match a.tmps.getD 175 undef with | .bool b => b == true | _ => false); rw [g175]; rfl
                        clear hk
                        have HK := Lib.hid hK; clear hK
                        dsimp only
                        exact op_call2 (by kernel_rfl) (cmp_law ((Fk.oi g181).iz (Bz181.out)) ((Fk.oi g182).iz ((zb1 (by decide) : ZB (0) 1))) (by decide) (by rw [Hz181.out, cmpI_sub]; exact HCC.out)) (TellsV.step HK.out)
                      · intro a wk hx hb hg K hK
                        obtain ⟨l178, h178, -, -, -, g178⟩ : ∃ lo hi, _ ∧ _ ∧ _ ∧ (.nv (.int .i64 (-1)) : Fk).says lo hi wk (a.tmps.getD 178 undef) := hg 26 178 (by kernel_rfl) rfl
                        replace g178 : a.tmps.getD 178 undef = .int .i64 (-1) := g178
                        obtain ⟨l183, h183, -, -, -, g183⟩ : ∃ lo hi, _ ∧ _ ∧ _ ∧ (.nv (.int .i64 (-1)) : Fk).says lo hi wk (a.tmps.getD 183 undef) := hg 31 183 (by kernel_rfl) rfl
                        replace g183 : a.tmps.getD 183 undef = .int .i64 (-1) := g183
                        obtain ⟨l175, h175, -, -, -, g175⟩ : ∃ lo hi, _ ∧ _ ∧ _ ∧ (.nv (.bool true) : Fk).says lo hi wk (a.tmps.getD 175 undef) := hg 23 175 (by kernel_rfl) rfl
                        replace g175 : a.tmps.getD 175 undef = .bool true := g175
                        clear hx hg
                        intro k hk; obtain rfl : true = k := by rw [← hk]; show true = (match a.tmps.getD 175 undef with | .bool b => b == true | _ => false); rw [g175]; rfl
                        clear hk
                        have HK := Lib.hid hK; clear hK
                        dsimp only
                        exact op_bin g178 g183 (bin_eqI.trans (congrArg (fun x => Result.ok (Value.bool x) wk) (by decide))) (HK.out _ _ (Below.refl _ _) rfl)
                      · intro a wk hx hb hg K hK
                        obtain ⟨l175, h175, -, -, -, g175⟩ : ∃ lo hi, _ ∧ _ ∧ _ ∧ (.nv (.bool true) : Fk).says lo hi wk (a.tmps.getD 175 undef) := hg 23 175 (by kernel_rfl) rfl
                        replace g175 : a.tmps.getD 175 undef = .bool true := g175
                        obtain ⟨l184, h184, -, -, -, g184⟩ : ∃ lo hi, _ ∧ _ ∧ _ ∧ (.nv (.bool true) : Fk).says lo hi wk (a.tmps.getD 184 undef) := hg 32 184 (by kernel_rfl) rfl
                        replace g184 : a.tmps.getD 184 undef = .bool true := g184
                        clear hx hg
                        intro k hk; obtain rfl : true = k := hk
                        have HK := Lib.hid hK; clear hK
                        dsimp only
                        exact op_pickT g175 g184 (HK.out _ _ (Below.refl _ _) rfl)
                      · intro a wk hx hb hg K hK
                        obtain ⟨l185, h185, -, -, -, g185⟩ : ∃ lo hi, _ ∧ _ ∧ _ ∧ (.nv (.bool true) : Fk).says lo hi wk (a.tmps.getD 185 undef) := hg 33 185 (by kernel_rfl) rfl
                        replace g185 : a.tmps.getD 185 undef = .bool true := g185
                        clear hx hg
                        intro k hk; obtain rfl : true = k := hk
                        have HK := Lib.hid hK; clear hK
                        dsimp only
                        exact op_move g185 (HK.out _ _ (Below.refl _ _) rfl)
                      · intro a wk hx hb hg K hK
                        have g3 : a.tmps.getD 3 undef = .pointer (some ⟨w.heap.size, 0, none⟩) := hx 3 (by kernel_rfl)
                        obtain ⟨l186, h186, -, -, -, g186⟩ : ∃ lo hi, _ ∧ _ ∧ _ ∧ (.nv (.bool true) : Fk).says lo hi wk (a.tmps.getD 186 undef) := hg 34 186 (by kernel_rfl) rfl
                        replace g186 : a.tmps.getD 186 undef = .bool true := g186
                        clear hx hg
                        intro k hk; obtain rfl : true = k := by rw [← hk]; show true = (match a.tmps.getD 186 undef with | .bool b => b == true | _ => false); rw [g186]; rfl
                        clear hk
                        have HK := Lib.hid hK; clear hK
                        dsimp only
                        have hX' := hXa.below hb
                        exact op_load g3 (ld_int _ _ 0 _ _ hX'.c0 hX'.c1) (HK.out _ _ (Below.refl _ _) ((IA.out.keep hB).keep hb))
                      · intro a wk hx hb hg K hK
                        have g4 : a.tmps.getD 4 undef = .pointer (some ⟨w.heap.size + 1, 0, none⟩) := hx 4 (by kernel_rfl)
                        obtain ⟨l186, h186, -, -, -, g186⟩ : ∃ lo hi, _ ∧ _ ∧ _ ∧ (.nv (.bool true) : Fk).says lo hi wk (a.tmps.getD 186 undef) := hg 34 186 (by kernel_rfl) rfl
                        replace g186 : a.tmps.getD 186 undef = .bool true := g186
                        clear hx hg
                        intro k hk; obtain rfl : true = k := by rw [← hk]; show true = (match a.tmps.getD 186 undef with | .bool b => b == true | _ => false); rw [g186]; rfl
                        clear hk
                        have HK := Lib.hid hK; clear hK
                        dsimp only
                        have hX' := hXb.below hb
                        exact op_load g4 (ld_int _ _ 0 _ _ hX'.c0 hX'.c1) (HK.out _ _ (Below.refl _ _) ((IB.out.keep hB).keep hb))
                      · intro a wk hx hb hg K hK
                        obtain ⟨l187, h187, -, -, -, g187⟩ : ∃ lo hi, _ ∧ _ ∧ _ ∧ (.nz y 1000 : Fk).says lo hi wk (a.tmps.getD 187 undef) := hg 35 187 (by kernel_rfl) rfl
                        obtain ⟨l188, h188, -, -, -, g188⟩ : ∃ lo hi, _ ∧ _ ∧ _ ∧ (.nz z 1000 : Fk).says lo hi wk (a.tmps.getD 188 undef) := hg 36 188 (by kernel_rfl) rfl
                        obtain ⟨l186, h186, -, -, -, g186⟩ : ∃ lo hi, _ ∧ _ ∧ _ ∧ (.nv (.bool true) : Fk).says lo hi wk (a.tmps.getD 186 undef) := hg 34 186 (by kernel_rfl) rfl
                        replace g186 : a.tmps.getD 186 undef = .bool true := g186
                        clear hx hg
                        intro k hk; obtain rfl : true = k := by rw [← hk]; show true = (match a.tmps.getD 186 undef with | .bool b => b == true | _ => false); rw [g186]; rfl
                        clear hk
                        have HK := Lib.hid hK; clear hK
                        dsimp only
                        exact op_call2 (by kernel_rfl) (cmp_law g187 g188 (by decide) (HCC.out)) (TellsV.step HK.out)
                      · intro a wk hx hb hg K hK
                        obtain ⟨l189, h189, -, -, -, g189⟩ : ∃ lo hi, _ ∧ _ ∧ _ ∧ (.nv (.int .i64 (-1)) : Fk).says lo hi wk (a.tmps.getD 189 undef) := hg 37 189 (by kernel_rfl) rfl
                        replace g189 : a.tmps.getD 189 undef = .int .i64 (-1) := g189
                        obtain ⟨l186, h186, -, -, -, g186⟩ : ∃ lo hi, _ ∧ _ ∧ _ ∧ (.nv (.bool true) : Fk).says lo hi wk (a.tmps.getD 186 undef) := hg 34 186 (by kernel_rfl) rfl
                        replace g186 : a.tmps.getD 186 undef = .bool true := g186
                        clear hx hg
                        intro k hk; obtain rfl : true = k := by rw [← hk]; show true = (match a.tmps.getD 186 undef with | .bool b => b == true | _ => false); rw [g186]; rfl
                        clear hk
                        have HK := Lib.hid hK; clear hK
                        dsimp only
                        exact op_bin g189 rfl (bin_neI.trans (congrArg (fun x => Result.ok (Value.bool x) wk) (by decide))) (HK.out _ _ (Below.refl _ _) rfl)
                      · intro a wk hx hb hg K hK
                        obtain ⟨l190, h190, -, -, -, g190⟩ : ∃ lo hi, _ ∧ _ ∧ _ ∧ (.nv (.bool true) : Fk).says lo hi wk (a.tmps.getD 190 undef) := hg 38 190 (by kernel_rfl) rfl
                        replace g190 : a.tmps.getD 190 undef = .bool true := g190
                        obtain ⟨l186, h186, -, -, -, g186⟩ : ∃ lo hi, _ ∧ _ ∧ _ ∧ (.nv (.bool true) : Fk).says lo hi wk (a.tmps.getD 186 undef) := hg 34 186 (by kernel_rfl) rfl
                        replace g186 : a.tmps.getD 186 undef = .bool true := g186
                        clear hx hg
                        intro k hk; obtain rfl : true = k := by rw [← hk]; show true = (match a.tmps.getD 186 undef with | .bool b => b == true | _ => false); rw [g186]; rfl
                        clear hk
                        have HK := Lib.hid hK; clear hK
                        dsimp only
                        exact op_move g190 (HK.out _ _ (Below.refl _ _) rfl)
                      · intro a wk hx hb hg K hK
                        obtain ⟨l191, h191, -, -, -, g191⟩ : ∃ lo hi, _ ∧ _ ∧ _ ∧ (.nv (.bool true) : Fk).says lo hi wk (a.tmps.getD 191 undef) := hg 39 191 (by kernel_rfl) rfl
                        replace g191 : a.tmps.getD 191 undef = .bool true := g191
                        clear hx hg
                        intro k hk; obtain rfl : false = k := by rw [← hk]; show false = (match a.tmps.getD 191 undef with | .bool b => b == false | _ => false); rw [g191]; rfl
                        clear hk
                        have HK := Lib.hid hK; clear hK
                        dsimp only
                        exact HK.out _ _ (Below.refl _ _) rfl
                      · intro a wk hx hb hg K hK
                        obtain ⟨l191, h191, -, -, -, g191⟩ : ∃ lo hi, _ ∧ _ ∧ _ ∧ (.nv (.bool true) : Fk).says lo hi wk (a.tmps.getD 191 undef) := hg 39 191 (by kernel_rfl) rfl
                        replace g191 : a.tmps.getD 191 undef = .bool true := g191
                        clear hx hg
                        intro k hk; obtain rfl : false = k := by rw [← hk]; show false = (match a.tmps.getD 191 undef with | .bool b => b == false | _ => false); rw [g191]; rfl
                        clear hk
                        have HK := Lib.hid hK; clear hK
                        dsimp only
                        exact HK.out _ _ (Below.refl _ _) rfl
                      · intro a wk hx hb hg K hK
                        obtain ⟨l191, h191, -, -, -, g191⟩ : ∃ lo hi, _ ∧ _ ∧ _ ∧ (.nv (.bool true) : Fk).says lo hi wk (a.tmps.getD 191 undef) := hg 39 191 (by kernel_rfl) rfl
                        replace g191 : a.tmps.getD 191 undef = .bool true := g191
                        clear hx hg
                        intro k hk; obtain rfl : false = k := by rw [← hk]; show false = (match a.tmps.getD 191 undef with | .bool b => b == false | _ => false); rw [g191]; rfl
                        clear hk
                        have HK := Lib.hid hK; clear hK
                        dsimp only
                        exact HK.out _ _ (Below.refl _ _) rfl
                      · intro a wk hx hb hg K hK
                        obtain ⟨l191, h191, -, -, -, g191⟩ : ∃ lo hi, _ ∧ _ ∧ _ ∧ (.nv (.bool true) : Fk).says lo hi wk (a.tmps.getD 191 undef) := hg 39 191 (by kernel_rfl) rfl
                        replace g191 : a.tmps.getD 191 undef = .bool true := g191
                        clear hx hg
                        intro k hk; obtain rfl : false = k := by rw [← hk]; show false = (match a.tmps.getD 191 undef with | .bool b => b == false | _ => false); rw [g191]; rfl
                        clear hk
                        have HK := Lib.hid hK; clear hK
                        dsimp only
                        exact HK.out _ _ (Below.refl _ _) rfl
                      · intro a wk hx hb hg K hK
                        obtain ⟨l191, h191, -, -, -, g191⟩ : ∃ lo hi, _ ∧ _ ∧ _ ∧ (.nv (.bool true) : Fk).says lo hi wk (a.tmps.getD 191 undef) := hg 39 191 (by kernel_rfl) rfl
                        replace g191 : a.tmps.getD 191 undef = .bool true := g191
                        clear hx hg
                        intro k hk; obtain rfl : false = k := by rw [← hk]; show false = (match a.tmps.getD 191 undef with | .bool b => b == false | _ => false); rw [g191]; rfl
                        clear hk
                        have HK := Lib.hid hK; clear hK
                        dsimp only
                        exact HK.out _ _ (Below.refl _ _) rfl
                      · intro a wk hx hb hg K hK
                        obtain ⟨l191, h191, -, -, -, g191⟩ : ∃ lo hi, _ ∧ _ ∧ _ ∧ (.nv (.bool true) : Fk).says lo hi wk (a.tmps.getD 191 undef) := hg 39 191 (by kernel_rfl) rfl
                        replace g191 : a.tmps.getD 191 undef = .bool true := g191
                        obtain ⟨l196, h196, -, -, -, g196⟩ : ∃ lo hi, _ ∧ _ ∧ _ ∧ (.nv (undef) : Fk).says lo hi wk (a.tmps.getD 196 undef) := hg 44 196 (by kernel_rfl) rfl
                        replace g196 : a.tmps.getD 196 undef = undef := g196
                        obtain ⟨l186, h186, -, -, -, g186⟩ : ∃ lo hi, _ ∧ _ ∧ _ ∧ (.nv (.bool true) : Fk).says lo hi wk (a.tmps.getD 186 undef) := hg 34 186 (by kernel_rfl) rfl
                        replace g186 : a.tmps.getD 186 undef = .bool true := g186
                        clear hx hg
                        intro k hk; obtain rfl : true = k := by rw [← hk]; show true = (match a.tmps.getD 186 undef with | .bool b => b == true | _ => false); rw [g186]; rfl
                        clear hk
                        have HK := Lib.hid hK; clear hK
                        dsimp only
                        exact op_pickT g191 rfl (HK.out _ _ (Below.refl _ _) rfl)
                      · intro a wk hx hb hg K hK
                        obtain ⟨l186, h186, -, -, -, g186⟩ : ∃ lo hi, _ ∧ _ ∧ _ ∧ (.nv (.bool true) : Fk).says lo hi wk (a.tmps.getD 186 undef) := hg 34 186 (by kernel_rfl) rfl
                        replace g186 : a.tmps.getD 186 undef = .bool true := g186
                        obtain ⟨l197, h197, -, -, -, g197⟩ : ∃ lo hi, _ ∧ _ ∧ _ ∧ (.nv (.bool true) : Fk).says lo hi wk (a.tmps.getD 197 undef) := hg 45 197 (by kernel_rfl) rfl
                        replace g197 : a.tmps.getD 197 undef = .bool true := g197
                        clear hx hg
                        intro k hk; obtain rfl : true = k := hk
                        have HK := Lib.hid hK; clear hK
                        dsimp only
                        exact op_pickT g186 g197 (HK.out _ _ (Below.refl _ _) rfl)
                      · intro a wk hx hb hg K hK
                        obtain ⟨l198, h198, -, -, -, g198⟩ : ∃ lo hi, _ ∧ _ ∧ _ ∧ (.nv (.bool true) : Fk).says lo hi wk (a.tmps.getD 198 undef) := hg 46 198 (by kernel_rfl) rfl
                        replace g198 : a.tmps.getD 198 undef = .bool true := g198
                        clear hx hg
                        intro k hk; obtain rfl : true = k := hk
                        have HK := Lib.hid hK; clear hK
                        dsimp only
                        exact op_assign g198 (HK.out _ _ (Below.refl _ _) rfl)
                    case fin171 =>
                      intro t17 lo17 hi17 V17 hb2 hF hD
                      have gb : t17 6 = .bool true := (hF 47 6 rfl).2.2.2
                      clear hF hD
                      refine wpList_nil ?_
                      simp only [gb]
                      go_wp2_with fail
                      go_ret
                      exact ⟨rfl, bw_below hB hb2⟩
                  · have HCC := Lib.hid (cmpI_eq hyz)
                    have HYZ := Lib.hid hyz
                    clear hyz
                    refine wp_region_facts5 (by kernel_rfl) (fun i => (Fk.at [.nz y 1000, .nz z 1000, .nv (.int .i64 (0)), .nz y 1000, .nz x 1000, .nl [y, x] 2004, .no z158, .nz z 1000, .nz x 1000, .nl [z, x] 2004, .no z162, .nv (.int .i64 (0)), .nv (.bool true), .nv (.bool true), .nz y 1000, .nz z 1000, .nv (.int .i64 (0)), .nz z 1000, .nz y 1000, .nv (.int .i64 (0)), .nv (.int .i64 (0)), .nv (.bool true), .nv (.bool true), .nv (.bool true), .nz y 1000, .nz z 1000, .nv (.int .i64 (0)), .nz y 1000, .nz z 1000, .no z181, .no (0), .nv (.int .i64 (0)), .nv (.bool true), .nv (.bool true), .nv (.bool true), .nz y 1000, .nz z 1000, .nv (.int .i64 (0)), .nv (.bool false), .nv (.bool false), .nz y 1000, .nv (.string ⟨(zText y).toArray⟩), .nz z 1000, .nv (.string ⟨(zText z).toArray⟩), .nv (.bool true), .nv (.bool true), .nv (.bool true), .nv (.bool true)] i).says) [152, 153, 154, 155, 156, 157, 158, 159, 160, 161, 162, 163, 164, 165, 166, 167, 168, 169, 170, 171, 172, 173, 174, 175, 176, 177, 178, 179, 180, 181, 182, 183, 184, 185, 186, 187, 188, 189, 190, 191, 192, 193, 194, 195, 196, 197, 198, 6] ?A172 48 [] ?hA172 _ rfl (by kernel_rfl) (fun _ _ _ _ _ _ => Fk.keep _) ?steps172 ?fin172
                    case hA172 => intro t; (try simp only [putAll, Act.put, List.setIfInBounds_toArray, List.set_cons_zero, List.set_cons_succ]); (try exact rfl)
                    case steps172 =>
                      refine ⟨?_, ?_, ?_, ?_, ?_, ?_, ?_, ?_, ?_, ?_, ?_, ?_, ?_, ?_, ?_, ?_, ?_, ?_, ?_, ?_, ?_, ?_, ?_, ?_, ?_, ?_, ?_, ?_, ?_, ?_, ?_, ?_, ?_, ?_, ?_, ?_, ?_, ?_, ?_, ?_, ?_, ?_, ?_, ?_, ?_, ?_, ?_, ?_, trivial⟩
                      · intro a wk hx hb hg K hK
                        have g3 : a.tmps.getD 3 undef = .pointer (some ⟨w.heap.size, 0, none⟩) := hx 3 (by kernel_rfl)
                        clear hx hg
                        intro k hk; obtain rfl : true = k := hk
                        have HK := Lib.hid hK; clear hK
                        dsimp only
                        have hX' := hXa.below hb
                        exact op_load g3 (ld_int _ _ 0 _ _ hX'.c0 hX'.c1) (HK.out _ _ (Below.refl _ _) ((IA.out.keep hB).keep hb))
                      · intro a wk hx hb hg K hK
                        have g4 : a.tmps.getD 4 undef = .pointer (some ⟨w.heap.size + 1, 0, none⟩) := hx 4 (by kernel_rfl)
                        clear hx hg
                        intro k hk; obtain rfl : true = k := hk
                        have HK := Lib.hid hK; clear hK
                        dsimp only
                        have hX' := hXb.below hb
                        exact op_load g4 (ld_int _ _ 0 _ _ hX'.c0 hX'.c1) (HK.out _ _ (Below.refl _ _) ((IB.out.keep hB).keep hb))
                      · intro a wk hx hb hg K hK
                        obtain ⟨l152, h152, -, -, -, g152⟩ : ∃ lo hi, _ ∧ _ ∧ _ ∧ (.nz y 1000 : Fk).says lo hi wk (a.tmps.getD 152 undef) := hg 0 152 (by kernel_rfl) rfl
                        obtain ⟨l153, h153, -, -, -, g153⟩ : ∃ lo hi, _ ∧ _ ∧ _ ∧ (.nz z 1000 : Fk).says lo hi wk (a.tmps.getD 153 undef) := hg 1 153 (by kernel_rfl) rfl
                        clear hx hg
                        intro k hk; obtain rfl : true = k := hk
                        have HK := Lib.hid hK; clear hK
                        dsimp only
                        exact op_call2 (by kernel_rfl) (cmp_law g152 g153 (by decide) (HCC.out)) (TellsV.step HK.out)
                      · intro a wk hx hb hg K hK
                        have g3 : a.tmps.getD 3 undef = .pointer (some ⟨w.heap.size, 0, none⟩) := hx 3 (by kernel_rfl)
                        clear hx hg
                        intro k hk; obtain rfl : true = k := hk
                        have HK := Lib.hid hK; clear hK
                        dsimp only
                        have hX' := hXa.below hb
                        exact op_load g3 (ld_int _ _ 0 _ _ hX'.c0 hX'.c1) (HK.out _ _ (Below.refl _ _) ((IA.out.keep hB).keep hb))
                      · intro a wk hx hb hg K hK
                        have g5 : a.tmps.getD 5 undef = .pointer (some ⟨w.heap.size + 2, 0, none⟩) := hx 5 (by kernel_rfl)
                        clear hx hg
                        intro k hk; obtain rfl : true = k := hk
                        have HK := Lib.hid hK; clear hK
                        dsimp only
                        have hX' := hXc.below hb
                        exact op_load g5 (ld_int _ _ 0 _ _ hX'.c0 hX'.c1) (HK.out _ _ (Below.refl _ _) ((IC.out.keep hB).keep hb))
                      · intro a wk hx hb hg K hK
                        obtain ⟨l155, h155, -, -, -, g155⟩ : ∃ lo hi, _ ∧ _ ∧ _ ∧ (.nz y 1000 : Fk).says lo hi wk (a.tmps.getD 155 undef) := hg 3 155 (by kernel_rfl) rfl
                        obtain ⟨l156, h156, -, -, -, g156⟩ : ∃ lo hi, _ ∧ _ ∧ _ ∧ (.nz x 1000 : Fk).says lo hi wk (a.tmps.getD 156 undef) := hg 4 156 (by kernel_rfl) rfl
                        clear hx hg
                        intro k hk; obtain rfl : true = k := hk
                        have HK := Lib.hid hK; clear hK
                        dsimp only
                        obtain ⟨x, w2, hr, hb2, hl⟩ := lz2 g155 g156
                        exact op_slice (by simp [Act.eval]) hr (HK.out _ _ hb2 hl)
                      · intro a wk hx hb hg K hK
                        obtain ⟨l157, h157, -, -, -, g157⟩ : ∃ lo hi, _ ∧ _ ∧ _ ∧ (.nl [y, x] 2004 : Fk).says lo hi wk (a.tmps.getD 157 undef) := hg 5 157 (by kernel_rfl) rfl
                        clear hx hg
                        intro k hk; obtain rfl : true = k := hk
                        have HK := Lib.hid hK; clear hK
                        dsimp only
                        exact op_call1 (by kernel_rfl) (add_law g157 (by decide) (Hz158.out.symm)) (TellsO.step HK.out)
                      · intro a wk hx hb hg K hK
                        have g4 : a.tmps.getD 4 undef = .pointer (some ⟨w.heap.size + 1, 0, none⟩) := hx 4 (by kernel_rfl)
                        clear hx hg
                        intro k hk; obtain rfl : true = k := hk
                        have HK := Lib.hid hK; clear hK
                        dsimp only
                        have hX' := hXb.below hb
                        exact op_load g4 (ld_int _ _ 0 _ _ hX'.c0 hX'.c1) (HK.out _ _ (Below.refl _ _) ((IB.out.keep hB).keep hb))
                      · intro a wk hx hb hg K hK
                        have g5 : a.tmps.getD 5 undef = .pointer (some ⟨w.heap.size + 2, 0, none⟩) := hx 5 (by kernel_rfl)
                        clear hx hg
                        intro k hk; obtain rfl : true = k := hk
                        have HK := Lib.hid hK; clear hK
                        dsimp only
                        have hX' := hXc.below hb
                        exact op_load g5 (ld_int _ _ 0 _ _ hX'.c0 hX'.c1) (HK.out _ _ (Below.refl _ _) ((IC.out.keep hB).keep hb))
                      · intro a wk hx hb hg K hK
                        obtain ⟨l159, h159, -, -, -, g159⟩ : ∃ lo hi, _ ∧ _ ∧ _ ∧ (.nz z 1000 : Fk).says lo hi wk (a.tmps.getD 159 undef) := hg 7 159 (by kernel_rfl) rfl
                        obtain ⟨l160, h160, -, -, -, g160⟩ : ∃ lo hi, _ ∧ _ ∧ _ ∧ (.nz x 1000 : Fk).says lo hi wk (a.tmps.getD 160 undef) := hg 8 160 (by kernel_rfl) rfl
                        clear hx hg
                        intro k hk; obtain rfl : true = k := hk
                        have HK := Lib.hid hK; clear hK
                        dsimp only
                        obtain ⟨x, w2, hr, hb2, hl⟩ := lz2 g159 g160
                        exact op_slice (by simp [Act.eval]) hr (HK.out _ _ hb2 hl)
                      · intro a wk hx hb hg K hK
                        obtain ⟨l161, h161, -, -, -, g161⟩ : ∃ lo hi, _ ∧ _ ∧ _ ∧ (.nl [z, x] 2004 : Fk).says lo hi wk (a.tmps.getD 161 undef) := hg 9 161 (by kernel_rfl) rfl
                        clear hx hg
                        intro k hk; obtain rfl : true = k := hk
                        have HK := Lib.hid hK; clear hK
                        dsimp only
                        exact op_call1 (by kernel_rfl) (add_law g161 (by decide) (Hz162.out.symm)) (TellsO.step HK.out)
                      · intro a wk hx hb hg K hK
                        obtain ⟨l158, h158, -, -, -, g158⟩ : ∃ lo hi, _ ∧ _ ∧ _ ∧ (.no z158 : Fk).says lo hi wk (a.tmps.getD 158 undef) := hg 6 158 (by kernel_rfl) rfl
                        obtain ⟨l162, h162, -, -, -, g162⟩ : ∃ lo hi, _ ∧ _ ∧ _ ∧ (.no z162 : Fk).says lo hi wk (a.tmps.getD 162 undef) := hg 10 162 (by kernel_rfl) rfl
                        clear hx hg
                        intro k hk; obtain rfl : true = k := hk
                        have HK := Lib.hid hK; clear hK
                        dsimp only
                        exact op_call2 (by kernel_rfl) (cmp_law ((Fk.oi g158).iz (Bz158.out)) ((Fk.oi g162).iz (Bz162.out)) (by decide) (by rw [Hz158.out, Hz162.out, Int.zero_add, Int.zero_add, cmpI_add]; exact HCC.out)) (TellsV.step HK.out)
                      · intro a wk hx hb hg K hK
                        obtain ⟨l154, h154, -, -, -, g154⟩ : ∃ lo hi, _ ∧ _ ∧ _ ∧ (.nv (.int .i64 (0)) : Fk).says lo hi wk (a.tmps.getD 154 undef) := hg 2 154 (by kernel_rfl) rfl
                        replace g154 : a.tmps.getD 154 undef = .int .i64 (0) := g154
                        obtain ⟨l163, h163, -, -, -, g163⟩ : ∃ lo hi, _ ∧ _ ∧ _ ∧ (.nv (.int .i64 (0)) : Fk).says lo hi wk (a.tmps.getD 163 undef) := hg 11 163 (by kernel_rfl) rfl
                        replace g163 : a.tmps.getD 163 undef = .int .i64 (0) := g163
                        clear hx hg
                        intro k hk; obtain rfl : true = k := hk
                        have HK := Lib.hid hK; clear hK
                        dsimp only
                        exact op_bin g154 g163 (bin_eqI.trans (congrArg (fun x => Result.ok (Value.bool x) wk) (by decide))) (HK.out _ _ (Below.refl _ _) rfl)
                      · intro a wk hx hb hg K hK
                        obtain ⟨l164, h164, -, -, -, g164⟩ : ∃ lo hi, _ ∧ _ ∧ _ ∧ (.nv (.bool true) : Fk).says lo hi wk (a.tmps.getD 164 undef) := hg 12 164 (by kernel_rfl) rfl
                        replace g164 : a.tmps.getD 164 undef = .bool true := g164
                        clear hx hg
                        intro k hk; obtain rfl : true = k := hk
                        have HK := Lib.hid hK; clear hK
                        dsimp only
                        exact op_move g164 (HK.out _ _ (Below.refl _ _) rfl)
                      · intro a wk hx hb hg K hK
                        have g3 : a.tmps.getD 3 undef = .pointer (some ⟨w.heap.size, 0, none⟩) := hx 3 (by kernel_rfl)
                        obtain ⟨l165, h165, -, -, -, g165⟩ : ∃ lo hi, _ ∧ _ ∧ _ ∧ (.nv (.bool true) : Fk).says lo hi wk (a.tmps.getD 165 undef) := hg 13 165 (by kernel_rfl) rfl
                        replace g165 : a.tmps.getD 165 undef = .bool true := g165
                        clear hx hg
                        intro k hk; obtain rfl : true = k := by rw [← hk]; show true = (match a.tmps.getD 165 undef with | .bool b => b == true | _ => false); rw [g165]; rfl
                        clear hk
                        have HK := Lib.hid hK; clear hK
                        dsimp only
                        have hX' := hXa.below hb
                        exact op_load g3 (ld_int _ _ 0 _ _ hX'.c0 hX'.c1) (HK.out _ _ (Below.refl _ _) ((IA.out.keep hB).keep hb))
                      · intro a wk hx hb hg K hK
                        have g4 : a.tmps.getD 4 undef = .pointer (some ⟨w.heap.size + 1, 0, none⟩) := hx 4 (by kernel_rfl)
                        obtain ⟨l165, h165, -, -, -, g165⟩ : ∃ lo hi, _ ∧ _ ∧ _ ∧ (.nv (.bool true) : Fk).says lo hi wk (a.tmps.getD 165 undef) := hg 13 165 (by kernel_rfl) rfl
                        replace g165 : a.tmps.getD 165 undef = .bool true := g165
                        clear hx hg
                        intro k hk; obtain rfl : true = k := by rw [← hk]; show true = (match a.tmps.getD 165 undef with | .bool b => b == true | _ => false); rw [g165]; rfl
                        clear hk
                        have HK := Lib.hid hK; clear hK
                        dsimp only
                        have hX' := hXb.below hb
                        exact op_load g4 (ld_int _ _ 0 _ _ hX'.c0 hX'.c1) (HK.out _ _ (Below.refl _ _) ((IB.out.keep hB).keep hb))
                      · intro a wk hx hb hg K hK
                        obtain ⟨l166, h166, -, -, -, g166⟩ : ∃ lo hi, _ ∧ _ ∧ _ ∧ (.nz y 1000 : Fk).says lo hi wk (a.tmps.getD 166 undef) := hg 14 166 (by kernel_rfl) rfl
                        obtain ⟨l167, h167, -, -, -, g167⟩ : ∃ lo hi, _ ∧ _ ∧ _ ∧ (.nz z 1000 : Fk).says lo hi wk (a.tmps.getD 167 undef) := hg 15 167 (by kernel_rfl) rfl
                        obtain ⟨l165, h165, -, -, -, g165⟩ : ∃ lo hi, _ ∧ _ ∧ _ ∧ (.nv (.bool true) : Fk).says lo hi wk (a.tmps.getD 165 undef) := hg 13 165 (by kernel_rfl) rfl
                        replace g165 : a.tmps.getD 165 undef = .bool true := g165
                        clear hx hg
                        intro k hk; obtain rfl : true = k := by rw [← hk]; show true = (match a.tmps.getD 165 undef with | .bool b => b == true | _ => false); rw [g165]; rfl
                        clear hk
                        have HK := Lib.hid hK; clear hK
                        dsimp only
                        exact op_call2 (by kernel_rfl) (cmp_law g166 g167 (by decide) (HCC.out)) (TellsV.step HK.out)
                      · intro a wk hx hb hg K hK
                        have g4 : a.tmps.getD 4 undef = .pointer (some ⟨w.heap.size + 1, 0, none⟩) := hx 4 (by kernel_rfl)
                        obtain ⟨l165, h165, -, -, -, g165⟩ : ∃ lo hi, _ ∧ _ ∧ _ ∧ (.nv (.bool true) : Fk).says lo hi wk (a.tmps.getD 165 undef) := hg 13 165 (by kernel_rfl) rfl
                        replace g165 : a.tmps.getD 165 undef = .bool true := g165
                        clear hx hg
                        intro k hk; obtain rfl : true = k := by rw [← hk]; show true = (match a.tmps.getD 165 undef with | .bool b => b == true | _ => false); rw [g165]; rfl
                        clear hk
                        have HK := Lib.hid hK; clear hK
                        dsimp only
                        have hX' := hXb.below hb
                        exact op_load g4 (ld_int _ _ 0 _ _ hX'.c0 hX'.c1) (HK.out _ _ (Below.refl _ _) ((IB.out.keep hB).keep hb))
                      · intro a wk hx hb hg K hK
                        have g3 : a.tmps.getD 3 undef = .pointer (some ⟨w.heap.size, 0, none⟩) := hx 3 (by kernel_rfl)
                        obtain ⟨l165, h165, -, -, -, g165⟩ : ∃ lo hi, _ ∧ _ ∧ _ ∧ (.nv (.bool true) : Fk).says lo hi wk (a.tmps.getD 165 undef) := hg 13 165 (by kernel_rfl) rfl
                        replace g165 : a.tmps.getD 165 undef = .bool true := g165
                        clear hx hg
                        intro k hk; obtain rfl : true = k := by rw [← hk]; show true = (match a.tmps.getD 165 undef with | .bool b => b == true | _ => false); rw [g165]; rfl
                        clear hk
                        have HK := Lib.hid hK; clear hK
                        dsimp only
                        have hX' := hXa.below hb
                        exact op_load g3 (ld_int _ _ 0 _ _ hX'.c0 hX'.c1) (HK.out _ _ (Below.refl _ _) ((IA.out.keep hB).keep hb))
                      · intro a wk hx hb hg K hK
                        obtain ⟨l169, h169, -, -, -, g169⟩ : ∃ lo hi, _ ∧ _ ∧ _ ∧ (.nz z 1000 : Fk).says lo hi wk (a.tmps.getD 169 undef) := hg 17 169 (by kernel_rfl) rfl
                        obtain ⟨l170, h170, -, -, -, g170⟩ : ∃ lo hi, _ ∧ _ ∧ _ ∧ (.nz y 1000 : Fk).says lo hi wk (a.tmps.getD 170 undef) := hg 18 170 (by kernel_rfl) rfl
                        obtain ⟨l165, h165, -, -, -, g165⟩ : ∃ lo hi, _ ∧ _ ∧ _ ∧ (.nv (.bool true) : Fk).says lo hi wk (a.tmps.getD 165 undef) := hg 13 165 (by kernel_rfl) rfl
                        replace g165 : a.tmps.getD 165 undef = .bool true := g165
                        clear hx hg
                        intro k hk; obtain rfl : true = k := by rw [← hk]; show true = (match a.tmps.getD 165 undef with | .bool b => b == true | _ => false); rw [g165]; rfl
                        clear hk
                        have HK := Lib.hid hK; clear hK
                        dsimp only
                        exact op_call2 (by kernel_rfl) (cmp_law g169 g170 (by decide) (by rw [cmpI_swap, HCC.out] <;> rfl)) (TellsV.step HK.out)
                      · intro a wk hx hb hg K hK
                        obtain ⟨l171, h171, -, -, -, g171⟩ : ∃ lo hi, _ ∧ _ ∧ _ ∧ (.nv (.int .i64 (0)) : Fk).says lo hi wk (a.tmps.getD 171 undef) := hg 19 171 (by kernel_rfl) rfl
                        replace g171 : a.tmps.getD 171 undef = .int .i64 (0) := g171
                        obtain ⟨l165, h165, -, -, -, g165⟩ : ∃ lo hi, _ ∧ _ ∧ _ ∧ (.nv (.bool true) : Fk).says lo hi wk (a.tmps.getD 165 undef) := hg 13 165 (by kernel_rfl) rfl
                        replace g165 : a.tmps.getD 165 undef = .bool true := g165
                        clear hx hg
                        intro k hk; obtain rfl : true = k := by rw [← hk]; show true = (match a.tmps.getD 165 undef with | .bool b => b == true | _ => false); rw [g165]; rfl
                        clear hk
                        have HK := Lib.hid hK; clear hK
                        dsimp only
                        exact op_negI g171 (by decide) (HK.out _ _ (Below.refl _ _) rfl)
                      · intro a wk hx hb hg K hK
                        obtain ⟨l168, h168, -, -, -, g168⟩ : ∃ lo hi, _ ∧ _ ∧ _ ∧ (.nv (.int .i64 (0)) : Fk).says lo hi wk (a.tmps.getD 168 undef) := hg 16 168 (by kernel_rfl) rfl
                        replace g168 : a.tmps.getD 168 undef = .int .i64 (0) := g168
                        obtain ⟨l172, h172, -, -, -, g172⟩ : ∃ lo hi, _ ∧ _ ∧ _ ∧ (.nv (.int .i64 (0)) : Fk).says lo hi wk (a.tmps.getD 172 undef) := hg 20 172 (by kernel_rfl) rfl
                        replace g172 : a.tmps.getD 172 undef = .int .i64 (0) := g172
                        obtain ⟨l165, h165, -, -, -, g165⟩ : ∃ lo hi, _ ∧ _ ∧ _ ∧ (.nv (.bool true) : Fk).says lo hi wk (a.tmps.getD 165 undef) := hg 13 165 (by kernel_rfl) rfl
                        replace g165 : a.tmps.getD 165 undef = .bool true := g165
                        clear hx hg
                        intro k hk; obtain rfl : true = k := by rw [← hk]; show true = (match a.tmps.getD 165 undef with | .bool b => b == true | _ => false); rw [g165]; rfl
                        clear hk
                        have HK := Lib.hid hK; clear hK
                        dsimp only
                        exact op_bin g168 g172 (bin_eqI.trans (congrArg (fun x => Result.ok (Value.bool x) wk) (by decide))) (HK.out _ _ (Below.refl _ _) rfl)
                      · intro a wk hx hb hg K hK
                        obtain ⟨l165, h165, -, -, -, g165⟩ : ∃ lo hi, _ ∧ _ ∧ _ ∧ (.nv (.bool true) : Fk).says lo hi wk (a.tmps.getD 165 undef) := hg 13 165 (by kernel_rfl) rfl
                        replace g165 : a.tmps.getD 165 undef = .bool true := g165
                        obtain ⟨l173, h173, -, -, -, g173⟩ : ∃ lo hi, _ ∧ _ ∧ _ ∧ (.nv (.bool true) : Fk).says lo hi wk (a.tmps.getD 173 undef) := hg 21 173 (by kernel_rfl) rfl
                        replace g173 : a.tmps.getD 173 undef = .bool true := g173
                        clear hx hg
                        intro k hk; obtain rfl : true = k := hk
                        have HK := Lib.hid hK; clear hK
                        dsimp only
                        exact op_pickT g165 g173 (HK.out _ _ (Below.refl _ _) rfl)
                      · intro a wk hx hb hg K hK
                        obtain ⟨l174, h174, -, -, -, g174⟩ : ∃ lo hi, _ ∧ _ ∧ _ ∧ (.nv (.bool true) : Fk).says lo hi wk (a.tmps.getD 174 undef) := hg 22 174 (by kernel_rfl) rfl
                        replace g174 : a.tmps.getD 174 undef = .bool true := g174
                        clear hx hg
                        intro k hk; obtain rfl : true = k := hk
                        have HK := Lib.hid hK; clear hK
                        dsimp only
                        exact op_move g174 (HK.out _ _ (Below.refl _ _) rfl)
                      · intro a wk hx hb hg K hK
                        have g3 : a.tmps.getD 3 undef = .pointer (some ⟨w.heap.size, 0, none⟩) := hx 3 (by kernel_rfl)
                        obtain ⟨l175, h175, -, -, -, g175⟩ : ∃ lo hi, _ ∧ _ ∧ _ ∧ (.nv (.bool true) : Fk).says lo hi wk (a.tmps.getD 175 undef) := hg 23 175 (by kernel_rfl) rfl
                        replace g175 : a.tmps.getD 175 undef = .bool true := g175
                        clear hx hg
                        intro k hk; obtain rfl : true = k := by rw [← hk]; show true = (match a.tmps.getD 175 undef with | .bool b => b == true | _ => false); rw [g175]; rfl
                        clear hk
                        have HK := Lib.hid hK; clear hK
                        dsimp only
                        have hX' := hXa.below hb
                        exact op_load g3 (ld_int _ _ 0 _ _ hX'.c0 hX'.c1) (HK.out _ _ (Below.refl _ _) ((IA.out.keep hB).keep hb))
                      · intro a wk hx hb hg K hK
                        have g4 : a.tmps.getD 4 undef = .pointer (some ⟨w.heap.size + 1, 0, none⟩) := hx 4 (by kernel_rfl)
                        obtain ⟨l175, h175, -, -, -, g175⟩ : ∃ lo hi, _ ∧ _ ∧ _ ∧ (.nv (.bool true) : Fk).says lo hi wk (a.tmps.getD 175 undef) := hg 23 175 (by kernel_rfl) rfl
                        replace g175 : a.tmps.getD 175 undef = .bool true := g175
                        clear hx hg
                        intro k hk; obtain rfl : true = k := by rw [← hk]; show true = (match a.tmps.getD 175 undef with | .bool b => b == true | _ => false); rw [g175]; rfl
                        clear hk
                        have HK := Lib.hid hK; clear hK
                        dsimp only
                        have hX' := hXb.below hb
                        exact op_load g4 (ld_int _ _ 0 _ _ hX'.c0 hX'.c1) (HK.out _ _ (Below.refl _ _) ((IB.out.keep hB).keep hb))
                      · intro a wk hx hb hg K hK
                        obtain ⟨l176, h176, -, -, -, g176⟩ : ∃ lo hi, _ ∧ _ ∧ _ ∧ (.nz y 1000 : Fk).says lo hi wk (a.tmps.getD 176 undef) := hg 24 176 (by kernel_rfl) rfl
                        obtain ⟨l177, h177, -, -, -, g177⟩ : ∃ lo hi, _ ∧ _ ∧ _ ∧ (.nz z 1000 : Fk).says lo hi wk (a.tmps.getD 177 undef) := hg 25 177 (by kernel_rfl) rfl
                        obtain ⟨l175, h175, -, -, -, g175⟩ : ∃ lo hi, _ ∧ _ ∧ _ ∧ (.nv (.bool true) : Fk).says lo hi wk (a.tmps.getD 175 undef) := hg 23 175 (by kernel_rfl) rfl
                        replace g175 : a.tmps.getD 175 undef = .bool true := g175
                        clear hx hg
                        intro k hk; obtain rfl : true = k := by rw [← hk]; show true = (match a.tmps.getD 175 undef with | .bool b => b == true | _ => false); rw [g175]; rfl
                        clear hk
                        have HK := Lib.hid hK; clear hK
                        dsimp only
                        exact op_call2 (by kernel_rfl) (cmp_law g176 g177 (by decide) (HCC.out)) (TellsV.step HK.out)
                      · intro a wk hx hb hg K hK
                        have g3 : a.tmps.getD 3 undef = .pointer (some ⟨w.heap.size, 0, none⟩) := hx 3 (by kernel_rfl)
                        obtain ⟨l175, h175, -, -, -, g175⟩ : ∃ lo hi, _ ∧ _ ∧ _ ∧ (.nv (.bool true) : Fk).says lo hi wk (a.tmps.getD 175 undef) := hg 23 175 (by kernel_rfl) rfl
                        replace g175 : a.tmps.getD 175 undef = .bool true := g175
                        clear hx hg
                        intro k hk; obtain rfl : true = k := by rw [← hk]; show true = (match a.tmps.getD 175 undef with | .bool b => b == true | _ => false); rw [g175]; rfl
                        clear hk
                        have HK := Lib.hid hK; clear hK
                        dsimp only
                        have hX' := hXa.below hb
                        exact op_load g3 (ld_int _ _ 0 _ _ hX'.c0 hX'.c1) (HK.out _ _ (Below.refl _ _) ((IA.out.keep hB).keep hb))
                      · intro a wk hx hb hg K hK
                        have g4 : a.tmps.getD 4 undef = .pointer (some ⟨w.heap.size + 1, 0, none⟩) := hx 4 (by kernel_rfl)
                        obtain ⟨l175, h175, -, -, -, g175⟩ : ∃ lo hi, _ ∧ _ ∧ _ ∧ (.nv (.bool true) : Fk).says lo hi wk (a.tmps.getD 175 undef) := hg 23 175 (by kernel_rfl) rfl
                        replace g175 : a.tmps.getD 175 undef = .bool true := g175
                        clear hx hg
                        intro k hk; obtain rfl : true = k := by rw [← hk]; show true = (match a.tmps.getD 175 undef with | .bool b => b == true | _ => false); rw [g175]; rfl
                        clear hk
                        have HK := Lib.hid hK; clear hK
                        dsimp only
                        have hX' := hXb.below hb
                        exact op_load g4 (ld_int _ _ 0 _ _ hX'.c0 hX'.c1) (HK.out _ _ (Below.refl _ _) ((IB.out.keep hB).keep hb))
                      · intro a wk hx hb hg K hK
                        obtain ⟨l179, h179, -, -, -, g179⟩ : ∃ lo hi, _ ∧ _ ∧ _ ∧ (.nz y 1000 : Fk).says lo hi wk (a.tmps.getD 179 undef) := hg 27 179 (by kernel_rfl) rfl
                        obtain ⟨l180, h180, -, -, -, g180⟩ : ∃ lo hi, _ ∧ _ ∧ _ ∧ (.nz z 1000 : Fk).says lo hi wk (a.tmps.getD 180 undef) := hg 28 180 (by kernel_rfl) rfl
                        obtain ⟨l175, h175, -, -, -, g175⟩ : ∃ lo hi, _ ∧ _ ∧ _ ∧ (.nv (.bool true) : Fk).says lo hi wk (a.tmps.getD 175 undef) := hg 23 175 (by kernel_rfl) rfl
                        replace g175 : a.tmps.getD 175 undef = .bool true := g175
                        clear hx hg
                        intro k hk; obtain rfl : true = k := by rw [← hk]; show true = (match a.tmps.getD 175 undef with | .bool b => b == true | _ => false); rw [g175]; rfl
                        clear hk
                        have HK := Lib.hid hK; clear hK
                        dsimp only
                        exact op_call2 (by kernel_rfl) (sub_law g179 g180 (by decide) Hz181.out.symm) (TellsO.step HK.out)
                      · intro a wk hx hb hg K hK
                        obtain ⟨l175, h175, -, -, -, g175⟩ : ∃ lo hi, _ ∧ _ ∧ _ ∧ (.nv (.bool true) : Fk).says lo hi wk (a.tmps.getD 175 undef) := hg 23 175 (by kernel_rfl) rfl
                        replace g175 : a.tmps.getD 175 undef = .bool true := g175
                        clear hx hg
                        intro k hk; obtain rfl : true = k := by rw [← hk]; show true = (match a.tmps.getD 175 undef with | .bool b => b == true | _ => false); rw [g175]; rfl
                        clear hk
                        have HK := Lib.hid hK; clear hK
                        dsimp only
                        exact op_callc (by kernel_rfl) (of_law _ (0) _ (by decide) (by decide) rfl) (TellsO.step HK.out)
                      · intro a wk hx hb hg K hK
                        obtain ⟨l181, h181, -, -, -, g181⟩ : ∃ lo hi, _ ∧ _ ∧ _ ∧ (.no z181 : Fk).says lo hi wk (a.tmps.getD 181 undef) := hg 29 181 (by kernel_rfl) rfl
                        obtain ⟨l182, h182, -, -, -, g182⟩ : ∃ lo hi, _ ∧ _ ∧ _ ∧ (.no (0) : Fk).says lo hi wk (a.tmps.getD 182 undef) := hg 30 182 (by kernel_rfl) rfl
                        obtain ⟨l175, h175, -, -, -, g175⟩ : ∃ lo hi, _ ∧ _ ∧ _ ∧ (.nv (.bool true) : Fk).says lo hi wk (a.tmps.getD 175 undef) := hg 23 175 (by kernel_rfl) rfl
                        replace g175 : a.tmps.getD 175 undef = .bool true := g175
                        clear hx hg
                        intro k hk; obtain rfl : true = k := by rw [← hk]; show true = (match a.tmps.getD 175 undef with | .bool b => b == true | _ => false); rw [g175]; rfl
                        clear hk
                        have HK := Lib.hid hK; clear hK
                        dsimp only
                        exact op_call2 (by kernel_rfl) (cmp_law ((Fk.oi g181).iz (Bz181.out)) ((Fk.oi g182).iz ((zb1 (by decide) : ZB (0) 1))) (by decide) (by rw [Hz181.out, cmpI_sub]; exact HCC.out)) (TellsV.step HK.out)
                      · intro a wk hx hb hg K hK
                        obtain ⟨l178, h178, -, -, -, g178⟩ : ∃ lo hi, _ ∧ _ ∧ _ ∧ (.nv (.int .i64 (0)) : Fk).says lo hi wk (a.tmps.getD 178 undef) := hg 26 178 (by kernel_rfl) rfl
                        replace g178 : a.tmps.getD 178 undef = .int .i64 (0) := g178
                        obtain ⟨l183, h183, -, -, -, g183⟩ : ∃ lo hi, _ ∧ _ ∧ _ ∧ (.nv (.int .i64 (0)) : Fk).says lo hi wk (a.tmps.getD 183 undef) := hg 31 183 (by kernel_rfl) rfl
                        replace g183 : a.tmps.getD 183 undef = .int .i64 (0) := g183
                        obtain ⟨l175, h175, -, -, -, g175⟩ : ∃ lo hi, _ ∧ _ ∧ _ ∧ (.nv (.bool true) : Fk).says lo hi wk (a.tmps.getD 175 undef) := hg 23 175 (by kernel_rfl) rfl
                        replace g175 : a.tmps.getD 175 undef = .bool true := g175
                        clear hx hg
                        intro k hk; obtain rfl : true = k := by rw [← hk]; show true = (match a.tmps.getD 175 undef with | .bool b => b == true | _ => false); rw [g175]; rfl
                        clear hk
                        have HK := Lib.hid hK; clear hK
                        dsimp only
                        exact op_bin g178 g183 (bin_eqI.trans (congrArg (fun x => Result.ok (Value.bool x) wk) (by decide))) (HK.out _ _ (Below.refl _ _) rfl)
                      · intro a wk hx hb hg K hK
                        obtain ⟨l175, h175, -, -, -, g175⟩ : ∃ lo hi, _ ∧ _ ∧ _ ∧ (.nv (.bool true) : Fk).says lo hi wk (a.tmps.getD 175 undef) := hg 23 175 (by kernel_rfl) rfl
                        replace g175 : a.tmps.getD 175 undef = .bool true := g175
                        obtain ⟨l184, h184, -, -, -, g184⟩ : ∃ lo hi, _ ∧ _ ∧ _ ∧ (.nv (.bool true) : Fk).says lo hi wk (a.tmps.getD 184 undef) := hg 32 184 (by kernel_rfl) rfl
                        replace g184 : a.tmps.getD 184 undef = .bool true := g184
                        clear hx hg
                        intro k hk; obtain rfl : true = k := hk
                        have HK := Lib.hid hK; clear hK
                        dsimp only
                        exact op_pickT g175 g184 (HK.out _ _ (Below.refl _ _) rfl)
                      · intro a wk hx hb hg K hK
                        obtain ⟨l185, h185, -, -, -, g185⟩ : ∃ lo hi, _ ∧ _ ∧ _ ∧ (.nv (.bool true) : Fk).says lo hi wk (a.tmps.getD 185 undef) := hg 33 185 (by kernel_rfl) rfl
                        replace g185 : a.tmps.getD 185 undef = .bool true := g185
                        clear hx hg
                        intro k hk; obtain rfl : true = k := hk
                        have HK := Lib.hid hK; clear hK
                        dsimp only
                        exact op_move g185 (HK.out _ _ (Below.refl _ _) rfl)
                      · intro a wk hx hb hg K hK
                        have g3 : a.tmps.getD 3 undef = .pointer (some ⟨w.heap.size, 0, none⟩) := hx 3 (by kernel_rfl)
                        obtain ⟨l186, h186, -, -, -, g186⟩ : ∃ lo hi, _ ∧ _ ∧ _ ∧ (.nv (.bool true) : Fk).says lo hi wk (a.tmps.getD 186 undef) := hg 34 186 (by kernel_rfl) rfl
                        replace g186 : a.tmps.getD 186 undef = .bool true := g186
                        clear hx hg
                        intro k hk; obtain rfl : true = k := by rw [← hk]; show true = (match a.tmps.getD 186 undef with | .bool b => b == true | _ => false); rw [g186]; rfl
                        clear hk
                        have HK := Lib.hid hK; clear hK
                        dsimp only
                        have hX' := hXa.below hb
                        exact op_load g3 (ld_int _ _ 0 _ _ hX'.c0 hX'.c1) (HK.out _ _ (Below.refl _ _) ((IA.out.keep hB).keep hb))
                      · intro a wk hx hb hg K hK
                        have g4 : a.tmps.getD 4 undef = .pointer (some ⟨w.heap.size + 1, 0, none⟩) := hx 4 (by kernel_rfl)
                        obtain ⟨l186, h186, -, -, -, g186⟩ : ∃ lo hi, _ ∧ _ ∧ _ ∧ (.nv (.bool true) : Fk).says lo hi wk (a.tmps.getD 186 undef) := hg 34 186 (by kernel_rfl) rfl
                        replace g186 : a.tmps.getD 186 undef = .bool true := g186
                        clear hx hg
                        intro k hk; obtain rfl : true = k := by rw [← hk]; show true = (match a.tmps.getD 186 undef with | .bool b => b == true | _ => false); rw [g186]; rfl
                        clear hk
                        have HK := Lib.hid hK; clear hK
                        dsimp only
                        have hX' := hXb.below hb
                        exact op_load g4 (ld_int _ _ 0 _ _ hX'.c0 hX'.c1) (HK.out _ _ (Below.refl _ _) ((IB.out.keep hB).keep hb))
                      · intro a wk hx hb hg K hK
                        obtain ⟨l187, h187, -, -, -, g187⟩ : ∃ lo hi, _ ∧ _ ∧ _ ∧ (.nz y 1000 : Fk).says lo hi wk (a.tmps.getD 187 undef) := hg 35 187 (by kernel_rfl) rfl
                        obtain ⟨l188, h188, -, -, -, g188⟩ : ∃ lo hi, _ ∧ _ ∧ _ ∧ (.nz z 1000 : Fk).says lo hi wk (a.tmps.getD 188 undef) := hg 36 188 (by kernel_rfl) rfl
                        obtain ⟨l186, h186, -, -, -, g186⟩ : ∃ lo hi, _ ∧ _ ∧ _ ∧ (.nv (.bool true) : Fk).says lo hi wk (a.tmps.getD 186 undef) := hg 34 186 (by kernel_rfl) rfl
                        replace g186 : a.tmps.getD 186 undef = .bool true := g186
                        clear hx hg
                        intro k hk; obtain rfl : true = k := by rw [← hk]; show true = (match a.tmps.getD 186 undef with | .bool b => b == true | _ => false); rw [g186]; rfl
                        clear hk
                        have HK := Lib.hid hK; clear hK
                        dsimp only
                        exact op_call2 (by kernel_rfl) (cmp_law g187 g188 (by decide) (HCC.out)) (TellsV.step HK.out)
                      · intro a wk hx hb hg K hK
                        obtain ⟨l189, h189, -, -, -, g189⟩ : ∃ lo hi, _ ∧ _ ∧ _ ∧ (.nv (.int .i64 (0)) : Fk).says lo hi wk (a.tmps.getD 189 undef) := hg 37 189 (by kernel_rfl) rfl
                        replace g189 : a.tmps.getD 189 undef = .int .i64 (0) := g189
                        obtain ⟨l186, h186, -, -, -, g186⟩ : ∃ lo hi, _ ∧ _ ∧ _ ∧ (.nv (.bool true) : Fk).says lo hi wk (a.tmps.getD 186 undef) := hg 34 186 (by kernel_rfl) rfl
                        replace g186 : a.tmps.getD 186 undef = .bool true := g186
                        clear hx hg
                        intro k hk; obtain rfl : true = k := by rw [← hk]; show true = (match a.tmps.getD 186 undef with | .bool b => b == true | _ => false); rw [g186]; rfl
                        clear hk
                        have HK := Lib.hid hK; clear hK
                        dsimp only
                        exact op_bin g189 rfl (bin_neI.trans (congrArg (fun x => Result.ok (Value.bool x) wk) (by decide))) (HK.out _ _ (Below.refl _ _) rfl)
                      · intro a wk hx hb hg K hK
                        obtain ⟨l190, h190, -, -, -, g190⟩ : ∃ lo hi, _ ∧ _ ∧ _ ∧ (.nv (.bool false) : Fk).says lo hi wk (a.tmps.getD 190 undef) := hg 38 190 (by kernel_rfl) rfl
                        replace g190 : a.tmps.getD 190 undef = .bool false := g190
                        obtain ⟨l186, h186, -, -, -, g186⟩ : ∃ lo hi, _ ∧ _ ∧ _ ∧ (.nv (.bool true) : Fk).says lo hi wk (a.tmps.getD 186 undef) := hg 34 186 (by kernel_rfl) rfl
                        replace g186 : a.tmps.getD 186 undef = .bool true := g186
                        clear hx hg
                        intro k hk; obtain rfl : true = k := by rw [← hk]; show true = (match a.tmps.getD 186 undef with | .bool b => b == true | _ => false); rw [g186]; rfl
                        clear hk
                        have HK := Lib.hid hK; clear hK
                        dsimp only
                        exact op_move g190 (HK.out _ _ (Below.refl _ _) rfl)
                      · intro a wk hx hb hg K hK
                        have g3 : a.tmps.getD 3 undef = .pointer (some ⟨w.heap.size, 0, none⟩) := hx 3 (by kernel_rfl)
                        obtain ⟨l191, h191, -, -, -, g191⟩ : ∃ lo hi, _ ∧ _ ∧ _ ∧ (.nv (.bool false) : Fk).says lo hi wk (a.tmps.getD 191 undef) := hg 39 191 (by kernel_rfl) rfl
                        replace g191 : a.tmps.getD 191 undef = .bool false := g191
                        clear hx hg
                        intro k hk; obtain rfl : true = k := by rw [← hk]; show true = (match a.tmps.getD 191 undef with | .bool b => b == false | _ => false); rw [g191]; rfl
                        clear hk
                        have HK := Lib.hid hK; clear hK
                        dsimp only
                        have hX' := hXa.below hb
                        exact op_load g3 (ld_int _ _ 0 _ _ hX'.c0 hX'.c1) (HK.out _ _ (Below.refl _ _) ((IA.out.keep hB).keep hb))
                      · intro a wk hx hb hg K hK
                        obtain ⟨l192, h192, -, -, -, g192⟩ : ∃ lo hi, _ ∧ _ ∧ _ ∧ (.nz y 1000 : Fk).says lo hi wk (a.tmps.getD 192 undef) := hg 40 192 (by kernel_rfl) rfl
                        obtain ⟨l191, h191, -, -, -, g191⟩ : ∃ lo hi, _ ∧ _ ∧ _ ∧ (.nv (.bool false) : Fk).says lo hi wk (a.tmps.getD 191 undef) := hg 39 191 (by kernel_rfl) rfl
                        replace g191 : a.tmps.getD 191 undef = .bool false := g191
                        clear hx hg
                        intro k hk; obtain rfl : true = k := by rw [← hk]; show true = (match a.tmps.getD 191 undef with | .bool b => b == false | _ => false); rw [g191]; rfl
                        clear hk
                        have HK := Lib.hid hK; clear hK
                        dsimp only
                        exact op_call1 (by kernel_rfl) (text_law g192 (by decide) (HT.out.keep (bw_below hB hb))) (TellsV.step HK.out)
                      · intro a wk hx hb hg K hK
                        have g4 : a.tmps.getD 4 undef = .pointer (some ⟨w.heap.size + 1, 0, none⟩) := hx 4 (by kernel_rfl)
                        obtain ⟨l191, h191, -, -, -, g191⟩ : ∃ lo hi, _ ∧ _ ∧ _ ∧ (.nv (.bool false) : Fk).says lo hi wk (a.tmps.getD 191 undef) := hg 39 191 (by kernel_rfl) rfl
                        replace g191 : a.tmps.getD 191 undef = .bool false := g191
                        clear hx hg
                        intro k hk; obtain rfl : true = k := by rw [← hk]; show true = (match a.tmps.getD 191 undef with | .bool b => b == false | _ => false); rw [g191]; rfl
                        clear hk
                        have HK := Lib.hid hK; clear hK
                        dsimp only
                        have hX' := hXb.below hb
                        exact op_load g4 (ld_int _ _ 0 _ _ hX'.c0 hX'.c1) (HK.out _ _ (Below.refl _ _) ((IB.out.keep hB).keep hb))
                      · intro a wk hx hb hg K hK
                        obtain ⟨l194, h194, -, -, -, g194⟩ : ∃ lo hi, _ ∧ _ ∧ _ ∧ (.nz z 1000 : Fk).says lo hi wk (a.tmps.getD 194 undef) := hg 42 194 (by kernel_rfl) rfl
                        obtain ⟨l191, h191, -, -, -, g191⟩ : ∃ lo hi, _ ∧ _ ∧ _ ∧ (.nv (.bool false) : Fk).says lo hi wk (a.tmps.getD 191 undef) := hg 39 191 (by kernel_rfl) rfl
                        replace g191 : a.tmps.getD 191 undef = .bool false := g191
                        clear hx hg
                        intro k hk; obtain rfl : true = k := by rw [← hk]; show true = (match a.tmps.getD 191 undef with | .bool b => b == false | _ => false); rw [g191]; rfl
                        clear hk
                        have HK := Lib.hid hK; clear hK
                        dsimp only
                        exact op_call1 (by kernel_rfl) (text_law g194 (by decide) (HT.out.keep (bw_below hB hb))) (TellsV.step HK.out)
                      · intro a wk hx hb hg K hK
                        obtain ⟨l193, h193, -, -, -, g193⟩ : ∃ lo hi, _ ∧ _ ∧ _ ∧ (.nv (.string ⟨(zText y).toArray⟩) : Fk).says lo hi wk (a.tmps.getD 193 undef) := hg 41 193 (by kernel_rfl) rfl
                        replace g193 : a.tmps.getD 193 undef = .string ⟨(zText y).toArray⟩ := g193
                        obtain ⟨l195, h195, -, -, -, g195⟩ : ∃ lo hi, _ ∧ _ ∧ _ ∧ (.nv (.string ⟨(zText z).toArray⟩) : Fk).says lo hi wk (a.tmps.getD 195 undef) := hg 43 195 (by kernel_rfl) rfl
                        replace g195 : a.tmps.getD 195 undef = .string ⟨(zText z).toArray⟩ := g195
                        obtain ⟨l191, h191, -, -, -, g191⟩ : ∃ lo hi, _ ∧ _ ∧ _ ∧ (.nv (.bool false) : Fk).says lo hi wk (a.tmps.getD 191 undef) := hg 39 191 (by kernel_rfl) rfl
                        replace g191 : a.tmps.getD 191 undef = .bool false := g191
                        clear hx hg
                        intro k hk; obtain rfl : true = k := by rw [← hk]; show true = (match a.tmps.getD 191 undef with | .bool b => b == false | _ => false); rw [g191]; rfl
                        clear hk
                        have HK := Lib.hid hK; clear hK
                        dsimp only
                        exact op_bin g193 g195 (bin_eqS.trans (congrArg (fun x => Result.ok (Value.bool x) wk) (bseq _ _ _ (decide_eq_true (congrArg zText HYZ.out))))) (HK.out _ _ (Below.refl _ _) rfl)
                      · intro a wk hx hb hg K hK
                        obtain ⟨l191, h191, -, -, -, g191⟩ : ∃ lo hi, _ ∧ _ ∧ _ ∧ (.nv (.bool false) : Fk).says lo hi wk (a.tmps.getD 191 undef) := hg 39 191 (by kernel_rfl) rfl
                        replace g191 : a.tmps.getD 191 undef = .bool false := g191
                        obtain ⟨l196, h196, -, -, -, g196⟩ : ∃ lo hi, _ ∧ _ ∧ _ ∧ (.nv (.bool true) : Fk).says lo hi wk (a.tmps.getD 196 undef) := hg 44 196 (by kernel_rfl) rfl
                        replace g196 : a.tmps.getD 196 undef = .bool true := g196
                        obtain ⟨l186, h186, -, -, -, g186⟩ : ∃ lo hi, _ ∧ _ ∧ _ ∧ (.nv (.bool true) : Fk).says lo hi wk (a.tmps.getD 186 undef) := hg 34 186 (by kernel_rfl) rfl
                        replace g186 : a.tmps.getD 186 undef = .bool true := g186
                        clear hx hg
                        intro k hk; obtain rfl : true = k := by rw [← hk]; show true = (match a.tmps.getD 186 undef with | .bool b => b == true | _ => false); rw [g186]; rfl
                        clear hk
                        have HK := Lib.hid hK; clear hK
                        dsimp only
                        exact op_pickF g191 g196 (HK.out _ _ (Below.refl _ _) rfl)
                      · intro a wk hx hb hg K hK
                        obtain ⟨l186, h186, -, -, -, g186⟩ : ∃ lo hi, _ ∧ _ ∧ _ ∧ (.nv (.bool true) : Fk).says lo hi wk (a.tmps.getD 186 undef) := hg 34 186 (by kernel_rfl) rfl
                        replace g186 : a.tmps.getD 186 undef = .bool true := g186
                        obtain ⟨l197, h197, -, -, -, g197⟩ : ∃ lo hi, _ ∧ _ ∧ _ ∧ (.nv (.bool true) : Fk).says lo hi wk (a.tmps.getD 197 undef) := hg 45 197 (by kernel_rfl) rfl
                        replace g197 : a.tmps.getD 197 undef = .bool true := g197
                        clear hx hg
                        intro k hk; obtain rfl : true = k := hk
                        have HK := Lib.hid hK; clear hK
                        dsimp only
                        exact op_pickT g186 g197 (HK.out _ _ (Below.refl _ _) rfl)
                      · intro a wk hx hb hg K hK
                        obtain ⟨l198, h198, -, -, -, g198⟩ : ∃ lo hi, _ ∧ _ ∧ _ ∧ (.nv (.bool true) : Fk).says lo hi wk (a.tmps.getD 198 undef) := hg 46 198 (by kernel_rfl) rfl
                        replace g198 : a.tmps.getD 198 undef = .bool true := g198
                        clear hx hg
                        intro k hk; obtain rfl : true = k := hk
                        have HK := Lib.hid hK; clear hK
                        dsimp only
                        exact op_assign g198 (HK.out _ _ (Below.refl _ _) rfl)
                    case fin172 =>
                      intro t17 lo17 hi17 V17 hb2 hF hD
                      have gb : t17 6 = .bool true := (hF 47 6 rfl).2.2.2
                      clear hF hD
                      refine wpList_nil ?_
                      simp only [gb]
                      go_wp2_with fail
                      go_ret
                      exact ⟨rfl, bw_below hB hb2⟩
                  · have HCC := Lib.hid (cmpI_gt hyz)
                    clear hyz
                    refine wp_region_facts5 (by kernel_rfl) (fun i => (Fk.at [.nz y 1000, .nz z 1000, .nv (.int .i64 (1)), .nz y 1000, .nz x 1000, .nl [y, x] 2004, .no z158, .nz z 1000, .nz x 1000, .nl [z, x] 2004, .no z162, .nv (.int .i64 (1)), .nv (.bool true), .nv (.bool true), .nz y 1000, .nz z 1000, .nv (.int .i64 (1)), .nz z 1000, .nz y 1000, .nv (.int .i64 (-1)), .nv (.int .i64 (1)), .nv (.bool true), .nv (.bool true), .nv (.bool true), .nz y 1000, .nz z 1000, .nv (.int .i64 (1)), .nz y 1000, .nz z 1000, .no z181, .no (0), .nv (.int .i64 (1)), .nv (.bool true), .nv (.bool true), .nv (.bool true), .nz y 1000, .nz z 1000, .nv (.int .i64 (1)), .nv (.bool true), .nv (.bool true), .nv (undef), .nv (undef), .nv (undef), .nv (undef), .nv (undef), .nv (.bool true), .nv (.bool true), .nv (.bool true)] i).says) [152, 153, 154, 155, 156, 157, 158, 159, 160, 161, 162, 163, 164, 165, 166, 167, 168, 169, 170, 171, 172, 173, 174, 175, 176, 177, 178, 179, 180, 181, 182, 183, 184, 185, 186, 187, 188, 189, 190, 191, 192, 193, 194, 195, 196, 197, 198, 6] ?A173 48 [] ?hA173 _ rfl (by kernel_rfl) (fun _ _ _ _ _ _ => Fk.keep _) ?steps173 ?fin173
                    case hA173 => intro t; (try simp only [putAll, Act.put, List.setIfInBounds_toArray, List.set_cons_zero, List.set_cons_succ]); (try exact rfl)
                    case steps173 =>
                      refine ⟨?_, ?_, ?_, ?_, ?_, ?_, ?_, ?_, ?_, ?_, ?_, ?_, ?_, ?_, ?_, ?_, ?_, ?_, ?_, ?_, ?_, ?_, ?_, ?_, ?_, ?_, ?_, ?_, ?_, ?_, ?_, ?_, ?_, ?_, ?_, ?_, ?_, ?_, ?_, ?_, ?_, ?_, ?_, ?_, ?_, ?_, ?_, ?_, trivial⟩
                      · intro a wk hx hb hg K hK
                        have g3 : a.tmps.getD 3 undef = .pointer (some ⟨w.heap.size, 0, none⟩) := hx 3 (by kernel_rfl)
                        clear hx hg
                        intro k hk; obtain rfl : true = k := hk
                        have HK := Lib.hid hK; clear hK
                        dsimp only
                        have hX' := hXa.below hb
                        exact op_load g3 (ld_int _ _ 0 _ _ hX'.c0 hX'.c1) (HK.out _ _ (Below.refl _ _) ((IA.out.keep hB).keep hb))
                      · intro a wk hx hb hg K hK
                        have g4 : a.tmps.getD 4 undef = .pointer (some ⟨w.heap.size + 1, 0, none⟩) := hx 4 (by kernel_rfl)
                        clear hx hg
                        intro k hk; obtain rfl : true = k := hk
                        have HK := Lib.hid hK; clear hK
                        dsimp only
                        have hX' := hXb.below hb
                        exact op_load g4 (ld_int _ _ 0 _ _ hX'.c0 hX'.c1) (HK.out _ _ (Below.refl _ _) ((IB.out.keep hB).keep hb))
                      · intro a wk hx hb hg K hK
                        obtain ⟨l152, h152, -, -, -, g152⟩ : ∃ lo hi, _ ∧ _ ∧ _ ∧ (.nz y 1000 : Fk).says lo hi wk (a.tmps.getD 152 undef) := hg 0 152 (by kernel_rfl) rfl
                        obtain ⟨l153, h153, -, -, -, g153⟩ : ∃ lo hi, _ ∧ _ ∧ _ ∧ (.nz z 1000 : Fk).says lo hi wk (a.tmps.getD 153 undef) := hg 1 153 (by kernel_rfl) rfl
                        clear hx hg
                        intro k hk; obtain rfl : true = k := hk
                        have HK := Lib.hid hK; clear hK
                        dsimp only
                        exact op_call2 (by kernel_rfl) (cmp_law g152 g153 (by decide) (HCC.out)) (TellsV.step HK.out)
                      · intro a wk hx hb hg K hK
                        have g3 : a.tmps.getD 3 undef = .pointer (some ⟨w.heap.size, 0, none⟩) := hx 3 (by kernel_rfl)
                        clear hx hg
                        intro k hk; obtain rfl : true = k := hk
                        have HK := Lib.hid hK; clear hK
                        dsimp only
                        have hX' := hXa.below hb
                        exact op_load g3 (ld_int _ _ 0 _ _ hX'.c0 hX'.c1) (HK.out _ _ (Below.refl _ _) ((IA.out.keep hB).keep hb))
                      · intro a wk hx hb hg K hK
                        have g5 : a.tmps.getD 5 undef = .pointer (some ⟨w.heap.size + 2, 0, none⟩) := hx 5 (by kernel_rfl)
                        clear hx hg
                        intro k hk; obtain rfl : true = k := hk
                        have HK := Lib.hid hK; clear hK
                        dsimp only
                        have hX' := hXc.below hb
                        exact op_load g5 (ld_int _ _ 0 _ _ hX'.c0 hX'.c1) (HK.out _ _ (Below.refl _ _) ((IC.out.keep hB).keep hb))
                      · intro a wk hx hb hg K hK
                        obtain ⟨l155, h155, -, -, -, g155⟩ : ∃ lo hi, _ ∧ _ ∧ _ ∧ (.nz y 1000 : Fk).says lo hi wk (a.tmps.getD 155 undef) := hg 3 155 (by kernel_rfl) rfl
                        obtain ⟨l156, h156, -, -, -, g156⟩ : ∃ lo hi, _ ∧ _ ∧ _ ∧ (.nz x 1000 : Fk).says lo hi wk (a.tmps.getD 156 undef) := hg 4 156 (by kernel_rfl) rfl
                        clear hx hg
                        intro k hk; obtain rfl : true = k := hk
                        have HK := Lib.hid hK; clear hK
                        dsimp only
                        obtain ⟨x, w2, hr, hb2, hl⟩ := lz2 g155 g156
                        exact op_slice (by simp [Act.eval]) hr (HK.out _ _ hb2 hl)
                      · intro a wk hx hb hg K hK
                        obtain ⟨l157, h157, -, -, -, g157⟩ : ∃ lo hi, _ ∧ _ ∧ _ ∧ (.nl [y, x] 2004 : Fk).says lo hi wk (a.tmps.getD 157 undef) := hg 5 157 (by kernel_rfl) rfl
                        clear hx hg
                        intro k hk; obtain rfl : true = k := hk
                        have HK := Lib.hid hK; clear hK
                        dsimp only
                        exact op_call1 (by kernel_rfl) (add_law g157 (by decide) (Hz158.out.symm)) (TellsO.step HK.out)
                      · intro a wk hx hb hg K hK
                        have g4 : a.tmps.getD 4 undef = .pointer (some ⟨w.heap.size + 1, 0, none⟩) := hx 4 (by kernel_rfl)
                        clear hx hg
                        intro k hk; obtain rfl : true = k := hk
                        have HK := Lib.hid hK; clear hK
                        dsimp only
                        have hX' := hXb.below hb
                        exact op_load g4 (ld_int _ _ 0 _ _ hX'.c0 hX'.c1) (HK.out _ _ (Below.refl _ _) ((IB.out.keep hB).keep hb))
                      · intro a wk hx hb hg K hK
                        have g5 : a.tmps.getD 5 undef = .pointer (some ⟨w.heap.size + 2, 0, none⟩) := hx 5 (by kernel_rfl)
                        clear hx hg
                        intro k hk; obtain rfl : true = k := hk
                        have HK := Lib.hid hK; clear hK
                        dsimp only
                        have hX' := hXc.below hb
                        exact op_load g5 (ld_int _ _ 0 _ _ hX'.c0 hX'.c1) (HK.out _ _ (Below.refl _ _) ((IC.out.keep hB).keep hb))
                      · intro a wk hx hb hg K hK
                        obtain ⟨l159, h159, -, -, -, g159⟩ : ∃ lo hi, _ ∧ _ ∧ _ ∧ (.nz z 1000 : Fk).says lo hi wk (a.tmps.getD 159 undef) := hg 7 159 (by kernel_rfl) rfl
                        obtain ⟨l160, h160, -, -, -, g160⟩ : ∃ lo hi, _ ∧ _ ∧ _ ∧ (.nz x 1000 : Fk).says lo hi wk (a.tmps.getD 160 undef) := hg 8 160 (by kernel_rfl) rfl
                        clear hx hg
                        intro k hk; obtain rfl : true = k := hk
                        have HK := Lib.hid hK; clear hK
                        dsimp only
                        obtain ⟨x, w2, hr, hb2, hl⟩ := lz2 g159 g160
                        exact op_slice (by simp [Act.eval]) hr (HK.out _ _ hb2 hl)
                      · intro a wk hx hb hg K hK
                        obtain ⟨l161, h161, -, -, -, g161⟩ : ∃ lo hi, _ ∧ _ ∧ _ ∧ (.nl [z, x] 2004 : Fk).says lo hi wk (a.tmps.getD 161 undef) := hg 9 161 (by kernel_rfl) rfl
                        clear hx hg
                        intro k hk; obtain rfl : true = k := hk
                        have HK := Lib.hid hK; clear hK
                        dsimp only
                        exact op_call1 (by kernel_rfl) (add_law g161 (by decide) (Hz162.out.symm)) (TellsO.step HK.out)
                      · intro a wk hx hb hg K hK
                        obtain ⟨l158, h158, -, -, -, g158⟩ : ∃ lo hi, _ ∧ _ ∧ _ ∧ (.no z158 : Fk).says lo hi wk (a.tmps.getD 158 undef) := hg 6 158 (by kernel_rfl) rfl
                        obtain ⟨l162, h162, -, -, -, g162⟩ : ∃ lo hi, _ ∧ _ ∧ _ ∧ (.no z162 : Fk).says lo hi wk (a.tmps.getD 162 undef) := hg 10 162 (by kernel_rfl) rfl
                        clear hx hg
                        intro k hk; obtain rfl : true = k := hk
                        have HK := Lib.hid hK; clear hK
                        dsimp only
                        exact op_call2 (by kernel_rfl) (cmp_law ((Fk.oi g158).iz (Bz158.out)) ((Fk.oi g162).iz (Bz162.out)) (by decide) (by rw [Hz158.out, Hz162.out, Int.zero_add, Int.zero_add, cmpI_add]; exact HCC.out)) (TellsV.step HK.out)
                      · intro a wk hx hb hg K hK
                        obtain ⟨l154, h154, -, -, -, g154⟩ : ∃ lo hi, _ ∧ _ ∧ _ ∧ (.nv (.int .i64 (1)) : Fk).says lo hi wk (a.tmps.getD 154 undef) := hg 2 154 (by kernel_rfl) rfl
                        replace g154 : a.tmps.getD 154 undef = .int .i64 (1) := g154
                        obtain ⟨l163, h163, -, -, -, g163⟩ : ∃ lo hi, _ ∧ _ ∧ _ ∧ (.nv (.int .i64 (1)) : Fk).says lo hi wk (a.tmps.getD 163 undef) := hg 11 163 (by kernel_rfl) rfl
                        replace g163 : a.tmps.getD 163 undef = .int .i64 (1) := g163
                        clear hx hg
                        intro k hk; obtain rfl : true = k := hk
                        have HK := Lib.hid hK; clear hK
                        dsimp only
                        exact op_bin g154 g163 (bin_eqI.trans (congrArg (fun x => Result.ok (Value.bool x) wk) (by decide))) (HK.out _ _ (Below.refl _ _) rfl)
                      · intro a wk hx hb hg K hK
                        obtain ⟨l164, h164, -, -, -, g164⟩ : ∃ lo hi, _ ∧ _ ∧ _ ∧ (.nv (.bool true) : Fk).says lo hi wk (a.tmps.getD 164 undef) := hg 12 164 (by kernel_rfl) rfl
                        replace g164 : a.tmps.getD 164 undef = .bool true := g164
                        clear hx hg
                        intro k hk; obtain rfl : true = k := hk
                        have HK := Lib.hid hK; clear hK
                        dsimp only
                        exact op_move g164 (HK.out _ _ (Below.refl _ _) rfl)
                      · intro a wk hx hb hg K hK
                        have g3 : a.tmps.getD 3 undef = .pointer (some ⟨w.heap.size, 0, none⟩) := hx 3 (by kernel_rfl)
                        obtain ⟨l165, h165, -, -, -, g165⟩ : ∃ lo hi, _ ∧ _ ∧ _ ∧ (.nv (.bool true) : Fk).says lo hi wk (a.tmps.getD 165 undef) := hg 13 165 (by kernel_rfl) rfl
                        replace g165 : a.tmps.getD 165 undef = .bool true := g165
                        clear hx hg
                        intro k hk; obtain rfl : true = k := by rw [← hk]; show true = (match a.tmps.getD 165 undef with | .bool b => b == true | _ => false); rw [g165]; rfl
                        clear hk
                        have HK := Lib.hid hK; clear hK
                        dsimp only
                        have hX' := hXa.below hb
                        exact op_load g3 (ld_int _ _ 0 _ _ hX'.c0 hX'.c1) (HK.out _ _ (Below.refl _ _) ((IA.out.keep hB).keep hb))
                      · intro a wk hx hb hg K hK
                        have g4 : a.tmps.getD 4 undef = .pointer (some ⟨w.heap.size + 1, 0, none⟩) := hx 4 (by kernel_rfl)
                        obtain ⟨l165, h165, -, -, -, g165⟩ : ∃ lo hi, _ ∧ _ ∧ _ ∧ (.nv (.bool true) : Fk).says lo hi wk (a.tmps.getD 165 undef) := hg 13 165 (by kernel_rfl) rfl
                        replace g165 : a.tmps.getD 165 undef = .bool true := g165
                        clear hx hg
                        intro k hk; obtain rfl : true = k := by rw [← hk]; show true = (match a.tmps.getD 165 undef with | .bool b => b == true | _ => false); rw [g165]; rfl
                        clear hk
                        have HK := Lib.hid hK; clear hK
                        dsimp only
                        have hX' := hXb.below hb
                        exact op_load g4 (ld_int _ _ 0 _ _ hX'.c0 hX'.c1) (HK.out _ _ (Below.refl _ _) ((IB.out.keep hB).keep hb))
                      · intro a wk hx hb hg K hK
                        obtain ⟨l166, h166, -, -, -, g166⟩ : ∃ lo hi, _ ∧ _ ∧ _ ∧ (.nz y 1000 : Fk).says lo hi wk (a.tmps.getD 166 undef) := hg 14 166 (by kernel_rfl) rfl
                        obtain ⟨l167, h167, -, -, -, g167⟩ : ∃ lo hi, _ ∧ _ ∧ _ ∧ (.nz z 1000 : Fk).says lo hi wk (a.tmps.getD 167 undef) := hg 15 167 (by kernel_rfl) rfl
                        obtain ⟨l165, h165, -, -, -, g165⟩ : ∃ lo hi, _ ∧ _ ∧ _ ∧ (.nv (.bool true) : Fk).says lo hi wk (a.tmps.getD 165 undef) := hg 13 165 (by kernel_rfl) rfl
                        replace g165 : a.tmps.getD 165 undef = .bool true := g165
                        clear hx hg
                        intro k hk; obtain rfl : true = k := by rw [← hk]; show true = (match a.tmps.getD 165 undef with | .bool b => b == true | _ => false); rw [g165]; rfl
                        clear hk
                        have HK := Lib.hid hK; clear hK
                        dsimp only
                        exact op_call2 (by kernel_rfl) (cmp_law g166 g167 (by decide) (HCC.out)) (TellsV.step HK.out)
                      · intro a wk hx hb hg K hK
                        have g4 : a.tmps.getD 4 undef = .pointer (some ⟨w.heap.size + 1, 0, none⟩) := hx 4 (by kernel_rfl)
                        obtain ⟨l165, h165, -, -, -, g165⟩ : ∃ lo hi, _ ∧ _ ∧ _ ∧ (.nv (.bool true) : Fk).says lo hi wk (a.tmps.getD 165 undef) := hg 13 165 (by kernel_rfl) rfl
                        replace g165 : a.tmps.getD 165 undef = .bool true := g165
                        clear hx hg
                        intro k hk; obtain rfl : true = k := by rw [← hk]; show true = (match a.tmps.getD 165 undef with | .bool b => b == true | _ => false); rw [g165]; rfl
                        clear hk
                        have HK := Lib.hid hK; clear hK
                        dsimp only
                        have hX' := hXb.below hb
                        exact op_load g4 (ld_int _ _ 0 _ _ hX'.c0 hX'.c1) (HK.out _ _ (Below.refl _ _) ((IB.out.keep hB).keep hb))
                      · intro a wk hx hb hg K hK
                        have g3 : a.tmps.getD 3 undef = .pointer (some ⟨w.heap.size, 0, none⟩) := hx 3 (by kernel_rfl)
                        obtain ⟨l165, h165, -, -, -, g165⟩ : ∃ lo hi, _ ∧ _ ∧ _ ∧ (.nv (.bool true) : Fk).says lo hi wk (a.tmps.getD 165 undef) := hg 13 165 (by kernel_rfl) rfl
                        replace g165 : a.tmps.getD 165 undef = .bool true := g165
                        clear hx hg
                        intro k hk; obtain rfl : true = k := by rw [← hk]; show true = (match a.tmps.getD 165 undef with | .bool b => b == true | _ => false); rw [g165]; rfl
                        clear hk
                        have HK := Lib.hid hK; clear hK
                        dsimp only
                        have hX' := hXa.below hb
                        exact op_load g3 (ld_int _ _ 0 _ _ hX'.c0 hX'.c1) (HK.out _ _ (Below.refl _ _) ((IA.out.keep hB).keep hb))
                      · intro a wk hx hb hg K hK
                        obtain ⟨l169, h169, -, -, -, g169⟩ : ∃ lo hi, _ ∧ _ ∧ _ ∧ (.nz z 1000 : Fk).says lo hi wk (a.tmps.getD 169 undef) := hg 17 169 (by kernel_rfl) rfl
                        obtain ⟨l170, h170, -, -, -, g170⟩ : ∃ lo hi, _ ∧ _ ∧ _ ∧ (.nz y 1000 : Fk).says lo hi wk (a.tmps.getD 170 undef) := hg 18 170 (by kernel_rfl) rfl
                        obtain ⟨l165, h165, -, -, -, g165⟩ : ∃ lo hi, _ ∧ _ ∧ _ ∧ (.nv (.bool true) : Fk).says lo hi wk (a.tmps.getD 165 undef) := hg 13 165 (by kernel_rfl) rfl
                        replace g165 : a.tmps.getD 165 undef = .bool true := g165
                        clear hx hg
                        intro k hk; obtain rfl : true = k := by rw [← hk]; show true = (match a.tmps.getD 165 undef with | .bool b => b == true | _ => false); rw [g165]; rfl
                        clear hk
                        have HK := Lib.hid hK; clear hK
                        dsimp only
                        exact op_call2 (by kernel_rfl) (cmp_law g169 g170 (by decide) (by rw [cmpI_swap, HCC.out] <;> rfl)) (TellsV.step HK.out)
                      · intro a wk hx hb hg K hK
                        obtain ⟨l171, h171, -, -, -, g171⟩ : ∃ lo hi, _ ∧ _ ∧ _ ∧ (.nv (.int .i64 (-1)) : Fk).says lo hi wk (a.tmps.getD 171 undef) := hg 19 171 (by kernel_rfl) rfl
                        replace g171 : a.tmps.getD 171 undef = .int .i64 (-1) := g171
                        obtain ⟨l165, h165, -, -, -, g165⟩ : ∃ lo hi, _ ∧ _ ∧ _ ∧ (.nv (.bool true) : Fk).says lo hi wk (a.tmps.getD 165 undef) := hg 13 165 (by kernel_rfl) rfl
                        replace g165 : a.tmps.getD 165 undef = .bool true := g165
                        clear hx hg
                        intro k hk; obtain rfl : true = k := by rw [← hk]; show true = (match a.tmps.getD 165 undef with | .bool b => b == true | _ => false); rw [g165]; rfl
                        clear hk
                        have HK := Lib.hid hK; clear hK
                        dsimp only
                        exact op_negI g171 (by decide) (HK.out _ _ (Below.refl _ _) rfl)
                      · intro a wk hx hb hg K hK
                        obtain ⟨l168, h168, -, -, -, g168⟩ : ∃ lo hi, _ ∧ _ ∧ _ ∧ (.nv (.int .i64 (1)) : Fk).says lo hi wk (a.tmps.getD 168 undef) := hg 16 168 (by kernel_rfl) rfl
                        replace g168 : a.tmps.getD 168 undef = .int .i64 (1) := g168
                        obtain ⟨l172, h172, -, -, -, g172⟩ : ∃ lo hi, _ ∧ _ ∧ _ ∧ (.nv (.int .i64 (1)) : Fk).says lo hi wk (a.tmps.getD 172 undef) := hg 20 172 (by kernel_rfl) rfl
                        replace g172 : a.tmps.getD 172 undef = .int .i64 (1) := g172
                        obtain ⟨l165, h165, -, -, -, g165⟩ : ∃ lo hi, _ ∧ _ ∧ _ ∧ (.nv (.bool true) : Fk).says lo hi wk (a.tmps.getD 165 undef) := hg 13 165 (by kernel_rfl) rfl
                        replace g165 : a.tmps.getD 165 undef = .bool true := g165
                        clear hx hg
                        intro k hk; obtain rfl : true = k := by rw [← hk]; show true = (match a.tmps.getD 165 undef with | .bool b => b == true | _ => false); rw [g165]; rfl
                        clear hk
                        have HK := Lib.hid hK; clear hK
                        dsimp only
                        exact op_bin g168 g172 (bin_eqI.trans (congrArg (fun x => Result.ok (Value.bool x) wk) (by decide))) (HK.out _ _ (Below.refl _ _) rfl)
                      · intro a wk hx hb hg K hK
                        obtain ⟨l165, h165, -, -, -, g165⟩ : ∃ lo hi, _ ∧ _ ∧ _ ∧ (.nv (.bool true) : Fk).says lo hi wk (a.tmps.getD 165 undef) := hg 13 165 (by kernel_rfl) rfl
                        replace g165 : a.tmps.getD 165 undef = .bool true := g165
                        obtain ⟨l173, h173, -, -, -, g173⟩ : ∃ lo hi, _ ∧ _ ∧ _ ∧ (.nv (.bool true) : Fk).says lo hi wk (a.tmps.getD 173 undef) := hg 21 173 (by kernel_rfl) rfl
                        replace g173 : a.tmps.getD 173 undef = .bool true := g173
                        clear hx hg
                        intro k hk; obtain rfl : true = k := hk
                        have HK := Lib.hid hK; clear hK
                        dsimp only
                        exact op_pickT g165 g173 (HK.out _ _ (Below.refl _ _) rfl)
                      · intro a wk hx hb hg K hK
                        obtain ⟨l174, h174, -, -, -, g174⟩ : ∃ lo hi, _ ∧ _ ∧ _ ∧ (.nv (.bool true) : Fk).says lo hi wk (a.tmps.getD 174 undef) := hg 22 174 (by kernel_rfl) rfl
                        replace g174 : a.tmps.getD 174 undef = .bool true := g174
                        clear hx hg
                        intro k hk; obtain rfl : true = k := hk
                        have HK := Lib.hid hK; clear hK
                        dsimp only
                        exact op_move g174 (HK.out _ _ (Below.refl _ _) rfl)
                      · intro a wk hx hb hg K hK
                        have g3 : a.tmps.getD 3 undef = .pointer (some ⟨w.heap.size, 0, none⟩) := hx 3 (by kernel_rfl)
                        obtain ⟨l175, h175, -, -, -, g175⟩ : ∃ lo hi, _ ∧ _ ∧ _ ∧ (.nv (.bool true) : Fk).says lo hi wk (a.tmps.getD 175 undef) := hg 23 175 (by kernel_rfl) rfl
                        replace g175 : a.tmps.getD 175 undef = .bool true := g175
                        clear hx hg
                        intro k hk; obtain rfl : true = k := by rw [← hk]; show true = (match a.tmps.getD 175 undef with | .bool b => b == true | _ => false); rw [g175]; rfl
                        clear hk
                        have HK := Lib.hid hK; clear hK
                        dsimp only
                        have hX' := hXa.below hb
                        exact op_load g3 (ld_int _ _ 0 _ _ hX'.c0 hX'.c1) (HK.out _ _ (Below.refl _ _) ((IA.out.keep hB).keep hb))
                      · intro a wk hx hb hg K hK
                        have g4 : a.tmps.getD 4 undef = .pointer (some ⟨w.heap.size + 1, 0, none⟩) := hx 4 (by kernel_rfl)
                        obtain ⟨l175, h175, -, -, -, g175⟩ : ∃ lo hi, _ ∧ _ ∧ _ ∧ (.nv (.bool true) : Fk).says lo hi wk (a.tmps.getD 175 undef) := hg 23 175 (by kernel_rfl) rfl
                        replace g175 : a.tmps.getD 175 undef = .bool true := g175
                        clear hx hg
                        intro k hk; obtain rfl : true = k := by rw [← hk]; show true = (match a.tmps.getD 175 undef with | .bool b => b == true | _ => false); rw [g175]; rfl
                        clear hk
                        have HK := Lib.hid hK; clear hK
                        dsimp only
                        have hX' := hXb.below hb
                        exact op_load g4 (ld_int _ _ 0 _ _ hX'.c0 hX'.c1) (HK.out _ _ (Below.refl _ _) ((IB.out.keep hB).keep hb))
                      · intro a wk hx hb hg K hK
                        obtain ⟨l176, h176, -, -, -, g176⟩ : ∃ lo hi, _ ∧ _ ∧ _ ∧ (.nz y 1000 : Fk).says lo hi wk (a.tmps.getD 176 undef) := hg 24 176 (by kernel_rfl) rfl
                        obtain ⟨l177, h177, -, -, -, g177⟩ : ∃ lo hi, _ ∧ _ ∧ _ ∧ (.nz z 1000 : Fk).says lo hi wk (a.tmps.getD 177 undef) := hg 25 177 (by kernel_rfl) rfl
                        obtain ⟨l175, h175, -, -, -, g175⟩ : ∃ lo hi, _ ∧ _ ∧ _ ∧ (.nv (.bool true) : Fk).says lo hi wk (a.tmps.getD 175 undef) := hg 23 175 (by kernel_rfl) rfl
                        replace g175 : a.tmps.getD 175 undef = .bool true := g175
                        clear hx hg
                        intro k hk; obtain rfl : true = k := by rw [← hk]; show true = (match a.tmps.getD 175 undef with | .bool b => b == true | _ => false); rw [g175]; rfl
                        clear hk
                        have HK := Lib.hid hK; clear hK
                        dsimp only
                        exact op_call2 (by kernel_rfl) (cmp_law g176 g177 (by decide) (HCC.out)) (TellsV.step HK.out)
                      · intro a wk hx hb hg K hK
                        have g3 : a.tmps.getD 3 undef = .pointer (some ⟨w.heap.size, 0, none⟩) := hx 3 (by kernel_rfl)
                        obtain ⟨l175, h175, -, -, -, g175⟩ : ∃ lo hi, _ ∧ _ ∧ _ ∧ (.nv (.bool true) : Fk).says lo hi wk (a.tmps.getD 175 undef) := hg 23 175 (by kernel_rfl) rfl
                        replace g175 : a.tmps.getD 175 undef = .bool true := g175
                        clear hx hg
                        intro k hk; obtain rfl : true = k := by rw [← hk]; show true = (match a.tmps.getD 175 undef with | .bool b => b == true | _ => false); rw [g175]; rfl
                        clear hk
                        have HK := Lib.hid hK; clear hK
                        dsimp only
                        have hX' := hXa.below hb
                        exact op_load g3 (ld_int _ _ 0 _ _ hX'.c0 hX'.c1) (HK.out _ _ (Below.refl _ _) ((IA.out.keep hB).keep hb))
                      · intro a wk hx hb hg K hK
                        have g4 : a.tmps.getD 4 undef = .pointer (some ⟨w.heap.size + 1, 0, none⟩) := hx 4 (by kernel_rfl)
                        obtain ⟨l175, h175, -, -, -, g175⟩ : ∃ lo hi, _ ∧ _ ∧ _ ∧ (.nv (.bool true) : Fk).says lo hi wk (a.tmps.getD 175 undef) := hg 23 175 (by kernel_rfl) rfl
                        replace g175 : a.tmps.getD 175 undef = .bool true := g175
                        clear hx hg
                        intro k hk; obtain rfl : true = k := by rw [← hk]; show true = (match a.tmps.getD 175 undef with | .bool b => b == true | _ => false); rw [g175]; rfl
                        clear hk
                        have HK := Lib.hid hK; clear hK
                        dsimp only
                        have hX' := hXb.below hb
                        exact op_load g4 (ld_int _ _ 0 _ _ hX'.c0 hX'.c1) (HK.out _ _ (Below.refl _ _) ((IB.out.keep hB).keep hb))
                      · intro a wk hx hb hg K hK
                        obtain ⟨l179, h179, -, -, -, g179⟩ : ∃ lo hi, _ ∧ _ ∧ _ ∧ (.nz y 1000 : Fk).says lo hi wk (a.tmps.getD 179 undef) := hg 27 179 (by kernel_rfl) rfl
                        obtain ⟨l180, h180, -, -, -, g180⟩ : ∃ lo hi, _ ∧ _ ∧ _ ∧ (.nz z 1000 : Fk).says lo hi wk (a.tmps.getD 180 undef) := hg 28 180 (by kernel_rfl) rfl
                        obtain ⟨l175, h175, -, -, -, g175⟩ : ∃ lo hi, _ ∧ _ ∧ _ ∧ (.nv (.bool true) : Fk).says lo hi wk (a.tmps.getD 175 undef) := hg 23 175 (by kernel_rfl) rfl
                        replace g175 : a.tmps.getD 175 undef = .bool true := g175
                        clear hx hg
                        intro k hk; obtain rfl : true = k := by rw [← hk]; show true = (match a.tmps.getD 175 undef with | .bool b => b == true | _ => false); rw [g175]; rfl
                        clear hk
                        have HK := Lib.hid hK; clear hK
                        dsimp only
                        exact op_call2 (by kernel_rfl) (sub_law g179 g180 (by decide) Hz181.out.symm) (TellsO.step HK.out)
                      · intro a wk hx hb hg K hK
                        obtain ⟨l175, h175, -, -, -, g175⟩ : ∃ lo hi, _ ∧ _ ∧ _ ∧ (.nv (.bool true) : Fk).says lo hi wk (a.tmps.getD 175 undef) := hg 23 175 (by kernel_rfl) rfl
                        replace g175 : a.tmps.getD 175 undef = .bool true := g175
                        clear hx hg
                        intro k hk; obtain rfl : true = k := by rw [← hk]; show true = (match a.tmps.getD 175 undef with | .bool b => b == true | _ => false); rw [g175]; rfl
                        clear hk
                        have HK := Lib.hid hK; clear hK
                        dsimp only
                        exact op_callc (by kernel_rfl) (of_law _ (0) _ (by decide) (by decide) rfl) (TellsO.step HK.out)
                      · intro a wk hx hb hg K hK
                        obtain ⟨l181, h181, -, -, -, g181⟩ : ∃ lo hi, _ ∧ _ ∧ _ ∧ (.no z181 : Fk).says lo hi wk (a.tmps.getD 181 undef) := hg 29 181 (by kernel_rfl) rfl
                        obtain ⟨l182, h182, -, -, -, g182⟩ : ∃ lo hi, _ ∧ _ ∧ _ ∧ (.no (0) : Fk).says lo hi wk (a.tmps.getD 182 undef) := hg 30 182 (by kernel_rfl) rfl
                        obtain ⟨l175, h175, -, -, -, g175⟩ : ∃ lo hi, _ ∧ _ ∧ _ ∧ (.nv (.bool true) : Fk).says lo hi wk (a.tmps.getD 175 undef) := hg 23 175 (by kernel_rfl) rfl
                        replace g175 : a.tmps.getD 175 undef = .bool true := g175
                        clear hx hg
                        intro k hk; obtain rfl : true = k := by rw [← hk]; show true = (match a.tmps.getD 175 undef with | .bool b => b == true | _ => false); rw [g175]; rfl
                        clear hk
                        have HK := Lib.hid hK; clear hK
                        dsimp only
                        exact op_call2 (by kernel_rfl) (cmp_law ((Fk.oi g181).iz (Bz181.out)) ((Fk.oi g182).iz ((zb1 (by decide) : ZB (0) 1))) (by decide) (by rw [Hz181.out, cmpI_sub]; exact HCC.out)) (TellsV.step HK.out)
                      · intro a wk hx hb hg K hK
                        obtain ⟨l178, h178, -, -, -, g178⟩ : ∃ lo hi, _ ∧ _ ∧ _ ∧ (.nv (.int .i64 (1)) : Fk).says lo hi wk (a.tmps.getD 178 undef) := hg 26 178 (by kernel_rfl) rfl
                        replace g178 : a.tmps.getD 178 undef = .int .i64 (1) := g178
                        obtain ⟨l183, h183, -, -, -, g183⟩ : ∃ lo hi, _ ∧ _ ∧ _ ∧ (.nv (.int .i64 (1)) : Fk).says lo hi wk (a.tmps.getD 183 undef) := hg 31 183 (by kernel_rfl) rfl
                        replace g183 : a.tmps.getD 183 undef = .int .i64 (1) := g183
                        obtain ⟨l175, h175, -, -, -, g175⟩ : ∃ lo hi, _ ∧ _ ∧ _ ∧ (.nv (.bool true) : Fk).says lo hi wk (a.tmps.getD 175 undef) := hg 23 175 (by kernel_rfl) rfl
                        replace g175 : a.tmps.getD 175 undef = .bool true := g175
                        clear hx hg
                        intro k hk; obtain rfl : true = k := by rw [← hk]; show true = (match a.tmps.getD 175 undef with | .bool b => b == true | _ => false); rw [g175]; rfl
                        clear hk
                        have HK := Lib.hid hK; clear hK
                        dsimp only
                        exact op_bin g178 g183 (bin_eqI.trans (congrArg (fun x => Result.ok (Value.bool x) wk) (by decide))) (HK.out _ _ (Below.refl _ _) rfl)
                      · intro a wk hx hb hg K hK
                        obtain ⟨l175, h175, -, -, -, g175⟩ : ∃ lo hi, _ ∧ _ ∧ _ ∧ (.nv (.bool true) : Fk).says lo hi wk (a.tmps.getD 175 undef) := hg 23 175 (by kernel_rfl) rfl
                        replace g175 : a.tmps.getD 175 undef = .bool true := g175
                        obtain ⟨l184, h184, -, -, -, g184⟩ : ∃ lo hi, _ ∧ _ ∧ _ ∧ (.nv (.bool true) : Fk).says lo hi wk (a.tmps.getD 184 undef) := hg 32 184 (by kernel_rfl) rfl
                        replace g184 : a.tmps.getD 184 undef = .bool true := g184
                        clear hx hg
                        intro k hk; obtain rfl : true = k := hk
                        have HK := Lib.hid hK; clear hK
                        dsimp only
                        exact op_pickT g175 g184 (HK.out _ _ (Below.refl _ _) rfl)
                      · intro a wk hx hb hg K hK
                        obtain ⟨l185, h185, -, -, -, g185⟩ : ∃ lo hi, _ ∧ _ ∧ _ ∧ (.nv (.bool true) : Fk).says lo hi wk (a.tmps.getD 185 undef) := hg 33 185 (by kernel_rfl) rfl
                        replace g185 : a.tmps.getD 185 undef = .bool true := g185
                        clear hx hg
                        intro k hk; obtain rfl : true = k := hk
                        have HK := Lib.hid hK; clear hK
                        dsimp only
                        exact op_move g185 (HK.out _ _ (Below.refl _ _) rfl)
                      · intro a wk hx hb hg K hK
                        have g3 : a.tmps.getD 3 undef = .pointer (some ⟨w.heap.size, 0, none⟩) := hx 3 (by kernel_rfl)
                        obtain ⟨l186, h186, -, -, -, g186⟩ : ∃ lo hi, _ ∧ _ ∧ _ ∧ (.nv (.bool true) : Fk).says lo hi wk (a.tmps.getD 186 undef) := hg 34 186 (by kernel_rfl) rfl
                        replace g186 : a.tmps.getD 186 undef = .bool true := g186
                        clear hx hg
                        intro k hk; obtain rfl : true = k := by rw [← hk]; show true = (match a.tmps.getD 186 undef with | .bool b => b == true | _ => false); rw [g186]; rfl
                        clear hk
                        have HK := Lib.hid hK; clear hK
                        dsimp only
                        have hX' := hXa.below hb
                        exact op_load g3 (ld_int _ _ 0 _ _ hX'.c0 hX'.c1) (HK.out _ _ (Below.refl _ _) ((IA.out.keep hB).keep hb))
                      · intro a wk hx hb hg K hK
                        have g4 : a.tmps.getD 4 undef = .pointer (some ⟨w.heap.size + 1, 0, none⟩) := hx 4 (by kernel_rfl)
                        obtain ⟨l186, h186, -, -, -, g186⟩ : ∃ lo hi, _ ∧ _ ∧ _ ∧ (.nv (.bool true) : Fk).says lo hi wk (a.tmps.getD 186 undef) := hg 34 186 (by kernel_rfl) rfl
                        replace g186 : a.tmps.getD 186 undef = .bool true := g186
                        clear hx hg
                        intro k hk; obtain rfl : true = k := by rw [← hk]; show true = (match a.tmps.getD 186 undef with | .bool b => b == true | _ => false); rw [g186]; rfl
                        clear hk
                        have HK := Lib.hid hK; clear hK
                        dsimp only
                        have hX' := hXb.below hb
                        exact op_load g4 (ld_int _ _ 0 _ _ hX'.c0 hX'.c1) (HK.out _ _ (Below.refl _ _) ((IB.out.keep hB).keep hb))
                      · intro a wk hx hb hg K hK
                        obtain ⟨l187, h187, -, -, -, g187⟩ : ∃ lo hi, _ ∧ _ ∧ _ ∧ (.nz y 1000 : Fk).says lo hi wk (a.tmps.getD 187 undef) := hg 35 187 (by kernel_rfl) rfl
                        obtain ⟨l188, h188, -, -, -, g188⟩ : ∃ lo hi, _ ∧ _ ∧ _ ∧ (.nz z 1000 : Fk).says lo hi wk (a.tmps.getD 188 undef) := hg 36 188 (by kernel_rfl) rfl
                        obtain ⟨l186, h186, -, -, -, g186⟩ : ∃ lo hi, _ ∧ _ ∧ _ ∧ (.nv (.bool true) : Fk).says lo hi wk (a.tmps.getD 186 undef) := hg 34 186 (by kernel_rfl) rfl
                        replace g186 : a.tmps.getD 186 undef = .bool true := g186
                        clear hx hg
                        intro k hk; obtain rfl : true = k := by rw [← hk]; show true = (match a.tmps.getD 186 undef with | .bool b => b == true | _ => false); rw [g186]; rfl
                        clear hk
                        have HK := Lib.hid hK; clear hK
                        dsimp only
                        exact op_call2 (by kernel_rfl) (cmp_law g187 g188 (by decide) (HCC.out)) (TellsV.step HK.out)
                      · intro a wk hx hb hg K hK
                        obtain ⟨l189, h189, -, -, -, g189⟩ : ∃ lo hi, _ ∧ _ ∧ _ ∧ (.nv (.int .i64 (1)) : Fk).says lo hi wk (a.tmps.getD 189 undef) := hg 37 189 (by kernel_rfl) rfl
                        replace g189 : a.tmps.getD 189 undef = .int .i64 (1) := g189
                        obtain ⟨l186, h186, -, -, -, g186⟩ : ∃ lo hi, _ ∧ _ ∧ _ ∧ (.nv (.bool true) : Fk).says lo hi wk (a.tmps.getD 186 undef) := hg 34 186 (by kernel_rfl) rfl
                        replace g186 : a.tmps.getD 186 undef = .bool true := g186
                        clear hx hg
                        intro k hk; obtain rfl : true = k := by rw [← hk]; show true = (match a.tmps.getD 186 undef with | .bool b => b == true | _ => false); rw [g186]; rfl
                        clear hk
                        have HK := Lib.hid hK; clear hK
                        dsimp only
                        exact op_bin g189 rfl (bin_neI.trans (congrArg (fun x => Result.ok (Value.bool x) wk) (by decide))) (HK.out _ _ (Below.refl _ _) rfl)
                      · intro a wk hx hb hg K hK
                        obtain ⟨l190, h190, -, -, -, g190⟩ : ∃ lo hi, _ ∧ _ ∧ _ ∧ (.nv (.bool true) : Fk).says lo hi wk (a.tmps.getD 190 undef) := hg 38 190 (by kernel_rfl) rfl
                        replace g190 : a.tmps.getD 190 undef = .bool true := g190
                        obtain ⟨l186, h186, -, -, -, g186⟩ : ∃ lo hi, _ ∧ _ ∧ _ ∧ (.nv (.bool true) : Fk).says lo hi wk (a.tmps.getD 186 undef) := hg 34 186 (by kernel_rfl) rfl
                        replace g186 : a.tmps.getD 186 undef = .bool true := g186
                        clear hx hg
                        intro k hk; obtain rfl : true = k := by rw [← hk]; show true = (match a.tmps.getD 186 undef with | .bool b => b == true | _ => false); rw [g186]; rfl
                        clear hk
                        have HK := Lib.hid hK; clear hK
                        dsimp only
                        exact op_move g190 (HK.out _ _ (Below.refl _ _) rfl)
                      · intro a wk hx hb hg K hK
                        obtain ⟨l191, h191, -, -, -, g191⟩ : ∃ lo hi, _ ∧ _ ∧ _ ∧ (.nv (.bool true) : Fk).says lo hi wk (a.tmps.getD 191 undef) := hg 39 191 (by kernel_rfl) rfl
                        replace g191 : a.tmps.getD 191 undef = .bool true := g191
                        clear hx hg
                        intro k hk; obtain rfl : false = k := by rw [← hk]; show false = (match a.tmps.getD 191 undef with | .bool b => b == false | _ => false); rw [g191]; rfl
                        clear hk
                        have HK := Lib.hid hK; clear hK
                        dsimp only
                        exact HK.out _ _ (Below.refl _ _) rfl
                      · intro a wk hx hb hg K hK
                        obtain ⟨l191, h191, -, -, -, g191⟩ : ∃ lo hi, _ ∧ _ ∧ _ ∧ (.nv (.bool true) : Fk).says lo hi wk (a.tmps.getD 191 undef) := hg 39 191 (by kernel_rfl) rfl
                        replace g191 : a.tmps.getD 191 undef = .bool true := g191
                        clear hx hg
                        intro k hk; obtain rfl : false = k := by rw [← hk]; show false = (match a.tmps.getD 191 undef with | .bool b => b == false | _ => false); rw [g191]; rfl
                        clear hk
                        have HK := Lib.hid hK; clear hK
                        dsimp only
                        exact HK.out _ _ (Below.refl _ _) rfl
                      · intro a wk hx hb hg K hK
                        obtain ⟨l191, h191, -, -, -, g191⟩ : ∃ lo hi, _ ∧ _ ∧ _ ∧ (.nv (.bool true) : Fk).says lo hi wk (a.tmps.getD 191 undef) := hg 39 191 (by kernel_rfl) rfl
                        replace g191 : a.tmps.getD 191 undef = .bool true := g191
                        clear hx hg
                        intro k hk; obtain rfl : false = k := by rw [← hk]; show false = (match a.tmps.getD 191 undef with | .bool b => b == false | _ => false); rw [g191]; rfl
                        clear hk
                        have HK := Lib.hid hK; clear hK
                        dsimp only
                        exact HK.out _ _ (Below.refl _ _) rfl
                      · intro a wk hx hb hg K hK
                        obtain ⟨l191, h191, -, -, -, g191⟩ : ∃ lo hi, _ ∧ _ ∧ _ ∧ (.nv (.bool true) : Fk).says lo hi wk (a.tmps.getD 191 undef) := hg 39 191 (by kernel_rfl) rfl
                        replace g191 : a.tmps.getD 191 undef = .bool true := g191
                        clear hx hg
                        intro k hk; obtain rfl : false = k := by rw [← hk]; show false = (match a.tmps.getD 191 undef with | .bool b => b == false | _ => false); rw [g191]; rfl
                        clear hk
                        have HK := Lib.hid hK; clear hK
                        dsimp only
                        exact HK.out _ _ (Below.refl _ _) rfl
                      · intro a wk hx hb hg K hK
                        obtain ⟨l191, h191, -, -, -, g191⟩ : ∃ lo hi, _ ∧ _ ∧ _ ∧ (.nv (.bool true) : Fk).says lo hi wk (a.tmps.getD 191 undef) := hg 39 191 (by kernel_rfl) rfl
                        replace g191 : a.tmps.getD 191 undef = .bool true := g191
                        clear hx hg
                        intro k hk; obtain rfl : false = k := by rw [← hk]; show false = (match a.tmps.getD 191 undef with | .bool b => b == false | _ => false); rw [g191]; rfl
                        clear hk
                        have HK := Lib.hid hK; clear hK
                        dsimp only
                        exact HK.out _ _ (Below.refl _ _) rfl
                      · intro a wk hx hb hg K hK
                        obtain ⟨l191, h191, -, -, -, g191⟩ : ∃ lo hi, _ ∧ _ ∧ _ ∧ (.nv (.bool true) : Fk).says lo hi wk (a.tmps.getD 191 undef) := hg 39 191 (by kernel_rfl) rfl
                        replace g191 : a.tmps.getD 191 undef = .bool true := g191
                        obtain ⟨l196, h196, -, -, -, g196⟩ : ∃ lo hi, _ ∧ _ ∧ _ ∧ (.nv (undef) : Fk).says lo hi wk (a.tmps.getD 196 undef) := hg 44 196 (by kernel_rfl) rfl
                        replace g196 : a.tmps.getD 196 undef = undef := g196
                        obtain ⟨l186, h186, -, -, -, g186⟩ : ∃ lo hi, _ ∧ _ ∧ _ ∧ (.nv (.bool true) : Fk).says lo hi wk (a.tmps.getD 186 undef) := hg 34 186 (by kernel_rfl) rfl
                        replace g186 : a.tmps.getD 186 undef = .bool true := g186
                        clear hx hg
                        intro k hk; obtain rfl : true = k := by rw [← hk]; show true = (match a.tmps.getD 186 undef with | .bool b => b == true | _ => false); rw [g186]; rfl
                        clear hk
                        have HK := Lib.hid hK; clear hK
                        dsimp only
                        exact op_pickT g191 rfl (HK.out _ _ (Below.refl _ _) rfl)
                      · intro a wk hx hb hg K hK
                        obtain ⟨l186, h186, -, -, -, g186⟩ : ∃ lo hi, _ ∧ _ ∧ _ ∧ (.nv (.bool true) : Fk).says lo hi wk (a.tmps.getD 186 undef) := hg 34 186 (by kernel_rfl) rfl
                        replace g186 : a.tmps.getD 186 undef = .bool true := g186
                        obtain ⟨l197, h197, -, -, -, g197⟩ : ∃ lo hi, _ ∧ _ ∧ _ ∧ (.nv (.bool true) : Fk).says lo hi wk (a.tmps.getD 197 undef) := hg 45 197 (by kernel_rfl) rfl
                        replace g197 : a.tmps.getD 197 undef = .bool true := g197
                        clear hx hg
                        intro k hk; obtain rfl : true = k := hk
                        have HK := Lib.hid hK; clear hK
                        dsimp only
                        exact op_pickT g186 g197 (HK.out _ _ (Below.refl _ _) rfl)
                      · intro a wk hx hb hg K hK
                        obtain ⟨l198, h198, -, -, -, g198⟩ : ∃ lo hi, _ ∧ _ ∧ _ ∧ (.nv (.bool true) : Fk).says lo hi wk (a.tmps.getD 198 undef) := hg 46 198 (by kernel_rfl) rfl
                        replace g198 : a.tmps.getD 198 undef = .bool true := g198
                        clear hx hg
                        intro k hk; obtain rfl : true = k := hk
                        have HK := Lib.hid hK; clear hK
                        dsimp only
                        exact op_assign g198 (HK.out _ _ (Below.refl _ _) rfl)
                    case fin173 =>
                      intro t17 lo17 hi17 V17 hb2 hF hD
                      have gb : t17 6 = .bool true := (hF 47 6 rfl).2.2.2
                      clear hF hD
                      refine wpList_nil ?_
                      simp only [gb]
                      go_wp2_with fail
                      go_ret
                      exact ⟨rfl, bw_below hB hb2⟩

end Go.Proofs.YtemcpgfoggdaiaaGreatDoor
