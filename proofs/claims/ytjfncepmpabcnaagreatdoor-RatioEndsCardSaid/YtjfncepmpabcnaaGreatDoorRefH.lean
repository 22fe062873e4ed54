/- The document's answer of layer 2: Parse. -/
import Derived.Test.YtjfncepmpabcnaaGreatDoorRefG
import Derived.Test.YtjfncepmpabcnaaGreatDoorNumK
import Derived.Lib.IndexBytes
namespace Go.Proofs.YtjfncepmpabcnaaGreatDoor
open Go.RowKit
set_option linter.unusedSimpArgs false
set_option linter.unusedVariables false
attribute [local go_sem ↓] Go.wp_at_zero Go.wp_at_succ

theorem at0 {s : ByteArray} (h : 0 < s.size) : ∃ r, s.data.toList = s[0] :: r := by
  have h1 : 0 < s.data.toList.length := by rw [Array.length_toList]; exact h
  cases hl : s.data.toList with
  | nil => rw [hl] at h1; simp at h1
  | cons c r =>
    refine ⟨r, ?_⟩
    have : s.data.toList[0]'h1 = s[0] := by simp [ByteArray.getElem_eq_getElem_data]
    rw [← this]; simp [hl]
theorem sgn_no {s : ByteArray} (h : 0 < s.size) (hc : ((s[0].toNat : Int) == 45) = false) : signZ s.data.toList = false := by
  obtain ⟨r, hr⟩ := at0 h
  rw [hr, signZ]
  have : ¬ s[0] = 45 := by
    intro h'; rw [h'] at hc; exact absurd hc (by decide)
  have this2 : ¬ (45 : UInt8) = s[0] := fun h' => this h'.symm
  show ((45 : UInt8) == s[0] && List.isPrefixOf [] r) = false
  simp [this2]
theorem sgn_yes {s : ByteArray} (h : 0 < s.size) (hc : (s[0].toNat : Int) = 45) : signZ s.data.toList = true := by
  obtain ⟨r, hr⟩ := at0 h
  rw [hr, signZ]
  have : s[0] = 45 := UInt8.toNat_inj.1 (by have h45 : (45 : UInt8).toNat = 45 := rfl; rw [h45]; omega)
  simp [Lib.hasPrefix, this]
theorem sgn_nil {s : ByteArray} (h : ¬ 0 < s.size) : signZ s.data.toList = false := by
  have h1 : s.data.toList = [] := List.eq_nil_of_length_eq_zero (by rw [Array.length_toList]; have : s.data.size = s.size := rfl; omega)
  rw [h1]; rfl
theorem rest_no {l : List UInt8} (h : signZ l = false) : restZ l = l := by
  unfold restZ Lib.trimPrefix; unfold signZ at h; rw [h]; rfl
theorem rest_yes {l : List UInt8} (h : signZ l = true) : restZ l = l.drop 1 := by
  unfold restZ Lib.trimPrefix; unfold signZ at h; rw [h]; rfl
theorem zV_ofR {R : List UInt8} (neg : Bool) (h : okT R = true) : zV neg (ofR R) = zOf neg (numD R) := by
  rw [ofR_ok h, zV, val_digs _ (by omega)]
theorem ofR_u32 (R : List UInt8) : ∀ x ∈ ofR R, x < 4294967296 := by
  unfold ofR; split
  · exact digs_u32 _
  · simp

set_option maxRecDepth 100000 in
set_option maxHeartbeats 1000000 in
theorem refParse_A_bad (s : ByteArray) (w : World) (R : List UInt8) (hs : s.data.toList = R) (hR : restZ s.data.toList = R) (hsg : signZ s.data.toList = false) (hRl : R.length ≤ 1000000) (hp : ¬ (0 : Int) < (s.size : Int)) (ho : okT R = false) :
    Calls Tryz.prog 74 #[.string s] w fun e w' => ∃ x, e = .returned (.tuple #[x, .bool (okZ s.data.toList)]) ∧ IO w' w.heap.size 103 x (parZ s.data.toList) ∧ Below w.heap.size w w' := by
  have HOKZ : Hid (okZ s.data.toList = false) := by unfold Hid okZ; rw [hR, hsg, ho]; rfl
  have HPZ : Hid (parZ s.data.toList = 0) := parZ_no HOKZ.out
  have HS := Lib.hid hs
  have HOK := Lib.hid ho
  have HL := Lib.hid hRl
  clear hs ho hRl hR hsg
  go_enter Tryz.func74, Tryz.ntmps74
  go_wp2_with fail
  have hB := Below.refl w.heap.size w
  have hbs := hB.size
  have hgr : w.heap.size ≤ w.heap.size := hbs
  clear hbs
  refine calls_gen fun W1 hW => ?_
  have hm1 : w.heap.size ≤ W1.heap.size := by rw [hW]; (first | (simp only [size_alloc, size_drew, size_drewN, size_set]; (repeat (first | exact Nat.le_refl _ | refine Nat.le_succ_of_le ?_)); done) | omega | (simp only [size_alloc, size_drew, size_drewN, size_set]; omega) | (simp only [size_alloc, size_drew, size_drewN, size_set]; done))
  have hB' : Below w.heap.size w W1 := by rw [hW]; (repeat (first | (with_reducible assumption) | exact Below.refl _ _ | (with_reducible refine Below.drew ?_) | (with_reducible refine belowN ?_ _) | (with_reducible refine bw_alloc ?_ _) | ((with_reducible refine bw_set ?_ ?_ _ _); (focus (with_reducible assumption)))))
  have hXr' : Box W1 (w.heap.size) [Value.bool false, Value.slice none 0 0] := by rw [hW]; (repeat (first | (with_reducible assumption) | (with_reducible refine Box.drew ?_) | (with_reducible refine Box.drewN ?_ _) | ((with_reducible refine Box.new _ _ ?_ ?_); (focus (first | (with_reducible exact rfl) | (simp only [size_alloc, size_drew, size_drewN, size_set]; done))); (focus (exact rfl))) | (with_reducible refine Box.alloc ?_ _) | ((with_reducible refine Box.put ?_ ?_ _ _ ?_); rotate_left) | ((with_reducible refine Box.set ?_ ?_ _ _); (focus (first | (with_reducible assumption) | (refine Ne.symm ?_; (with_reducible assumption))))) | (exact rfl)))
  clear hW
  clear hB
  have hB := hB'; have hXr := hXr'
  clear hB' hXr'
  have hcr_0 := hXr.c0; have hfr_0 := hXr.free 0; have hcr_1 := hXr.c1; have hfr_1 := hXr.free 1
  have hW1x : w.heap.size + 1 ≤ W1.heap.size := hXr.lt
  refine (refOf_any s _ (by rw [Lib.size_eq, HS.out]; exact HL.out)).mono ?_
  rintro e W2 ⟨u, rfl, hu, hb⟩
  rw [HS.out, HOK.out]
  rw [HS.out] at hu
  obtain ⟨uo, uc, rfl⟩ := rd_sl hu
  have HU := Lib.hid hu
  clear hu
  have hL : Below W1.heap.size W1 W2 := hb
  have hm2 := hL.size
  have hB' := bw_below hB hL
  have hXr' := hXr.below hL
  clear hL hb
  clear hfr_1 hcr_1 hfr_0 hcr_0 hXr hB
  have hB := hB'; have hXr := hXr'
  clear hB' hXr'
  have hcr_0 := hXr.c0; have hfr_0 := hXr.free 0; have hcr_1 := hXr.c1; have hfr_1 := hXr.free 1
  go_wp2_with fail
  have hW2x : w.heap.size + 1 ≤ W2.heap.size := hXr.lt
  refine (refOfZ_any 0 _ (by decide) (by decide)).mono ?_
  rintro e W3 ⟨q, rfl, hq, hb⟩
  obtain ⟨qo, qc, rfl⟩ := hq.one
  have HQ := Lib.hid (hq.x w.heap.size (hi := w.heap.size + 1) hW2x)
  clear hq
  have hL : Below W2.heap.size W2 W3 := hb
  have hm3 := hL.size
  have hB' := bw_below hB hL
  have hXr' := hXr.below hL
  clear hL hb
  clear hfr_1 hcr_1 hfr_0 hcr_0 hXr hB
  have hB := hB'; have hXr := hXr'
  clear hB' hXr'
  have hcr_0 := hXr.c0; have hfr_0 := hXr.free 0; have hcr_1 := hXr.c1; have hfr_1 := hXr.free 1
  go_wp2_with fail
  have hinr : w.heap.size < w.heap.size + 1 := by omega
  have hq0 := HQ.out
  refine ret_gen fun W4 hW => ?_
  have hm4 : W3.heap.size ≤ W4.heap.size := by rw [hW]; (first | (simp only [size_alloc, size_drew, size_drewN, size_set]; (repeat (first | exact Nat.le_refl _ | refine Nat.le_succ_of_le ?_)); done) | omega | (simp only [size_alloc, size_drew, size_drewN, size_set]; omega) | (simp only [size_alloc, size_drew, size_drewN, size_set]; done))
  have hB' : Below w.heap.size w W4 := by rw [hW]; (repeat (first | (with_reducible assumption) | exact Below.refl _ _ | (with_reducible refine Below.drew ?_) | (with_reducible refine belowN ?_ _) | (with_reducible refine bw_alloc ?_ _) | ((with_reducible refine bw_set ?_ ?_ _ _); (focus (with_reducible assumption)))))
  have hXr' : Box W4 (w.heap.size) [Value.bool (zNeg (0 : Int)), Value.slice qo (digs 1000000000 ((0 : Int)).natAbs).length qc] := by rw [hW]; (repeat (first | (with_reducible assumption) | (with_reducible refine Box.drew ?_) | (with_reducible refine Box.drewN ?_ _) | ((with_reducible refine Box.new _ _ ?_ ?_); (focus (first | (with_reducible exact rfl) | (simp only [size_alloc, size_drew, size_drewN, size_set]; done))); (focus (exact rfl))) | (with_reducible refine Box.alloc ?_ _) | ((with_reducible refine Box.put ?_ ?_ _ _ ?_); rotate_left) | ((with_reducible refine Box.set ?_ ?_ _ _); (focus (first | (with_reducible assumption) | (refine Ne.symm ?_; (with_reducible assumption))))) | (exact rfl)))
  have hq' : IOX W4 W2.heap.size w.heap.size (w.heap.size + 1) 103 (.agg #[Value.bool (zNeg (0 : Int)), Value.slice qo (digs 1000000000 ((0 : Int)).natAbs).length qc]) (0 : Int) := by rw [hW]; (repeat (first | (with_reducible assumption) | (with_reducible refine IOX.drew ?_) | (with_reducible refine IOX.alloc ?_ _) | ((with_reducible refine IOX.set ?_ ?_ ?_ _ _); (focus (with_reducible assumption)); (focus (with_reducible assumption)))))
  clear hW
  clear hfr_1 hcr_1 hfr_0 hcr_0 hXr hB
  have hB := hB'; have hXr := hXr'
  clear hB' hXr'
  have hcr_0 := hXr.c0; have hfr_0 := hXr.free 0; have hcr_1 := hXr.c1; have hfr_1 := hXr.free 1
  refine bodyPost_ret (v := .tuple #[.agg #[Value.bool (zNeg (0 : Int)), Value.slice qo (digs 1000000000 ((0 : Int)).natAbs).length qc], .bool false]) (by simp [results, Tryz.results74, go_sem, hcr_0, hcr_1]) rfl ?_
  refine ⟨_, by rw [HOKZ.out], ?_, hB⟩
  rw [HPZ.out]; exact hq'.io.low (by omega)

set_option maxRecDepth 100000 in
set_option maxHeartbeats 1000000 in
theorem refParse_A_ok (s : ByteArray) (w : World) (R : List UInt8) (hs : s.data.toList = R) (hR : restZ s.data.toList = R) (hsg : signZ s.data.toList = false) (hRl : R.length ≤ 1000000) (hp : ¬ (0 : Int) < (s.size : Int)) (ho : okT R = true) :
    Calls Tryz.prog 74 #[.string s] w fun e w' => ∃ x, e = .returned (.tuple #[x, .bool (okZ s.data.toList)]) ∧ IO w' w.heap.size 103 x (parZ s.data.toList) ∧ Below w.heap.size w w' := by
  have HOKZ : Hid (okZ s.data.toList = true) := by unfold Hid okZ; rw [hR, hsg, ho]; rfl
  obtain ⟨Z, hZ⟩ : ∃ Z, Z = zOf false (numD R) := ⟨_, rfl⟩
  have HPZ : Hid (parZ s.data.toList = Z) := by unfold Hid; rw [parZ_ok HOKZ.out, hsg, hR, hZ]
  have HZ : Hid (zV false (ofR R) = Z) := by unfold Hid; rw [zV_ofR _ ho, hZ]
  have HLN : Hid ((ofR R).length ≤ 1000000) := ofR_lenk ho (by simp [ByteArray.size]; exact hRl)
  clear hZ
  have HS := Lib.hid hs
  have HOK := Lib.hid ho
  have HL := Lib.hid hRl
  clear hs ho hRl hR hsg
  go_enter Tryz.func74, Tryz.ntmps74
  go_wp2_with fail
  have hB := Below.refl w.heap.size w
  have hbs := hB.size
  have hgr : w.heap.size ≤ w.heap.size := hbs
  clear hbs
  refine calls_gen fun W1 hW => ?_
  have hm1 : w.heap.size ≤ W1.heap.size := by rw [hW]; (first | (simp only [size_alloc, size_drew, size_drewN, size_set]; (repeat (first | exact Nat.le_refl _ | refine Nat.le_succ_of_le ?_)); done) | omega | (simp only [size_alloc, size_drew, size_drewN, size_set]; omega) | (simp only [size_alloc, size_drew, size_drewN, size_set]; done))
  have hB' : Below w.heap.size w W1 := by rw [hW]; (repeat (first | (with_reducible assumption) | exact Below.refl _ _ | (with_reducible refine Below.drew ?_) | (with_reducible refine belowN ?_ _) | (with_reducible refine bw_alloc ?_ _) | ((with_reducible refine bw_set ?_ ?_ _ _); (focus (with_reducible assumption)))))
  have hXr' : Box W1 (w.heap.size) [Value.bool false, Value.slice none 0 0] := by rw [hW]; (repeat (first | (with_reducible assumption) | (with_reducible refine Box.drew ?_) | (with_reducible refine Box.drewN ?_ _) | ((with_reducible refine Box.new _ _ ?_ ?_); (focus (first | (with_reducible exact rfl) | (simp only [size_alloc, size_drew, size_drewN, size_set]; done))); (focus (exact rfl))) | (with_reducible refine Box.alloc ?_ _) | ((with_reducible refine Box.put ?_ ?_ _ _ ?_); rotate_left) | ((with_reducible refine Box.set ?_ ?_ _ _); (focus (first | (with_reducible assumption) | (refine Ne.symm ?_; (with_reducible assumption))))) | (exact rfl)))
  clear hW
  clear hB
  have hB := hB'; have hXr := hXr'
  clear hB' hXr'
  have hcr_0 := hXr.c0; have hfr_0 := hXr.free 0; have hcr_1 := hXr.c1; have hfr_1 := hXr.free 1
  have hW1x : w.heap.size + 1 ≤ W1.heap.size := hXr.lt
  refine (refOf_any s _ (by rw [Lib.size_eq, HS.out]; exact HL.out)).mono ?_
  rintro e W2 ⟨u, rfl, hu, hb⟩
  rw [HS.out, HOK.out]
  rw [HS.out] at hu
  obtain ⟨uo, uc, rfl⟩ := rd_sl hu
  have HU := Lib.hid hu
  clear hu
  have hL : Below W1.heap.size W1 W2 := hb
  have hm2 := hL.size
  have hB' := bw_below hB hL
  have hXr' := hXr.below hL
  clear hL hb
  clear hfr_1 hcr_1 hfr_0 hcr_0 hXr hB
  have hB := hB'; have hXr := hXr'
  clear hB' hXr'
  have hcr_0 := hXr.c0; have hfr_0 := hXr.free 0; have hcr_1 := hXr.c1; have hfr_1 := hXr.free 1
  go_wp2_with fail
  have hW2x : w.heap.size + 1 ≤ W2.heap.size := hXr.lt
  refine (refofR_any false _ (ofR R) _ (HU.out) HLN.out (ofR_u32 R)).mono ?_
  rintro e W3 ⟨q, rfl, hq, hb⟩
  rw [HZ.out] at hq
  obtain ⟨qo, qc, rfl⟩ := hq.one
  have HQ := Lib.hid (hq.x w.heap.size (hi := w.heap.size + 1) hW2x)
  clear hq
  have hL : Below W2.heap.size W2 W3 := hb
  have hm3 := hL.size
  have hB' := bw_below hB hL
  have hXr' := hXr.below hL
  clear hL hb
  clear hfr_1 hcr_1 hfr_0 hcr_0 hXr hB
  have hB := hB'; have hXr := hXr'
  clear hB' hXr'
  have hcr_0 := hXr.c0; have hfr_0 := hXr.free 0; have hcr_1 := hXr.c1; have hfr_1 := hXr.free 1
  go_wp2_with fail
  have hinr : w.heap.size < w.heap.size + 1 := by omega
  have hq0 := HQ.out
  refine ret_gen fun W4 hW => ?_
  have hm4 : W3.heap.size ≤ W4.heap.size := by rw [hW]; (first | (simp only [size_alloc, size_drew, size_drewN, size_set]; (repeat (first | exact Nat.le_refl _ | refine Nat.le_succ_of_le ?_)); done) | omega | (simp only [size_alloc, size_drew, size_drewN, size_set]; omega) | (simp only [size_alloc, size_drew, size_drewN, size_set]; done))
  have hB' : Below w.heap.size w W4 := by rw [hW]; (repeat (first | (with_reducible assumption) | exact Below.refl _ _ | (with_reducible refine Below.drew ?_) | (with_reducible refine belowN ?_ _) | (with_reducible refine bw_alloc ?_ _) | ((with_reducible refine bw_set ?_ ?_ _ _); (focus (with_reducible assumption)))))
  have hXr' : Box W4 (w.heap.size) [Value.bool (zNeg Z), Value.slice qo (digs 1000000000 (Z).natAbs).length qc] := by rw [hW]; (repeat (first | (with_reducible assumption) | (with_reducible refine Box.drew ?_) | (with_reducible refine Box.drewN ?_ _) | ((with_reducible refine Box.new _ _ ?_ ?_); (focus (first | (with_reducible exact rfl) | (simp only [size_alloc, size_drew, size_drewN, size_set]; done))); (focus (exact rfl))) | (with_reducible refine Box.alloc ?_ _) | ((with_reducible refine Box.put ?_ ?_ _ _ ?_); rotate_left) | ((with_reducible refine Box.set ?_ ?_ _ _); (focus (first | (with_reducible assumption) | (refine Ne.symm ?_; (with_reducible assumption))))) | (exact rfl)))
  have hq' : IOX W4 W2.heap.size w.heap.size (w.heap.size + 1) 103 (.agg #[Value.bool (zNeg Z), Value.slice qo (digs 1000000000 (Z).natAbs).length qc]) Z := by rw [hW]; (repeat (first | (with_reducible assumption) | (with_reducible refine IOX.drew ?_) | (with_reducible refine IOX.alloc ?_ _) | ((with_reducible refine IOX.set ?_ ?_ ?_ _ _); (focus (with_reducible assumption)); (focus (with_reducible assumption)))))
  clear hW
  clear hfr_1 hcr_1 hfr_0 hcr_0 hXr hB
  have hB := hB'; have hXr := hXr'
  clear hB' hXr'
  have hcr_0 := hXr.c0; have hfr_0 := hXr.free 0; have hcr_1 := hXr.c1; have hfr_1 := hXr.free 1
  refine bodyPost_ret (v := .tuple #[.agg #[Value.bool (zNeg Z), Value.slice qo (digs 1000000000 (Z).natAbs).length qc], .bool true]) (by simp [results, Tryz.results74, go_sem, hcr_0, hcr_1]) rfl ?_
  refine ⟨_, by rw [HOKZ.out], ?_, hB⟩
  rw [HPZ.out]; exact hq'.io.low (by omega)

set_option maxRecDepth 100000 in
set_option maxHeartbeats 1000000 in
theorem refParse_B_bad (s : ByteArray) (w : World) (R : List UInt8) (hs : s.data.toList = R) (hR : restZ s.data.toList = R) (hsg : signZ s.data.toList = false) (hRl : R.length ≤ 1000000) (hlp : 0 < s.size) (hp : (0 : Int) < (s.size : Int)) (hc : ((s[0].toNat : Int) == 45) = false) (ho : okT R = false) :
    Calls Tryz.prog 74 #[.string s] w fun e w' => ∃ x, e = .returned (.tuple #[x, .bool (okZ s.data.toList)]) ∧ IO w' w.heap.size 103 x (parZ s.data.toList) ∧ Below w.heap.size w w' := by
  have HOKZ : Hid (okZ s.data.toList = false) := by unfold Hid okZ; rw [hR, hsg, ho]; rfl
  have HPZ : Hid (parZ s.data.toList = 0) := parZ_no HOKZ.out
  have HS := Lib.hid hs
  have HOK := Lib.hid ho
  have HL := Lib.hid hRl
  clear hs ho hRl hR hsg
  go_enter Tryz.func74, Tryz.ntmps74
  go_wp2_with fail
  have hB := Below.refl w.heap.size w
  have hbs := hB.size
  have hgr : w.heap.size ≤ w.heap.size := hbs
  clear hbs
  refine calls_gen fun W1 hW => ?_
  have hm1 : w.heap.size ≤ W1.heap.size := by rw [hW]; (first | (simp only [size_alloc, size_drew, size_drewN, size_set]; (repeat (first | exact Nat.le_refl _ | refine Nat.le_succ_of_le ?_)); done) | omega | (simp only [size_alloc, size_drew, size_drewN, size_set]; omega) | (simp only [size_alloc, size_drew, size_drewN, size_set]; done))
  have hB' : Below w.heap.size w W1 := by rw [hW]; (repeat (first | (with_reducible assumption) | exact Below.refl _ _ | (with_reducible refine Below.drew ?_) | (with_reducible refine belowN ?_ _) | (with_reducible refine bw_alloc ?_ _) | ((with_reducible refine bw_set ?_ ?_ _ _); (focus (with_reducible assumption)))))
  have hXr' : Box W1 (w.heap.size) [Value.bool false, Value.slice none 0 0] := by rw [hW]; (repeat (first | (with_reducible assumption) | (with_reducible refine Box.drew ?_) | (with_reducible refine Box.drewN ?_ _) | ((with_reducible refine Box.new _ _ ?_ ?_); (focus (first | (with_reducible exact rfl) | (simp only [size_alloc, size_drew, size_drewN, size_set]; done))); (focus (exact rfl))) | (with_reducible refine Box.alloc ?_ _) | ((with_reducible refine Box.put ?_ ?_ _ _ ?_); rotate_left) | ((with_reducible refine Box.set ?_ ?_ _ _); (focus (first | (with_reducible assumption) | (refine Ne.symm ?_; (with_reducible assumption))))) | (exact rfl)))
  clear hW
  clear hB
  have hB := hB'; have hXr := hXr'
  clear hB' hXr'
  have hcr_0 := hXr.c0; have hfr_0 := hXr.free 0; have hcr_1 := hXr.c1; have hfr_1 := hXr.free 1
  have hW1x : w.heap.size + 1 ≤ W1.heap.size := hXr.lt
  refine (refOf_any s _ (by rw [Lib.size_eq, HS.out]; exact HL.out)).mono ?_
  rintro e W2 ⟨u, rfl, hu, hb⟩
  rw [HS.out, HOK.out]
  rw [HS.out] at hu
  obtain ⟨uo, uc, rfl⟩ := rd_sl hu
  have HU := Lib.hid hu
  clear hu
  have hL : Below W1.heap.size W1 W2 := hb
  have hm2 := hL.size
  have hB' := bw_below hB hL
  have hXr' := hXr.below hL
  clear hL hb
  clear hfr_1 hcr_1 hfr_0 hcr_0 hXr hB
  have hB := hB'; have hXr := hXr'
  clear hB' hXr'
  have hcr_0 := hXr.c0; have hfr_0 := hXr.free 0; have hcr_1 := hXr.c1; have hfr_1 := hXr.free 1
  go_wp2_with fail
  have hW2x : w.heap.size + 1 ≤ W2.heap.size := hXr.lt
  refine (refOfZ_any 0 _ (by decide) (by decide)).mono ?_
  rintro e W3 ⟨q, rfl, hq, hb⟩
  obtain ⟨qo, qc, rfl⟩ := hq.one
  have HQ := Lib.hid (hq.x w.heap.size (hi := w.heap.size + 1) hW2x)
  clear hq
  have hL : Below W2.heap.size W2 W3 := hb
  have hm3 := hL.size
  have hB' := bw_below hB hL
  have hXr' := hXr.below hL
  clear hL hb
  clear hfr_1 hcr_1 hfr_0 hcr_0 hXr hB
  have hB := hB'; have hXr := hXr'
  clear hB' hXr'
  have hcr_0 := hXr.c0; have hfr_0 := hXr.free 0; have hcr_1 := hXr.c1; have hfr_1 := hXr.free 1
  go_wp2_with fail
  have hinr : w.heap.size < w.heap.size + 1 := by omega
  have hq0 := HQ.out
  refine ret_gen fun W4 hW => ?_
  have hm4 : W3.heap.size ≤ W4.heap.size := by rw [hW]; (first | (simp only [size_alloc, size_drew, size_drewN, size_set]; (repeat (first | exact Nat.le_refl _ | refine Nat.le_succ_of_le ?_)); done) | omega | (simp only [size_alloc, size_drew, size_drewN, size_set]; omega) | (simp only [size_alloc, size_drew, size_drewN, size_set]; done))
  have hB' : Below w.heap.size w W4 := by rw [hW]; (repeat (first | (with_reducible assumption) | exact Below.refl _ _ | (with_reducible refine Below.drew ?_) | (with_reducible refine belowN ?_ _) | (with_reducible refine bw_alloc ?_ _) | ((with_reducible refine bw_set ?_ ?_ _ _); (focus (with_reducible assumption)))))
  have hXr' : Box W4 (w.heap.size) [Value.bool (zNeg (0 : Int)), Value.slice qo (digs 1000000000 ((0 : Int)).natAbs).length qc] := by rw [hW]; (repeat (first | (with_reducible assumption) | (with_reducible refine Box.drew ?_) | (with_reducible refine Box.drewN ?_ _) | ((with_reducible refine Box.new _ _ ?_ ?_); (focus (first | (with_reducible exact rfl) | (simp only [size_alloc, size_drew, size_drewN, size_set]; done))); (focus (exact rfl))) | (with_reducible refine Box.alloc ?_ _) | ((with_reducible refine Box.put ?_ ?_ _ _ ?_); rotate_left) | ((with_reducible refine Box.set ?_ ?_ _ _); (focus (first | (with_reducible assumption) | (refine Ne.symm ?_; (with_reducible assumption))))) | (exact rfl)))
  have hq' : IOX W4 W2.heap.size w.heap.size (w.heap.size + 1) 103 (.agg #[Value.bool (zNeg (0 : Int)), Value.slice qo (digs 1000000000 ((0 : Int)).natAbs).length qc]) (0 : Int) := by rw [hW]; (repeat (first | (with_reducible assumption) | (with_reducible refine IOX.drew ?_) | (with_reducible refine IOX.alloc ?_ _) | ((with_reducible refine IOX.set ?_ ?_ ?_ _ _); (focus (with_reducible assumption)); (focus (with_reducible assumption)))))
  clear hW
  clear hfr_1 hcr_1 hfr_0 hcr_0 hXr hB
  have hB := hB'; have hXr := hXr'
  clear hB' hXr'
  have hcr_0 := hXr.c0; have hfr_0 := hXr.free 0; have hcr_1 := hXr.c1; have hfr_1 := hXr.free 1
  refine bodyPost_ret (v := .tuple #[.agg #[Value.bool (zNeg (0 : Int)), Value.slice qo (digs 1000000000 ((0 : Int)).natAbs).length qc], .bool false]) (by simp [results, Tryz.results74, go_sem, hcr_0, hcr_1]) rfl ?_
  refine ⟨_, by rw [HOKZ.out], ?_, hB⟩
  rw [HPZ.out]; exact hq'.io.low (by omega)

set_option maxRecDepth 100000 in
set_option maxHeartbeats 1000000 in
theorem refParse_B_ok (s : ByteArray) (w : World) (R : List UInt8) (hs : s.data.toList = R) (hR : restZ s.data.toList = R) (hsg : signZ s.data.toList = false) (hRl : R.length ≤ 1000000) (hlp : 0 < s.size) (hp : (0 : Int) < (s.size : Int)) (hc : ((s[0].toNat : Int) == 45) = false) (ho : okT R = true) :
    Calls Tryz.prog 74 #[.string s] w fun e w' => ∃ x, e = .returned (.tuple #[x, .bool (okZ s.data.toList)]) ∧ IO w' w.heap.size 103 x (parZ s.data.toList) ∧ Below w.heap.size w w' := by
  have HOKZ : Hid (okZ s.data.toList = true) := by unfold Hid okZ; rw [hR, hsg, ho]; rfl
  obtain ⟨Z, hZ⟩ : ∃ Z, Z = zOf false (numD R) := ⟨_, rfl⟩
  have HPZ : Hid (parZ s.data.toList = Z) := by unfold Hid; rw [parZ_ok HOKZ.out, hsg, hR, hZ]
  have HZ : Hid (zV false (ofR R) = Z) := by unfold Hid; rw [zV_ofR _ ho, hZ]
  have HLN : Hid ((ofR R).length ≤ 1000000) := ofR_lenk ho (by simp [ByteArray.size]; exact hRl)
  clear hZ
  have HS := Lib.hid hs
  have HOK := Lib.hid ho
  have HL := Lib.hid hRl
  clear hs ho hRl hR hsg
  go_enter Tryz.func74, Tryz.ntmps74
  go_wp2_with fail
  have hB := Below.refl w.heap.size w
  have hbs := hB.size
  have hgr : w.heap.size ≤ w.heap.size := hbs
  clear hbs
  refine calls_gen fun W1 hW => ?_
  have hm1 : w.heap.size ≤ W1.heap.size := by rw [hW]; (first | (simp only [size_alloc, size_drew, size_drewN, size_set]; (repeat (first | exact Nat.le_refl _ | refine Nat.le_succ_of_le ?_)); done) | omega | (simp only [size_alloc, size_drew, size_drewN, size_set]; omega) | (simp only [size_alloc, size_drew, size_drewN, size_set]; done))
  have hB' : Below w.heap.size w W1 := by rw [hW]; (repeat (first | (with_reducible assumption) | exact Below.refl _ _ | (with_reducible refine Below.drew ?_) | (with_reducible refine belowN ?_ _) | (with_reducible refine bw_alloc ?_ _) | ((with_reducible refine bw_set ?_ ?_ _ _); (focus (with_reducible assumption)))))
  have hXr' : Box W1 (w.heap.size) [Value.bool false, Value.slice none 0 0] := by rw [hW]; (repeat (first | (with_reducible assumption) | (with_reducible refine Box.drew ?_) | (with_reducible refine Box.drewN ?_ _) | ((with_reducible refine Box.new _ _ ?_ ?_); (focus (first | (with_reducible exact rfl) | (simp only [size_alloc, size_drew, size_drewN, size_set]; done))); (focus (exact rfl))) | (with_reducible refine Box.alloc ?_ _) | ((with_reducible refine Box.put ?_ ?_ _ _ ?_); rotate_left) | ((with_reducible refine Box.set ?_ ?_ _ _); (focus (first | (with_reducible assumption) | (refine Ne.symm ?_; (with_reducible assumption))))) | (exact rfl)))
  clear hW
  clear hB
  have hB := hB'; have hXr := hXr'
  clear hB' hXr'
  have hcr_0 := hXr.c0; have hfr_0 := hXr.free 0; have hcr_1 := hXr.c1; have hfr_1 := hXr.free 1
  have hW1x : w.heap.size + 1 ≤ W1.heap.size := hXr.lt
  refine (refOf_any s _ (by rw [Lib.size_eq, HS.out]; exact HL.out)).mono ?_
  rintro e W2 ⟨u, rfl, hu, hb⟩
  rw [HS.out, HOK.out]
  rw [HS.out] at hu
  obtain ⟨uo, uc, rfl⟩ := rd_sl hu
  have HU := Lib.hid hu
  clear hu
  have hL : Below W1.heap.size W1 W2 := hb
  have hm2 := hL.size
  have hB' := bw_below hB hL
  have hXr' := hXr.below hL
  clear hL hb
  clear hfr_1 hcr_1 hfr_0 hcr_0 hXr hB
  have hB := hB'; have hXr := hXr'
  clear hB' hXr'
  have hcr_0 := hXr.c0; have hfr_0 := hXr.free 0; have hcr_1 := hXr.c1; have hfr_1 := hXr.free 1
  go_wp2_with fail
  have hW2x : w.heap.size + 1 ≤ W2.heap.size := hXr.lt
  refine (refofR_any false _ (ofR R) _ (HU.out) HLN.out (ofR_u32 R)).mono ?_
  rintro e W3 ⟨q, rfl, hq, hb⟩
  rw [HZ.out] at hq
  obtain ⟨qo, qc, rfl⟩ := hq.one
  have HQ := Lib.hid (hq.x w.heap.size (hi := w.heap.size + 1) hW2x)
  clear hq
  have hL : Below W2.heap.size W2 W3 := hb
  have hm3 := hL.size
  have hB' := bw_below hB hL
  have hXr' := hXr.below hL
  clear hL hb
  clear hfr_1 hcr_1 hfr_0 hcr_0 hXr hB
  have hB := hB'; have hXr := hXr'
  clear hB' hXr'
  have hcr_0 := hXr.c0; have hfr_0 := hXr.free 0; have hcr_1 := hXr.c1; have hfr_1 := hXr.free 1
  go_wp2_with fail
  have hinr : w.heap.size < w.heap.size + 1 := by omega
  have hq0 := HQ.out
  refine ret_gen fun W4 hW => ?_
  have hm4 : W3.heap.size ≤ W4.heap.size := by rw [hW]; (first | (simp only [size_alloc, size_drew, size_drewN, size_set]; (repeat (first | exact Nat.le_refl _ | refine Nat.le_succ_of_le ?_)); done) | omega | (simp only [size_alloc, size_drew, size_drewN, size_set]; omega) | (simp only [size_alloc, size_drew, size_drewN, size_set]; done))
  have hB' : Below w.heap.size w W4 := by rw [hW]; (repeat (first | (with_reducible assumption) | exact Below.refl _ _ | (with_reducible refine Below.drew ?_) | (with_reducible refine belowN ?_ _) | (with_reducible refine bw_alloc ?_ _) | ((with_reducible refine bw_set ?_ ?_ _ _); (focus (with_reducible assumption)))))
  have hXr' : Box W4 (w.heap.size) [Value.bool (zNeg Z), Value.slice qo (digs 1000000000 (Z).natAbs).length qc] := by rw [hW]; (repeat (first | (with_reducible assumption) | (with_reducible refine Box.drew ?_) | (with_reducible refine Box.drewN ?_ _) | ((with_reducible refine Box.new _ _ ?_ ?_); (focus (first | (with_reducible exact rfl) | (simp only [size_alloc, size_drew, size_drewN, size_set]; done))); (focus (exact rfl))) | (with_reducible refine Box.alloc ?_ _) | ((with_reducible refine Box.put ?_ ?_ _ _ ?_); rotate_left) | ((with_reducible refine Box.set ?_ ?_ _ _); (focus (first | (with_reducible assumption) | (refine Ne.symm ?_; (with_reducible assumption))))) | (exact rfl)))
  have hq' : IOX W4 W2.heap.size w.heap.size (w.heap.size + 1) 103 (.agg #[Value.bool (zNeg Z), Value.slice qo (digs 1000000000 (Z).natAbs).length qc]) Z := by rw [hW]; (repeat (first | (with_reducible assumption) | (with_reducible refine IOX.drew ?_) | (with_reducible refine IOX.alloc ?_ _) | ((with_reducible refine IOX.set ?_ ?_ ?_ _ _); (focus (with_reducible assumption)); (focus (with_reducible assumption)))))
  clear hW
  clear hfr_1 hcr_1 hfr_0 hcr_0 hXr hB
  have hB := hB'; have hXr := hXr'
  clear hB' hXr'
  have hcr_0 := hXr.c0; have hfr_0 := hXr.free 0; have hcr_1 := hXr.c1; have hfr_1 := hXr.free 1
  refine bodyPost_ret (v := .tuple #[.agg #[Value.bool (zNeg Z), Value.slice qo (digs 1000000000 (Z).natAbs).length qc], .bool true]) (by simp [results, Tryz.results74, go_sem, hcr_0, hcr_1]) rfl ?_
  refine ⟨_, by rw [HOKZ.out], ?_, hB⟩
  rw [HPZ.out]; exact hq'.io.low (by omega)

set_option maxRecDepth 100000 in
set_option maxHeartbeats 1000000 in
theorem refParse_C_bad (s : ByteArray) (w : World) (R : List UInt8) (hs : (s.extract 1 s.size).data.toList = R) (hR : restZ s.data.toList = R) (hsg : signZ s.data.toList = true) (hRl : R.length ≤ 1000000) (hlp : 0 < s.size) (hp : (0 : Int) < (s.size : Int)) (hc : (s[0].toNat : Int) = 45) (ho : okT R = false) :
    Calls Tryz.prog 74 #[.string s] w fun e w' => ∃ x, e = .returned (.tuple #[x, .bool (okZ s.data.toList)]) ∧ IO w' w.heap.size 103 x (parZ s.data.toList) ∧ Below w.heap.size w w' := by
  have HOKZ : Hid (okZ s.data.toList = false) := by unfold Hid okZ; rw [hR, hsg, ho]; rfl
  have HPZ : Hid (parZ s.data.toList = 0) := parZ_no HOKZ.out
  have HS := Lib.hid hs
  have HOK := Lib.hid ho
  have HL := Lib.hid hRl
  clear hs ho hRl hR hsg
  go_enter Tryz.func74, Tryz.ntmps74
  go_wp2_with fail
  have hB := Below.refl w.heap.size w
  have hbs := hB.size
  have hgr : w.heap.size ≤ w.heap.size := hbs
  clear hbs
  refine calls_gen fun W1 hW => ?_
  have hm1 : w.heap.size ≤ W1.heap.size := by rw [hW]; (first | (simp only [size_alloc, size_drew, size_drewN, size_set]; (repeat (first | exact Nat.le_refl _ | refine Nat.le_succ_of_le ?_)); done) | omega | (simp only [size_alloc, size_drew, size_drewN, size_set]; omega) | (simp only [size_alloc, size_drew, size_drewN, size_set]; done))
  have hB' : Below w.heap.size w W1 := by rw [hW]; (repeat (first | (with_reducible assumption) | exact Below.refl _ _ | (with_reducible refine Below.drew ?_) | (with_reducible refine belowN ?_ _) | (with_reducible refine bw_alloc ?_ _) | ((with_reducible refine bw_set ?_ ?_ _ _); (focus (with_reducible assumption)))))
  have hXr' : Box W1 (w.heap.size) [Value.bool false, Value.slice none 0 0] := by rw [hW]; (repeat (first | (with_reducible assumption) | (with_reducible refine Box.drew ?_) | (with_reducible refine Box.drewN ?_ _) | ((with_reducible refine Box.new _ _ ?_ ?_); (focus (first | (with_reducible exact rfl) | (simp only [size_alloc, size_drew, size_drewN, size_set]; done))); (focus (exact rfl))) | (with_reducible refine Box.alloc ?_ _) | ((with_reducible refine Box.put ?_ ?_ _ _ ?_); rotate_left) | ((with_reducible refine Box.set ?_ ?_ _ _); (focus (first | (with_reducible assumption) | (refine Ne.symm ?_; (with_reducible assumption))))) | (exact rfl)))
  clear hW
  clear hB
  have hB := hB'; have hXr := hXr'
  clear hB' hXr'
  have hcr_0 := hXr.c0; have hfr_0 := hXr.free 0; have hcr_1 := hXr.c1; have hfr_1 := hXr.free 1
  have hW1x : w.heap.size + 1 ≤ W1.heap.size := hXr.lt
  refine (refOf_any (s.extract 1 s.size) _ (by rw [Lib.size_eq, HS.out]; exact HL.out)).mono ?_
  rintro e W2 ⟨u, rfl, hu, hb⟩
  rw [HS.out, HOK.out]
  rw [HS.out] at hu
  obtain ⟨uo, uc, rfl⟩ := rd_sl hu
  have HU := Lib.hid hu
  clear hu
  have hL : Below W1.heap.size W1 W2 := hb
  have hm2 := hL.size
  have hB' := bw_below hB hL
  have hXr' := hXr.below hL
  clear hL hb
  clear hfr_1 hcr_1 hfr_0 hcr_0 hXr hB
  have hB := hB'; have hXr := hXr'
  clear hB' hXr'
  have hcr_0 := hXr.c0; have hfr_0 := hXr.free 0; have hcr_1 := hXr.c1; have hfr_1 := hXr.free 1
  go_wp2_with fail
  have hW2x : w.heap.size + 1 ≤ W2.heap.size := hXr.lt
  refine (refOfZ_any 0 _ (by decide) (by decide)).mono ?_
  rintro e W3 ⟨q, rfl, hq, hb⟩
  obtain ⟨qo, qc, rfl⟩ := hq.one
  have HQ := Lib.hid (hq.x w.heap.size (hi := w.heap.size + 1) hW2x)
  clear hq
  have hL : Below W2.heap.size W2 W3 := hb
  have hm3 := hL.size
  have hB' := bw_below hB hL
  have hXr' := hXr.below hL
  clear hL hb
  clear hfr_1 hcr_1 hfr_0 hcr_0 hXr hB
  have hB := hB'; have hXr := hXr'
  clear hB' hXr'
  have hcr_0 := hXr.c0; have hfr_0 := hXr.free 0; have hcr_1 := hXr.c1; have hfr_1 := hXr.free 1
  go_wp2_with fail
  have hinr : w.heap.size < w.heap.size + 1 := by omega
  have hq0 := HQ.out
  refine ret_gen fun W4 hW => ?_
  have hm4 : W3.heap.size ≤ W4.heap.size := by rw [hW]; (first | (simp only [size_alloc, size_drew, size_drewN, size_set]; (repeat (first | exact Nat.le_refl _ | refine Nat.le_succ_of_le ?_)); done) | omega | (simp only [size_alloc, size_drew, size_drewN, size_set]; omega) | (simp only [size_alloc, size_drew, size_drewN, size_set]; done))
  have hB' : Below w.heap.size w W4 := by rw [hW]; (repeat (first | (with_reducible assumption) | exact Below.refl _ _ | (with_reducible refine Below.drew ?_) | (with_reducible refine belowN ?_ _) | (with_reducible refine bw_alloc ?_ _) | ((with_reducible refine bw_set ?_ ?_ _ _); (focus (with_reducible assumption)))))
  have hXr' : Box W4 (w.heap.size) [Value.bool (zNeg (0 : Int)), Value.slice qo (digs 1000000000 ((0 : Int)).natAbs).length qc] := by rw [hW]; (repeat (first | (with_reducible assumption) | (with_reducible refine Box.drew ?_) | (with_reducible refine Box.drewN ?_ _) | ((with_reducible refine Box.new _ _ ?_ ?_); (focus (first | (with_reducible exact rfl) | (simp only [size_alloc, size_drew, size_drewN, size_set]; done))); (focus (exact rfl))) | (with_reducible refine Box.alloc ?_ _) | ((with_reducible refine Box.put ?_ ?_ _ _ ?_); rotate_left) | ((with_reducible refine Box.set ?_ ?_ _ _); (focus (first | (with_reducible assumption) | (refine Ne.symm ?_; (with_reducible assumption))))) | (exact rfl)))
  have hq' : IOX W4 W2.heap.size w.heap.size (w.heap.size + 1) 103 (.agg #[Value.bool (zNeg (0 : Int)), Value.slice qo (digs 1000000000 ((0 : Int)).natAbs).length qc]) (0 : Int) := by rw [hW]; (repeat (first | (with_reducible assumption) | (with_reducible refine IOX.drew ?_) | (with_reducible refine IOX.alloc ?_ _) | ((with_reducible refine IOX.set ?_ ?_ ?_ _ _); (focus (with_reducible assumption)); (focus (with_reducible assumption)))))
  clear hW
  clear hfr_1 hcr_1 hfr_0 hcr_0 hXr hB
  have hB := hB'; have hXr := hXr'
  clear hB' hXr'
  have hcr_0 := hXr.c0; have hfr_0 := hXr.free 0; have hcr_1 := hXr.c1; have hfr_1 := hXr.free 1
  refine bodyPost_ret (v := .tuple #[.agg #[Value.bool (zNeg (0 : Int)), Value.slice qo (digs 1000000000 ((0 : Int)).natAbs).length qc], .bool false]) (by simp [results, Tryz.results74, go_sem, hcr_0, hcr_1]) rfl ?_
  refine ⟨_, by rw [HOKZ.out], ?_, hB⟩
  rw [HPZ.out]; exact hq'.io.low (by omega)

set_option maxRecDepth 100000 in
set_option maxHeartbeats 1000000 in
theorem refParse_C_ok (s : ByteArray) (w : World) (R : List UInt8) (hs : (s.extract 1 s.size).data.toList = R) (hR : restZ s.data.toList = R) (hsg : signZ s.data.toList = true) (hRl : R.length ≤ 1000000) (hlp : 0 < s.size) (hp : (0 : Int) < (s.size : Int)) (hc : (s[0].toNat : Int) = 45) (ho : okT R = true) (hl0 : (((ofR R).length : Int) == 0) = false) :
    Calls Tryz.prog 74 #[.string s] w fun e w' => ∃ x, e = .returned (.tuple #[x, .bool (okZ s.data.toList)]) ∧ IO w' w.heap.size 103 x (parZ s.data.toList) ∧ Below w.heap.size w w' := by
  have HOKZ : Hid (okZ s.data.toList = true) := by unfold Hid okZ; rw [hR, hsg, ho, hl0]; rfl
  obtain ⟨Z, hZ⟩ : ∃ Z, Z = zOf true (numD R) := ⟨_, rfl⟩
  have HPZ : Hid (parZ s.data.toList = Z) := by unfold Hid; rw [parZ_ok HOKZ.out, hsg, hR, hZ]
  have HZ : Hid (zV true (ofR R) = Z) := by unfold Hid; rw [zV_ofR _ ho, hZ]
  have HLN : Hid ((ofR R).length ≤ 1000000) := ofR_lenk ho (by simp [ByteArray.size]; exact hRl)
  clear hZ
  have HS := Lib.hid hs
  have HOK := Lib.hid ho
  have HL := Lib.hid hRl
  clear hs ho hRl hR hsg
  go_enter Tryz.func74, Tryz.ntmps74
  go_wp2_with fail
  have hB := Below.refl w.heap.size w
  have hbs := hB.size
  have hgr : w.heap.size ≤ w.heap.size := hbs
  clear hbs
  refine calls_gen fun W1 hW => ?_
  have hm1 : w.heap.size ≤ W1.heap.size := by rw [hW]; (first | (simp only [size_alloc, size_drew, size_drewN, size_set]; (repeat (first | exact Nat.le_refl _ | refine Nat.le_succ_of_le ?_)); done) | omega | (simp only [size_alloc, size_drew, size_drewN, size_set]; omega) | (simp only [size_alloc, size_drew, size_drewN, size_set]; done))
  have hB' : Below w.heap.size w W1 := by rw [hW]; (repeat (first | (with_reducible assumption) | exact Below.refl _ _ | (with_reducible refine Below.drew ?_) | (with_reducible refine belowN ?_ _) | (with_reducible refine bw_alloc ?_ _) | ((with_reducible refine bw_set ?_ ?_ _ _); (focus (with_reducible assumption)))))
  have hXr' : Box W1 (w.heap.size) [Value.bool false, Value.slice none 0 0] := by rw [hW]; (repeat (first | (with_reducible assumption) | (with_reducible refine Box.drew ?_) | (with_reducible refine Box.drewN ?_ _) | ((with_reducible refine Box.new _ _ ?_ ?_); (focus (first | (with_reducible exact rfl) | (simp only [size_alloc, size_drew, size_drewN, size_set]; done))); (focus (exact rfl))) | (with_reducible refine Box.alloc ?_ _) | ((with_reducible refine Box.put ?_ ?_ _ _ ?_); rotate_left) | ((with_reducible refine Box.set ?_ ?_ _ _); (focus (first | (with_reducible assumption) | (refine Ne.symm ?_; (with_reducible assumption))))) | (exact rfl)))
  clear hW
  clear hB
  have hB := hB'; have hXr := hXr'
  clear hB' hXr'
  have hcr_0 := hXr.c0; have hfr_0 := hXr.free 0; have hcr_1 := hXr.c1; have hfr_1 := hXr.free 1
  have hW1x : w.heap.size + 1 ≤ W1.heap.size := hXr.lt
  refine (refOf_any (s.extract 1 s.size) _ (by rw [Lib.size_eq, HS.out]; exact HL.out)).mono ?_
  rintro e W2 ⟨u, rfl, hu, hb⟩
  rw [HS.out, HOK.out]
  rw [HS.out] at hu
  obtain ⟨uo, uc, rfl⟩ := rd_sl hu
  have HU := Lib.hid hu
  clear hu
  have hL : Below W1.heap.size W1 W2 := hb
  have hm2 := hL.size
  have hB' := bw_below hB hL
  have hXr' := hXr.below hL
  clear hL hb
  clear hfr_1 hcr_1 hfr_0 hcr_0 hXr hB
  have hB := hB'; have hXr := hXr'
  clear hB' hXr'
  have hcr_0 := hXr.c0; have hfr_0 := hXr.free 0; have hcr_1 := hXr.c1; have hfr_1 := hXr.free 1
  go_wp2_with fail
  have hW2x : w.heap.size + 1 ≤ W2.heap.size := hXr.lt
  refine (refofR_any true _ (ofR R) _ (HU.out) HLN.out (ofR_u32 R)).mono ?_
  rintro e W3 ⟨q, rfl, hq, hb⟩
  rw [HZ.out] at hq
  obtain ⟨qo, qc, rfl⟩ := hq.one
  have HQ := Lib.hid (hq.x w.heap.size (hi := w.heap.size + 1) hW2x)
  clear hq
  have hL : Below W2.heap.size W2 W3 := hb
  have hm3 := hL.size
  have hB' := bw_below hB hL
  have hXr' := hXr.below hL
  clear hL hb
  clear hfr_1 hcr_1 hfr_0 hcr_0 hXr hB
  have hB := hB'; have hXr := hXr'
  clear hB' hXr'
  have hcr_0 := hXr.c0; have hfr_0 := hXr.free 0; have hcr_1 := hXr.c1; have hfr_1 := hXr.free 1
  go_wp2_with fail
  have hinr : w.heap.size < w.heap.size + 1 := by omega
  have hq0 := HQ.out
  refine ret_gen fun W4 hW => ?_
  have hm4 : W3.heap.size ≤ W4.heap.size := by rw [hW]; (first | (simp only [size_alloc, size_drew, size_drewN, size_set]; (repeat (first | exact Nat.le_refl _ | refine Nat.le_succ_of_le ?_)); done) | omega | (simp only [size_alloc, size_drew, size_drewN, size_set]; omega) | (simp only [size_alloc, size_drew, size_drewN, size_set]; done))
  have hB' : Below w.heap.size w W4 := by rw [hW]; (repeat (first | (with_reducible assumption) | exact Below.refl _ _ | (with_reducible refine Below.drew ?_) | (with_reducible refine belowN ?_ _) | (with_reducible refine bw_alloc ?_ _) | ((with_reducible refine bw_set ?_ ?_ _ _); (focus (with_reducible assumption)))))
  have hXr' : Box W4 (w.heap.size) [Value.bool (zNeg Z), Value.slice qo (digs 1000000000 (Z).natAbs).length qc] := by rw [hW]; (repeat (first | (with_reducible assumption) | (with_reducible refine Box.drew ?_) | (with_reducible refine Box.drewN ?_ _) | ((with_reducible refine Box.new _ _ ?_ ?_); (focus (first | (with_reducible exact rfl) | (simp only [size_alloc, size_drew, size_drewN, size_set]; done))); (focus (exact rfl))) | (with_reducible refine Box.alloc ?_ _) | ((with_reducible refine Box.put ?_ ?_ _ _ ?_); rotate_left) | ((with_reducible refine Box.set ?_ ?_ _ _); (focus (first | (with_reducible assumption) | (refine Ne.symm ?_; (with_reducible assumption))))) | (exact rfl)))
  have hq' : IOX W4 W2.heap.size w.heap.size (w.heap.size + 1) 103 (.agg #[Value.bool (zNeg Z), Value.slice qo (digs 1000000000 (Z).natAbs).length qc]) Z := by rw [hW]; (repeat (first | (with_reducible assumption) | (with_reducible refine IOX.drew ?_) | (with_reducible refine IOX.alloc ?_ _) | ((with_reducible refine IOX.set ?_ ?_ ?_ _ _); (focus (with_reducible assumption)); (focus (with_reducible assumption)))))
  clear hW
  clear hfr_1 hcr_1 hfr_0 hcr_0 hXr hB
  have hB := hB'; have hXr := hXr'
  clear hB' hXr'
  have hcr_0 := hXr.c0; have hfr_0 := hXr.free 0; have hcr_1 := hXr.c1; have hfr_1 := hXr.free 1
  refine bodyPost_ret (v := .tuple #[.agg #[Value.bool (zNeg Z), Value.slice qo (digs 1000000000 (Z).natAbs).length qc], .bool true]) (by simp [results, Tryz.results74, go_sem, hcr_0, hcr_1]) rfl ?_
  refine ⟨_, by rw [HOKZ.out], ?_, hB⟩
  rw [HPZ.out]; exact hq'.io.low (by omega)

set_option maxRecDepth 100000 in
set_option maxHeartbeats 1000000 in
theorem refParse_C_nil (s : ByteArray) (w : World) (R : List UInt8) (hs : (s.extract 1 s.size).data.toList = R) (hR : restZ s.data.toList = R) (hsg : signZ s.data.toList = true) (hRl : R.length ≤ 1000000) (hlp : 0 < s.size) (hp : (0 : Int) < (s.size : Int)) (hc : (s[0].toNat : Int) = 45) (ho : okT R = true) (hl0 : (((ofR R).length : Int) == 0) = true) :
    Calls Tryz.prog 74 #[.string s] w fun e w' => ∃ x, e = .returned (.tuple #[x, .bool (okZ s.data.toList)]) ∧ IO w' w.heap.size 103 x (parZ s.data.toList) ∧ Below w.heap.size w w' := by
  have HOKZ : Hid (okZ s.data.toList = false) := by unfold Hid okZ; rw [hR, hsg, ho, hl0]; rfl
  have HPZ : Hid (parZ s.data.toList = 0) := parZ_no HOKZ.out
  have HS := Lib.hid hs
  have HOK := Lib.hid ho
  have HL := Lib.hid hRl
  clear hs ho hRl hR hsg
  go_enter Tryz.func74, Tryz.ntmps74
  go_wp2_with fail
  have hB := Below.refl w.heap.size w
  have hbs := hB.size
  have hgr : w.heap.size ≤ w.heap.size := hbs
  clear hbs
  refine calls_gen fun W1 hW => ?_
  have hm1 : w.heap.size ≤ W1.heap.size := by rw [hW]; (first | (simp only [size_alloc, size_drew, size_drewN, size_set]; (repeat (first | exact Nat.le_refl _ | refine Nat.le_succ_of_le ?_)); done) | omega | (simp only [size_alloc, size_drew, size_drewN, size_set]; omega) | (simp only [size_alloc, size_drew, size_drewN, size_set]; done))
  have hB' : Below w.heap.size w W1 := by rw [hW]; (repeat (first | (with_reducible assumption) | exact Below.refl _ _ | (with_reducible refine Below.drew ?_) | (with_reducible refine belowN ?_ _) | (with_reducible refine bw_alloc ?_ _) | ((with_reducible refine bw_set ?_ ?_ _ _); (focus (with_reducible assumption)))))
  have hXr' : Box W1 (w.heap.size) [Value.bool false, Value.slice none 0 0] := by rw [hW]; (repeat (first | (with_reducible assumption) | (with_reducible refine Box.drew ?_) | (with_reducible refine Box.drewN ?_ _) | ((with_reducible refine Box.new _ _ ?_ ?_); (focus (first | (with_reducible exact rfl) | (simp only [size_alloc, size_drew, size_drewN, size_set]; done))); (focus (exact rfl))) | (with_reducible refine Box.alloc ?_ _) | ((with_reducible refine Box.put ?_ ?_ _ _ ?_); rotate_left) | ((with_reducible refine Box.set ?_ ?_ _ _); (focus (first | (with_reducible assumption) | (refine Ne.symm ?_; (with_reducible assumption))))) | (exact rfl)))
  clear hW
  clear hB
  have hB := hB'; have hXr := hXr'
  clear hB' hXr'
  have hcr_0 := hXr.c0; have hfr_0 := hXr.free 0; have hcr_1 := hXr.c1; have hfr_1 := hXr.free 1
  have hW1x : w.heap.size + 1 ≤ W1.heap.size := hXr.lt
  refine (refOf_any (s.extract 1 s.size) _ (by rw [Lib.size_eq, HS.out]; exact HL.out)).mono ?_
  rintro e W2 ⟨u, rfl, hu, hb⟩
  rw [HS.out, HOK.out]
  rw [HS.out] at hu
  obtain ⟨uo, uc, rfl⟩ := rd_sl hu
  have HU := Lib.hid hu
  clear hu
  have hL : Below W1.heap.size W1 W2 := hb
  have hm2 := hL.size
  have hB' := bw_below hB hL
  have hXr' := hXr.below hL
  clear hL hb
  clear hfr_1 hcr_1 hfr_0 hcr_0 hXr hB
  have hB := hB'; have hXr := hXr'
  clear hB' hXr'
  have hcr_0 := hXr.c0; have hfr_0 := hXr.free 0; have hcr_1 := hXr.c1; have hfr_1 := hXr.free 1
  go_wp2_with fail
  have hW2x : w.heap.size + 1 ≤ W2.heap.size := hXr.lt
  refine (refOfZ_any 0 _ (by decide) (by decide)).mono ?_
  rintro e W3 ⟨q, rfl, hq, hb⟩
  obtain ⟨qo, qc, rfl⟩ := hq.one
  have HQ := Lib.hid (hq.x w.heap.size (hi := w.heap.size + 1) hW2x)
  clear hq
  have hL : Below W2.heap.size W2 W3 := hb
  have hm3 := hL.size
  have hB' := bw_below hB hL
  have hXr' := hXr.below hL
  clear hL hb
  clear hfr_1 hcr_1 hfr_0 hcr_0 hXr hB
  have hB := hB'; have hXr := hXr'
  clear hB' hXr'
  have hcr_0 := hXr.c0; have hfr_0 := hXr.free 0; have hcr_1 := hXr.c1; have hfr_1 := hXr.free 1
  go_wp2_with fail
  have hinr : w.heap.size < w.heap.size + 1 := by omega
  have hq0 := HQ.out
  refine ret_gen fun W4 hW => ?_
  have hm4 : W3.heap.size ≤ W4.heap.size := by rw [hW]; (first | (simp only [size_alloc, size_drew, size_drewN, size_set]; (repeat (first | exact Nat.le_refl _ | refine Nat.le_succ_of_le ?_)); done) | omega | (simp only [size_alloc, size_drew, size_drewN, size_set]; omega) | (simp only [size_alloc, size_drew, size_drewN, size_set]; done))
  have hB' : Below w.heap.size w W4 := by rw [hW]; (repeat (first | (with_reducible assumption) | exact Below.refl _ _ | (with_reducible refine Below.drew ?_) | (with_reducible refine belowN ?_ _) | (with_reducible refine bw_alloc ?_ _) | ((with_reducible refine bw_set ?_ ?_ _ _); (focus (with_reducible assumption)))))
  have hXr' : Box W4 (w.heap.size) [Value.bool (zNeg (0 : Int)), Value.slice qo (digs 1000000000 ((0 : Int)).natAbs).length qc] := by rw [hW]; (repeat (first | (with_reducible assumption) | (with_reducible refine Box.drew ?_) | (with_reducible refine Box.drewN ?_ _) | ((with_reducible refine Box.new _ _ ?_ ?_); (focus (first | (with_reducible exact rfl) | (simp only [size_alloc, size_drew, size_drewN, size_set]; done))); (focus (exact rfl))) | (with_reducible refine Box.alloc ?_ _) | ((with_reducible refine Box.put ?_ ?_ _ _ ?_); rotate_left) | ((with_reducible refine Box.set ?_ ?_ _ _); (focus (first | (with_reducible assumption) | (refine Ne.symm ?_; (with_reducible assumption))))) | (exact rfl)))
  have hq' : IOX W4 W2.heap.size w.heap.size (w.heap.size + 1) 103 (.agg #[Value.bool (zNeg (0 : Int)), Value.slice qo (digs 1000000000 ((0 : Int)).natAbs).length qc]) (0 : Int) := by rw [hW]; (repeat (first | (with_reducible assumption) | (with_reducible refine IOX.drew ?_) | (with_reducible refine IOX.alloc ?_ _) | ((with_reducible refine IOX.set ?_ ?_ ?_ _ _); (focus (with_reducible assumption)); (focus (with_reducible assumption)))))
  clear hW
  clear hfr_1 hcr_1 hfr_0 hcr_0 hXr hB
  have hB := hB'; have hXr := hXr'
  clear hB' hXr'
  have hcr_0 := hXr.c0; have hfr_0 := hXr.free 0; have hcr_1 := hXr.c1; have hfr_1 := hXr.free 1
  refine bodyPost_ret (v := .tuple #[.agg #[Value.bool (zNeg (0 : Int)), Value.slice qo (digs 1000000000 ((0 : Int)).natAbs).length qc], .bool false]) (by simp [results, Tryz.results74, go_sem, hcr_0, hcr_1]) rfl ?_
  refine ⟨_, by rw [HOKZ.out], ?_, hB⟩
  rw [HPZ.out]; exact hq'.io.low (by omega)

theorem refParse_any (s : ByteArray) (w : World) (hs1 : s.size ≤ 1000000) :
    Calls Tryz.prog 74 #[.string s] w fun e w' => ∃ x, e = .returned (.tuple #[x, .bool (okZ s.data.toList)]) ∧ IO w' w.heap.size 103 x (parZ s.data.toList) ∧ Below w.heap.size w w' := by
  have hsz : s.data.toList.length = s.size := by rw [Array.length_toList]; rfl
  by_cases hp : 0 < s.size
  · cases hc : ((s[0].toNat : Int) == 45)
    · have hsg := sgn_no hp hc
      have hR := rest_no hsg
      cases ho : okT s.data.toList
      · exact refParse_B_bad s w _ rfl hR hsg (by omega) hp (by omega) hc ho
      · exact refParse_B_ok s w _ rfl hR hsg (by omega) hp (by omega) hc ho
    · have hc' : (s[0].toNat : Int) = 45 := by simpa using hc
      have hsg := sgn_yes hp hc'
      have hR := rest_yes hsg
      have hx := Lib.extract_to_end s 1
      have hl : (s.data.toList.drop 1).length ≤ 1000000 := by rw [List.length_drop]; omega
      cases ho : okT (s.data.toList.drop 1)
      · exact refParse_C_bad s w _ hx hR hsg hl hp (by omega) hc' ho
      · cases hl0 : (((ofR (s.data.toList.drop 1)).length : Int) == 0)
        · exact refParse_C_ok s w _ hx hR hsg hl hp (by omega) hc' ho hl0
        · exact refParse_C_nil s w _ hx hR hsg hl hp (by omega) hc' ho hl0
  · have hsg := sgn_nil hp
    have hR := rest_no hsg
    cases ho : okT s.data.toList
    · exact refParse_A_bad s w _ rfl hR hsg (by omega) (by omega) ho
    · exact refParse_A_ok s w _ rfl hR hsg (by omega) (by omega) ho

end Go.Proofs.YtjfncepmpabcnaaGreatDoor
