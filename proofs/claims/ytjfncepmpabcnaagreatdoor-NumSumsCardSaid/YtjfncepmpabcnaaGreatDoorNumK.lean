/- num: texts. -/
import Derived.Test.YtjfncepmpabcnaaGreatDoorNumI
import Derived.Test.YtjfncepmpabcnaaGreatDoorNumF
import Derived.Test.YtjfncepmpabcnaaGreatDoorDec
namespace Go.Proofs.YtjfncepmpabcnaaGreatDoor
open Go.RowKit
set_option linter.unusedSimpArgs false
set_option linter.unusedVariables false
attribute [local go_sem ↓] Go.wp_at_zero Go.wp_at_succ

/-- A number's text. -/
def zText (z : Int) : List UInt8 := if z < 0 then 45 :: Lib.decDigits z.natAbs else Lib.decDigits z.natAbs
theorem zText_neg {z : Int} (h : zNeg z = true) : zText z = 45 :: Lib.decDigits z.natAbs := by unfold zText; rw [if_pos (zNeg_iff.1 h)]
theorem zText_pos {z : Int} (h : zNeg z = false) : zText z = Lib.decDigits z.natAbs := by unfold zText; rw [if_neg (fun hc => by rw [zNeg_neg hc] at h; cases h)]

set_option maxRecDepth 100000 in
set_option maxHeartbeats 1000000 in
theorem numText_true (v : Value) (y : Int) (k : Nat) (w : World) (hv : IZ w v y k) (hk : k ≤ 90000) (ht : Tab w) (hn : zNeg y = true) :
    Calls Tryz.prog 48 #[v] w fun e w' => e = .returned (.string ⟨(zText y).toArray⟩) ∧ Below w.heap.size w w' := by
  have hd : (Lib.decDigits y.natAbs).length ≤ 9 * (k + 1) + 1 := dec_len hv.zb
  have HK : Hid ((digs 1000000000 y.natAbs).length ≤ k + 1) := hv.zb.len
  have HT := Lib.hid ht
  have HN := Lib.hid hn
  clear ht hn
  obtain ⟨na, la, hA, hla, hy⟩ := hv
  obtain ⟨ao, ac, rfl⟩ := hA.sh
  have HA := Lib.hid hA
  have HY := Lib.hid hy
  clear hA hy
  go_enter Tryz.func48, Tryz.ntmps48
  go_wp2_with fail
  have hB := Below.refl w.heap.size w
  have hbs := hB.size
  have hga : w.heap.size ≤ w.heap.size := by omega
  clear hbs
  refine calls_gen fun W1 hW => ?_
  have hm1 : w.heap.size ≤ W1.heap.size := by rw [hW]; (first | omega | (simp only [size_alloc, size_drew, size_drewN, size_set]; omega) | (simp only [size_alloc, size_drew, size_drewN, size_set]; done))
  have hB' : Below w.heap.size w W1 := by rw [hW]; (repeat (first | (with_reducible assumption) | exact Below.refl _ _ | (with_reducible refine Below.drew ?_) | (with_reducible refine belowN ?_ _) | (with_reducible refine bw_alloc ?_ _) | ((with_reducible refine bw_set ?_ ?_ _ _); (focus (with_reducible assumption)))))
  have hXa' : Box W1 (w.heap.size) [Value.bool na, Value.slice ao la.length ac] := by rw [hW]; (repeat (first | (with_reducible assumption) | (with_reducible refine Box.drew ?_) | (with_reducible refine Box.drewN ?_ _) | ((with_reducible refine Box.new _ _ ?_ ?_); (focus (first | (with_reducible exact rfl) | (simp only [size_alloc, size_drew, size_drewN, size_set]; done))); (focus (exact rfl))) | (with_reducible refine Box.alloc ?_ _) | ((with_reducible refine Box.put ?_ ?_ _ _ ?_); rotate_left) | ((with_reducible refine Box.set ?_ ?_ _ _); (focus (first | (with_reducible assumption) | (refine Ne.symm ?_; (with_reducible assumption))))) | (exact rfl)))
  clear hW
  clear hB
  have hB := hB'; have hXa := hXa'
  clear hB' hXa'
  have hca_0 := hXa.c0; have hca_1 := hXa.c1
  refine (numof_any _ na la _ (HA.out.keep hB) (by omega)).mono ?_
  rintro e W2 ⟨u, rfl, hu, hb⟩
  rw [HY.out] at hu
  obtain ⟨uo, uc, rfl⟩ := hu.oneS HN.out
  have hL : Below W1.heap.size W1 W2 := hb
  have hm2 := hL.size
  have hB' := bw_below hB hL
  have hXa' := hXa.below hL
  have HU := Lib.hid hu
  have hd_HU_a : w.heap.size < W1.heap.size ∨ W2.heap.size ≤ w.heap.size := .inl hXa.lt
  have FHU' := Fr.refl (W1.heap.size) W2
  clear hL hb hu
  clear hca_1 hca_0 hXa hB
  have hB := hB'; have hXa := hXa'; have FHU := FHU'
  clear hB' hXa' FHU'
  have hca_0 := hXa.c0; have hca_1 := hXa.c1
  go_wp2_with fail
  have hbs := hB.size
  have hlta := hXa.lt
  have hszHU := FHU.size
  have hgx : w.heap.size ≤ W2.heap.size := by omega
  have hn_x_a : W2.heap.size ≠ w.heap.size := by omega
  have hd_HU_x : W2.heap.size < W1.heap.size ∨ W2.heap.size ≤ W2.heap.size := .inr (by omega)
  clear hbs hlta hszHU
  refine calls_gen fun W3 hW => ?_
  have hm3 : W2.heap.size ≤ W3.heap.size := by rw [hW]; (first | omega | (simp only [size_alloc, size_drew, size_drewN, size_set]; omega) | (simp only [size_alloc, size_drew, size_drewN, size_set]; done))
  have hB' : Below w.heap.size w W3 := by rw [hW]; (repeat (first | (with_reducible assumption) | exact Below.refl _ _ | (with_reducible refine Below.drew ?_) | (with_reducible refine belowN ?_ _) | (with_reducible refine bw_alloc ?_ _) | ((with_reducible refine bw_set ?_ ?_ _ _); (focus (with_reducible assumption)))))
  have hXa' : Box W3 (w.heap.size) [Value.bool na, Value.slice ao la.length ac] := by rw [hW]; (repeat (first | (with_reducible assumption) | (with_reducible refine Box.drew ?_) | (with_reducible refine Box.drewN ?_ _) | ((with_reducible refine Box.new _ _ ?_ ?_); (focus (first | (with_reducible exact rfl) | (simp only [size_alloc, size_drew, size_drewN, size_set]; done))); (focus (exact rfl))) | (with_reducible refine Box.alloc ?_ _) | ((with_reducible refine Box.put ?_ ?_ _ _ ?_); rotate_left) | ((with_reducible refine Box.set ?_ ?_ _ _); (focus (first | (with_reducible assumption) | (refine Ne.symm ?_; (with_reducible assumption))))) | (exact rfl)))
  have hXx' : Box W3 (W2.heap.size) [Value.slice uo (digs 1000000000 y.natAbs).length uc, Value.bool true] := by rw [hW]; (repeat (first | (with_reducible assumption) | (with_reducible refine Box.drew ?_) | (with_reducible refine Box.drewN ?_ _) | ((with_reducible refine Box.new _ _ ?_ ?_); (focus (first | (with_reducible exact rfl) | (simp only [size_alloc, size_drew, size_drewN, size_set]; done))); (focus (exact rfl))) | (with_reducible refine Box.alloc ?_ _) | ((with_reducible refine Box.put ?_ ?_ _ _ ?_); rotate_left) | ((with_reducible refine Box.set ?_ ?_ _ _); (focus (first | (with_reducible assumption) | (refine Ne.symm ?_; (with_reducible assumption))))) | (exact rfl)))
  have FHU' : Fr W2 (W1.heap.size) W3 := by rw [hW]; (repeat (first | (with_reducible assumption) | exact Fr.refl _ _ | (with_reducible refine Fr.drew ?_) | (with_reducible refine Fr.drewN ?_ _) | (with_reducible refine Fr.alloc ?_ _) | ((with_reducible refine Fr.set ?_ ?_ _); (focus (with_reducible assumption)))))
  clear hW
  clear hca_1 hca_0 FHU hXa hB
  have hB := hB'; have hXa := hXa'; have hXx := hXx'; have FHU := FHU'
  clear hB' hXa' hXx' FHU'
  have hca_0 := hXa.c0; have hca_1 := hXa.c1; have hcx_0 := hXx.c0; have hcx_1 := hXx.c1
  refine (natText_any _ _ _ (HU.out.fr FHU).rd (Nat.le_trans HK.out (by omega)) (digs_u32 _) (HT.out.keep hB)).mono ?_
  rintro e W4 ⟨rfl, hb⟩
  rw [val_digs _ (by omega)]
  have hL : Below W3.heap.size W3 W4 := hb
  have hm4 := hL.size
  have hB' := bw_below hB hL
  have hXa' := hXa.below hL
  have hXx' := hXx.below hL
  have FHU' := FHU.below hL
  clear hL hb
  clear hcx_1 hcx_0 hca_1 hca_0 FHU hXx hXa hB
  have hB := hB'; have hXa := hXa'; have hXx := hXx'; have FHU := FHU'
  clear hB' hXa' hXx' FHU'
  have hca_0 := hXa.c0; have hca_1 := hXa.c1; have hcx_0 := hXx.c0; have hcx_1 := hXx.c1
  go_wp2_with fail
  go_ret
  exact ⟨by rw [zText_neg HN.out]; rfl, hB⟩

set_option maxRecDepth 100000 in
set_option maxHeartbeats 1000000 in
theorem numText_false (v : Value) (y : Int) (k : Nat) (w : World) (hv : IZ w v y k) (hk : k ≤ 90000) (ht : Tab w) (hn : zNeg y = false) :
    Calls Tryz.prog 48 #[v] w fun e w' => e = .returned (.string ⟨(zText y).toArray⟩) ∧ Below w.heap.size w w' := by
  have hd : (Lib.decDigits y.natAbs).length ≤ 9 * (k + 1) + 1 := dec_len hv.zb
  have HK : Hid ((digs 1000000000 y.natAbs).length ≤ k + 1) := hv.zb.len
  have HT := Lib.hid ht
  have HN := Lib.hid hn
  clear ht hn
  obtain ⟨na, la, hA, hla, hy⟩ := hv
  obtain ⟨ao, ac, rfl⟩ := hA.sh
  have HA := Lib.hid hA
  have HY := Lib.hid hy
  clear hA hy
  go_enter Tryz.func48, Tryz.ntmps48
  go_wp2_with fail
  have hB := Below.refl w.heap.size w
  have hbs := hB.size
  have hga : w.heap.size ≤ w.heap.size := by omega
  clear hbs
  refine calls_gen fun W1 hW => ?_
  have hm1 : w.heap.size ≤ W1.heap.size := by rw [hW]; (first | omega | (simp only [size_alloc, size_drew, size_drewN, size_set]; omega) | (simp only [size_alloc, size_drew, size_drewN, size_set]; done))
  have hB' : Below w.heap.size w W1 := by rw [hW]; (repeat (first | (with_reducible assumption) | exact Below.refl _ _ | (with_reducible refine Below.drew ?_) | (with_reducible refine belowN ?_ _) | (with_reducible refine bw_alloc ?_ _) | ((with_reducible refine bw_set ?_ ?_ _ _); (focus (with_reducible assumption)))))
  have hXa' : Box W1 (w.heap.size) [Value.bool na, Value.slice ao la.length ac] := by rw [hW]; (repeat (first | (with_reducible assumption) | (with_reducible refine Box.drew ?_) | (with_reducible refine Box.drewN ?_ _) | ((with_reducible refine Box.new _ _ ?_ ?_); (focus (first | (with_reducible exact rfl) | (simp only [size_alloc, size_drew, size_drewN, size_set]; done))); (focus (exact rfl))) | (with_reducible refine Box.alloc ?_ _) | ((with_reducible refine Box.put ?_ ?_ _ _ ?_); rotate_left) | ((with_reducible refine Box.set ?_ ?_ _ _); (focus (first | (with_reducible assumption) | (refine Ne.symm ?_; (with_reducible assumption))))) | (exact rfl)))
  clear hW
  clear hB
  have hB := hB'; have hXa := hXa'
  clear hB' hXa'
  have hca_0 := hXa.c0; have hca_1 := hXa.c1
  refine (numof_any _ na la _ (HA.out.keep hB) (by omega)).mono ?_
  rintro e W2 ⟨u, rfl, hu, hb⟩
  rw [HY.out] at hu
  obtain ⟨uo, uc, rfl⟩ := hu.oneS HN.out
  have hL : Below W1.heap.size W1 W2 := hb
  have hm2 := hL.size
  have hB' := bw_below hB hL
  have hXa' := hXa.below hL
  have HU := Lib.hid hu
  have hd_HU_a : w.heap.size < W1.heap.size ∨ W2.heap.size ≤ w.heap.size := .inl hXa.lt
  have FHU' := Fr.refl (W1.heap.size) W2
  clear hL hb hu
  clear hca_1 hca_0 hXa hB
  have hB := hB'; have hXa := hXa'; have FHU := FHU'
  clear hB' hXa' FHU'
  have hca_0 := hXa.c0; have hca_1 := hXa.c1
  go_wp2_with fail
  have hbs := hB.size
  have hlta := hXa.lt
  have hszHU := FHU.size
  have hgx : w.heap.size ≤ W2.heap.size := by omega
  have hn_x_a : W2.heap.size ≠ w.heap.size := by omega
  have hd_HU_x : W2.heap.size < W1.heap.size ∨ W2.heap.size ≤ W2.heap.size := .inr (by omega)
  clear hbs hlta hszHU
  refine calls_gen fun W3 hW => ?_
  have hm3 : W2.heap.size ≤ W3.heap.size := by rw [hW]; (first | omega | (simp only [size_alloc, size_drew, size_drewN, size_set]; omega) | (simp only [size_alloc, size_drew, size_drewN, size_set]; done))
  have hB' : Below w.heap.size w W3 := by rw [hW]; (repeat (first | (with_reducible assumption) | exact Below.refl _ _ | (with_reducible refine Below.drew ?_) | (with_reducible refine belowN ?_ _) | (with_reducible refine bw_alloc ?_ _) | ((with_reducible refine bw_set ?_ ?_ _ _); (focus (with_reducible assumption)))))
  have hXa' : Box W3 (w.heap.size) [Value.bool na, Value.slice ao la.length ac] := by rw [hW]; (repeat (first | (with_reducible assumption) | (with_reducible refine Box.drew ?_) | (with_reducible refine Box.drewN ?_ _) | ((with_reducible refine Box.new _ _ ?_ ?_); (focus (first | (with_reducible exact rfl) | (simp only [size_alloc, size_drew, size_drewN, size_set]; done))); (focus (exact rfl))) | (with_reducible refine Box.alloc ?_ _) | ((with_reducible refine Box.put ?_ ?_ _ _ ?_); rotate_left) | ((with_reducible refine Box.set ?_ ?_ _ _); (focus (first | (with_reducible assumption) | (refine Ne.symm ?_; (with_reducible assumption))))) | (exact rfl)))
  have hXx' : Box W3 (W2.heap.size) [Value.slice uo (digs 1000000000 y.natAbs).length uc, Value.bool false] := by rw [hW]; (repeat (first | (with_reducible assumption) | (with_reducible refine Box.drew ?_) | (with_reducible refine Box.drewN ?_ _) | ((with_reducible refine Box.new _ _ ?_ ?_); (focus (first | (with_reducible exact rfl) | (simp only [size_alloc, size_drew, size_drewN, size_set]; done))); (focus (exact rfl))) | (with_reducible refine Box.alloc ?_ _) | ((with_reducible refine Box.put ?_ ?_ _ _ ?_); rotate_left) | ((with_reducible refine Box.set ?_ ?_ _ _); (focus (first | (with_reducible assumption) | (refine Ne.symm ?_; (with_reducible assumption))))) | (exact rfl)))
  have FHU' : Fr W2 (W1.heap.size) W3 := by rw [hW]; (repeat (first | (with_reducible assumption) | exact Fr.refl _ _ | (with_reducible refine Fr.drew ?_) | (with_reducible refine Fr.drewN ?_ _) | (with_reducible refine Fr.alloc ?_ _) | ((with_reducible refine Fr.set ?_ ?_ _); (focus (with_reducible assumption)))))
  clear hW
  clear hca_1 hca_0 FHU hXa hB
  have hB := hB'; have hXa := hXa'; have hXx := hXx'; have FHU := FHU'
  clear hB' hXa' hXx' FHU'
  have hca_0 := hXa.c0; have hca_1 := hXa.c1; have hcx_0 := hXx.c0; have hcx_1 := hXx.c1
  refine (natText_any _ _ _ (HU.out.fr FHU).rd (Nat.le_trans HK.out (by omega)) (digs_u32 _) (HT.out.keep hB)).mono ?_
  rintro e W4 ⟨rfl, hb⟩
  rw [val_digs _ (by omega)]
  have hL : Below W3.heap.size W3 W4 := hb
  have hm4 := hL.size
  have hB' := bw_below hB hL
  have hXa' := hXa.below hL
  have hXx' := hXx.below hL
  have FHU' := FHU.below hL
  clear hL hb
  clear hcx_1 hcx_0 hca_1 hca_0 FHU hXx hXa hB
  have hB := hB'; have hXa := hXa'; have hXx := hXx'; have FHU := FHU'
  clear hB' hXa' hXx' FHU'
  have hca_0 := hXa.c0; have hca_1 := hXa.c1; have hcx_0 := hXx.c0; have hcx_1 := hXx.c1
  go_wp2_with fail
  go_ret
  exact ⟨by rw [zText_pos HN.out]; rfl, hB⟩

theorem numText_any (v : Value) (y : Int) (k : Nat) (w : World) (hv : IZ w v y k) (hk : k ≤ 90000) (ht : Tab w) :
    Calls Tryz.prog 48 #[v] w fun e w' => e = .returned (.string ⟨(zText y).toArray⟩) ∧ Below w.heap.size w w' := by
  cases h : zNeg y
  · exact numText_false v y k w hv hk ht h
  · exact numText_true v y k w hv hk ht h

/-- What is behind a sign; is there one; is it a number's text; whose. -/
def restZ (l : List UInt8) : List UInt8 := Lib.trimPrefix l [45]
def signZ (l : List UInt8) : Bool := Lib.hasPrefix l [45]
def okZ (l : List UInt8) : Bool := okT (restZ l) && !(signZ l && ((ofR (restZ l)).length : Int) == 0)
def parZ (l : List UInt8) : Int := if okZ l = true then zOf (signZ l) (numD (restZ l)) else 0
theorem parZ_no {l : List UInt8} (h : okZ l = false) : parZ l = 0 := by unfold parZ; rw [h]; rfl
theorem parZ_ok {l : List UInt8} (h : okZ l = true) : parZ l = zOf (signZ l) (numD (restZ l)) := by unfold parZ; rw [if_pos h]
theorem IO.nilZ (w : World) (B : Nat) (e : TypeId) : IO w B e (.agg #[.bool false, .slice none 0 0]) 0 := ⟨_, rfl, World.ownsRow_nil _ _ _ _⟩

theorem strings_CutP (s : ByteArray) (w : World) :
    Calls Tryz.prog 99 #[.string s, .string ⟨#[45]⟩] w fun e w' => e = .returned (.tuple #[.string ⟨(restZ s.data.toList).toArray⟩, .bool (signZ s.data.toList)]) ∧ w = w' :=
  (Tryz.strings_CutPrefix s ⟨#[45]⟩ w).mono fun _ _ ⟨h1, h2⟩ => ⟨h1, h2.symm⟩
theorem restZ_size {s : ByteArray} (h : s.size ≤ 1000000) : (⟨(restZ s.data.toList).toArray⟩ : ByteArray).size ≤ 1000000 := by
  have : (restZ s.data.toList).length ≤ s.data.toList.length := by
    unfold restZ Lib.trimPrefix
    split
    · simp
    · exact Nat.le_refl _
  have e1 : (⟨(restZ s.data.toList).toArray⟩ : ByteArray).size = (restZ s.data.toList).length := by simp [ByteArray.size]
  have e2 : s.data.toList.length = s.size := by rw [Array.length_toList]; rfl
  omega
theorem ofR_lenk {R : List UInt8} {k : Nat} (h : okT R = true) (hs : (⟨R.toArray⟩ : ByteArray).size ≤ k) : (ofR R).length ≤ k := by
  have hd : decB R = true := by
    unfold okT at h
    cases hb : decB R
    · rw [hb] at h; simp at h
    · rfl
  have h1 := numD_lt R hd
  have h2 : (⟨R.toArray⟩ : ByteArray).size = R.length := by simp [ByteArray.size]
  rw [ofR_ok h]
  refine digs_length_le _ (by omega) _ _ (Nat.lt_of_lt_of_le h1 ?_)
  exact Nat.le_trans (Nat.pow_le_pow_left (by omega : 10 ≤ 1000000000) _) (Nat.pow_le_pow_right (by omega) (by omega))
theorem ofR_len {R : List UInt8} (h : okT R = true) (hs : (⟨R.toArray⟩ : ByteArray).size ≤ 1000000) : (ofR R).length ≤ 1000000 := ofR_lenk h hs
theorem digs_lt_len {n k : Nat} (h : (digs 1000000000 n).length ≤ k) : n < 1000000000 ^ k := by
  have := val_lt 1000000000 (digs 1000000000 n) (digs_lt _ (by omega) _)
  rw [val_digs _ (by omega)] at this
  exact Nat.lt_of_lt_of_le this (Nat.pow_le_pow_right (by omega) h)
theorem zb_of_len {neg : Bool} {n k : Nat} (h : (digs 1000000000 n).length ≤ k) : ZB (zOf neg n) k := by
  unfold ZB; rw [zOf_abs]; exact digs_lt_len h

set_option maxRecDepth 100000 in
set_option maxHeartbeats 1000000 in
theorem numParse_bad (s : ByteArray) (w : World) (hs1 : s.size ≤ 1000000) (ho : okT (restZ s.data.toList) = false) :
    Calls Tryz.prog 51 #[.string s] w fun e w' => ∃ x, e = .returned (.tuple #[x, .bool (okZ s.data.toList)]) ∧ IO w' w.heap.size 103 x (parZ s.data.toList) ∧ Below w.heap.size w w' := by
  have HOK : Hid (okZ s.data.toList = false) := by unfold Hid okZ; rw [ho]; rfl
  obtain ⟨g, hg⟩ : ∃ g, g = signZ s.data.toList := ⟨_, rfl⟩
  have HG : Hid (signZ s.data.toList = g) := hg.symm
  clear hg
  go_enter Tryz.func51, Tryz.ntmps51
  go_wp2_with fail
  have hB := Below.refl w.heap.size w
  have hbs := hB.size
  have hgr : w.heap.size ≤ w.heap.size := by omega
  clear hbs
  refine calls_gen fun W1 hW => ?_
  have hm1 : w.heap.size ≤ W1.heap.size := by rw [hW]; (first | omega | (simp only [size_alloc, size_drew, size_drewN, size_set]; omega) | (simp only [size_alloc, size_drew, size_drewN, size_set]; done))
  have hB' : Below w.heap.size w W1 := by rw [hW]; (repeat (first | (with_reducible assumption) | exact Below.refl _ _ | (with_reducible refine Below.drew ?_) | (with_reducible refine belowN ?_ _) | (with_reducible refine bw_alloc ?_ _) | ((with_reducible refine bw_set ?_ ?_ _ _); (focus (with_reducible assumption)))))
  have hXr' : Box W1 (w.heap.size) [Value.bool false, Value.slice none 0 0] := by rw [hW]; (repeat (first | (with_reducible assumption) | (with_reducible refine Box.drew ?_) | (with_reducible refine Box.drewN ?_ _) | ((with_reducible refine Box.new _ _ ?_ ?_); (focus (first | (with_reducible exact rfl) | (simp only [size_alloc, size_drew, size_drewN, size_set]; done))); (focus (exact rfl))) | (with_reducible refine Box.alloc ?_ _) | ((with_reducible refine Box.put ?_ ?_ _ _ ?_); rotate_left) | ((with_reducible refine Box.set ?_ ?_ _ _); (focus (first | (with_reducible assumption) | (refine Ne.symm ?_; (with_reducible assumption))))) | (exact rfl)))
  clear hW
  clear hB
  have hB := hB'; have hXr := hXr'
  clear hB' hXr'
  have hcr_0 := hXr.c0; have hfr_0 := hXr.free 0; have hcr_1 := hXr.c1; have hfr_1 := hXr.free 1
  refine (strings_CutP s _).mono ?_
  rintro e W1' ⟨rfl, rfl⟩
  rw [HG.out]
  obtain ⟨R, hR⟩ : ∃ R, R = restZ s.data.toList := ⟨_, rfl⟩
  have HRL : Hid ((⟨R.toArray⟩ : ByteArray).size ≤ 1000000) := by rw [hR]; exact restZ_size hs1
  have HO : Hid (okT R = false) := by rw [hR]; exact ho
  have HR := Lib.hid hR
  rw [← hR]
  clear hR
  go_wp2_with fail
  refine (natOf_any ⟨R.toArray⟩ _ HRL.out).mono ?_
  rintro e W2 ⟨u, rfl, hu, hb⟩
  rw [show (⟨R.toArray⟩ : ByteArray).data.toList = R from rfl] at hu ⊢
  obtain ⟨uo, uc, rfl⟩ := rd_sl hu.rd
  rw [HO.out]
  have hL : Below W1.heap.size W1 W2 := hb
  have hm2 := hL.size
  have hB' := bw_below hB hL
  have hXr' := hXr.below hL
  have HU := Lib.hid hu
  have hd_HU_r : w.heap.size < W1.heap.size ∨ W2.heap.size ≤ w.heap.size := .inl hXr.lt
  have FHU' := Fr.refl (W1.heap.size) W2
  clear hL hb hu
  clear hfr_1 hcr_1 hfr_0 hcr_0 hXr hB
  have hB := hB'; have hXr := hXr'; have FHU := FHU'
  clear hB' hXr' FHU'
  have hcr_0 := hXr.c0; have hfr_0 := hXr.free 0; have hcr_1 := hXr.c1; have hfr_1 := hXr.free 1
  go_wp2_with fail
  refine ret_gen fun W3 hW => ?_
  have hm3 : W2.heap.size ≤ W3.heap.size := by rw [hW]; (first | omega | (simp only [size_alloc, size_drew, size_drewN, size_set]; omega) | (simp only [size_alloc, size_drew, size_drewN, size_set]; done))
  have hB' : Below w.heap.size w W3 := by rw [hW]; (repeat (first | (with_reducible assumption) | exact Below.refl _ _ | (with_reducible refine Below.drew ?_) | (with_reducible refine belowN ?_ _) | (with_reducible refine bw_alloc ?_ _) | ((with_reducible refine bw_set ?_ ?_ _ _); (focus (with_reducible assumption)))))
  have hXr' : Box W3 (w.heap.size) [Value.bool false, Value.slice none 0 0] := by rw [hW]; (repeat (first | (with_reducible assumption) | (with_reducible refine Box.drew ?_) | (with_reducible refine Box.drewN ?_ _) | ((with_reducible refine Box.new _ _ ?_ ?_); (focus (first | (with_reducible exact rfl) | (simp only [size_alloc, size_drew, size_drewN, size_set]; done))); (focus (exact rfl))) | (with_reducible refine Box.alloc ?_ _) | ((with_reducible refine Box.put ?_ ?_ _ _ ?_); rotate_left) | ((with_reducible refine Box.set ?_ ?_ _ _); (focus (first | (with_reducible assumption) | (refine Ne.symm ?_; (with_reducible assumption))))) | (exact rfl)))
  have FHU' : Fr W2 (W1.heap.size) W3 := by rw [hW]; (repeat (first | (with_reducible assumption) | exact Fr.refl _ _ | (with_reducible refine Fr.drew ?_) | (with_reducible refine Fr.drewN ?_ _) | (with_reducible refine Fr.alloc ?_ _) | ((with_reducible refine Fr.set ?_ ?_ _); (focus (with_reducible assumption)))))
  clear hW
  clear hfr_1 hcr_1 hfr_0 hcr_0 FHU hXr hB
  have hB := hB'; have hXr := hXr'; have FHU := FHU'
  clear hB' hXr' FHU'
  have hcr_0 := hXr.c0; have hfr_0 := hXr.free 0; have hcr_1 := hXr.c1; have hfr_1 := hXr.free 1
  refine bodyPost_ret (v := .tuple #[.agg #[Value.bool false, Value.slice none 0 0], .bool false]) (by simp [results, Tryz.results51, go_sem, hcr_0, hcr_1]) rfl ?_
  refine ⟨_, by rw [HOK.out], ?_, hB⟩
  rw [parZ_no HOK.out]; exact IO.nilZ _ _ _

set_option maxRecDepth 100000 in
set_option maxHeartbeats 1000000 in
theorem numParse_empty (s : ByteArray) (w : World) (hs1 : s.size ≤ 1000000) (ho : okT (restZ s.data.toList) = true) (hs : signZ s.data.toList = true) (hl : (((ofR (restZ s.data.toList)).length : Int) == 0) = true) :
    Calls Tryz.prog 51 #[.string s] w fun e w' => ∃ x, e = .returned (.tuple #[x, .bool (okZ s.data.toList)]) ∧ IO w' w.heap.size 103 x (parZ s.data.toList) ∧ Below w.heap.size w w' := by
  have HOK : Hid (okZ s.data.toList = false) := by unfold Hid okZ; rw [ho, hs, hl]; rfl
  have HG := Lib.hid hs
  go_enter Tryz.func51, Tryz.ntmps51
  go_wp2_with fail
  have hB := Below.refl w.heap.size w
  have hbs := hB.size
  have hgr : w.heap.size ≤ w.heap.size := by omega
  clear hbs
  refine calls_gen fun W1 hW => ?_
  have hm1 : w.heap.size ≤ W1.heap.size := by rw [hW]; (first | omega | (simp only [size_alloc, size_drew, size_drewN, size_set]; omega) | (simp only [size_alloc, size_drew, size_drewN, size_set]; done))
  have hB' : Below w.heap.size w W1 := by rw [hW]; (repeat (first | (with_reducible assumption) | exact Below.refl _ _ | (with_reducible refine Below.drew ?_) | (with_reducible refine belowN ?_ _) | (with_reducible refine bw_alloc ?_ _) | ((with_reducible refine bw_set ?_ ?_ _ _); (focus (with_reducible assumption)))))
  have hXr' : Box W1 (w.heap.size) [Value.bool false, Value.slice none 0 0] := by rw [hW]; (repeat (first | (with_reducible assumption) | (with_reducible refine Box.drew ?_) | (with_reducible refine Box.drewN ?_ _) | ((with_reducible refine Box.new _ _ ?_ ?_); (focus (first | (with_reducible exact rfl) | (simp only [size_alloc, size_drew, size_drewN, size_set]; done))); (focus (exact rfl))) | (with_reducible refine Box.alloc ?_ _) | ((with_reducible refine Box.put ?_ ?_ _ _ ?_); rotate_left) | ((with_reducible refine Box.set ?_ ?_ _ _); (focus (first | (with_reducible assumption) | (refine Ne.symm ?_; (with_reducible assumption))))) | (exact rfl)))
  clear hW
  clear hB
  have hB := hB'; have hXr := hXr'
  clear hB' hXr'
  have hcr_0 := hXr.c0; have hfr_0 := hXr.free 0; have hcr_1 := hXr.c1; have hfr_1 := hXr.free 1
  refine (strings_CutP s _).mono ?_
  rintro e W1' ⟨rfl, rfl⟩
  rw [HG.out]
  obtain ⟨R, hR⟩ : ∃ R, R = restZ s.data.toList := ⟨_, rfl⟩
  have HRL : Hid ((⟨R.toArray⟩ : ByteArray).size ≤ 1000000) := by rw [hR]; exact restZ_size hs1
  have HO : Hid (okT R = true) := by rw [hR]; exact ho
  have HL : Hid ((((ofR R).length : Int) == 0) = true) := by rw [hR]; exact hl
  have HR := Lib.hid hR
  rw [← hR]
  clear hR
  go_wp2_with fail
  refine (natOf_any ⟨R.toArray⟩ _ HRL.out).mono ?_
  rintro e W2 ⟨u, rfl, hu, hb⟩
  rw [show (⟨R.toArray⟩ : ByteArray).data.toList = R from rfl] at hu ⊢
  obtain ⟨uo, uc, rfl⟩ := rd_sl hu.rd
  rw [HO.out]
  have hlen := HL.out
  have hL : Below W1.heap.size W1 W2 := hb
  have hm2 := hL.size
  have hB' := bw_below hB hL
  have hXr' := hXr.below hL
  have HU := Lib.hid hu
  have hd_HU_r : w.heap.size < W1.heap.size ∨ W2.heap.size ≤ w.heap.size := .inl hXr.lt
  have FHU' := Fr.refl (W1.heap.size) W2
  clear hL hb hu
  clear hfr_1 hcr_1 hfr_0 hcr_0 hXr hB
  have hB := hB'; have hXr := hXr'; have FHU := FHU'
  clear hB' hXr' FHU'
  have hcr_0 := hXr.c0; have hfr_0 := hXr.free 0; have hcr_1 := hXr.c1; have hfr_1 := hXr.free 1
  go_wp2_with fail
  refine ret_gen fun W3 hW => ?_
  have hm3 : W2.heap.size ≤ W3.heap.size := by rw [hW]; (first | omega | (simp only [size_alloc, size_drew, size_drewN, size_set]; omega) | (simp only [size_alloc, size_drew, size_drewN, size_set]; done))
  have hB' : Below w.heap.size w W3 := by rw [hW]; (repeat (first | (with_reducible assumption) | exact Below.refl _ _ | (with_reducible refine Below.drew ?_) | (with_reducible refine belowN ?_ _) | (with_reducible refine bw_alloc ?_ _) | ((with_reducible refine bw_set ?_ ?_ _ _); (focus (with_reducible assumption)))))
  have hXr' : Box W3 (w.heap.size) [Value.bool false, Value.slice none 0 0] := by rw [hW]; (repeat (first | (with_reducible assumption) | (with_reducible refine Box.drew ?_) | (with_reducible refine Box.drewN ?_ _) | ((with_reducible refine Box.new _ _ ?_ ?_); (focus (first | (with_reducible exact rfl) | (simp only [size_alloc, size_drew, size_drewN, size_set]; done))); (focus (exact rfl))) | (with_reducible refine Box.alloc ?_ _) | ((with_reducible refine Box.put ?_ ?_ _ _ ?_); rotate_left) | ((with_reducible refine Box.set ?_ ?_ _ _); (focus (first | (with_reducible assumption) | (refine Ne.symm ?_; (with_reducible assumption))))) | (exact rfl)))
  have FHU' : Fr W2 (W1.heap.size) W3 := by rw [hW]; (repeat (first | (with_reducible assumption) | exact Fr.refl _ _ | (with_reducible refine Fr.drew ?_) | (with_reducible refine Fr.drewN ?_ _) | (with_reducible refine Fr.alloc ?_ _) | ((with_reducible refine Fr.set ?_ ?_ _); (focus (with_reducible assumption)))))
  clear hW
  clear hfr_1 hcr_1 hfr_0 hcr_0 FHU hXr hB
  have hB := hB'; have hXr := hXr'; have FHU := FHU'
  clear hB' hXr' FHU'
  have hcr_0 := hXr.c0; have hfr_0 := hXr.free 0; have hcr_1 := hXr.c1; have hfr_1 := hXr.free 1
  refine bodyPost_ret (v := .tuple #[.agg #[Value.bool false, Value.slice none 0 0], .bool false]) (by simp [results, Tryz.results51, go_sem, hcr_0, hcr_1]) rfl ?_
  refine ⟨_, by rw [HOK.out], ?_, hB⟩
  rw [parZ_no HOK.out]; exact IO.nilZ _ _ _

set_option maxRecDepth 100000 in
set_option maxHeartbeats 1000000 in
theorem numParse_neg (s : ByteArray) (w : World) (hs1 : s.size ≤ 1000000) (ho : okT (restZ s.data.toList) = true) (hs : signZ s.data.toList = true) (hl : (((ofR (restZ s.data.toList)).length : Int) == 0) = false) :
    Calls Tryz.prog 51 #[.string s] w fun e w' => ∃ x, e = .returned (.tuple #[x, .bool (okZ s.data.toList)]) ∧ IO w' w.heap.size 103 x (parZ s.data.toList) ∧ Below w.heap.size w w' := by
  have HOK : Hid (okZ s.data.toList = true) := by unfold Hid okZ; rw [ho, hs, hl]; rfl
  have HG := Lib.hid hs
  go_enter Tryz.func51, Tryz.ntmps51
  go_wp2_with fail
  have hB := Below.refl w.heap.size w
  have hbs := hB.size
  have hgr : w.heap.size ≤ w.heap.size := by omega
  clear hbs
  refine calls_gen fun W1 hW => ?_
  have hm1 : w.heap.size ≤ W1.heap.size := by rw [hW]; (first | omega | (simp only [size_alloc, size_drew, size_drewN, size_set]; omega) | (simp only [size_alloc, size_drew, size_drewN, size_set]; done))
  have hB' : Below w.heap.size w W1 := by rw [hW]; (repeat (first | (with_reducible assumption) | exact Below.refl _ _ | (with_reducible refine Below.drew ?_) | (with_reducible refine belowN ?_ _) | (with_reducible refine bw_alloc ?_ _) | ((with_reducible refine bw_set ?_ ?_ _ _); (focus (with_reducible assumption)))))
  have hXr' : Box W1 (w.heap.size) [Value.bool false, Value.slice none 0 0] := by rw [hW]; (repeat (first | (with_reducible assumption) | (with_reducible refine Box.drew ?_) | (with_reducible refine Box.drewN ?_ _) | ((with_reducible refine Box.new _ _ ?_ ?_); (focus (first | (with_reducible exact rfl) | (simp only [size_alloc, size_drew, size_drewN, size_set]; done))); (focus (exact rfl))) | (with_reducible refine Box.alloc ?_ _) | ((with_reducible refine Box.put ?_ ?_ _ _ ?_); rotate_left) | ((with_reducible refine Box.set ?_ ?_ _ _); (focus (first | (with_reducible assumption) | (refine Ne.symm ?_; (with_reducible assumption))))) | (exact rfl)))
  clear hW
  clear hB
  have hB := hB'; have hXr := hXr'
  clear hB' hXr'
  have hcr_0 := hXr.c0; have hfr_0 := hXr.free 0; have hcr_1 := hXr.c1; have hfr_1 := hXr.free 1
  refine (strings_CutP s _).mono ?_
  rintro e W1' ⟨rfl, rfl⟩
  rw [HG.out]
  obtain ⟨R, hR⟩ : ∃ R, R = restZ s.data.toList := ⟨_, rfl⟩
  have HRL : Hid ((⟨R.toArray⟩ : ByteArray).size ≤ 1000000) := by rw [hR]; exact restZ_size hs1
  have HO : Hid (okT R = true) := by rw [hR]; exact ho
  have HL : Hid ((((ofR R).length : Int) == 0) = false) := by rw [hR]; exact hl
  have HR := Lib.hid hR
  rw [← hR]
  clear hR
  go_wp2_with fail
  refine (natOf_any ⟨R.toArray⟩ _ HRL.out).mono ?_
  rintro e W2 ⟨u, rfl, hu, hb⟩
  rw [show (⟨R.toArray⟩ : ByteArray).data.toList = R from rfl] at hu ⊢
  obtain ⟨uo, uc, rfl⟩ := rd_sl hu.rd
  rw [HO.out]
  have hlen := HL.out
  have hL : Below W1.heap.size W1 W2 := hb
  have hm2 := hL.size
  have hB' := bw_below hB hL
  have hXr' := hXr.below hL
  have HU := Lib.hid hu
  have hd_HU_r : w.heap.size < W1.heap.size ∨ W2.heap.size ≤ w.heap.size := .inl hXr.lt
  have FHU' := Fr.refl (W1.heap.size) W2
  clear hL hb hu
  clear hfr_1 hcr_1 hfr_0 hcr_0 hXr hB
  have hB := hB'; have hXr := hXr'; have FHU := FHU'
  clear hB' hXr' FHU'
  have hcr_0 := hXr.c0; have hfr_0 := hXr.free 0; have hcr_1 := hXr.c1; have hfr_1 := hXr.free 1
  go_wp2_with fail
  have hur := (HU.out.fr FHU).rd
  rw [ofR_ok HO.out] at hur
  have hln : (ofR R).length = (digs 1000000000 (numD R)).length := by rw [ofR_ok HO.out]
  have HLN : Hid ((digs 1000000000 (numD R)).length ≤ 1000000) := by rw [← hln]; exact ofR_len HO.out HRL.out
  rw [hln]
  clear hln
  have HUR := Lib.hid hur
  clear hur
  refine (made_n _ _ (numD R) _ HUR.out HLN.out).mono ?_
  rintro e W3 ⟨q, rfl, hq, hb⟩
  rw [show zOf true (numD R) = parZ s.data.toList from by rw [HR.out, parZ_ok HOK.out, HG.out]] at hq
  obtain ⟨qo1, qc1, rfl⟩ := hq.one
  have HQ := Lib.hid (hq.x w.heap.size (hi := w.heap.size + 1) hXr.lt)
  clear hq
  have hL : Below W2.heap.size W2 W3 := hb
  have hm3 := hL.size
  have hB' := bw_below hB hL
  have hXr' := hXr.below hL
  have FHU' := FHU.below hL
  clear hL hb
  clear hfr_1 hcr_1 hfr_0 hcr_0 FHU hXr hB
  have hB := hB'; have hXr := hXr'; have FHU := FHU'
  clear hB' hXr' FHU'
  have hcr_0 := hXr.c0; have hfr_0 := hXr.free 0; have hcr_1 := hXr.c1; have hfr_1 := hXr.free 1
  obtain ⟨Z, hZ⟩ : ∃ Z, Z = parZ s.data.toList := ⟨_, rfl⟩
  have HQ0 := HQ.out
  have HZB : Hid (ZB Z 1000000) := by rw [hZ, parZ_ok HOK.out, HG.out, ← HR.out]; exact Lib.hid (zb_of_len HLN.out)
  rw [← hZ] at HQ0 ⊢
  clear HQ
  have HQ := Lib.hid HQ0
  have HZ := Lib.hid hZ
  clear HQ0 hZ
  go_wp2_with fail
  refine (outX_any _ Z _ _ _ _ HQ.out HZB.out).mono ?_
  rintro e W4 ⟨q2, rfl, hq2, hb⟩
  obtain ⟨qo, qc, rfl⟩ := hq2.one
  have HQ2 := Lib.hid hq2
  clear hq2
  have hL : Below W3.heap.size W3 W4 := hb
  have hm4 := hL.size
  have hB' := bw_below hB hL
  have hXr' := hXr.below hL
  have FHU' := FHU.below hL
  clear hL hb
  clear hfr_1 hcr_1 hfr_0 hcr_0 FHU hXr hB
  have hB := hB'; have hXr := hXr'; have FHU := FHU'
  clear hB' hXr' FHU'
  have hcr_0 := hXr.c0; have hfr_0 := hXr.free 0; have hcr_1 := hXr.c1; have hfr_1 := hXr.free 1
  go_wp2_with fail
  have hinr : w.heap.size < w.heap.size + 1 := by omega
  have hq0 := HQ2.out
  refine ret_gen fun W5 hW => ?_
  have hm5 : W4.heap.size ≤ W5.heap.size := by rw [hW]; (first | omega | (simp only [size_alloc, size_drew, size_drewN, size_set]; omega) | (simp only [size_alloc, size_drew, size_drewN, size_set]; done))
  have hB' : Below w.heap.size w W5 := by rw [hW]; (repeat (first | (with_reducible assumption) | exact Below.refl _ _ | (with_reducible refine Below.drew ?_) | (with_reducible refine belowN ?_ _) | (with_reducible refine bw_alloc ?_ _) | ((with_reducible refine bw_set ?_ ?_ _ _); (focus (with_reducible assumption)))))
  have hXr' : Box W5 (w.heap.size) [Value.bool (zNeg (Z)), Value.slice qo (digs 1000000000 (Z).natAbs).length qc] := by rw [hW]; (repeat (first | (with_reducible assumption) | (with_reducible refine Box.drew ?_) | (with_reducible refine Box.drewN ?_ _) | ((with_reducible refine Box.new _ _ ?_ ?_); (focus (first | (with_reducible exact rfl) | (simp only [size_alloc, size_drew, size_drewN, size_set]; done))); (focus (exact rfl))) | (with_reducible refine Box.alloc ?_ _) | ((with_reducible refine Box.put ?_ ?_ _ _ ?_); rotate_left) | ((with_reducible refine Box.set ?_ ?_ _ _); (focus (first | (with_reducible assumption) | (refine Ne.symm ?_; (with_reducible assumption))))) | (exact rfl)))
  have FHU' : Fr W2 (W1.heap.size) W5 := by rw [hW]; (repeat (first | (with_reducible assumption) | exact Fr.refl _ _ | (with_reducible refine Fr.drew ?_) | (with_reducible refine Fr.drewN ?_ _) | (with_reducible refine Fr.alloc ?_ _) | ((with_reducible refine Fr.set ?_ ?_ _); (focus (with_reducible assumption)))))
  have hq' : IOX W5 W2.heap.size w.heap.size (w.heap.size + 1) 103 (.agg #[Value.bool (zNeg (Z)), Value.slice qo (digs 1000000000 (Z).natAbs).length qc]) Z := by rw [hW]; (repeat (first | (with_reducible assumption) | (with_reducible refine IOX.drew ?_) | (with_reducible refine IOX.alloc ?_ _) | ((with_reducible refine IOX.set ?_ ?_ ?_ _ _); (focus (with_reducible assumption)); (focus (with_reducible assumption)))))
  clear hW
  clear hfr_1 hcr_1 hfr_0 hcr_0 FHU hXr hB
  have hB := hB'; have hXr := hXr'; have FHU := FHU'
  clear hB' hXr' FHU'
  have hcr_0 := hXr.c0; have hfr_0 := hXr.free 0; have hcr_1 := hXr.c1; have hfr_1 := hXr.free 1
  refine bodyPost_ret (v := .tuple #[.agg #[Value.bool (zNeg (Z)), Value.slice qo (digs 1000000000 (Z).natAbs).length qc], .bool true]) (by simp [results, Tryz.results51, go_sem, hcr_0, hcr_1]) rfl ?_
  exact ⟨_, by rw [HOK.out], by rw [← HZ.out]; exact hq'.io.low (by omega), hB⟩

set_option maxRecDepth 100000 in
set_option maxHeartbeats 1000000 in
theorem numParse_pos (s : ByteArray) (w : World) (hs1 : s.size ≤ 1000000) (ho : okT (restZ s.data.toList) = true) (hs : signZ s.data.toList = false) :
    Calls Tryz.prog 51 #[.string s] w fun e w' => ∃ x, e = .returned (.tuple #[x, .bool (okZ s.data.toList)]) ∧ IO w' w.heap.size 103 x (parZ s.data.toList) ∧ Below w.heap.size w w' := by
  have HOK : Hid (okZ s.data.toList = true) := by unfold Hid okZ; rw [ho, hs]; rfl
  have HG := Lib.hid hs
  go_enter Tryz.func51, Tryz.ntmps51
  go_wp2_with fail
  have hB := Below.refl w.heap.size w
  have hbs := hB.size
  have hgr : w.heap.size ≤ w.heap.size := by omega
  clear hbs
  refine calls_gen fun W1 hW => ?_
  have hm1 : w.heap.size ≤ W1.heap.size := by rw [hW]; (first | omega | (simp only [size_alloc, size_drew, size_drewN, size_set]; omega) | (simp only [size_alloc, size_drew, size_drewN, size_set]; done))
  have hB' : Below w.heap.size w W1 := by rw [hW]; (repeat (first | (with_reducible assumption) | exact Below.refl _ _ | (with_reducible refine Below.drew ?_) | (with_reducible refine belowN ?_ _) | (with_reducible refine bw_alloc ?_ _) | ((with_reducible refine bw_set ?_ ?_ _ _); (focus (with_reducible assumption)))))
  have hXr' : Box W1 (w.heap.size) [Value.bool false, Value.slice none 0 0] := by rw [hW]; (repeat (first | (with_reducible assumption) | (with_reducible refine Box.drew ?_) | (with_reducible refine Box.drewN ?_ _) | ((with_reducible refine Box.new _ _ ?_ ?_); (focus (first | (with_reducible exact rfl) | (simp only [size_alloc, size_drew, size_drewN, size_set]; done))); (focus (exact rfl))) | (with_reducible refine Box.alloc ?_ _) | ((with_reducible refine Box.put ?_ ?_ _ _ ?_); rotate_left) | ((with_reducible refine Box.set ?_ ?_ _ _); (focus (first | (with_reducible assumption) | (refine Ne.symm ?_; (with_reducible assumption))))) | (exact rfl)))
  clear hW
  clear hB
  have hB := hB'; have hXr := hXr'
  clear hB' hXr'
  have hcr_0 := hXr.c0; have hfr_0 := hXr.free 0; have hcr_1 := hXr.c1; have hfr_1 := hXr.free 1
  refine (strings_CutP s _).mono ?_
  rintro e W1' ⟨rfl, rfl⟩
  rw [HG.out]
  obtain ⟨R, hR⟩ : ∃ R, R = restZ s.data.toList := ⟨_, rfl⟩
  have HRL : Hid ((⟨R.toArray⟩ : ByteArray).size ≤ 1000000) := by rw [hR]; exact restZ_size hs1
  have HO : Hid (okT R = true) := by rw [hR]; exact ho
  have HR := Lib.hid hR
  rw [← hR]
  clear hR
  go_wp2_with fail
  refine (natOf_any ⟨R.toArray⟩ _ HRL.out).mono ?_
  rintro e W2 ⟨u, rfl, hu, hb⟩
  rw [show (⟨R.toArray⟩ : ByteArray).data.toList = R from rfl] at hu ⊢
  obtain ⟨uo, uc, rfl⟩ := rd_sl hu.rd
  rw [HO.out]
  have hL : Below W1.heap.size W1 W2 := hb
  have hm2 := hL.size
  have hB' := bw_below hB hL
  have hXr' := hXr.below hL
  have HU := Lib.hid hu
  have hd_HU_r : w.heap.size < W1.heap.size ∨ W2.heap.size ≤ w.heap.size := .inl hXr.lt
  have FHU' := Fr.refl (W1.heap.size) W2
  clear hL hb hu
  clear hfr_1 hcr_1 hfr_0 hcr_0 hXr hB
  have hB := hB'; have hXr := hXr'; have FHU := FHU'
  clear hB' hXr' FHU'
  have hcr_0 := hXr.c0; have hfr_0 := hXr.free 0; have hcr_1 := hXr.c1; have hfr_1 := hXr.free 1
  go_wp2_with fail
  have hur := (HU.out.fr FHU).rd
  rw [ofR_ok HO.out] at hur
  have hln : (ofR R).length = (digs 1000000000 (numD R)).length := by rw [ofR_ok HO.out]
  have HLN : Hid ((digs 1000000000 (numD R)).length ≤ 1000000) := by rw [← hln]; exact ofR_len HO.out HRL.out
  rw [hln]
  clear hln
  have HUR := Lib.hid hur
  clear hur
  refine (made_n _ _ (numD R) _ HUR.out HLN.out).mono ?_
  rintro e W3 ⟨q, rfl, hq, hb⟩
  rw [show zOf false (numD R) = parZ s.data.toList from by rw [HR.out, parZ_ok HOK.out, HG.out]] at hq
  obtain ⟨qo1, qc1, rfl⟩ := hq.one
  have HQ := Lib.hid (hq.x w.heap.size (hi := w.heap.size + 1) hXr.lt)
  clear hq
  have hL : Below W2.heap.size W2 W3 := hb
  have hm3 := hL.size
  have hB' := bw_below hB hL
  have hXr' := hXr.below hL
  have FHU' := FHU.below hL
  clear hL hb
  clear hfr_1 hcr_1 hfr_0 hcr_0 FHU hXr hB
  have hB := hB'; have hXr := hXr'; have FHU := FHU'
  clear hB' hXr' FHU'
  have hcr_0 := hXr.c0; have hfr_0 := hXr.free 0; have hcr_1 := hXr.c1; have hfr_1 := hXr.free 1
  obtain ⟨Z, hZ⟩ : ∃ Z, Z = parZ s.data.toList := ⟨_, rfl⟩
  have HQ0 := HQ.out
  have HZB : Hid (ZB Z 1000000) := by rw [hZ, parZ_ok HOK.out, HG.out, ← HR.out]; exact Lib.hid (zb_of_len HLN.out)
  rw [← hZ] at HQ0 ⊢
  clear HQ
  have HQ := Lib.hid HQ0
  have HZ := Lib.hid hZ
  clear HQ0 hZ
  go_wp2_with fail
  refine (outX_any _ Z _ _ _ _ HQ.out HZB.out).mono ?_
  rintro e W4 ⟨q2, rfl, hq2, hb⟩
  obtain ⟨qo, qc, rfl⟩ := hq2.one
  have HQ2 := Lib.hid hq2
  clear hq2
  have hL : Below W3.heap.size W3 W4 := hb
  have hm4 := hL.size
  have hB' := bw_below hB hL
  have hXr' := hXr.below hL
  have FHU' := FHU.below hL
  clear hL hb
  clear hfr_1 hcr_1 hfr_0 hcr_0 FHU hXr hB
  have hB := hB'; have hXr := hXr'; have FHU := FHU'
  clear hB' hXr' FHU'
  have hcr_0 := hXr.c0; have hfr_0 := hXr.free 0; have hcr_1 := hXr.c1; have hfr_1 := hXr.free 1
  go_wp2_with fail
  have hinr : w.heap.size < w.heap.size + 1 := by omega
  have hq0 := HQ2.out
  refine ret_gen fun W5 hW => ?_
  have hm5 : W4.heap.size ≤ W5.heap.size := by rw [hW]; (first | omega | (simp only [size_alloc, size_drew, size_drewN, size_set]; omega) | (simp only [size_alloc, size_drew, size_drewN, size_set]; done))
  have hB' : Below w.heap.size w W5 := by rw [hW]; (repeat (first | (with_reducible assumption) | exact Below.refl _ _ | (with_reducible refine Below.drew ?_) | (with_reducible refine belowN ?_ _) | (with_reducible refine bw_alloc ?_ _) | ((with_reducible refine bw_set ?_ ?_ _ _); (focus (with_reducible assumption)))))
  have hXr' : Box W5 (w.heap.size) [Value.bool (zNeg (Z)), Value.slice qo (digs 1000000000 (Z).natAbs).length qc] := by rw [hW]; (repeat (first | (with_reducible assumption) | (with_reducible refine Box.drew ?_) | (with_reducible refine Box.drewN ?_ _) | ((with_reducible refine Box.new _ _ ?_ ?_); (focus (first | (with_reducible exact rfl) | (simp only [size_alloc, size_drew, size_drewN, size_set]; done))); (focus (exact rfl))) | (with_reducible refine Box.alloc ?_ _) | ((with_reducible refine Box.put ?_ ?_ _ _ ?_); rotate_left) | ((with_reducible refine Box.set ?_ ?_ _ _); (focus (first | (with_reducible assumption) | (refine Ne.symm ?_; (with_reducible assumption))))) | (exact rfl)))
  have FHU' : Fr W2 (W1.heap.size) W5 := by rw [hW]; (repeat (first | (with_reducible assumption) | exact Fr.refl _ _ | (with_reducible refine Fr.drew ?_) | (with_reducible refine Fr.drewN ?_ _) | (with_reducible refine Fr.alloc ?_ _) | ((with_reducible refine Fr.set ?_ ?_ _); (focus (with_reducible assumption)))))
  have hq' : IOX W5 W2.heap.size w.heap.size (w.heap.size + 1) 103 (.agg #[Value.bool (zNeg (Z)), Value.slice qo (digs 1000000000 (Z).natAbs).length qc]) Z := by rw [hW]; (repeat (first | (with_reducible assumption) | (with_reducible refine IOX.drew ?_) | (with_reducible refine IOX.alloc ?_ _) | ((with_reducible refine IOX.set ?_ ?_ ?_ _ _); (focus (with_reducible assumption)); (focus (with_reducible assumption)))))
  clear hW
  clear hfr_1 hcr_1 hfr_0 hcr_0 FHU hXr hB
  have hB := hB'; have hXr := hXr'; have FHU := FHU'
  clear hB' hXr' FHU'
  have hcr_0 := hXr.c0; have hfr_0 := hXr.free 0; have hcr_1 := hXr.c1; have hfr_1 := hXr.free 1
  refine bodyPost_ret (v := .tuple #[.agg #[Value.bool (zNeg (Z)), Value.slice qo (digs 1000000000 (Z).natAbs).length qc], .bool true]) (by simp [results, Tryz.results51, go_sem, hcr_0, hcr_1]) rfl ?_
  exact ⟨_, by rw [HOK.out], by rw [← HZ.out]; exact hq'.io.low (by omega), hB⟩

theorem numParse_any (s : ByteArray) (w : World) (hs1 : s.size ≤ 1000000) :
    Calls Tryz.prog 51 #[.string s] w fun e w' => ∃ x, e = .returned (.tuple #[x, .bool (okZ s.data.toList)]) ∧ IO w' w.heap.size 103 x (parZ s.data.toList) ∧ Below w.heap.size w w' := by
  cases ho : okT (restZ s.data.toList)
  · exact numParse_bad s w hs1 ho
  · cases hs : signZ s.data.toList
    · exact numParse_pos s w hs1 ho hs
    · cases hl : (((ofR (restZ s.data.toList)).length : Int) == 0)
      · exact numParse_neg s w hs1 ho hs hl
      · exact numParse_empty s w hs1 ho hs hl

end Go.Proofs.YtjfncepmpabcnaaGreatDoor
