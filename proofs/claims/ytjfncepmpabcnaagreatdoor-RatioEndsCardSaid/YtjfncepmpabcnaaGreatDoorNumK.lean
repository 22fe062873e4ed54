/- num: texts. -/
import Derived.Test.YtjfncepmpabcnaaGreatDoorNumI
import Derived.Test.YtjfncepmpabcnaaGreatDoorNumJ
import Derived.Test.YtjfncepmpabcnaaGreatDoorDec
namespace Go.Proofs.YtjfncepmpabcnaaGreatDoor
open Go.RowKit
set_option linter.unusedSimpArgs false
set_option linter.unusedVariables false
attribute [local go_sem ↓] Go.wp_at_zero Go.wp_at_succ

/-- A number's text. -/
def zText (z : Int) : List UInt8 := if z < 0 then 45 :: Lib.decDigits z.natAbs else Lib.decDigits z.natAbs
theorem zText_neg {z : Int} (h : zNeg z = true) : zText z = 45 :: Lib.decDigits z.natAbs := by unfold zText; rw [if_pos (zNeg_iff.1 h)]
theorem zText_pos {z : Int} (h : zNeg z = false) : zText z = Lib.decDigits z.natAbs := by unfold zText; rw [if_neg (fun hc => by rw [zNeg_neg hc] at h; cases h)]

/-- What is behind a sign; is there one; is it a number's text; whose. -/
def restZ (l : List UInt8) : List UInt8 := Lib.trimPrefix l [45]
def signZ (l : List UInt8) : Bool := Lib.hasPrefix l [45]
def okZ (l : List UInt8) : Bool := okT (restZ l) && !(signZ l && ((ofR (restZ l)).length : Int) == 0)
def parZ (l : List UInt8) : Int := if okZ l = true then zOf (signZ l) (numD (restZ l)) else 0
theorem parZ_no {l : List UInt8} (h : okZ l = false) : parZ l = 0 := by unfold parZ; rw [h]; rfl
theorem parZ_ok {l : List UInt8} (h : okZ l = true) : parZ l = zOf (signZ l) (numD (restZ l)) := by unfold parZ; rw [if_pos h]
theorem strings_CutP (s : ByteArray) (w : World) :
    Calls Tryz.prog 99 #[.string s, .string ⟨#[45]⟩] w fun e w' => e = .returned (.tuple #[.string ⟨(restZ s.data.toList).toArray⟩, .bool (signZ s.data.toList)]) ∧ w = w' :=
  (Tryz.strings_CutPrefix s ⟨#[45]⟩ w).mono fun _ _ ⟨h1, h2⟩ => ⟨h1, h2.symm⟩
theorem ofR_lenk {R : List UInt8} {k : Nat} (h : okT R = true) (hs : (⟨R.toArray⟩ : ByteArray).size ≤ k) : (ofR R).length ≤ k := by
  have hd : decB R = true := by
    unfold okT at h
    cases hb : decB R
    · rw [hb] at h; simp at h
    · rfl
  have h1 := numD_lt R hd
  have h2 : (⟨R.toArray⟩ : ByteArray).size = R.length := by simp [ByteArray.size]
  rw [ofR_ok h]
  refine digs_length_le _ (by omega) _ _ (Nat.lt_of_lt_of_le h1 ?_)
  exact Nat.le_trans (Nat.pow_le_pow_left (by omega : 10 ≤ 1000000000) _) (Nat.pow_le_pow_right (by omega) (by omega))
theorem digs_lt_len {n k : Nat} (h : (digs 1000000000 n).length ≤ k) : n < 1000000000 ^ k := by
  have := val_lt 1000000000 (digs 1000000000 n) (digs_lt _ (by omega) _)
  rw [val_digs _ (by omega)] at this
  exact Nat.lt_of_lt_of_le this (Nat.pow_le_pow_right (by omega) h)
theorem zb_of_len {neg : Bool} {n k : Nat} (h : (digs 1000000000 n).length ≤ k) : ZB (zOf neg n) k := by
  unfold ZB; rw [zOf_abs]; exact digs_lt_len h

end Go.Proofs.YtjfncepmpabcnaaGreatDoor
