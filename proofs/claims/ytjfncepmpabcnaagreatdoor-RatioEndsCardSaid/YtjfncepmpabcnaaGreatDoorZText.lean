/- A number's text is taken back; how long it is. -/
import Derived.Test.YtjfncepmpabcnaaGreatDoorNumK
import Derived.Test.YtjfncepmpabcnaaGreatDoorNumJ
namespace Go.Proofs.YtjfncepmpabcnaaGreatDoor
open Go.RowKit

theorem dec_no45 (n : Nat) : Lib.hasPrefix (Lib.decDigits n) [45] = false := by
  cases h : Lib.decDigits n with
  | nil => exact absurd h (dec_ne n)
  | cons c r =>
    have := dec_decB n
    rw [h] at this
    have hc : isDig c = true := by simpa [decB] using (show isDig c = true ∧ decB r = true by simpa [decB] using this).1
    simp only [isDig, Bool.and_eq_true, decide_eq_true_eq] at hc
    rw [Bool.eq_false_iff]
    intro hp
    simp [Lib.hasPrefix] at hp
    subst hp
    have : (45 : UInt8).toNat = 45 := rfl
    omega
theorem signZ_neg (n : Nat) : signZ (45 :: Lib.decDigits n) = true := by simp [signZ, Lib.hasPrefix]
theorem restZ_neg (n : Nat) : restZ (45 :: Lib.decDigits n) = Lib.decDigits n := by
  simp [restZ, Lib.trimPrefix, Lib.hasPrefix]
theorem signZ_pos (n : Nat) : signZ (Lib.decDigits n) = false := dec_no45 n
theorem restZ_pos (n : Nat) : restZ (Lib.decDigits n) = Lib.decDigits n := by
  unfold restZ Lib.trimPrefix
  rw [dec_no45]; simp
theorem ofR_dec (n : Nat) : ofR (Lib.decDigits n) = digs 1000000000 n := by rw [ofR_ok (dec_okT n), dec_num]
theorem okZ_text (z : Int) : okZ (zText z) = true := by
  cases h : zNeg z
  · rw [zText_pos h, okZ, restZ_pos, signZ_pos, dec_okT]; rfl
  · rw [zText_neg h, okZ, restZ_neg, signZ_neg, dec_okT, ofR_dec]
    have h1 := zNeg_iff.1 h
    have h0 : 0 < z.natAbs := by omega
    have := digs_len0 z.natAbs
    rw [this]
    simp [h0]
theorem parZ_text (z : Int) : parZ (zText z) = z := by
  rw [parZ_ok (okZ_text z)]
  cases h : zNeg z
  · rw [zText_pos h, restZ_pos, signZ_pos, dec_num, ← h, zOf_self]
  · rw [zText_neg h, restZ_neg, signZ_neg, dec_num, ← h, zOf_self]
theorem zText_len {z : Int} {k : Nat} (h : ZB z k) : (zText z).length ≤ 9 * k + 2 := by
  have := dec_len h
  unfold zText
  split
  · simp; omega
  · omega
end Go.Proofs.YtjfncepmpabcnaaGreatDoor
