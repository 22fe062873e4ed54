/- Decimal digits: what they are, how many, what they stand for. -/
import Derived.Test.YtjfncepmpabcnaaGreatDoorNatP
namespace Go.Proofs.YtjfncepmpabcnaaGreatDoor
open Go.RowKit

theorem dig_ofNat {d : Nat} (h : d < 10) : (UInt8.ofNat (48 + d)).toNat = 48 + d := by
  rw [UInt8.toNat_ofNat']; omega
theorem isDig_ofNat {d : Nat} (h : d < 10) : isDig (UInt8.ofNat (48 + d)) = true := by
  simp only [isDig, dig_ofNat h, Bool.and_eq_true, decide_eq_true_eq]; omega
theorem dec_decB (n : Nat) : decB (Lib.decDigits n) = true := by
  induction n using Nat.strongRecOn with
  | _ n ih =>
    by_cases h : n < 10
    · rw [dec_small h]; simp only [decB, List.all_cons, List.all_nil, isDig_ofNat h, Bool.and_self]
    · rw [dec_big (by omega)]
      have h1 := ih (n / 10) (by omega)
      simp only [decB] at h1
      simp only [decB, List.all_append, h1, List.all_cons, List.all_nil, isDig_ofNat (Nat.mod_lt n (by omega)), Bool.and_self]
theorem numD_one (c : UInt8) : numD [c] = c.toNat - 48 := by rw [numD, numF_cons, numF_nil]; omega
theorem dec_num (n : Nat) : numD (Lib.decDigits n) = n := by
  induction n using Nat.strongRecOn with
  | _ n ih =>
    by_cases h : n < 10
    · rw [dec_small h, numD_one, dig_ofNat h]; omega
    · rw [dec_big (by omega), numD_append, ih (n / 10) (by omega), numD_one, dig_ofNat (Nat.mod_lt n (by omega)), List.length_singleton]; omega
theorem bAt_append {l m : List UInt8} (h : 0 < l.length) : bAt (l ++ m) 0 = bAt l 0 := by
  cases l with
  | nil => simp at h
  | cons c r => rfl
theorem dec_first (n : Nat) (h0 : 0 < n) : bAt (Lib.decDigits n) 0 ≠ 48 := by
  induction n using Nat.strongRecOn with
  | _ n ih =>
    by_cases h : n < 10
    · rw [dec_small h]
      have : bAt [UInt8.ofNat (48 + n)] 0 = (UInt8.ofNat (48 + n)).toNat := rfl
      rw [this, dig_ofNat h]; omega
    · rw [dec_big (by omega), bAt_append (List.length_pos_iff.2 (dec_ne _))]
      exact ih (n / 10) (by omega) (by omega)
theorem dec_okT (n : Nat) : okT (Lib.decDigits n) = true := by
  have h1 : (Lib.decDigits n).length ≠ 0 := fun h => dec_ne n (List.length_eq_zero_iff.1 h)
  have h2 : (decide (1 < (Lib.decDigits n).length) && decide (bAt (Lib.decDigits n) 0 = 48)) = false := by
    by_cases h : n < 10
    · rw [dec_small h]; rfl
    · simp [dec_first n (by omega)]
  simp only [okT, h1, decide_false, Bool.false_or, h2, dec_decB, Bool.not_true, Bool.not_false]

theorem dec_len {n k : Nat} (h : n < 1000000000 ^ k) : (Lib.decDigits n).length ≤ 9 * k + 1 := by
  rw [Lib.decDigits_length]
  refine nDigits_le _ _ ?_ (by omega)
  have : (1000000000 : Nat) ^ k ≤ 10 ^ (9 * k + 1) := by
    rw [show (1000000000 : Nat) = 10 ^ 9 from rfl, ← Nat.pow_mul]
    exact Nat.pow_le_pow_right (by omega) (by omega)
  omega


end Go.Proofs.YtjfncepmpabcnaaGreatDoor
