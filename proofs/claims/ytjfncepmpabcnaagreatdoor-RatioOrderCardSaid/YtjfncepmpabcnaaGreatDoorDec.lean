/- Decimal digits: what they are, how many, what they stand for. -/
import Derived.Test.YtjfncepmpabcnaaGreatDoorNatP
namespace Go.Proofs.YtjfncepmpabcnaaGreatDoor
open Go.RowKit

theorem dig_ofNat {d : Nat} (h : d < 10) : (UInt8.ofNat (48 + d)).toNat = 48 + d := by
  rw [UInt8.toNat_ofNat']; omega
theorem isDig_ofNat {d : Nat} (h : d < 10) : isDig (UInt8.ofNat (48 + d)) = true := by
  simp only [isDig, dig_ofNat h, Bool.and_eq_true, decide_eq_true_eq]; omega
theorem dec_decB (n : Nat) : decB (Lib.decDigits n) = true := by
  induction n using Nat.strongRecOn with
  | _ n ih =>
    by_cases h : n < 10
    · rw [dec_small h]; simp only [decB, List.all_cons, List.all_nil, isDig_ofNat h, Bool.and_self]
    · rw [dec_big (by omega)]
      have h1 := ih (n / 10) (by omega)
      simp only [decB] at h1
      simp only [decB, List.all_append, h1, List.all_cons, List.all_nil, isDig_ofNat (Nat.mod_lt n (by omega)), Bool.and_self]
theorem numD_one (c : UInt8) : numD [c] = c.toNat - 48 := by rw [numD, numF_cons, numF_nil]; omega
theorem dec_num (n : Nat) : numD (Lib.decDigits n) = n := by
  induction n using Nat.strongRecOn with
  | _ n ih =>
    by_cases h : n < 10
    · rw [dec_small h, numD_one, dig_ofNat h]; omega
    · rw [dec_big (by omega), numD_append, ih (n / 10) (by omega), numD_one, dig_ofNat (Nat.mod_lt n (by omega)), List.length_singleton]; omega
theorem bAt_append {l m : List UInt8} (h : 0 < l.length) : bAt (l ++ m) 0 = bAt l 0 := by
  cases l with
  | nil => simp at h
  | cons c r => rfl
theorem dec_first (n : Nat) (h0 : 0 < n) : bAt (Lib.decDigits n) 0 ≠ 48 := by
  induction n using Nat.strongRecOn with
  | _ n ih =>
    by_cases h : n < 10
    · rw [dec_small h]
      have : bAt [UInt8.ofNat (48 + n)] 0 = (UInt8.ofNat (48 + n)).toNat := rfl
      rw [this, dig_ofNat h]; omega
    · rw [dec_big (by omega), bAt_append (List.length_pos_iff.2 (dec_ne _))]
      exact ih (n / 10) (by omega) (by omega)
theorem dec_okT (n : Nat) : okT (Lib.decDigits n) = true := by
  have h1 : (Lib.decDigits n).length ≠ 0 := fun h => dec_ne n (List.length_eq_zero_iff.1 h)
  have h2 : (decide (1 < (Lib.decDigits n).length) && decide (bAt (Lib.decDigits n) 0 = 48)) = false := by
    by_cases h : n < 10
    · rw [dec_small h]; rfl
    · simp [dec_first n (by omega)]
  simp only [okT, h1, decide_false, Bool.false_or, h2, dec_decB, Bool.not_true, Bool.not_false]

theorem lex_num : ∀ (l m : List UInt8), l.length = m.length → decB l = true → decB m = true → (l < m ↔ numD l < numD m) := by
  intro l
  induction l with
  | nil => intro m h _ _; cases m <;> simp at h ⊢
  | cons c r ih =>
    intro m h hl hm
    cases m with
    | nil => simp at h
    | cons d s =>
      have hlen : r.length = s.length := by simpa using h
      have h1 : isDig c = true ∧ decB r = true := by simpa [decB] using hl
      have h2 : isDig d = true ∧ decB s = true := by simpa [decB] using hm
      have hc : 48 ≤ c.toNat ∧ c.toNat ≤ 57 := by have := h1.1; simpa only [isDig, Bool.and_eq_true, decide_eq_true_eq] using this
      have hd : 48 ≤ d.toNat ∧ d.toNat ≤ 57 := by have := h2.1; simpa only [isDig, Bool.and_eq_true, decide_eq_true_eq] using this
      have hr := numD_lt r h1.2
      have hs := numD_lt s h2.2
      rw [hlen] at hr
      have e1 : numD (c :: r) = (c.toNat - 48) * 10 ^ s.length + numD r := by rw [numD, numF_cons, numF_acc, hlen]; congr 2; omega
      have e2 : numD (d :: s) = (d.toNat - 48) * 10 ^ s.length + numD s := by rw [numD, numF_cons, numF_acc]; congr 2; omega
      rw [List.cons_lt_cons_iff, e1, e2, ih s hlen h1.2 h2.2]
      generalize 10 ^ s.length = P at *
      constructor
      · rintro (h | ⟨rfl, h⟩)
        · have h' : c.toNat < d.toNat := h
          have : (c.toNat - 48 + 1) * P ≤ (d.toNat - 48) * P := Nat.mul_le_mul_right _ (by omega)
          rw [Nat.add_mul] at this; omega
        · omega
      · intro h
        rcases Nat.lt_trichotomy c.toNat d.toNat with h3 | h3 | h3
        · exact .inl h3
        · right
          have : c = d := UInt8.toNat_inj.1 h3
          subst this
          exact ⟨rfl, by omega⟩
        · exfalso
          have : (d.toNat - 48 + 1) * P ≤ (c.toNat - 48) * P := Nat.mul_le_mul_right _ (by omega)
          rw [Nat.add_mul] at this; omega
theorem dec_lex {a b : Nat} (h : (Lib.decDigits a).length = (Lib.decDigits b).length) : (Lib.decDigits a < Lib.decDigits b) ↔ a < b := by
  rw [lex_num _ _ h (dec_decB a) (dec_decB b), dec_num, dec_num]
theorem nDigits_mono {a b : Nat} (h : a ≤ b) : Lib.nDigits a ≤ Lib.nDigits b := by
  induction b using Nat.strongRecOn generalizing a with
  | _ b ih =>
    by_cases h1 : a < 10
    · rw [Lib.nDigits_small h1]; exact Lib.nDigits_pos b
    · rw [Lib.nDigits_big h1, Lib.nDigits_big (by omega : ¬ b < 10)]
      have := ih (b / 10) (by omega) (a := a / 10) (by omega)
      omega
theorem dec_len {n k : Nat} (h : n < 1000000000 ^ k) : (Lib.decDigits n).length ≤ 9 * k + 1 := by
  rw [Lib.decDigits_length]
  refine nDigits_le _ _ ?_ (by omega)
  have : (1000000000 : Nat) ^ k ≤ 10 ^ (9 * k + 1) := by
    rw [show (1000000000 : Nat) = 10 ^ 9 from rfl, ← Nat.pow_mul]
    exact Nat.pow_le_pow_right (by omega) (by omega)
  omega


end Go.Proofs.YtjfncepmpabcnaaGreatDoor
