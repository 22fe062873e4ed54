/- The law NatPowers, walked. -/
import Derived.Test.YtopdncbgpolohaaDoorLawO
import Derived.Test.YtopdncbgpolohaaDoorNatRing
namespace Go.Proofs.YtopdncbgpolohaaDoor
open Go.RowKit

theorem few1 {A : List Nat} (h : fewB [A] = true) : A.length ≤ 40 := by
  simp [fewB] at h; exact h
theorem rdRows1 (w : World) (k : IntKind) (v1 : Value) (l1 : List Nat) (b : Nat) (e : TypeId) (hb : b = w.heap.size) (h1 : RdI w v1 k l1) :
    RdRows (w.alloc (.cells #[v1] e)) (.slice (some ⟨b, 0, none⟩) 1 1) k [l1] := by
  have hk := (Below.refl w.heap.size w).alloc (Nat.le_refl _) (.cells #[v1] e)
  refine ⟨_, _, rfl, Nat.le_refl _, by unfold maxLen; omega, fun i hi => ?_⟩
  have hadd : (⟨b, 0, none⟩ : Addr).add i = ⟨b, i, none⟩ := by unfold Addr.add; split <;> simp_all
  match i, hi with
  | 0, _ => exact ⟨_, v1, rfl, by rw [hadd, cell_new _ _ _ _ _ hb]; rfl, h1.keep hk⟩
theorem N2.fit {w : World} {v : Value} {n k : Nat} (h : N2 w v n k) (k' : Nat) (hn : n < 1000000000 ^ k') : N2 w v n k' := ⟨h.1, digs_length_le _ (by omega) _ _ hn⟩
theorem NV.fit {w : World} {v : Value} {n k k' : Nat} (h : NV w v n k) (hk : k ≤ k') : NV w v n k' := by
  obtain ⟨l, h1, h2, h3, h4⟩ := h
  exact ⟨l, h1, h2, Nat.le_trans h3 hk, h4⟩
theorem dec_ten {m : Nat} (h : 0 < m) : Lib.decDigits m ++ [48] = Lib.decDigits (m * 10) := by
  rw [dec_big (n := m * 10) (by omega), Nat.mul_div_cancel _ (by omega), Nat.mul_mod_left]; rfl
theorem cat_one (l : List UInt8) (c : UInt8) : (⟨l.toArray⟩ ++ ⟨#[c]⟩ : ByteArray) = ⟨(l ++ [c]).toArray⟩ := by
  apply ByteArray.ext
  simp [ByteArray.data_append]
theorem ten_lt {i : Nat} (h : i ≤ 60) : (10 : Nat) ^ i < 1000000000 ^ 7 := by
  have : (10 : Nat) ^ i ≤ 10 ^ 60 := Nat.pow_le_pow_right (by omega) h
  omega

set_option maxRecDepth 100000 in
set_option maxHeartbeats 16000000 in
theorem natPowers_any (va : Value) (A : List Nat) (n : Int) (w : World) (hA : RdI w va .u32 A) (hA2 : ∀ x ∈ A, x < 4294967296) (htab : Tab w) :
    Calls Tryd.prog 7 #[va, .int .i64 n] w fun e w' => e = .returned (.bool true) ∧ Below w.heap.size w w' := by
  obtain ⟨ao0, an0, ac0, rfl⟩ := rd_one hA
  have HAA := Lib.hid hA
  have HA2 := Lib.hid hA2
  have HT := Lib.hid htab
  clear htab hA hA2
  go_enter Tryd.func7, Tryd.ntmps7
  go_wp2_with fail
  refine (awake_any w HT.out).mono ?_
  rintro e w1 ⟨rfl, hb⟩
  have hs := hb.size
  replace HAA := Lib.hid (HAA.out.keep hb)
  replace HT := Lib.hid (HT.out.keep hb)
  have HB := Lib.hid hb
  clear hb
  go_wp2_with fail
  refine (few_any _ [A] _ (rdRows1 w1 .u32 _ A _ _ rfl HAA.out)).mono ?_
  rintro e w2 ⟨rfl, rfl⟩
  rcases Bool.eq_false_or_eq_true (fewB [A]) with hf | hf
  rotate_left
  · rw [hf]
    go_wp2_with fail
    go_ret
    exact ⟨rfl, HB.out.alloc hs _⟩
  rw [hf]
  have hfew := few1 hf
  have kA := hfew
  have NA := NV.of HAA.out HA2.out kA
  clear hf hfew HAA HA2 kA
  generalize val 1000000000 A = a at NA
  have hb1 := (Below.refl w1.heap.size w1).alloc (Nat.le_refl _) (.cells #[.slice ao0 an0 ac0] 26)
  replace NA := Lib.hid (NA.keep hb1)
  replace HT := Lib.hid (HT.out.keep hb1)
  replace HB := Lib.hid (HB.out.trans (hb1.mono hs))
  replace hs := Nat.le_trans hs hb1.size
  clear hb1
  generalize (w1.alloc (.cells #[.slice ao0 an0 ac0] 26)) = w2 at *
  by_cases hn0 : n < 0
  · go_wp2_with fail
    go_ret
    exact ⟨rfl, HB.out⟩
  by_cases hn1 : 60 < n
  · go_wp2_with fail
    go_ret
    exact ⟨rfl, HB.out⟩
  obtain ⟨n, rfl⟩ := Int.eq_ofNat_of_zero_le (by omega : 0 ≤ n)
  go_wp2_with fail
  refine (trim2 NA.out (by omega)).mono ?_
  rintro e w3 ⟨u1, rfl, hu, hb⟩
  have hbs : Below w2.heap.size w2 w3 := hb
  replace HB := Lib.hid (HB.out.trans (hbs.mono hs))
  replace hs := Nat.le_trans hs hbs.size
  replace NA := Lib.hid (NA.out.keep hbs)
  replace HT := Lib.hid (HT.out.keep hbs)
  obtain ⟨ao2_0, an2_0, ac2_0, rfl⟩ := hu.one
  have N1 := Lib.hid hu
  clear hbs hu hb
  obtain rfl := N1.out.len
  rcases Nat.eq_zero_or_pos a with ha | ha
  · subst ha
    rw [digs_zero]
    go_wp2_with fail
    go_ret
    exact ⟨rfl, HB.out⟩
  have hne : (((digs 1000000000 a).length : Int) == 0) = false := by
    have : (digs 1000000000 a).length ≠ 0 := fun h => by have := val_digs 1000000000 (by omega) a; rw [List.length_eq_zero_iff.1 h] at this; simp [val] at this; omega
    simp only [beq_eq_false_iff_ne, ne_eq]; omega
  clear N1
  go_wp2_with fail
  refine (text2 NA.out (by omega) HT.out).mono ?_
  rintro e w4 ⟨rfl, hb⟩
  have hbs : Below w3.heap.size w3 w4 := hb
  replace HB := Lib.hid (HB.out.trans (hbs.mono hs))
  replace hs := Nat.le_trans hs hbs.size
  replace NA := Lib.hid (NA.out.keep hbs)
  replace HT := Lib.hid (HT.out.keep hbs)
  clear hbs hb
  go_wp2_with fail
  have HTEN : Hid (NV (w4.alloc (.cells #[.int .u32 1] 32)) (.slice (some ⟨w4.heap.size, 0, none⟩) 1 1) 1 20) := (NV.lit1 _ 1 _ 1 rfl rfl (by omega)).fit (by omega)
  have hbs : Below w4.heap.size w4 (w4.alloc (.cells #[.int .u32 1] 32)) := (Below.refl _ _).alloc (Nat.le_refl _) _
  replace HB := Lib.hid (HB.out.trans (hbs.mono hs))
  replace hs := Nat.le_trans hs hbs.size
  replace NA := Lib.hid (NA.out.keep hbs)
  replace HT := Lib.hid (HT.out.keep hbs)
  clear hbs
  generalize hw0 : (.slice (some ⟨w4.heap.size, 0, none⟩) 1 1 : Value) = ten0 at *
  have hsh : ∃ ao m ac, ten0 = .slice ao m ac := ⟨_, _, _, hw0.symm⟩
  clear hw0
  generalize (w4.alloc (.cells #[.int .u32 1] 32)) = W0 at *
  go_loopw [5, 6, 7] (fun t ten i wr => ∃ k : Nat, i = .int .i64 k ∧ k ≤ n ∧ t = .string ⟨(Lib.decDigits (a * 10 ^ k)).toArray⟩ ∧ NV wr ten (10 ^ k) 20 ∧ (∃ ao m ac, ten = .slice ao m ac) ∧ Below W0.heap.size W0 wr) (fun _ _ i _ => n - (intOf i).toNat)
  case atStart => exact ⟨0, rfl, by omega, by rw [Nat.pow_zero, Nat.mul_one], HTEN.out, hsh, Below.refl _ _⟩
  case round =>
    obtain ⟨k, rfl, hk, rfl, hten, ⟨qo, tm, tc, rfl⟩, hbl⟩ := hrel
    have HTN := Lib.hid hten
    have HBL := Lib.hid hbl
    replace NA := Lib.hid (NA.out.keep hbl)
    replace HB := Lib.hid (HB.out.trans (hbl.mono hs))
    replace hs := Nat.le_trans hs hbl.size
    have hsb := hbl.size
    clear hten hbl
    have hap : 0 < a * 10 ^ k := Nat.mul_pos ha (Nat.pow_pos (by omega))
    have HAP := Lib.hid hap
    clear hap
    have hval : a * 10 ^ k < 1000000000 ^ 88 := by have h1 := NA.out.val_lt; have h2 := ten_lt (i := k) (by omega); exact Nat.lt_of_lt_of_le (mul_lt_pow h1 h2) (Nat.pow_le_pow_right (by omega) (by omega))
    have hdl := dec_len hval
    have HVAL := Lib.hid hval
    clear hval
    by_cases hkn : k < n
    · go_wp2_with fail
      refine (mul2 (b := wr.heap.size + 1) (v1 := .slice qo tm tc) (v2 := .slice (some ⟨wr.heap.size, 0, none⟩) 1 1) (n2 := 10) (k2 := 1) (HTN.out.keep ((Below.refl _ _).alloc (Nat.le_refl _) _)) (NV.lit1 _ 10 _ 10 rfl rfl (by omega)) (by omega) (by simp only [size_alloc])).mono ?_
      rintro e w10 ⟨u, rfl, hu, hb⟩
      go_wp2_with fail
      go_roundw
      case rel =>
        refine ⟨k + 1, by go_num, by omega, ?_, ?_, hu.one, HBL.out.trans ((below1 _ hb).mono hsb)⟩
        · rw [Nat.pow_succ, ← Nat.mul_assoc, ← dec_ten HAP.out]
          rw [← cat_one]
        · rw [Nat.pow_succ]
          rw [Nat.pow_succ] at *
          exact ((hu.fit 7 (by have := ten_lt (i := k + 1) (by omega); rwa [Nat.pow_succ] at this)).nv).fit (by omega)
      case measure => simp [intOf]; omega
    · obtain rfl : k = n := by omega
      clear HAP
      go_wp2_with fail
      refine (of2 (n := a * 10 ^ k) (k := 88) wr HVAL.out (by omega)).mono ?_
      rintro e w10 ⟨u1, rfl, hu, hb⟩
      have hbs : Below wr.heap.size wr w10 := hb
      replace HB := Lib.hid (HB.out.trans (hbs.mono hs))
      replace hs := Nat.le_trans hs hbs.size
      replace NA := Lib.hid (NA.out.keep hbs)
      replace HTN := Lib.hid (HTN.out.keep hbs)
      obtain ⟨ao9_0, an9_0, ac9_0, rfl⟩ := hu.one
      have N1 := Lib.hid hu
      clear hbs hu hb
      go_wp2_with fail
      refine (div2 N1.out.nv HTN.out (by omega) (Nat.pow_pos (by omega))).mono ?_
      rintro e w11 ⟨uq, ur, rfl, hq, hu, hb⟩
      have hbs : Below w10.heap.size w10 w11 := hb
      replace HB := Lib.hid (HB.out.trans (hbs.mono hs))
      replace hs := Nat.le_trans hs hbs.size
      replace NA := Lib.hid (NA.out.keep hbs)
      replace HTN := Lib.hid (HTN.out.keep hbs)
      replace N1 := Lib.hid (N1.out.keep hbs)
      obtain ⟨ao10_0, an10_0, ac10_0, rfl⟩ := hq.one
      have NQ := Lib.hid hq
      obtain ⟨ao10_1, an10_1, ac10_1, rfl⟩ := hu.one
      have NR := Lib.hid hu
      clear hbs hq hu hb
      go_wp2_with fail
      refine (mul2 NA.out HTN.out (by omega) rfl).mono ?_
      rintro e w12 ⟨u3, rfl, hu, hb⟩
      have hbs : Below w11.heap.size w11 w12 := hb
      replace HB := Lib.hid (HB.out.trans (hbs.mono hs))
      replace hs := Nat.le_trans hs hbs.size
      replace NA := Lib.hid (NA.out.keep hbs)
      replace HTN := Lib.hid (HTN.out.keep hbs)
      replace N1 := Lib.hid (N1.out.keep hbs)
      replace NQ := Lib.hid (NQ.out.keep hbs)
      replace NR := Lib.hid (NR.out.keep hbs)
      obtain ⟨ao11_0, an11_0, ac11_0, rfl⟩ := hu.one
      have N3 := Lib.hid hu
      clear hbs hu hb
      go_wp2_with fail
      refine (same2 N1.out N3.out (by omega) rfl).mono ?_
      rintro e w13 ⟨rfl, hb⟩
      have hbs : Below w12.heap.size w12 w13 := hb
      replace HB := Lib.hid (HB.out.trans (hbs.mono hs))
      replace hs := Nat.le_trans hs hbs.size
      clear N3
      replace NA := Lib.hid (NA.out.keep hbs)
      replace HTN := Lib.hid (HTN.out.keep hbs)
      replace N1 := Lib.hid (N1.out.keep hbs)
      replace NQ := Lib.hid (NQ.out.keep hbs)
      replace NR := Lib.hid (NR.out.keep hbs)
      clear hbs hb
      go_wp2_with fail
      refine (trim2 NA.out (by omega)).mono ?_
      rintro e w14 ⟨u4, rfl, hu, hb⟩
      have hbs : Below w13.heap.size w13 w14 := hb
      replace HB := Lib.hid (HB.out.trans (hbs.mono hs))
      replace hs := Nat.le_trans hs hbs.size
      replace NA := Lib.hid (NA.out.keep hbs)
      replace HTN := Lib.hid (HTN.out.keep hbs)
      replace N1 := Lib.hid (N1.out.keep hbs)
      replace NQ := Lib.hid (NQ.out.keep hbs)
      replace NR := Lib.hid (NR.out.keep hbs)
      obtain ⟨ao13_0, an13_0, ac13_0, rfl⟩ := hu.one
      have N4 := Lib.hid hu
      clear hbs hu hb
      go_wp2_with fail
      refine (same2 NQ.out N4.out (by omega) (Nat.mul_div_cancel _ (Nat.pow_pos (by omega)))).mono ?_
      rintro e w15 ⟨rfl, hb⟩
      have hbs : Below w14.heap.size w14 w15 := hb
      replace HB := Lib.hid (HB.out.trans (hbs.mono hs))
      replace hs := Nat.le_trans hs hbs.size
      replace NA := Lib.hid (NA.out.keep hbs)
      replace HTN := Lib.hid (HTN.out.keep hbs)
      replace N1 := Lib.hid (N1.out.keep hbs)
      replace NQ := Lib.hid (NQ.out.keep hbs)
      replace NR := Lib.hid (NR.out.keep hbs)
      replace N4 := Lib.hid (N4.out.keep hbs)
      clear hbs hb
      obtain rfl := NR.out.len
      rw [Nat.mul_mod_left, digs_zero]
      go_wp2_with fail
      go_ret
      exact ⟨rfl, HB.out⟩

end Go.Proofs.YtopdncbgpolohaaDoor
