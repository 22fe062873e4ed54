/- The law NatOrder, walked. -/
import Derived.Test.YtopdncbgpolohaaDoorLawO
import Derived.Test.YtopdncbgpolohaaDoorNatRing
namespace Go.Proofs.YtopdncbgpolohaaDoor
open Go.RowKit

theorem bless : ∀ (x y : List UInt8), Op.bytesLess x y = decide (x < y)
  | [], [] => by simp [Op.bytesLess]
  | _ :: _, [] => by simp [Op.bytesLess]
  | [], _ :: _ => by simp [Op.bytesLess]
  | a :: x, b :: y => by
    have h := bless x y
    rcases Nat.lt_trichotomy a.toNat b.toNat with h1 | h1 | h1
    · have h2 : a < b := h1
      simp [Op.bytesLess, h2, List.cons_lt_cons_iff]
    · have h2 : a = b := UInt8.toNat_inj.1 h1
      subst h2
      simp [Op.bytesLess, h]
    · have h3 : ¬ a < b := fun hc => by have h' : a.toNat < b.toNat := hc; omega
      have h4 : a ≠ b := fun hc => by subst hc; omega
      simp [Op.bytesLess, h3, h4, List.cons_lt_cons_iff]
theorem dec_lt_eq {a b : Nat} (h : (Lib.decDigits a).length = (Lib.decDigits b).length) : decide (Lib.decDigits a < Lib.decDigits b) = decide (a < b) := by
  rw [decide_eq_decide]; exact dec_lex h

set_option maxRecDepth 100000 in
set_option maxHeartbeats 16000000 in
theorem natOrder_any (va vb vc : Value) (A B C : List Nat) (w : World) (hA : RdI w va .u32 A) (hA2 : ∀ x ∈ A, x < 4294967296) (hB : RdI w vb .u32 B) (hB2 : ∀ x ∈ B, x < 4294967296) (hC : RdI w vc .u32 C) (hC2 : ∀ x ∈ C, x < 4294967296) (htab : Tab w) :
    Calls Tryd.prog 6 #[va, vb, vc] w fun e w' => e = .returned (.bool true) ∧ Below w.heap.size w w' := by
  obtain ⟨ao0, an0, ac0, rfl⟩ := rd_one hA
  obtain ⟨bo0, bn0, bc0, rfl⟩ := rd_one hB
  obtain ⟨co0, cn0, cc0, rfl⟩ := rd_one hC
  have HAA := Lib.hid hA
  have HA2 := Lib.hid hA2
  have HBB := Lib.hid hB
  have HB2 := Lib.hid hB2
  have HCC := Lib.hid hC
  have HC2 := Lib.hid hC2
  have HT := Lib.hid htab
  clear htab hA hA2 hB hB2 hC hC2
  go_enter Tryd.func6, Tryd.ntmps6
  go_wp2_with fail
  refine (awake_any w HT.out).mono ?_
  rintro e w1 ⟨rfl, hb⟩
  have hs := hb.size
  replace HAA := Lib.hid (HAA.out.keep hb)
  replace HBB := Lib.hid (HBB.out.keep hb)
  replace HCC := Lib.hid (HCC.out.keep hb)
  replace HT := Lib.hid (HT.out.keep hb)
  have HB := Lib.hid hb
  clear hb
  go_wp2_with fail
  refine (few_any _ [A, B, C] _ (rdRows3 w1 .u32 _ _ _ A B C _ _ rfl HAA.out HBB.out HCC.out)).mono ?_
  rintro e w2 ⟨rfl, rfl⟩
  rcases Bool.eq_false_or_eq_true (fewB [A, B, C]) with hf | hf
  rotate_left
  · rw [hf]
    go_wp2_with fail
    go_ret
    exact ⟨rfl, HB.out.alloc hs _⟩
  rw [hf]
  have hfew := few3 hf
  obtain ⟨kA, kB, kC⟩ := hfew
  have NA := NV.of HAA.out HA2.out kA
  have NB := NV.of HBB.out HB2.out kB
  have NC := NV.of HCC.out HC2.out kC
  clear hf HAA HA2 kA HBB HB2 kB HCC HC2 kC
  generalize val 1000000000 A = a at NA
  generalize val 1000000000 B = b at NB
  generalize val 1000000000 C = c at NC
  have hb1 := (Below.refl w1.heap.size w1).alloc (Nat.le_refl _) (.cells #[.slice ao0 an0 ac0, .slice bo0 bn0 bc0, .slice co0 cn0 cc0] 26)
  replace NA := Lib.hid (NA.keep hb1)
  replace NB := Lib.hid (NB.keep hb1)
  replace NC := Lib.hid (NC.keep hb1)
  replace HT := Lib.hid (HT.out.keep hb1)
  replace HB := Lib.hid (HB.out.trans (hb1.mono hs))
  replace hs := Nat.le_trans hs hb1.size
  clear hb1
  generalize (w1.alloc (.cells #[.slice ao0 an0 ac0, .slice bo0 bn0 bc0, .slice co0 cn0 cc0] 26)) = w2 at *
  have hxy : ∃ x : Int, x = cmpI (a : Nat) (b : Nat) ∧ ((x = -1 ∧ a < b) ∨ (x = 0 ∧ a = b) ∨ (x = 1 ∧ b < a)) := by
    refine ⟨_, rfl, ?_⟩
    rcases Nat.lt_trichotomy a b with h | h | h
    · exact .inl ⟨cmpI_lt (by omega), h⟩
    · exact .inr (.inl ⟨cmpI_eq (by omega), h⟩)
    · exact .inr (.inr ⟨cmpI_gt (by omega), h⟩)
  obtain ⟨y, hy, hyc⟩ : ∃ y : Int, y = cmpI (b : Nat) (c : Nat) ∧ ((y ≤ 0 ∧ b ≤ c) ∨ (¬ y ≤ 0 ∧ c < b)) := by
    refine ⟨_, rfl, ?_⟩
    rcases Nat.lt_or_ge c b with h | h
    · exact .inr ⟨by rw [cmpI_gt (by omega)]; omega, h⟩
    · exact .inl ⟨by simp only [cmpI]; split <;> (try split) <;> omega, h⟩
  obtain ⟨z, hz, hzc⟩ : ∃ z : Int, z = cmpI (a : Nat) (c : Nat) ∧ (a ≤ c → ¬ (0 < z)) := by
    refine ⟨_, rfl, fun h => ?_⟩
    simp only [cmpI]; split <;> (try split) <;> omega
  obtain ⟨x, hx, hxc⟩ := hxy
  have HX := Lib.hid hx
  have HY := Lib.hid hy
  have HZ := Lib.hid hz
  clear hx hy hz
  go_wp2_with fail
  refine (cmp2 NA.out NB.out (by omega)).mono ?_
  rintro e w3 ⟨rfl, hb⟩
  have hbs : Below w2.heap.size w2 w3 := hb
  replace HB := Lib.hid (HB.out.trans (hbs.mono hs))
  replace hs := Nat.le_trans hs hbs.size
  replace NA := Lib.hid (NA.out.keep hbs)
  replace NB := Lib.hid (NB.out.keep hbs)
  replace NC := Lib.hid (NC.out.keep hbs)
  replace HT := Lib.hid (HT.out.keep hbs)
  clear hbs hb
  rw [← HX.out]
  go_wp2_with fail
  refine (cmp2 NB.out NC.out (by omega)).mono ?_
  rintro e w4 ⟨rfl, hb⟩
  have hbs : Below w3.heap.size w3 w4 := hb
  replace HB := Lib.hid (HB.out.trans (hbs.mono hs))
  replace hs := Nat.le_trans hs hbs.size
  replace NA := Lib.hid (NA.out.keep hbs)
  replace NB := Lib.hid (NB.out.keep hbs)
  replace NC := Lib.hid (NC.out.keep hbs)
  replace HT := Lib.hid (HT.out.keep hbs)
  clear hbs hb
  rw [← HY.out]
  go_wp2_with fail
  refine (cmp2 NA.out NC.out (by omega)).mono ?_
  rintro e w5 ⟨rfl, hb⟩
  have hbs : Below w4.heap.size w4 w5 := hb
  replace HB := Lib.hid (HB.out.trans (hbs.mono hs))
  replace hs := Nat.le_trans hs hbs.size
  replace NA := Lib.hid (NA.out.keep hbs)
  replace NB := Lib.hid (NB.out.keep hbs)
  replace NC := Lib.hid (NC.out.keep hbs)
  replace HT := Lib.hid (HT.out.keep hbs)
  clear hbs hb
  rw [← HZ.out]
  have HXC := Lib.hid hxc
  have HYC := Lib.hid hyc
  have HZC := Lib.hid hzc
  clear hxc hyc hzc
  rcases HXC.out with ⟨rfl, hab⟩ | ⟨rfl, hab⟩ | ⟨rfl, hab⟩
  · clear HXC
    have hba : cmpI (b : Nat) (a : Nat) = 1 := cmpI_gt (by omega)
    have hac : cmpI ((a + c : Nat) : Int) ((b + c : Nat) : Int) = -1 := cmpI_lt (by omega)
    have HBA := Lib.hid hba
    have HAC := Lib.hid hac
    have HAB := Lib.hid hab
    clear hba hac hab
    go_wp2_with fail
    refine (cmp2 NB.out NA.out (by omega)).mono ?_
    rintro e w6 ⟨rfl, hb⟩
    have hbs : Below w5.heap.size w5 w6 := hb
    replace HB := Lib.hid (HB.out.trans (hbs.mono hs))
    replace hs := Nat.le_trans hs hbs.size
    replace NA := Lib.hid (NA.out.keep hbs)
    replace NB := Lib.hid (NB.out.keep hbs)
    replace NC := Lib.hid (NC.out.keep hbs)
    replace HT := Lib.hid (HT.out.keep hbs)
    clear hbs hb
    rw [HBA.out]
    have hyz : y ≤ 0 ∧ z ≤ 0 ∨ 0 < y := by
      rcases HYC.out with ⟨h1, h2⟩ | ⟨h1, h2⟩
      · have := HZC.out (by have := HAB.out; omega)
        exact .inl ⟨h1, by omega⟩
      · exact .inr (by omega)
    clear HYC HZC
    rcases hyz with ⟨hy0, hz0⟩ | hy0
    all_goals
      go_wp2_with fail
      refine (add2 NA.out NC.out (by omega) rfl).mono ?_
      rintro e w7 ⟨u1, rfl, hu, hb⟩
      have hbs : Below w6.heap.size w6 w7 := hb
      replace HB := Lib.hid (HB.out.trans (hbs.mono hs))
      replace hs := Nat.le_trans hs hbs.size
      replace NA := Lib.hid (NA.out.keep hbs)
      replace NB := Lib.hid (NB.out.keep hbs)
      replace NC := Lib.hid (NC.out.keep hbs)
      replace HT := Lib.hid (HT.out.keep hbs)
      obtain ⟨ao6_0, an6_0, ac6_0, rfl⟩ := hu.one
      have N1 := Lib.hid hu
      clear hbs hu hb
      go_wp2_with fail
      refine (add2 NB.out NC.out (by omega) rfl).mono ?_
      rintro e w8 ⟨u2, rfl, hu, hb⟩
      have hbs : Below w7.heap.size w7 w8 := hb
      replace HB := Lib.hid (HB.out.trans (hbs.mono hs))
      replace hs := Nat.le_trans hs hbs.size
      replace NA := Lib.hid (NA.out.keep hbs)
      replace NB := Lib.hid (NB.out.keep hbs)
      replace NC := Lib.hid (NC.out.keep hbs)
      replace HT := Lib.hid (HT.out.keep hbs)
      replace N1 := Lib.hid (N1.out.keep hbs)
      obtain ⟨ao7_0, an7_0, ac7_0, rfl⟩ := hu.one
      have N2' := Lib.hid hu
      clear hbs hu hb
      go_wp2_with fail
      refine (cmp2 N1.out.nv N2'.out.nv (by omega)).mono ?_
      rintro e w9 ⟨rfl, hb⟩
      have hbs : Below w8.heap.size w8 w9 := hb
      replace HB := Lib.hid (HB.out.trans (hbs.mono hs))
      replace hs := Nat.le_trans hs hbs.size
      clear N1
      clear N2'
      replace NA := Lib.hid (NA.out.keep hbs)
      replace NB := Lib.hid (NB.out.keep hbs)
      replace NC := Lib.hid (NC.out.keep hbs)
      replace HT := Lib.hid (HT.out.keep hbs)
      clear hbs hb
      rw [HAC.out]
      go_wp2_with fail
      refine (trim2 NA.out (by omega)).mono ?_
      rintro e w10 ⟨u1, rfl, hu, hb⟩
      have hbs : Below w9.heap.size w9 w10 := hb
      replace HB := Lib.hid (HB.out.trans (hbs.mono hs))
      replace hs := Nat.le_trans hs hbs.size
      replace NA := Lib.hid (NA.out.keep hbs)
      replace NB := Lib.hid (NB.out.keep hbs)
      replace NC := Lib.hid (NC.out.keep hbs)
      replace HT := Lib.hid (HT.out.keep hbs)
      obtain ⟨ao9_0, an9_0, ac9_0, rfl⟩ := hu.one
      have N1 := Lib.hid hu
      clear hbs hu hb
      go_wp2_with fail
      refine (trim2 NB.out (by omega)).mono ?_
      rintro e w11 ⟨u2, rfl, hu, hb⟩
      have hbs : Below w10.heap.size w10 w11 := hb
      replace HB := Lib.hid (HB.out.trans (hbs.mono hs))
      replace hs := Nat.le_trans hs hbs.size
      replace NA := Lib.hid (NA.out.keep hbs)
      replace NB := Lib.hid (NB.out.keep hbs)
      replace NC := Lib.hid (NC.out.keep hbs)
      replace HT := Lib.hid (HT.out.keep hbs)
      replace N1 := Lib.hid (N1.out.keep hbs)
      obtain ⟨ao10_0, an10_0, ac10_0, rfl⟩ := hu.one
      have N2' := Lib.hid hu
      clear hbs hu hb
      go_wp2_with fail
      refine (same3 N1.out N2'.out (by omega)).mono ?_
      rintro e w12 ⟨rfl, hb⟩
      have hbs : Below w11.heap.size w11 w12 := hb
      replace HB := Lib.hid (HB.out.trans (hbs.mono hs))
      replace hs := Nat.le_trans hs hbs.size
      clear N1
      clear N2'
      replace NA := Lib.hid (NA.out.keep hbs)
      replace NB := Lib.hid (NB.out.keep hbs)
      replace NC := Lib.hid (NC.out.keep hbs)
      replace HT := Lib.hid (HT.out.keep hbs)
      clear hbs hb
      rw [show decide (a = b) = false by have := HAB.out; simp; omega]
      go_wp2_with fail
      refine (text2 NA.out (by omega) HT.out).mono ?_
      rintro e w13 ⟨rfl, hb⟩
      have hbs : Below w12.heap.size w12 w13 := hb
      replace HB := Lib.hid (HB.out.trans (hbs.mono hs))
      replace hs := Nat.le_trans hs hbs.size
      replace NA := Lib.hid (NA.out.keep hbs)
      replace NB := Lib.hid (NB.out.keep hbs)
      replace NC := Lib.hid (NC.out.keep hbs)
      replace HT := Lib.hid (HT.out.keep hbs)
      clear hbs hb
      go_wp2_with fail
      refine (text2 NB.out (by omega) HT.out).mono ?_
      rintro e w14 ⟨rfl, hb⟩
      have hbs : Below w13.heap.size w13 w14 := hb
      replace HB := Lib.hid (HB.out.trans (hbs.mono hs))
      replace hs := Nat.le_trans hs hbs.size
      replace NA := Lib.hid (NA.out.keep hbs)
      replace NB := Lib.hid (NB.out.keep hbs)
      replace NC := Lib.hid (NC.out.keep hbs)
      replace HT := Lib.hid (HT.out.keep hbs)
      clear hbs hb
      go_wp2_with fail
      refine (of2 (n := a) (k := 80) _ NA.out.val_lt (by omega)).mono ?_
      rintro e w15 ⟨u1, rfl, hu, hb⟩
      have hbs : Below w14.heap.size w14 w15 := hb
      replace HB := Lib.hid (HB.out.trans (hbs.mono hs))
      replace hs := Nat.le_trans hs hbs.size
      replace NA := Lib.hid (NA.out.keep hbs)
      replace NB := Lib.hid (NB.out.keep hbs)
      replace NC := Lib.hid (NC.out.keep hbs)
      replace HT := Lib.hid (HT.out.keep hbs)
      obtain ⟨ao14_0, an14_0, ac14_0, rfl⟩ := hu.one
      have N1 := Lib.hid hu
      clear hbs hu hb
      go_wp2_with fail
      refine (trim2 NA.out (by omega)).mono ?_
      rintro e w16 ⟨u2, rfl, hu, hb⟩
      have hbs : Below w15.heap.size w15 w16 := hb
      replace HB := Lib.hid (HB.out.trans (hbs.mono hs))
      replace hs := Nat.le_trans hs hbs.size
      replace NA := Lib.hid (NA.out.keep hbs)
      replace NB := Lib.hid (NB.out.keep hbs)
      replace NC := Lib.hid (NC.out.keep hbs)
      replace HT := Lib.hid (HT.out.keep hbs)
      replace N1 := Lib.hid (N1.out.keep hbs)
      obtain ⟨ao15_0, an15_0, ac15_0, rfl⟩ := hu.one
      have N2' := Lib.hid hu
      clear hbs hu hb
      go_wp2_with fail
      refine (same2 N1.out N2'.out (by omega) rfl).mono ?_
      rintro e w17 ⟨rfl, hb⟩
      have hbs : Below w16.heap.size w16 w17 := hb
      replace HB := Lib.hid (HB.out.trans (hbs.mono hs))
      replace hs := Nat.le_trans hs hbs.size
      clear N1
      clear N2'
      replace NA := Lib.hid (NA.out.keep hbs)
      replace NB := Lib.hid (NB.out.keep hbs)
      replace NC := Lib.hid (NC.out.keep hbs)
      replace HT := Lib.hid (HT.out.keep hbs)
      clear hbs hb
      have hab := HAB.out
      have hmo : (Lib.decDigits a).length ≤ (Lib.decDigits b).length := by rw [Lib.decDigits_length, Lib.decDigits_length]; exact nDigits_mono (by omega)
      have hbl : (Lib.decDigits a).length = (Lib.decDigits b).length → Op.bytesLess (Lib.decDigits a) (Lib.decDigits b) = true := by
        intro h
        rw [bless, dec_lt_eq h]
        simp; omega
      have HBL := Lib.hid hbl
      clear hbl hab
      by_cases hl : (Lib.decDigits a).length = (Lib.decDigits b).length
      · have hll : (((Lib.decDigits a).length : Int) != ((Lib.decDigits b).length : Int)) = false := by simp; omega
        have hn : ¬ (((Lib.decDigits a).length : Int) < ((Lib.decDigits b).length : Int)) := by omega
        have hbl := HBL.out hl
        clear HBL
        go_wp2_with fail
        go_ret
        exact ⟨rfl, HB.out⟩
      · have hll : (((Lib.decDigits a).length : Int) != ((Lib.decDigits b).length : Int)) = true := by simp; omega
        have hn :  (((Lib.decDigits a).length : Int) < ((Lib.decDigits b).length : Int)) := by omega
        clear HBL
        go_wp2_with fail
        go_ret
        exact ⟨rfl, HB.out⟩
  · clear HXC
    have hba : cmpI (b : Nat) (a : Nat) = 0 := cmpI_eq (by omega)
    have hac : cmpI ((a + c : Nat) : Int) ((b + c : Nat) : Int) = 0 := cmpI_eq (by omega)
    have HBA := Lib.hid hba
    have HAC := Lib.hid hac
    have HAB := Lib.hid hab
    clear hba hac hab
    go_wp2_with fail
    refine (cmp2 NB.out NA.out (by omega)).mono ?_
    rintro e w6 ⟨rfl, hb⟩
    have hbs : Below w5.heap.size w5 w6 := hb
    replace HB := Lib.hid (HB.out.trans (hbs.mono hs))
    replace hs := Nat.le_trans hs hbs.size
    replace NA := Lib.hid (NA.out.keep hbs)
    replace NB := Lib.hid (NB.out.keep hbs)
    replace NC := Lib.hid (NC.out.keep hbs)
    replace HT := Lib.hid (HT.out.keep hbs)
    clear hbs hb
    rw [HBA.out]
    have hyz : y ≤ 0 ∧ z ≤ 0 ∨ 0 < y := by
      rcases HYC.out with ⟨h1, h2⟩ | ⟨h1, h2⟩
      · have := HZC.out (by have := HAB.out; omega)
        exact .inl ⟨h1, by omega⟩
      · exact .inr (by omega)
    clear HYC HZC
    rcases hyz with ⟨hy0, hz0⟩ | hy0
    all_goals
      go_wp2_with fail
      refine (add2 NA.out NC.out (by omega) rfl).mono ?_
      rintro e w7 ⟨u1, rfl, hu, hb⟩
      have hbs : Below w6.heap.size w6 w7 := hb
      replace HB := Lib.hid (HB.out.trans (hbs.mono hs))
      replace hs := Nat.le_trans hs hbs.size
      replace NA := Lib.hid (NA.out.keep hbs)
      replace NB := Lib.hid (NB.out.keep hbs)
      replace NC := Lib.hid (NC.out.keep hbs)
      replace HT := Lib.hid (HT.out.keep hbs)
      obtain ⟨ao6_0, an6_0, ac6_0, rfl⟩ := hu.one
      have N1 := Lib.hid hu
      clear hbs hu hb
      go_wp2_with fail
      refine (add2 NB.out NC.out (by omega) rfl).mono ?_
      rintro e w8 ⟨u2, rfl, hu, hb⟩
      have hbs : Below w7.heap.size w7 w8 := hb
      replace HB := Lib.hid (HB.out.trans (hbs.mono hs))
      replace hs := Nat.le_trans hs hbs.size
      replace NA := Lib.hid (NA.out.keep hbs)
      replace NB := Lib.hid (NB.out.keep hbs)
      replace NC := Lib.hid (NC.out.keep hbs)
      replace HT := Lib.hid (HT.out.keep hbs)
      replace N1 := Lib.hid (N1.out.keep hbs)
      obtain ⟨ao7_0, an7_0, ac7_0, rfl⟩ := hu.one
      have N2' := Lib.hid hu
      clear hbs hu hb
      go_wp2_with fail
      refine (cmp2 N1.out.nv N2'.out.nv (by omega)).mono ?_
      rintro e w9 ⟨rfl, hb⟩
      have hbs : Below w8.heap.size w8 w9 := hb
      replace HB := Lib.hid (HB.out.trans (hbs.mono hs))
      replace hs := Nat.le_trans hs hbs.size
      clear N1
      clear N2'
      replace NA := Lib.hid (NA.out.keep hbs)
      replace NB := Lib.hid (NB.out.keep hbs)
      replace NC := Lib.hid (NC.out.keep hbs)
      replace HT := Lib.hid (HT.out.keep hbs)
      clear hbs hb
      rw [HAC.out]
      go_wp2_with fail
      refine (trim2 NA.out (by omega)).mono ?_
      rintro e w10 ⟨u1, rfl, hu, hb⟩
      have hbs : Below w9.heap.size w9 w10 := hb
      replace HB := Lib.hid (HB.out.trans (hbs.mono hs))
      replace hs := Nat.le_trans hs hbs.size
      replace NA := Lib.hid (NA.out.keep hbs)
      replace NB := Lib.hid (NB.out.keep hbs)
      replace NC := Lib.hid (NC.out.keep hbs)
      replace HT := Lib.hid (HT.out.keep hbs)
      obtain ⟨ao9_0, an9_0, ac9_0, rfl⟩ := hu.one
      have N1 := Lib.hid hu
      clear hbs hu hb
      go_wp2_with fail
      refine (trim2 NB.out (by omega)).mono ?_
      rintro e w11 ⟨u2, rfl, hu, hb⟩
      have hbs : Below w10.heap.size w10 w11 := hb
      replace HB := Lib.hid (HB.out.trans (hbs.mono hs))
      replace hs := Nat.le_trans hs hbs.size
      replace NA := Lib.hid (NA.out.keep hbs)
      replace NB := Lib.hid (NB.out.keep hbs)
      replace NC := Lib.hid (NC.out.keep hbs)
      replace HT := Lib.hid (HT.out.keep hbs)
      replace N1 := Lib.hid (N1.out.keep hbs)
      obtain ⟨ao10_0, an10_0, ac10_0, rfl⟩ := hu.one
      have N2' := Lib.hid hu
      clear hbs hu hb
      go_wp2_with fail
      refine (same3 N1.out N2'.out (by omega)).mono ?_
      rintro e w12 ⟨rfl, hb⟩
      have hbs : Below w11.heap.size w11 w12 := hb
      replace HB := Lib.hid (HB.out.trans (hbs.mono hs))
      replace hs := Nat.le_trans hs hbs.size
      clear N1
      clear N2'
      replace NA := Lib.hid (NA.out.keep hbs)
      replace NB := Lib.hid (NB.out.keep hbs)
      replace NC := Lib.hid (NC.out.keep hbs)
      replace HT := Lib.hid (HT.out.keep hbs)
      clear hbs hb
      rw [show decide (a = b) = true by have := HAB.out; simp; omega]
      go_wp2_with fail
      refine (text2 NA.out (by omega) HT.out).mono ?_
      rintro e w13 ⟨rfl, hb⟩
      have hbs : Below w12.heap.size w12 w13 := hb
      replace HB := Lib.hid (HB.out.trans (hbs.mono hs))
      replace hs := Nat.le_trans hs hbs.size
      replace NA := Lib.hid (NA.out.keep hbs)
      replace NB := Lib.hid (NB.out.keep hbs)
      replace NC := Lib.hid (NC.out.keep hbs)
      replace HT := Lib.hid (HT.out.keep hbs)
      clear hbs hb
      go_wp2_with fail
      refine (text2 NB.out (by omega) HT.out).mono ?_
      rintro e w14 ⟨rfl, hb⟩
      have hbs : Below w13.heap.size w13 w14 := hb
      replace HB := Lib.hid (HB.out.trans (hbs.mono hs))
      replace hs := Nat.le_trans hs hbs.size
      replace NA := Lib.hid (NA.out.keep hbs)
      replace NB := Lib.hid (NB.out.keep hbs)
      replace NC := Lib.hid (NC.out.keep hbs)
      replace HT := Lib.hid (HT.out.keep hbs)
      clear hbs hb
      go_wp2_with fail
      refine (of2 (n := a) (k := 80) _ NA.out.val_lt (by omega)).mono ?_
      rintro e w15 ⟨u1, rfl, hu, hb⟩
      have hbs : Below w14.heap.size w14 w15 := hb
      replace HB := Lib.hid (HB.out.trans (hbs.mono hs))
      replace hs := Nat.le_trans hs hbs.size
      replace NA := Lib.hid (NA.out.keep hbs)
      replace NB := Lib.hid (NB.out.keep hbs)
      replace NC := Lib.hid (NC.out.keep hbs)
      replace HT := Lib.hid (HT.out.keep hbs)
      obtain ⟨ao14_0, an14_0, ac14_0, rfl⟩ := hu.one
      have N1 := Lib.hid hu
      clear hbs hu hb
      go_wp2_with fail
      refine (trim2 NA.out (by omega)).mono ?_
      rintro e w16 ⟨u2, rfl, hu, hb⟩
      have hbs : Below w15.heap.size w15 w16 := hb
      replace HB := Lib.hid (HB.out.trans (hbs.mono hs))
      replace hs := Nat.le_trans hs hbs.size
      replace NA := Lib.hid (NA.out.keep hbs)
      replace NB := Lib.hid (NB.out.keep hbs)
      replace NC := Lib.hid (NC.out.keep hbs)
      replace HT := Lib.hid (HT.out.keep hbs)
      replace N1 := Lib.hid (N1.out.keep hbs)
      obtain ⟨ao15_0, an15_0, ac15_0, rfl⟩ := hu.one
      have N2' := Lib.hid hu
      clear hbs hu hb
      go_wp2_with fail
      refine (same2 N1.out N2'.out (by omega) rfl).mono ?_
      rintro e w17 ⟨rfl, hb⟩
      have hbs : Below w16.heap.size w16 w17 := hb
      replace HB := Lib.hid (HB.out.trans (hbs.mono hs))
      replace hs := Nat.le_trans hs hbs.size
      clear N1
      clear N2'
      replace NA := Lib.hid (NA.out.keep hbs)
      replace NB := Lib.hid (NB.out.keep hbs)
      replace NC := Lib.hid (NC.out.keep hbs)
      replace HT := Lib.hid (HT.out.keep hbs)
      clear hbs hb
      have hab := HAB.out
      have hmo : (Lib.decDigits a).length = (Lib.decDigits b).length := by rw [hab]
      have hbl : (Lib.decDigits a).length = (Lib.decDigits b).length → Op.bytesLess (Lib.decDigits a) (Lib.decDigits b) = false := by
        intro h
        rw [bless, dec_lt_eq h]
        simp; omega
      have HBL := Lib.hid hbl
      clear hbl hab
      by_cases hl : (Lib.decDigits a).length = (Lib.decDigits b).length
      · have hll : (((Lib.decDigits a).length : Int) != ((Lib.decDigits b).length : Int)) = false := by simp; omega
        have hn : ¬ (((Lib.decDigits a).length : Int) < ((Lib.decDigits b).length : Int)) := by omega
        have hbl := HBL.out hl
        clear HBL
        go_wp2_with fail
        go_ret
        exact ⟨rfl, HB.out⟩
      · exact absurd hmo hl
  · clear HXC
    have hba : cmpI (b : Nat) (a : Nat) = -1 := cmpI_lt (by omega)
    have hac : cmpI ((a + c : Nat) : Int) ((b + c : Nat) : Int) = 1 := cmpI_gt (by omega)
    have HBA := Lib.hid hba
    have HAC := Lib.hid hac
    have HAB := Lib.hid hab
    clear hba hac hab
    go_wp2_with fail
    refine (cmp2 NB.out NA.out (by omega)).mono ?_
    rintro e w6 ⟨rfl, hb⟩
    have hbs : Below w5.heap.size w5 w6 := hb
    replace HB := Lib.hid (HB.out.trans (hbs.mono hs))
    replace hs := Nat.le_trans hs hbs.size
    replace NA := Lib.hid (NA.out.keep hbs)
    replace NB := Lib.hid (NB.out.keep hbs)
    replace NC := Lib.hid (NC.out.keep hbs)
    replace HT := Lib.hid (HT.out.keep hbs)
    clear hbs hb
    rw [HBA.out]
    go_wp2_with fail
    refine (add2 NA.out NC.out (by omega) rfl).mono ?_
    rintro e w7 ⟨u1, rfl, hu, hb⟩
    have hbs : Below w6.heap.size w6 w7 := hb
    replace HB := Lib.hid (HB.out.trans (hbs.mono hs))
    replace hs := Nat.le_trans hs hbs.size
    replace NA := Lib.hid (NA.out.keep hbs)
    replace NB := Lib.hid (NB.out.keep hbs)
    replace NC := Lib.hid (NC.out.keep hbs)
    replace HT := Lib.hid (HT.out.keep hbs)
    obtain ⟨ao6_0, an6_0, ac6_0, rfl⟩ := hu.one
    have N1 := Lib.hid hu
    clear hbs hu hb
    go_wp2_with fail
    refine (add2 NB.out NC.out (by omega) rfl).mono ?_
    rintro e w8 ⟨u2, rfl, hu, hb⟩
    have hbs : Below w7.heap.size w7 w8 := hb
    replace HB := Lib.hid (HB.out.trans (hbs.mono hs))
    replace hs := Nat.le_trans hs hbs.size
    replace NA := Lib.hid (NA.out.keep hbs)
    replace NB := Lib.hid (NB.out.keep hbs)
    replace NC := Lib.hid (NC.out.keep hbs)
    replace HT := Lib.hid (HT.out.keep hbs)
    replace N1 := Lib.hid (N1.out.keep hbs)
    obtain ⟨ao7_0, an7_0, ac7_0, rfl⟩ := hu.one
    have N2' := Lib.hid hu
    clear hbs hu hb
    go_wp2_with fail
    refine (cmp2 N1.out.nv N2'.out.nv (by omega)).mono ?_
    rintro e w9 ⟨rfl, hb⟩
    have hbs : Below w8.heap.size w8 w9 := hb
    replace HB := Lib.hid (HB.out.trans (hbs.mono hs))
    replace hs := Nat.le_trans hs hbs.size
    clear N1
    clear N2'
    replace NA := Lib.hid (NA.out.keep hbs)
    replace NB := Lib.hid (NB.out.keep hbs)
    replace NC := Lib.hid (NC.out.keep hbs)
    replace HT := Lib.hid (HT.out.keep hbs)
    clear hbs hb
    rw [HAC.out]
    go_wp2_with fail
    refine (trim2 NA.out (by omega)).mono ?_
    rintro e w10 ⟨u1, rfl, hu, hb⟩
    have hbs : Below w9.heap.size w9 w10 := hb
    replace HB := Lib.hid (HB.out.trans (hbs.mono hs))
    replace hs := Nat.le_trans hs hbs.size
    replace NA := Lib.hid (NA.out.keep hbs)
    replace NB := Lib.hid (NB.out.keep hbs)
    replace NC := Lib.hid (NC.out.keep hbs)
    replace HT := Lib.hid (HT.out.keep hbs)
    obtain ⟨ao9_0, an9_0, ac9_0, rfl⟩ := hu.one
    have N1 := Lib.hid hu
    clear hbs hu hb
    go_wp2_with fail
    refine (trim2 NB.out (by omega)).mono ?_
    rintro e w11 ⟨u2, rfl, hu, hb⟩
    have hbs : Below w10.heap.size w10 w11 := hb
    replace HB := Lib.hid (HB.out.trans (hbs.mono hs))
    replace hs := Nat.le_trans hs hbs.size
    replace NA := Lib.hid (NA.out.keep hbs)
    replace NB := Lib.hid (NB.out.keep hbs)
    replace NC := Lib.hid (NC.out.keep hbs)
    replace HT := Lib.hid (HT.out.keep hbs)
    replace N1 := Lib.hid (N1.out.keep hbs)
    obtain ⟨ao10_0, an10_0, ac10_0, rfl⟩ := hu.one
    have N2' := Lib.hid hu
    clear hbs hu hb
    go_wp2_with fail
    refine (same3 N1.out N2'.out (by omega)).mono ?_
    rintro e w12 ⟨rfl, hb⟩
    have hbs : Below w11.heap.size w11 w12 := hb
    replace HB := Lib.hid (HB.out.trans (hbs.mono hs))
    replace hs := Nat.le_trans hs hbs.size
    clear N1
    clear N2'
    replace NA := Lib.hid (NA.out.keep hbs)
    replace NB := Lib.hid (NB.out.keep hbs)
    replace NC := Lib.hid (NC.out.keep hbs)
    replace HT := Lib.hid (HT.out.keep hbs)
    clear hbs hb
    rw [show decide (a = b) = false by have := HAB.out; simp; omega]
    go_wp2_with fail
    refine (text2 NA.out (by omega) HT.out).mono ?_
    rintro e w13 ⟨rfl, hb⟩
    have hbs : Below w12.heap.size w12 w13 := hb
    replace HB := Lib.hid (HB.out.trans (hbs.mono hs))
    replace hs := Nat.le_trans hs hbs.size
    replace NA := Lib.hid (NA.out.keep hbs)
    replace NB := Lib.hid (NB.out.keep hbs)
    replace NC := Lib.hid (NC.out.keep hbs)
    replace HT := Lib.hid (HT.out.keep hbs)
    clear hbs hb
    go_wp2_with fail
    refine (text2 NB.out (by omega) HT.out).mono ?_
    rintro e w14 ⟨rfl, hb⟩
    have hbs : Below w13.heap.size w13 w14 := hb
    replace HB := Lib.hid (HB.out.trans (hbs.mono hs))
    replace hs := Nat.le_trans hs hbs.size
    replace NA := Lib.hid (NA.out.keep hbs)
    replace NB := Lib.hid (NB.out.keep hbs)
    replace NC := Lib.hid (NC.out.keep hbs)
    replace HT := Lib.hid (HT.out.keep hbs)
    clear hbs hb
    go_wp2_with fail
    refine (of2 (n := a) (k := 80) _ NA.out.val_lt (by omega)).mono ?_
    rintro e w15 ⟨u1, rfl, hu, hb⟩
    have hbs : Below w14.heap.size w14 w15 := hb
    replace HB := Lib.hid (HB.out.trans (hbs.mono hs))
    replace hs := Nat.le_trans hs hbs.size
    replace NA := Lib.hid (NA.out.keep hbs)
    replace NB := Lib.hid (NB.out.keep hbs)
    replace NC := Lib.hid (NC.out.keep hbs)
    replace HT := Lib.hid (HT.out.keep hbs)
    obtain ⟨ao14_0, an14_0, ac14_0, rfl⟩ := hu.one
    have N1 := Lib.hid hu
    clear hbs hu hb
    go_wp2_with fail
    refine (trim2 NA.out (by omega)).mono ?_
    rintro e w16 ⟨u2, rfl, hu, hb⟩
    have hbs : Below w15.heap.size w15 w16 := hb
    replace HB := Lib.hid (HB.out.trans (hbs.mono hs))
    replace hs := Nat.le_trans hs hbs.size
    replace NA := Lib.hid (NA.out.keep hbs)
    replace NB := Lib.hid (NB.out.keep hbs)
    replace NC := Lib.hid (NC.out.keep hbs)
    replace HT := Lib.hid (HT.out.keep hbs)
    replace N1 := Lib.hid (N1.out.keep hbs)
    obtain ⟨ao15_0, an15_0, ac15_0, rfl⟩ := hu.one
    have N2' := Lib.hid hu
    clear hbs hu hb
    go_wp2_with fail
    refine (same2 N1.out N2'.out (by omega) rfl).mono ?_
    rintro e w17 ⟨rfl, hb⟩
    have hbs : Below w16.heap.size w16 w17 := hb
    replace HB := Lib.hid (HB.out.trans (hbs.mono hs))
    replace hs := Nat.le_trans hs hbs.size
    clear N1
    clear N2'
    replace NA := Lib.hid (NA.out.keep hbs)
    replace NB := Lib.hid (NB.out.keep hbs)
    replace NC := Lib.hid (NC.out.keep hbs)
    replace HT := Lib.hid (HT.out.keep hbs)
    clear hbs hb
    have hab := HAB.out
    have hmo : (Lib.decDigits b).length ≤ (Lib.decDigits a).length := by rw [Lib.decDigits_length, Lib.decDigits_length]; exact nDigits_mono (by omega)
    have hbl : (Lib.decDigits a).length = (Lib.decDigits b).length → Op.bytesLess (Lib.decDigits a) (Lib.decDigits b) = false := by
      intro h
      rw [bless, dec_lt_eq h]
      simp; omega
    have HBL := Lib.hid hbl
    clear hbl hab
    by_cases hl : (Lib.decDigits a).length = (Lib.decDigits b).length
    · have hll : (((Lib.decDigits a).length : Int) != ((Lib.decDigits b).length : Int)) = false := by simp; omega
      have hn : ¬ (((Lib.decDigits a).length : Int) < ((Lib.decDigits b).length : Int)) := by omega
      have hbl := HBL.out hl
      clear HBL
      go_wp2_with fail
      go_ret
      exact ⟨rfl, HB.out⟩
    · have hll : (((Lib.decDigits a).length : Int) != ((Lib.decDigits b).length : Int)) = true := by simp; omega
      have hn : ¬ (((Lib.decDigits a).length : Int) < ((Lib.decDigits b).length : Int)) := by omega
      clear HBL
      go_wp2_with fail
      go_ret
      exact ⟨rfl, HB.out⟩

end Go.Proofs.YtopdncbgpolohaaDoor
