/- The law NatRing, walked. -/
import Derived.Test.YtopdncbgpolohaaDoorLawN
namespace Go.Proofs.YtopdncbgpolohaaDoor
open Go.RowKit

theorem few3 {A B C : List Nat} (h : fewB [A, B, C] = true) : A.length ≤ 40 ∧ B.length ≤ 40 ∧ C.length ≤ 40 := by
  simp [fewB] at h; exact h

set_option maxRecDepth 100000 in
set_option maxHeartbeats 8000000 in
theorem natRing_any (va vb vc : Value) (A B C : List Nat) (w : World) (hA : RdI w va .u32 A) (hA2 : ∀ x ∈ A, x < 4294967296) (hB : RdI w vb .u32 B) (hB2 : ∀ x ∈ B, x < 4294967296) (hC : RdI w vc .u32 C) (hC2 : ∀ x ∈ C, x < 4294967296) (htab : Tab w) :
    Calls Tryd.prog 4 #[va, vb, vc] w fun e w' => e = .returned (.bool true) ∧ Below w.heap.size w w' := by
  obtain ⟨ao0, an0, ac0, rfl⟩ := rd_one hA
  obtain ⟨bo0, bn0, bc0, rfl⟩ := rd_one hB
  obtain ⟨co0, cn0, cc0, rfl⟩ := rd_one hC
  have HA := Lib.hid hA
  have HBB := Lib.hid hB
  have HC := Lib.hid hC
  have HT := Lib.hid htab
  have HA2 := Lib.hid hA2
  have HB2 := Lib.hid hB2
  have HC2 := Lib.hid hC2
  clear hA hA2 hB hB2 hC hC2 htab
  go_enter Tryd.func4, Tryd.ntmps4
  go_wp2_with fail
  refine (awake_any w HT.out).mono ?_
  rintro e w1 ⟨rfl, hb⟩
  have hs := hb.size
  replace HA := Lib.hid (HA.out.keep hb)
  replace HBB := Lib.hid (HBB.out.keep hb)
  replace HC := Lib.hid (HC.out.keep hb)
  have HB := Lib.hid hb
  clear hb HT
  go_wp2_with fail
  refine (few_any _ [A, B, C] _ (rdRows3 w1 .u32 _ _ _ A B C _ _ rfl HA.out HBB.out HC.out)).mono ?_
  rintro e w2 ⟨rfl, rfl⟩
  rcases Bool.eq_false_or_eq_true (fewB [A, B, C]) with hf | hf
  rotate_left
  · rw [hf]
    go_wp2_with fail
    go_ret
    exact ⟨rfl, HB.out.alloc hs _⟩
  rw [hf]
  obtain ⟨k1, k2, k3⟩ := few3 hf
  have NA := NV.of HA.out HA2.out k1
  have NB := NV.of HBB.out HB2.out k2
  have NC := NV.of HC.out HC2.out k3
  clear HA HBB HC HA2 HB2 HC2 k1 k2 k3 hf
  generalize val 1000000000 A = a at NA
  generalize val 1000000000 B = b at NB
  generalize val 1000000000 C = c at NC
  have hb1 := (Below.refl w1.heap.size w1).alloc (Nat.le_refl _) (.cells #[.slice ao0 an0 ac0, .slice bo0 bn0 bc0, .slice co0 cn0 cc0] 26)
  replace NA := Lib.hid (NA.keep hb1)
  replace NB := Lib.hid (NB.keep hb1)
  replace NC := Lib.hid (NC.keep hb1)
  replace HB := Lib.hid (HB.out.trans (hb1.mono hs))
  replace hs := Nat.le_trans hs hb1.size
  clear hb1
  generalize (w1.alloc (.cells #[.slice ao0 an0 ac0, .slice bo0 bn0 bc0, .slice co0 cn0 cc0] 26)) = w2 at *
  go_wp2_with fail
  refine (add2 NA.out NB.out (by omega) rfl).mono ?_
  rintro e w3 ⟨us, rfl, hu, hb⟩
  have hbs : Below w2.heap.size w2 w3 := hb
  replace HB := Lib.hid (HB.out.trans (hbs.mono hs))
  replace hs := Nat.le_trans hs hbs.size
  replace NA := Lib.hid (NA.out.keep hbs)
  replace NB := Lib.hid (NB.out.keep hbs)
  replace NC := Lib.hid (NC.out.keep hbs)
  obtain ⟨ao2_0, an2_0, ac2_0, rfl⟩ := hu.one
  have NS := Lib.hid hu
  clear hbs hu hb
  go_wp2_with fail
  refine (mul2 NA.out NB.out (by omega) rfl).mono ?_
  rintro e w4 ⟨up, rfl, hu, hb⟩
  have hbs : Below w3.heap.size w3 w4 := hb
  replace HB := Lib.hid (HB.out.trans (hbs.mono hs))
  replace hs := Nat.le_trans hs hbs.size
  replace NA := Lib.hid (NA.out.keep hbs)
  replace NB := Lib.hid (NB.out.keep hbs)
  replace NC := Lib.hid (NC.out.keep hbs)
  replace NS := Lib.hid (NS.out.keep hbs)
  obtain ⟨ao3_0, an3_0, ac3_0, rfl⟩ := hu.one
  have NP := Lib.hid hu
  clear hbs hu hb
  go_wp2_with fail
  refine (add2 NB.out NA.out (by omega) rfl).mono ?_
  rintro e w5 ⟨u1, rfl, hu, hb⟩
  have hbs : Below w4.heap.size w4 w5 := hb
  replace HB := Lib.hid (HB.out.trans (hbs.mono hs))
  replace hs := Nat.le_trans hs hbs.size
  replace NA := Lib.hid (NA.out.keep hbs)
  replace NB := Lib.hid (NB.out.keep hbs)
  replace NC := Lib.hid (NC.out.keep hbs)
  replace NS := Lib.hid (NS.out.keep hbs)
  replace NP := Lib.hid (NP.out.keep hbs)
  obtain ⟨ao4_0, an4_0, ac4_0, rfl⟩ := hu.one
  have N1 := Lib.hid hu
  clear hbs hu hb
  go_wp2_with fail
  refine (same2 NS.out N1.out (by omega) (Nat.add_comm a b)).mono ?_
  rintro e w6 ⟨rfl, hb⟩
  have hbs : Below w5.heap.size w5 w6 := hb
  replace HB := Lib.hid (HB.out.trans (hbs.mono hs))
  replace hs := Nat.le_trans hs hbs.size
  clear N1
  replace NA := Lib.hid (NA.out.keep hbs)
  replace NB := Lib.hid (NB.out.keep hbs)
  replace NC := Lib.hid (NC.out.keep hbs)
  replace NS := Lib.hid (NS.out.keep hbs)
  replace NP := Lib.hid (NP.out.keep hbs)
  clear hbs hb
  go_wp2_with fail
  refine (mul2 NB.out NA.out (by omega) rfl).mono ?_
  rintro e w7 ⟨u1, rfl, hu, hb⟩
  have hbs : Below w6.heap.size w6 w7 := hb
  replace HB := Lib.hid (HB.out.trans (hbs.mono hs))
  replace hs := Nat.le_trans hs hbs.size
  replace NA := Lib.hid (NA.out.keep hbs)
  replace NB := Lib.hid (NB.out.keep hbs)
  replace NC := Lib.hid (NC.out.keep hbs)
  replace NS := Lib.hid (NS.out.keep hbs)
  replace NP := Lib.hid (NP.out.keep hbs)
  obtain ⟨ao6_0, an6_0, ac6_0, rfl⟩ := hu.one
  have N1 := Lib.hid hu
  clear hbs hu hb
  go_wp2_with fail
  refine (same2 NP.out N1.out (by omega) (Nat.mul_comm a b)).mono ?_
  rintro e w8 ⟨rfl, hb⟩
  have hbs : Below w7.heap.size w7 w8 := hb
  replace HB := Lib.hid (HB.out.trans (hbs.mono hs))
  replace hs := Nat.le_trans hs hbs.size
  clear N1
  replace NA := Lib.hid (NA.out.keep hbs)
  replace NB := Lib.hid (NB.out.keep hbs)
  replace NC := Lib.hid (NC.out.keep hbs)
  replace NS := Lib.hid (NS.out.keep hbs)
  replace NP := Lib.hid (NP.out.keep hbs)
  clear hbs hb
  go_wp2_with fail
  refine (add2 NS.out.nv NC.out (by omega) rfl).mono ?_
  rintro e w9 ⟨u1, rfl, hu, hb⟩
  have hbs : Below w8.heap.size w8 w9 := hb
  replace HB := Lib.hid (HB.out.trans (hbs.mono hs))
  replace hs := Nat.le_trans hs hbs.size
  replace NA := Lib.hid (NA.out.keep hbs)
  replace NB := Lib.hid (NB.out.keep hbs)
  replace NC := Lib.hid (NC.out.keep hbs)
  replace NS := Lib.hid (NS.out.keep hbs)
  replace NP := Lib.hid (NP.out.keep hbs)
  obtain ⟨ao8_0, an8_0, ac8_0, rfl⟩ := hu.one
  have N1 := Lib.hid hu
  clear hbs hu hb
  go_wp2_with fail
  refine (add3 NA.out NB.out NC.out (by omega) rfl).mono ?_
  rintro e w10 ⟨u2, rfl, hu, hb⟩
  have hbs : Below w9.heap.size w9 w10 := hb
  replace HB := Lib.hid (HB.out.trans (hbs.mono hs))
  replace hs := Nat.le_trans hs hbs.size
  replace NA := Lib.hid (NA.out.keep hbs)
  replace NB := Lib.hid (NB.out.keep hbs)
  replace NC := Lib.hid (NC.out.keep hbs)
  replace NS := Lib.hid (NS.out.keep hbs)
  replace NP := Lib.hid (NP.out.keep hbs)
  replace N1 := Lib.hid (N1.out.keep hbs)
  obtain ⟨ao9_0, an9_0, ac9_0, rfl⟩ := hu.one
  have N2' := Lib.hid hu
  clear hbs hu hb
  go_wp2_with fail
  refine (same2 N1.out N2'.out (by omega) rfl).mono ?_
  rintro e w11 ⟨rfl, hb⟩
  have hbs : Below w10.heap.size w10 w11 := hb
  replace HB := Lib.hid (HB.out.trans (hbs.mono hs))
  replace hs := Nat.le_trans hs hbs.size
  clear N1
  clear N2'
  replace NA := Lib.hid (NA.out.keep hbs)
  replace NB := Lib.hid (NB.out.keep hbs)
  replace NC := Lib.hid (NC.out.keep hbs)
  replace NS := Lib.hid (NS.out.keep hbs)
  replace NP := Lib.hid (NP.out.keep hbs)
  clear hbs hb
  go_wp2_with fail
  refine (mul2 NP.out.nv NC.out (by omega) rfl).mono ?_
  rintro e w12 ⟨u1, rfl, hu, hb⟩
  have hbs : Below w11.heap.size w11 w12 := hb
  replace HB := Lib.hid (HB.out.trans (hbs.mono hs))
  replace hs := Nat.le_trans hs hbs.size
  replace NA := Lib.hid (NA.out.keep hbs)
  replace NB := Lib.hid (NB.out.keep hbs)
  replace NC := Lib.hid (NC.out.keep hbs)
  replace NS := Lib.hid (NS.out.keep hbs)
  replace NP := Lib.hid (NP.out.keep hbs)
  obtain ⟨ao11_0, an11_0, ac11_0, rfl⟩ := hu.one
  have N1 := Lib.hid hu
  clear hbs hu hb
  go_wp2_with fail
  refine (mul3 NA.out NB.out NC.out (by omega) rfl).mono ?_
  rintro e w13 ⟨u2, rfl, hu, hb⟩
  have hbs : Below w12.heap.size w12 w13 := hb
  replace HB := Lib.hid (HB.out.trans (hbs.mono hs))
  replace hs := Nat.le_trans hs hbs.size
  replace NA := Lib.hid (NA.out.keep hbs)
  replace NB := Lib.hid (NB.out.keep hbs)
  replace NC := Lib.hid (NC.out.keep hbs)
  replace NS := Lib.hid (NS.out.keep hbs)
  replace NP := Lib.hid (NP.out.keep hbs)
  replace N1 := Lib.hid (N1.out.keep hbs)
  obtain ⟨ao12_0, an12_0, ac12_0, rfl⟩ := hu.one
  have N2' := Lib.hid hu
  clear hbs hu hb
  go_wp2_with fail
  refine (same2 N1.out N2'.out (by omega) rfl).mono ?_
  rintro e w14 ⟨rfl, hb⟩
  have hbs : Below w13.heap.size w13 w14 := hb
  replace HB := Lib.hid (HB.out.trans (hbs.mono hs))
  replace hs := Nat.le_trans hs hbs.size
  clear N1
  clear N2'
  replace NA := Lib.hid (NA.out.keep hbs)
  replace NB := Lib.hid (NB.out.keep hbs)
  replace NC := Lib.hid (NC.out.keep hbs)
  replace NS := Lib.hid (NS.out.keep hbs)
  replace NP := Lib.hid (NP.out.keep hbs)
  clear hbs hb
  go_wp2_with fail
  refine (mul2 NC.out NS.out.nv (by omega) rfl).mono ?_
  rintro e w15 ⟨u1, rfl, hu, hb⟩
  have hbs : Below w14.heap.size w14 w15 := hb
  replace HB := Lib.hid (HB.out.trans (hbs.mono hs))
  replace hs := Nat.le_trans hs hbs.size
  replace NA := Lib.hid (NA.out.keep hbs)
  replace NB := Lib.hid (NB.out.keep hbs)
  replace NC := Lib.hid (NC.out.keep hbs)
  replace NS := Lib.hid (NS.out.keep hbs)
  replace NP := Lib.hid (NP.out.keep hbs)
  obtain ⟨ao14_0, an14_0, ac14_0, rfl⟩ := hu.one
  have N1 := Lib.hid hu
  clear hbs hu hb
  go_wp2_with fail
  refine (mul2 NC.out NA.out (by omega) rfl).mono ?_
  rintro e w16 ⟨u2, rfl, hu, hb⟩
  have hbs : Below w15.heap.size w15 w16 := hb
  replace HB := Lib.hid (HB.out.trans (hbs.mono hs))
  replace hs := Nat.le_trans hs hbs.size
  replace NA := Lib.hid (NA.out.keep hbs)
  replace NB := Lib.hid (NB.out.keep hbs)
  replace NC := Lib.hid (NC.out.keep hbs)
  replace NS := Lib.hid (NS.out.keep hbs)
  replace NP := Lib.hid (NP.out.keep hbs)
  replace N1 := Lib.hid (N1.out.keep hbs)
  obtain ⟨ao15_0, an15_0, ac15_0, rfl⟩ := hu.one
  have N2' := Lib.hid hu
  clear hbs hu hb
  go_wp2_with fail
  refine (mul2 NC.out NB.out (by omega) rfl).mono ?_
  rintro e w17 ⟨u3, rfl, hu, hb⟩
  have hbs : Below w16.heap.size w16 w17 := hb
  replace HB := Lib.hid (HB.out.trans (hbs.mono hs))
  replace hs := Nat.le_trans hs hbs.size
  replace NA := Lib.hid (NA.out.keep hbs)
  replace NB := Lib.hid (NB.out.keep hbs)
  replace NC := Lib.hid (NC.out.keep hbs)
  replace NS := Lib.hid (NS.out.keep hbs)
  replace NP := Lib.hid (NP.out.keep hbs)
  replace N1 := Lib.hid (N1.out.keep hbs)
  replace N2' := Lib.hid (N2'.out.keep hbs)
  obtain ⟨ao16_0, an16_0, ac16_0, rfl⟩ := hu.one
  have N3 := Lib.hid hu
  clear hbs hu hb
  go_wp2_with fail
  refine (add2 N2'.out.nv N3.out.nv (by omega) rfl).mono ?_
  rintro e w18 ⟨u4, rfl, hu, hb⟩
  have hbs : Below w17.heap.size w17 w18 := hb
  replace HB := Lib.hid (HB.out.trans (hbs.mono hs))
  replace hs := Nat.le_trans hs hbs.size
  replace NA := Lib.hid (NA.out.keep hbs)
  replace NB := Lib.hid (NB.out.keep hbs)
  replace NC := Lib.hid (NC.out.keep hbs)
  replace NS := Lib.hid (NS.out.keep hbs)
  replace NP := Lib.hid (NP.out.keep hbs)
  replace N1 := Lib.hid (N1.out.keep hbs)
  replace N2' := Lib.hid (N2'.out.keep hbs)
  replace N3 := Lib.hid (N3.out.keep hbs)
  obtain ⟨ao17_0, an17_0, ac17_0, rfl⟩ := hu.one
  have N4 := Lib.hid hu
  clear hbs hu hb
  go_wp2_with fail
  refine (same2 N1.out N4.out (by omega) (Nat.mul_add c a b)).mono ?_
  rintro e w19 ⟨rfl, hb⟩
  have hbs : Below w18.heap.size w18 w19 := hb
  replace HB := Lib.hid (HB.out.trans (hbs.mono hs))
  replace hs := Nat.le_trans hs hbs.size
  clear N1
  clear N2'
  clear N3
  clear N4
  replace NA := Lib.hid (NA.out.keep hbs)
  replace NB := Lib.hid (NB.out.keep hbs)
  replace NC := Lib.hid (NC.out.keep hbs)
  replace NS := Lib.hid (NS.out.keep hbs)
  replace NP := Lib.hid (NP.out.keep hbs)
  clear hbs hb
  go_wp2_with fail
  refine (sub2 NS.out.nv NB.out (by omega)).mono ?_
  rintro e w20 ⟨ud, rfl, hu, hb⟩
  have hbs : Below w19.heap.size w19 w20 := hb
  replace HB := Lib.hid (HB.out.trans (hbs.mono hs))
  replace hs := Nat.le_trans hs hbs.size
  replace NA := Lib.hid (NA.out.keep hbs)
  replace NB := Lib.hid (NB.out.keep hbs)
  replace NC := Lib.hid (NC.out.keep hbs)
  replace NS := Lib.hid (NS.out.keep hbs)
  replace NP := Lib.hid (NP.out.keep hbs)
  obtain ⟨ao19_0, an19_0, ac19_0, rfl⟩ := hu.one
  have ND := Lib.hid hu
  clear hbs hu hb
  rw [decide_eq_true (Nat.le_add_left b a)]
  go_wp2_with fail
  refine (add2 (b := w20.heap.size + 1) (v1 := .slice bo0 bn0 bc0) (v2 := .slice (some ⟨w20.heap.size, 0, none⟩) 1 1) (n2 := 1) (k2 := 1) (NB.out.keep ((Below.refl _ _).alloc (Nat.le_refl _) _)) (NV.lit1 _ 1 _ 1 rfl rfl (by omega)) (by omega) (by simp only [size_alloc])).mono ?_
  rintro e w21 ⟨u1, rfl, hu, hb⟩
  have hbs : Below w20.heap.size w20 w21 := below1 _ hb
  replace HB := Lib.hid (HB.out.trans (hbs.mono hs))
  replace hs := Nat.le_trans hs hbs.size
  replace NA := Lib.hid (NA.out.keep hbs)
  replace NB := Lib.hid (NB.out.keep hbs)
  replace NC := Lib.hid (NC.out.keep hbs)
  replace NS := Lib.hid (NS.out.keep hbs)
  replace NP := Lib.hid (NP.out.keep hbs)
  replace ND := Lib.hid (ND.out.keep hbs)
  obtain ⟨ao20_0, an20_0, ac20_0, rfl⟩ := hu.one
  have N1 := Lib.hid hu
  clear hbs hu hb
  go_wp2_with fail
  refine (sub2 NB.out N1.out.nv (by omega)).mono ?_
  rintro e w22 ⟨u2, rfl, hu, hb⟩
  have hbs : Below w21.heap.size w21 w22 := hb
  replace HB := Lib.hid (HB.out.trans (hbs.mono hs))
  replace hs := Nat.le_trans hs hbs.size
  clear N1
  replace NA := Lib.hid (NA.out.keep hbs)
  replace NB := Lib.hid (NB.out.keep hbs)
  replace NC := Lib.hid (NC.out.keep hbs)
  replace NS := Lib.hid (NS.out.keep hbs)
  replace NP := Lib.hid (NP.out.keep hbs)
  replace ND := Lib.hid (ND.out.keep hbs)
  clear hbs hb
  rw [decide_eq_false (Nat.not_succ_le_self b)]
  go_wp2_with fail
  refine (trim2 NA.out (by omega)).mono ?_
  rintro e w23 ⟨u1, rfl, hu, hb⟩
  have hbs : Below w22.heap.size w22 w23 := hb
  replace HB := Lib.hid (HB.out.trans (hbs.mono hs))
  replace hs := Nat.le_trans hs hbs.size
  replace NA := Lib.hid (NA.out.keep hbs)
  replace NB := Lib.hid (NB.out.keep hbs)
  replace NC := Lib.hid (NC.out.keep hbs)
  replace NS := Lib.hid (NS.out.keep hbs)
  replace NP := Lib.hid (NP.out.keep hbs)
  replace ND := Lib.hid (ND.out.keep hbs)
  obtain ⟨ao22_0, an22_0, ac22_0, rfl⟩ := hu.one
  have N1 := Lib.hid hu
  clear hbs hu hb
  go_wp2_with fail
  refine (same2 ND.out N1.out (by omega) (Nat.add_sub_cancel ..)).mono ?_
  rintro e w24 ⟨rfl, hb⟩
  have hbs : Below w23.heap.size w23 w24 := hb
  replace HB := Lib.hid (HB.out.trans (hbs.mono hs))
  replace hs := Nat.le_trans hs hbs.size
  clear N1
  replace NA := Lib.hid (NA.out.keep hbs)
  replace NB := Lib.hid (NB.out.keep hbs)
  replace NC := Lib.hid (NC.out.keep hbs)
  replace NS := Lib.hid (NS.out.keep hbs)
  replace NP := Lib.hid (NP.out.keep hbs)
  replace ND := Lib.hid (ND.out.keep hbs)
  clear hbs hb
  go_wp2_with fail
  refine (right2 NS.out (by omega)).mono ?_
  rintro e wr ⟨rfl, rfl⟩
  go_wp2_with fail
  refine (right2 NP.out (by omega)).mono ?_
  rintro e wr ⟨rfl, rfl⟩
  go_wp2_with fail
  refine (right2 ND.out (by omega)).mono ?_
  rintro e wr ⟨rfl, rfl⟩
  go_wp2_with fail
  rcases Nat.eq_zero_or_pos b with hz | hz
  · subst hz
    refine (div0 NB.out (by omega)).mono ?_
    rintro e w25 ⟨rfl, hb⟩
    have hbs : Below w24.heap.size w24 w25 := hb
    replace HB := Lib.hid (HB.out.trans (hbs.mono hs))
    replace hs := Nat.le_trans hs hbs.size
    replace NA := Lib.hid (NA.out.keep hbs)
    replace NB := Lib.hid (NB.out.keep hbs)
    replace NC := Lib.hid (NC.out.keep hbs)
    replace NS := Lib.hid (NS.out.keep hbs)
    replace NP := Lib.hid (NP.out.keep hbs)
    replace ND := Lib.hid (ND.out.keep hbs)
    clear hbs hb
    go_wp2_with fail
    refine (trim2 NB.out (by omega)).mono ?_
    rintro e w26 ⟨u1, rfl, hu, hb⟩
    have hbs : Below w25.heap.size w25 w26 := hb
    replace HB := Lib.hid (HB.out.trans (hbs.mono hs))
    replace hs := Nat.le_trans hs hbs.size
    replace NA := Lib.hid (NA.out.keep hbs)
    replace NB := Lib.hid (NB.out.keep hbs)
    replace NC := Lib.hid (NC.out.keep hbs)
    replace NS := Lib.hid (NS.out.keep hbs)
    replace NP := Lib.hid (NP.out.keep hbs)
    replace ND := Lib.hid (ND.out.keep hbs)
    obtain ⟨ao25_0, an25_0, ac25_0, rfl⟩ := hu.one
    have N1 := Lib.hid hu
    clear hbs hu hb
    obtain rfl := N1.out.len
    rw [digs_zero]
    go_wp2_with fail
    go_ret
    exact ⟨rfl, HB.out⟩
  · refine (div2 NA.out NB.out (by omega) hz).mono ?_
    rintro e w25 ⟨uq, ur, rfl, hq, hu, hb⟩
    have hbs : Below w24.heap.size w24 w25 := hb
    replace HB := Lib.hid (HB.out.trans (hbs.mono hs))
    replace hs := Nat.le_trans hs hbs.size
    replace NA := Lib.hid (NA.out.keep hbs)
    replace NB := Lib.hid (NB.out.keep hbs)
    replace NC := Lib.hid (NC.out.keep hbs)
    replace NS := Lib.hid (NS.out.keep hbs)
    replace NP := Lib.hid (NP.out.keep hbs)
    replace ND := Lib.hid (ND.out.keep hbs)
    obtain ⟨ao24_0, an24_0, ac24_0, rfl⟩ := hq.one
    have NQ := Lib.hid hq
    obtain ⟨ao24_1, an24_1, ac24_1, rfl⟩ := hu.one
    have NR := Lib.hid hu
    clear hbs hq hu hb
    go_wp2_with fail
    refine (right2 NQ.out (by omega)).mono ?_
    rintro e wr ⟨rfl, rfl⟩
    go_wp2_with fail
    refine (right2 NR.out (by omega)).mono ?_
    rintro e wr ⟨rfl, rfl⟩
    go_wp2_with fail
    refine (cmp2 NR.out.nv NB.out (by omega)).mono ?_
    rintro e w26 ⟨rfl, hb⟩
    have hbs : Below w25.heap.size w25 w26 := hb
    replace HB := Lib.hid (HB.out.trans (hbs.mono hs))
    replace hs := Nat.le_trans hs hbs.size
    replace NA := Lib.hid (NA.out.keep hbs)
    replace NB := Lib.hid (NB.out.keep hbs)
    replace NC := Lib.hid (NC.out.keep hbs)
    replace NS := Lib.hid (NS.out.keep hbs)
    replace NP := Lib.hid (NP.out.keep hbs)
    replace ND := Lib.hid (ND.out.keep hbs)
    replace NQ := Lib.hid (NQ.out.keep hbs)
    replace NR := Lib.hid (NR.out.keep hbs)
    clear hbs hb
    rw [cmpI_lt (Int.ofNat_lt.2 (Nat.mod_lt a hz))]
    go_wp2_with fail
    refine (mul2 NQ.out.nv NB.out (by omega) rfl).mono ?_
    rintro e w27 ⟨u1, rfl, hu, hb⟩
    have hbs : Below w26.heap.size w26 w27 := hb
    replace HB := Lib.hid (HB.out.trans (hbs.mono hs))
    replace hs := Nat.le_trans hs hbs.size
    replace NA := Lib.hid (NA.out.keep hbs)
    replace NB := Lib.hid (NB.out.keep hbs)
    replace NC := Lib.hid (NC.out.keep hbs)
    replace NS := Lib.hid (NS.out.keep hbs)
    replace NP := Lib.hid (NP.out.keep hbs)
    replace ND := Lib.hid (ND.out.keep hbs)
    replace NQ := Lib.hid (NQ.out.keep hbs)
    replace NR := Lib.hid (NR.out.keep hbs)
    obtain ⟨ao26_0, an26_0, ac26_0, rfl⟩ := hu.one
    have N1 := Lib.hid hu
    clear hbs hu hb
    go_wp2_with fail
    refine (add2 N1.out.nv NR.out.nv (by omega) rfl).mono ?_
    rintro e w28 ⟨u2, rfl, hu, hb⟩
    have hbs : Below w27.heap.size w27 w28 := hb
    replace HB := Lib.hid (HB.out.trans (hbs.mono hs))
    replace hs := Nat.le_trans hs hbs.size
    replace NA := Lib.hid (NA.out.keep hbs)
    replace NB := Lib.hid (NB.out.keep hbs)
    replace NC := Lib.hid (NC.out.keep hbs)
    replace NS := Lib.hid (NS.out.keep hbs)
    replace NP := Lib.hid (NP.out.keep hbs)
    replace ND := Lib.hid (ND.out.keep hbs)
    replace NQ := Lib.hid (NQ.out.keep hbs)
    replace NR := Lib.hid (NR.out.keep hbs)
    replace N1 := Lib.hid (N1.out.keep hbs)
    obtain ⟨ao27_0, an27_0, ac27_0, rfl⟩ := hu.one
    have N2' := Lib.hid hu
    clear hbs hu hb
    go_wp2_with fail
    refine (trim2 NA.out (by omega)).mono ?_
    rintro e w29 ⟨u3, rfl, hu, hb⟩
    have hbs : Below w28.heap.size w28 w29 := hb
    replace HB := Lib.hid (HB.out.trans (hbs.mono hs))
    replace hs := Nat.le_trans hs hbs.size
    replace NA := Lib.hid (NA.out.keep hbs)
    replace NB := Lib.hid (NB.out.keep hbs)
    replace NC := Lib.hid (NC.out.keep hbs)
    replace NS := Lib.hid (NS.out.keep hbs)
    replace NP := Lib.hid (NP.out.keep hbs)
    replace ND := Lib.hid (ND.out.keep hbs)
    replace NQ := Lib.hid (NQ.out.keep hbs)
    replace NR := Lib.hid (NR.out.keep hbs)
    replace N1 := Lib.hid (N1.out.keep hbs)
    replace N2' := Lib.hid (N2'.out.keep hbs)
    obtain ⟨ao28_0, an28_0, ac28_0, rfl⟩ := hu.one
    have N3 := Lib.hid hu
    clear hbs hu hb
    go_wp2_with fail
    refine (same2 N2'.out N3.out (by omega) (Nat.div_add_mod' a b)).mono ?_
    rintro e w30 ⟨rfl, hb⟩
    have hbs : Below w29.heap.size w29 w30 := hb
    replace HB := Lib.hid (HB.out.trans (hbs.mono hs))
    replace hs := Nat.le_trans hs hbs.size
    replace NA := Lib.hid (NA.out.keep hbs)
    replace NB := Lib.hid (NB.out.keep hbs)
    replace NC := Lib.hid (NC.out.keep hbs)
    replace NS := Lib.hid (NS.out.keep hbs)
    replace NP := Lib.hid (NP.out.keep hbs)
    replace ND := Lib.hid (ND.out.keep hbs)
    replace NQ := Lib.hid (NQ.out.keep hbs)
    replace NR := Lib.hid (NR.out.keep hbs)
    replace N1 := Lib.hid (N1.out.keep hbs)
    replace N2' := Lib.hid (N2'.out.keep hbs)
    replace N3 := Lib.hid (N3.out.keep hbs)
    clear hbs hb
    go_wp2_with fail
    go_ret
    exact ⟨rfl, HB.out⟩

end Go.Proofs.YtopdncbgpolohaaDoor
