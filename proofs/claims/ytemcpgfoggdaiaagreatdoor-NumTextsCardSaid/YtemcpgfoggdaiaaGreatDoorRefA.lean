/- The document's answer of layer 1: trim, plus. -/
import Derived.Test.YtemcpgfoggdaiaaGreatDoorNatD
import Derived.Test.YtemcpgfoggdaiaaGreatDoorText
namespace Go.Proofs.YtemcpgfoggdaiaaGreatDoor
open Go.RowKit

theorem RdI.take {w : World} {ao : Option Addr} {ac : Nat} {k : IntKind} {l : List Nat} (h : RdI w (.slice ao l.length ac) k l) {j : Nat} (hj : j ≤ l.length) : RdI w (.slice ao j ac) k (l.take j) := by
  obtain ⟨_, _, h0, h1, h2, h3, h4⟩ := h
  cases h0
  have hl : (l.take j).length = j := by simp; omega
  refine ⟨ao, ac, by rw [hl], by omega, h2, h3, fun i hi => ?_⟩
  rw [hl] at hi
  obtain ⟨ad, h5, h6⟩ := h4 i (by omega)
  refine ⟨ad, h5, ?_⟩
  rw [h6, dg_eq _ i (by omega), dg_eq _ i (by rw [hl]; exact hi)]
  simp

theorem take_b (b : Nat) (l : List Nat) (k : Nat) : val b (l.take (k + 1)) = val b (l.take k) + b ^ k * dg l k := by
  by_cases hk : k < l.length
  · exact val_take_succ _ l k hk
  · rw [dg_out l k (by omega), List.take_of_length_le (by omega), List.take_of_length_le (by omega)]; rfl
theorem plus10 {l m o : List Nat} {k c : Nat} (h : val 10 o + 10 ^ k * c = val 10 (l.take k) + val 10 (m.take k)) (ho : o.length = k) {s : Nat} (hs : s = c + dg l k + dg m k) :
    val 10 (o ++ [s % 10]) + 10 ^ (k + 1) * (s / 10) = val 10 (l.take (k + 1)) + val 10 (m.take (k + 1)) := by
  rw [take_b, take_b, val_snoc, ho, Nat.pow_succ]
  have e := Nat.mod_add_div s 10
  generalize s % 10 = r at *
  generalize s / 10 = q at *
  generalize 10 ^ k = P at *
  have e2 : P * s = P * c + P * dg l k + P * dg m k := by rw [hs, Nat.mul_add, Nat.mul_add]
  have e3 : P * s = P * r + P * 10 * q := by rw [← e, Nat.mul_add, Nat.mul_assoc]
  omega

set_option maxRecDepth 100000 in
set_option maxHeartbeats 1000000 in
theorem refTrim_any (v : Value) (l : List Nat) (w : World) (hv : RdI w v .u8 l) (h2 : ∀ x ∈ l, x < 10) :
    Calls Tryz.prog 61 #[v] w fun e w' => ∃ u, e = .returned u ∧ RdI w' u .u8 (digs 10 (val 10 l)) ∧ w = w' := by
  have hv' := Lib.hid hv
  have H2 := Lib.hid h2
  obtain ⟨ao, ac, rfl, _, hm, _, hx⟩ := hv
  have HX := Lib.hid hx
  clear hx h2
  unfold maxLen at hm
  go_enter Tryz.func61, Tryz.ntmps61
  go_wp2_with fail
  go_loop [0] (fun i => ∃ kk : Nat, i = .slice ao kk ac ∧ kk ≤ l.length ∧ val 10 (l.take kk) = val 10 l) (fun i => lenOf i)
  case atStart => exact ⟨l.length, rfl, by omega, by rw [List.take_length]⟩
  case round =>
    obtain ⟨k, rfl, hk, hval⟩ := hrel
    have HV := Lib.hid hval
    clear hval
    by_cases hk0 : 0 < k
    · obtain ⟨k, rfl⟩ : ∃ j, k = j + 1 := ⟨k - 1, by omega⟩
      obtain ⟨ad, rfl, hcell⟩ := HX.out k (by omega)
      have hc2 : w.cell? (ad.add ((((k + 1 : Nat) : Int) - 1).toNat)) = some (.int .u8 (dg l k : Nat)) := by
        rw [show (((k + 1 : Nat) : Int) - 1).toNat = k by omega]; exact hcell
      by_cases hd : dg l k = 0
      · have hb : ((dg l k : Int) == 0) = true := by simp [hd]
        have HD := Lib.hid hd
        clear hd
        go_wp2_with fail
        go_round
        case rel =>
          refine ⟨k, by go_num, by omega, ?_⟩
          have := HV.out
          rw [take_b, HD.out] at this
          omega
        case measure => simp [lenOf]
      · have hb : ((dg l k : Int) == 0) = false := by simp [hd]
        have HD := Lib.hid hd
        clear hd
        go_wp2_with fail
        go_ret
        refine ⟨_, rfl, ?_, rfl⟩
        have hr : Rgt 10 (l.take (k + 1)) := rgt_of_last (fun x hx => H2.out x (List.mem_of_mem_take hx)) (.inr (by
          have hl : (l.take (k + 1)).length = k + 1 := by simp; omega
          rw [hl, Nat.add_sub_cancel, dg_eq _ k (by omega)]
          have := HD.out
          rw [dg_eq _ k (by omega)] at this
          simpa using this))
        rw [← HV.out, ← hr.digs (by omega)]
        exact hv'.out.take hk
    · obtain rfl : k = 0 := by omega
      go_wp2_with fail
      go_ret
      refine ⟨_, rfl, ?_, rfl⟩
      rw [← HV.out, List.take_zero, val, digs_zero]
      exact (hv'.out.take (j := 0) (by omega))

set_option maxRecDepth 100000 in
set_option maxHeartbeats 2000000 in
theorem refPlus_any (v u : Value) (l m : List Nat) (w : World) (hv : RdI w v .u8 l) (hu : RdI w u .u8 m) (hl : ∀ x ∈ l, x < 10) (hm : ∀ x ∈ m, x < 10) (h1 : l.length ≤ 100000000) (h2 : m.length ≤ 100000000) :
    Calls Tryz.prog 90 #[v, u] w fun e w' => ∃ u, e = .returned u ∧ RdI w' u .u8 (digs 10 (val 10 l + val 10 m)) ∧ Below w.heap.size w w' := by
  have HL := Lib.hid hl
  have HM := Lib.hid hm
  obtain ⟨ao, ac, rfl, _, hac, _, hx⟩ := hv
  obtain ⟨bo, bc, rfl, _, hbc, _, hy⟩ := hu
  have HX := Lib.hid hx
  have HY := Lib.hid hy
  clear hl hm hx hy
  obtain ⟨i0, hi, hz0, hz1, hz2⟩ := info_parts Tryz.infoU8
  obtain ⟨n, hn⟩ : ∃ n, n = max l.length m.length := ⟨_, rfl⟩
  have hln : l.length ≤ n := by omega
  have hmn : m.length ≤ n := by omega
  have hn1 : n ≤ 100000000 := by omega
  have hnn : n = l.length ∨ n = m.length := by omega
  clear hn
  go_enter Tryz.func90, Tryz.ntmps90
  go_wp2_with fail
  go_loopw [5, 6, 7] (fun out c i wr => ∃ (o : List Nat) (cc kk : Nat), i = .int .i64 kk ∧ c = .int .u8 cc ∧ Own wr w.heap.size 5 .u8 out o ∧ o.length = kk ∧ kk ≤ n + 1 ∧ cc ≤ 1 ∧ (kk = n + 1 → cc = 0) ∧
      val 10 o + 10 ^ kk * cc = val 10 (l.take kk) + val 10 (m.take kk) ∧ (∀ x ∈ o, x < 10) ∧ Below w.heap.size w wr) (fun _ _ k _ => n + 1 - (intOf k).toNat)
  case atStart => exact ⟨[], 0, 0, rfl, rfl, World.ownsRow_nil _ _ _ _, rfl, by omega, by omega, by omega, by simp [val], by simp, Below.refl _ _⟩
  case round =>
    obtain ⟨o, c, k, rfl, rfl, hown, hol, hk, hc9, hkc, hval, hox, hbl⟩ := hrel
    have HV := Lib.hid hval
    have HL2 := Lib.hid hol
    have HOX := Lib.hid hox
    have HBL := Lib.hid hbl
    have hsz := hbl.size
    have HOW := Lib.hid hown
    have HKC := Lib.hid hkc
    clear hval hol hox hbl hkc
    have hdl : dg l k ≤ 9 := by have := dg_lt HL.out (by omega) k; omega
    have hdm : dg m k ≤ 9 := by have := dg_lt HM.out (by omega) k; omega
    by_cases hcase : k < l.length ∨ k < m.length ∨ 0 < c
    · have hk1 : k < n + 1 := by
        rcases hcase with h | h | h
        · omega
        · omega
        · have := HKC.out; omega
      by_cases ha : k < l.length
      · by_cases hb : k < m.length
        · skip
          obtain ⟨ad, had, hcell⟩ := HX.out k ha
          subst had
          have hca := (HBL.out.cell (World.block_lt_of_cell? w _ hcell)).trans hcell
          clear hcell
          obtain ⟨bd, hbd, hcell⟩ := HY.out k hb
          subst hbd
          have hcb := (HBL.out.cell (World.block_lt_of_cell? w _ hcell)).trans hcell
          clear hcell
          have HXX : Hid (((c : Int) + (dg l k : Int) + (dg m k : Int)) % 10 = ((c + dg l k + dg m k) % 10 : Nat)) := by unfold Hid; omega
          have HK : Hid (k + 1 = n + 1 → (c + dg l k + dg m k) / 10 = 0) := by
            intro h
            omega
          clear hcase
          go_wp2_with (at_builtin; refine app1 rfl _ _ 87 rfl 5 .u8 i0 1 Tryz.underlying87 hi hz0 hz1 hz2 w.heap.size _ o rfl HOW.out _ ((c + dg l k + dg m k) % 10) HXX.out rfl rfl (by rw [HL2.out]; unfold maxLen; omega) (by rw [HL2.out]; omega) (by omega) ?_; intro v' w2 hown2 hb2)
          go_roundw
          case rel => exact ⟨o ++ [(c + dg l k + dg m k) % 10], (c + dg l k + dg m k) / 10, k + 1, by go_num, by go_num, hown2, by simp [HL2.out], by omega, by omega, HK.out, plus10 HV.out HL2.out rfl, by intro x hx; rcases List.mem_append.1 hx with h | h; exact HOX.out x h; simp at h; omega, HBL.out.trans hb2⟩
          case measure => simp [intOf]; omega
        · skip
          obtain ⟨ad, had, hcell⟩ := HX.out k ha
          subst had
          have hca := (HBL.out.cell (World.block_lt_of_cell? w _ hcell)).trans hcell
          clear hcell
          have hzb : dg m k = 0 := dg_out m k (by omega)
          have HXX : Hid (((c : Int) + (dg l k : Int)) % 10 = ((c + dg l k + dg m k) % 10 : Nat)) := by unfold Hid; omega
          have HK : Hid (k + 1 = n + 1 → (c + dg l k + dg m k) / 10 = 0) := by
            intro h
            omega
          clear hcase
          go_wp2_with (at_builtin; refine app1 rfl _ _ 87 rfl 5 .u8 i0 1 Tryz.underlying87 hi hz0 hz1 hz2 w.heap.size _ o rfl HOW.out _ ((c + dg l k + dg m k) % 10) HXX.out rfl rfl (by rw [HL2.out]; unfold maxLen; omega) (by rw [HL2.out]; omega) (by omega) ?_; intro v' w2 hown2 hb2)
          go_roundw
          case rel => exact ⟨o ++ [(c + dg l k + dg m k) % 10], (c + dg l k + dg m k) / 10, k + 1, by go_num, by go_num, hown2, by simp [HL2.out], by omega, by omega, HK.out, plus10 HV.out HL2.out rfl, by intro x hx; rcases List.mem_append.1 hx with h | h; exact HOX.out x h; simp at h; omega, HBL.out.trans hb2⟩
          case measure => simp [intOf]; omega
      · by_cases hb : k < m.length
        · skip
          have hza : dg l k = 0 := dg_out l k (by omega)
          obtain ⟨bd, hbd, hcell⟩ := HY.out k hb
          subst hbd
          have hcb := (HBL.out.cell (World.block_lt_of_cell? w _ hcell)).trans hcell
          clear hcell
          have HXX : Hid (((c : Int) + (dg m k : Int)) % 10 = ((c + dg l k + dg m k) % 10 : Nat)) := by unfold Hid; omega
          have HK : Hid (k + 1 = n + 1 → (c + dg l k + dg m k) / 10 = 0) := by
            intro h
            omega
          clear hcase
          go_wp2_with (at_builtin; refine app1 rfl _ _ 87 rfl 5 .u8 i0 1 Tryz.underlying87 hi hz0 hz1 hz2 w.heap.size _ o rfl HOW.out _ ((c + dg l k + dg m k) % 10) HXX.out rfl rfl (by rw [HL2.out]; unfold maxLen; omega) (by rw [HL2.out]; omega) (by omega) ?_; intro v' w2 hown2 hb2)
          go_roundw
          case rel => exact ⟨o ++ [(c + dg l k + dg m k) % 10], (c + dg l k + dg m k) / 10, k + 1, by go_num, by go_num, hown2, by simp [HL2.out], by omega, by omega, HK.out, plus10 HV.out HL2.out rfl, by intro x hx; rcases List.mem_append.1 hx with h | h; exact HOX.out x h; simp at h; omega, HBL.out.trans hb2⟩
          case measure => simp [intOf]; omega
        · skip
          have hza : dg l k = 0 := dg_out l k (by omega)
          have hzb : dg m k = 0 := dg_out m k (by omega)
          have hc0 : 0 < c := by omega
          have HXX : Hid (((c : Int)) % 10 = ((c + dg l k + dg m k) % 10 : Nat)) := by unfold Hid; omega
          have HK : Hid (k + 1 = n + 1 → (c + dg l k + dg m k) / 10 = 0) := by
            intro h
            omega
          clear hcase
          go_wp2_with (at_builtin; refine app1 rfl _ _ 87 rfl 5 .u8 i0 1 Tryz.underlying87 hi hz0 hz1 hz2 w.heap.size _ o rfl HOW.out _ ((c + dg l k + dg m k) % 10) HXX.out rfl rfl (by rw [HL2.out]; unfold maxLen; omega) (by rw [HL2.out]; omega) (by omega) ?_; intro v' w2 hown2 hb2)
          go_roundw
          case rel => exact ⟨o ++ [(c + dg l k + dg m k) % 10], (c + dg l k + dg m k) / 10, k + 1, by go_num, by go_num, hown2, by simp [HL2.out], by omega, by omega, HK.out, plus10 HV.out HL2.out rfl, by intro x hx; rcases List.mem_append.1 hx with h | h; exact HOX.out x h; simp at h; omega, HBL.out.trans hb2⟩
          case measure => simp [intOf]; omega
    · have ha : ¬ k < l.length := by omega
      have hb : ¬ k < m.length := by omega
      have hc0 : ¬ 0 < c := by omega
      have HE : Hid (val 10 o = val 10 l + val 10 m) := by
        have := HV.out
        rw [List.take_of_length_le (by omega), List.take_of_length_le (by omega), show c = 0 by omega] at this
        unfold Hid; omega
      obtain ⟨oo, oc, rfl, _, _, _, _⟩ := hown.rd
      clear hcase
      go_wp2_with fail
      refine (refTrim_any _ o _ HOW.out.rd HOX.out).mono ?_
      rintro e w2 ⟨u, rfl, hu, rfl⟩
      rw [HE.out] at hu
      go_wp2_with fail
      go_ret
      exact ⟨_, rfl, hu, HBL.out⟩

end Go.Proofs.YtemcpgfoggdaiaaGreatDoor
