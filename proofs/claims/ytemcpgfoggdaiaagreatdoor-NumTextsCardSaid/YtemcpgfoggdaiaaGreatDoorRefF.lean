/- The document's answer of layer 1: Of. -/
import Derived.Test.YtemcpgfoggdaiaaGreatDoorRefE
import Derived.Test.YtemcpgfoggdaiaaGreatDoorNatP
namespace Go.Proofs.YtemcpgfoggdaiaaGreatDoor
open Go.RowKit

theorem numD_take {l : List UInt8} {k : Nat} (hk : k < l.length) : numD (l.take (k + 1)) = numD (l.take k) * 10 + (bAt l k - 48) := by
  rw [List.take_succ_eq_append_getElem hk, numD_append, List.length_singleton]
  simp [numD, numF, bAt, hk]
theorem of_rev {O : List Nat} {n i x : Nat} (hO : O.length = n) (hi : i < n) : val 10 ((O.set (n - 1 - i) x).drop (n - (i + 1))) = x + 10 * val 10 (O.drop (n - i)) := by
  rw [show n - (i + 1) = n - 1 - i by omega, drop_dg _ _ (by simp; omega), val, dg_set, if_pos ⟨rfl, by omega⟩, List.drop_set_of_lt (by omega), show n - 1 - i + 1 = n - i by omega]

set_option maxRecDepth 100000 in
set_option maxHeartbeats 4000000 in
theorem refOf_any (s : ByteArray) (w : World) (h1 : s.size ≤ 1000000) :
    Calls Tryz.prog 31 #[.string s] w fun e w' => ∃ u, e = .returned (.tuple #[u, .bool (okT s.data.toList)]) ∧ RdI w' u .u32 (ofR s.data.toList) ∧ Below w.heap.size w w' := by
  obtain ⟨i0, hi, hz0, hz1, hz2⟩ := info_parts Tryz.infoU8
  obtain ⟨l, hl⟩ : ∃ l, l = s.data.toList := ⟨_, rfl⟩
  rw [← hl]
  have hsz : s.size = l.length := by rw [hl, Array.length_toList]; rfl
  have HL := Lib.hid hl
  clear hl
  have hno : ∀ (w : World), okT l = false → RdI w (.slice none 0 0) .u32 (ofR l) := by
    intro w h
    rw [ofR_no h]
    exact ⟨none, 0, rfl, by simp, by unfold maxLen; omega, fun _ => rfl, fun i hi => by simp at hi⟩
  by_cases h0 : l.length = 0
  · have hok : okT l = false := by simp [okT, h0]
    have hE2 : ((l.length : Int) == 0) = true := by simp [h0]
    have HO := Lib.hid hok
    clear hok
    go_enter Tryz.func31, Tryz.ntmps31
    go_wp2_with fail
    go_ret2
    exact ⟨_, by rw [HO.out]; rfl, hno _ HO.out, Below.refl _ _⟩
  have hE2 : ((l.length : Int) == 0) = false := by simp only [beq_eq_false_iff_ne, ne_eq]; omega
  have hlp : 0 < l.length := by omega
  have HATK : Hid (∀ (k : Nat) (hk : k < s.size), bAt l k = (s[k]'hk).toNat) := by
    intro k hk
    have : k < s.data.toList.length := by rw [← HL.out]; omega
    have h : bAt s.data.toList k = (s[k]'hk).toNat := by
      rw [bAt, List.getD_eq_getElem?_getD, List.getElem?_eq_getElem this]
      simp [ByteArray.getElem_eq_getElem_data]
    rwa [← HL.out] at h
  by_cases h2 : 1 < l.length ∧ bAt l 0 = 48
  · have hok : okT l = false := by simp [okT, h2.1, h2.2]
    have h21 : (1 : Int) < (l.length : Int) := by omega
    have h22 : ((s[0]'(by omega)).toNat : Int) = 48 := by have := HATK.out 0 (by omega); omega
    have HO := Lib.hid hok
    clear hok
    go_enter Tryz.func31, Tryz.ntmps31
    go_wp2_with fail
    go_ret2
    exact ⟨_, by rw [HO.out]; rfl, hno _ HO.out, Below.refl _ _⟩
  have hokd : okT l = decB l := by
    simp only [okT, h0, decide_false, Bool.false_or]
    have : (decide (1 < l.length) && decide (bAt l 0 = 48)) = false := by simpa using h2
    rw [this]; simp
  have HO := Lib.hid hokd
  clear hokd
  have hcase : (((1 : Int) < (l.length : Int)) ∧ (((s[0]'(by omega)).toNat : Int) == 48) = false) ∨ ¬ ((1 : Int) < (l.length : Int)) := by
    by_cases h : 1 < l.length
    · left
      refine ⟨by omega, ?_⟩
      have := HATK.out 0 (by omega)
      simp only [beq_eq_false_iff_ne, ne_eq]
      intro hc
      exact h2 ⟨h, by omega⟩
    · right; omega
  clear h2
  obtain ⟨n, hn⟩ : ∃ n, n = l.length := ⟨_, rfl⟩
  rcases hcase with ⟨h21, h22⟩ | h21
  all_goals
    go_enter Tryz.func31, Tryz.ntmps31
    go_wp2_with (at_make; refine mk0 rfl _ _ 87 rfl 5 .u8 i0 1 Tryz.underlying87 hi hz0 hz1 hz2 _ _ _ _ l.length rfl rfl rfl rfl (by omega) (by unfold maxLen; omega) ?_)
    intro w1 hown hbw1
    go_wp2_with fail
    go_loopw [5] (fun i wr => ∃ (k : Nat) (O : List Nat), i = .int .i64 k ∧ k ≤ l.length ∧ O.length = l.length ∧ (∀ x ∈ O, x < 10) ∧ val 10 (O.drop (l.length - k)) = numD (l.take k) ∧ (∀ j, j < k → 48 ≤ bAt l j ∧ bAt l j ≤ 57) ∧
        Own wr w.heap.size 5 .u8 (.slice (some ⟨w.heap.size, 0, none⟩) l.length l.length) O ∧ Below w.heap.size w wr) (fun i _ => l.length - (intOf i).toNat)
    case atStart => exact ⟨0, List.replicate l.length 0, rfl, by omega, by simp, by intro x hx; rw [List.eq_of_mem_replicate hx]; omega, by rw [List.drop_of_length_le (by simp)]; rfl, fun j hj => by omega, hown, hbw1⟩
    case round =>
      obtain ⟨k, O, rfl, hk, hOl, hOx, hOv, hdg, hown, hbl⟩ := hrel
      have HOL := Lib.hid hOl
      have HOX := Lib.hid hOx
      have HOV := Lib.hid hOv
      have HDG := Lib.hid hdg
      have HOW := Lib.hid hown
      have HBL := Lib.hid hbl
      have hsr := hbl.size
      by_cases hkl : k < l.length
      · have hks : k < s.size := by omega
        have hat := HATK.out k hks
        have hki : (0 : Int) ≤ (k : Int) := by omega
        have hkj : (k : Int) < (l.length : Int) := by omega
        by_cases hd : 48 ≤ bAt l k ∧ bAt l k ≤ 57
        · have hct := hown.cell (l.length - 1 - k) (by rw [HOL.out]; omega)
          have hft := hown.free (l.length - 1 - k)
          have htn : ((l.length : Int) - 1 - (k : Int)).toNat = l.length - 1 - k := by omega
          have hct2 : wr.cell? ⟨w.heap.size, ((l.length : Int) - 1 - (k : Int)).toNat, none⟩ = some (.int .u8 (dg O (l.length - 1 - k) : Nat)) := by rw [htn]; exact hct
          have hft2 : wr.frozen? ⟨w.heap.size, ((l.length : Int) - 1 - (k : Int)).toNat, none⟩ = false := by rw [htn]; exact hft
          have hi0 : (0 : Int) ≤ (l.length : Int) - 1 - (k : Int) := by omega
          have hi1 : (l.length : Int) - 1 - (k : Int) < (l.length : Int) := by omega
          have hd1 : ¬ (((s[k]'hks).toNat : Int) < 48) := by omega
          have hd2 : ¬ ((57 : Int) < ((s[k]'hks).toNat : Int)) := by omega
          have HXX : Hid (((s[k]'hks).toNat : Int) - 48 = ((bAt l k - 48 : Nat) : Int)) := by unfold Hid; omega
          have HTN := Lib.hid htn
          have HDD := Lib.hid hd
          clear htn hOl hOx hOv hdg hown hbl hd
          go_wp2_with fail
          go_roundw
          case rel =>
            refine ⟨k + 1, O.set (l.length - 1 - k) (bAt l k - 48), by go_num, by omega, by simp [HOL.out], ?_, ?_, ?_, ?_, HBL.out.setCell (by simp) _⟩
            · intro x hx
              rcases List.mem_or_eq_of_mem_set hx with h | h
              · exact HOX.out x h
              · have := HDD.out; omega
            · rw [of_rev HOL.out hkl, HOV.out, numD_take hkl]; omega
            · intro j hj
              rcases Nat.lt_or_ge j k with h | h
              · exact HDG.out j h
              · obtain rfl : j = k := by omega
                exact HDD.out
            · rw [HXX.out]; exact HOW.out.stored _ _
          case measure => simp [intOf]; omega
        · have HO2 : Hid (okT l = false) := by unfold Hid; rw [HO.out]; exact decB_at hkl (by omega)
          by_cases hd1 : ((s[k]'hks).toNat : Int) < 48
          · clear hOl hOx hOv hdg hown hbl
            go_wp2_with fail
            go_ret2
            exact ⟨_, by rw [HO2.out]; rfl, hno _ HO2.out, HBL.out⟩
          · have hd2 : (57 : Int) < ((s[k]'hks).toNat : Int) := by omega
            clear hOl hOx hOv hdg hown hbl
            go_wp2_with fail
            go_ret2
            exact ⟨_, by rw [HO2.out]; rfl, hno _ HO2.out, HBL.out⟩
      · obtain rfl : k = l.length := by omega
        have HO2 : Hid (okT l = true) := by unfold Hid; rw [HO.out]; exact decB_all HDG.out
        have HV : Hid (val 10 O = numD l) := by have := HOV.out; rwa [Nat.sub_self, List.drop_zero, List.take_length] at this
        clear hOl hOx hOv hdg hown hbl
        go_wp2_with fail
        refine (refTrim_any _ O _ HOW.out.rd HOX.out).mono ?_
        rintro e w5 ⟨u, rfl, hu, rfl⟩
        rw [HV.out] at hu
        have hdl : (digs 10 (numD l)).length ≤ 100000000 := by
          have := digs_length_le 10 (by omega) (numD l) _ (numD_lt l (by rw [← HO.out]; exact HO2.out))
          omega
        go_wp2_with fail
        refine (refWrite_any _ _ _ hu hdl (digs_rgt _ (by omega) _)).mono ?_
        rintro e w6 ⟨x, rfl, hx, hb6⟩
        rw [val_digs _ (by omega)] at hx
        go_wp2_with fail
        go_ret2
        exact ⟨_, by rw [HO2.out]; rfl, by rw [ofR_ok HO2.out]; exact hx.rd, HBL.out.trans (hb6.mono hsr)⟩

end Go.Proofs.YtemcpgfoggdaiaaGreatDoor
