/- The document's answer of layer 1: times. -/
import Derived.Test.YtemcpgfoggdaiaaGreatDoorRefC
namespace Go.Proofs.YtemcpgfoggdaiaaGreatDoor
open Go.RowKit

theorem infoInt : (Tryz.prog.info? 3).map (fun i => (i.zero, i.size, i.bytes)) = some (some (.int .i64 0), 1, 8) := by kernel_rfl

theorem wrap_i64 (n : Int) (h : -9223372036854775808 ≤ n ∧ n ≤ 9223372036854775807) : IntKind.i64.wrap n = n := by
  simp only [IntKind.wrap, IntKind.signed, IntKind.bits]
  simp
  omega
theorem sums_step {l m S : List Nat} {i k : Nat} (h : val 10 S = val 10 (l.take i) * val 10 m + 10 ^ i * (dg l i * val 10 (m.take k))) (hj : i + k < S.length) {p : Nat} (hp : p = dg l i * dg m k) :
    val 10 (S.set (i + k) (dg S (i + k) + p)) = val 10 (l.take i) * val 10 m + 10 ^ i * (dg l i * val 10 (m.take (k + 1))) := by
  have e1 := val_set 10 S (i + k) (dg S (i + k) + p) hj
  rw [take_b, Nat.mul_add, Nat.mul_add]
  have e3 : 10 ^ i * (dg l i * (10 ^ k * dg m k)) = 10 ^ (i + k) * p := by
    subst hp
    rw [Nat.pow_add, Nat.mul_left_comm (dg l i), ← Nat.mul_assoc]
  rw [e3]
  generalize 10 ^ (i + k) = Q at *
  rw [Nat.mul_add] at e1
  omega
theorem dg_set (l : List Nat) (j y p : Nat) : dg (l.set j y) p = if p = j ∧ j < l.length then y else dg l p := by
  unfold dg
  simp only [List.getD_eq_getElem?_getD, List.getElem?_set]
  by_cases h : j = p
  · subst h
    by_cases h2 : j < l.length <;> simp [h2]
  · have h2 : ¬ p = j := fun h' => h h'.symm
    simp [h, h2]
theorem out_step {O S : List Nat} {i c : Nat} (h : val 10 (O.take i) + 10 ^ i * c = val 10 (S.take i)) (hi : i < O.length) {x : Nat} (hx : x = c + dg S i) :
    val 10 ((O.set i (x % 10)).take (i + 1)) + 10 ^ (i + 1) * (x / 10) = val 10 (S.take (i + 1)) := by
  rw [take_b, take_b, List.take_set_of_le (by omega), dg_set, if_pos ⟨rfl, hi⟩, Nat.pow_succ]
  have e := Nat.mod_add_div x 10
  generalize x % 10 = r at *
  generalize x / 10 = q at *
  generalize 10 ^ i = P at *
  have e2 : P * x = P * c + P * dg S i := by rw [hx, Nat.mul_add]
  have e3 : P * x = P * r + P * 10 * q := by rw [← e, Nat.mul_add, Nat.mul_assoc]
  omega
theorem val_lt2 {l m : List Nat} (hl : ∀ x ∈ l, x < 10) (hm : ∀ x ∈ m, x < 10) : val 10 l * val 10 m < 10 ^ (l.length + m.length) := by
  rw [Nat.pow_add]
  exact Nat.mul_lt_mul'' (val_lt 10 l hl) (val_lt 10 m hm)

set_option maxRecDepth 100000 in
set_option maxHeartbeats 4000000 in
theorem refTimes_any (v u : Value) (l m : List Nat) (w : World) (hv : RdI w v .u8 l) (hu : RdI w u .u8 m) (hl : ∀ x ∈ l, x < 10) (hm : ∀ x ∈ m, x < 10) (h1 : l.length ≤ 1000000) (h2 : m.length ≤ 1000000) :
    Calls Tryz.prog 70 #[v, u] w fun e w' => ∃ u, e = .returned u ∧ RdI w' u .u8 (digs 10 (val 10 l * val 10 m)) ∧ Below w.heap.size w w' := by
  have HL := Lib.hid hl
  have HM := Lib.hid hm
  obtain ⟨ao, ac, rfl, _, hac, _, hx⟩ := hv
  obtain ⟨bo, bc, rfl, _, hbc, _, hy⟩ := hu
  have HX := Lib.hid hx
  have HY := Lib.hid hy
  clear hl hm hx hy
  obtain ⟨i0, hi, hz0, hz1, hz2⟩ := info_parts Tryz.infoU8
  obtain ⟨j0, hj, hy0, hy1, hy2⟩ := info_parts infoInt
  have hnil : ∀ (w : World) (l : List Nat), l = [] → RdI w (.slice none 0 0) .u8 l := by
    rintro w _ rfl
    exact ⟨none, 0, rfl, by simp, by unfold maxLen; omega, fun _ => rfl, fun i hi => by simp at hi⟩
  by_cases hl0 : l.length = 0
  · have hb : ((l.length : Int) == 0) = true := by simp [hl0]
    have HE : Hid (digs 10 (val 10 l * val 10 m) = []) := by unfold Hid; rw [List.length_eq_zero_iff.1 hl0, val, Nat.zero_mul, digs_zero]
    go_enter Tryz.func70, Tryz.ntmps70
    go_wp2_with fail
    go_ret
    exact ⟨_, rfl, hnil _ _ HE.out, Below.refl _ _⟩
  have hb1 : ((l.length : Int) == 0) = false := by simp only [beq_eq_false_iff_ne, ne_eq]; omega
  by_cases hm0 : m.length = 0
  · have hb : ((m.length : Int) == 0) = true := by simp [hm0]
    have HE : Hid (digs 10 (val 10 l * val 10 m) = []) := by unfold Hid; rw [List.length_eq_zero_iff.1 hm0, val, Nat.mul_zero, digs_zero]
    go_enter Tryz.func70, Tryz.ntmps70
    go_wp2_with fail
    go_ret
    exact ⟨_, rfl, hnil _ _ HE.out, Below.refl _ _⟩
  have hb2 : ((m.length : Int) == 0) = false := by simp only [beq_eq_false_iff_ne, ne_eq]; omega
  clear hnil
  go_enter Tryz.func70, Tryz.ntmps70
  go_wp2_with (at_make; refine mk0 rfl _ _ 119 rfl 3 .i64 j0 8 Tryz.underlying119 hj hy0 hy1 hy2 _ _ _ _ (l.length + m.length) rfl rfl (by simp) (by simp) (by omega) (by unfold maxLen; omega) ?_)
  intro w1 hown hbw1
  obtain ⟨n, hn⟩ : ∃ n, n = l.length + m.length := ⟨_, rfl⟩
  rw [← hn] at hown ⊢
  have hn1 : n ≤ 2000000 := by omega
  have hnl : l.length ≤ n := by omega
  have HN := Lib.hid hn
  have hii : ∀ (i k : Nat), i < l.length → k < m.length → i + k < n := by intro i k h1 h2; omega
  have HII := Lib.hid hii
  clear hn hii
  go_wp2_with fail
  go_loopw [6] (fun i wr => ∃ (ii : Nat) (S : List Nat), i = .int .i64 ii ∧ ii ≤ l.length ∧ S.length = n ∧ (∀ p, dg S p ≤ 81 * ii) ∧ val 10 S = val 10 (l.take ii) * val 10 m ∧
      Own wr w.heap.size 3 .i64 (.slice (some ⟨w.heap.size, 0, none⟩) n n) S ∧ Below w.heap.size w wr) (fun i _ => l.length - (intOf i).toNat)
  case atStart => exact ⟨0, List.replicate n 0, rfl, by omega, by simp, by intro p; unfold dg; simp only [List.getD_eq_getElem?_getD, List.getElem?_replicate]; split <;> simp, by
    have := val_noughts 10 n []
    rw [List.append_nil] at this
    rw [this]; simp [val], hown, hbw1⟩
  case round =>
    obtain ⟨i, S, rfl, hil1, hSl, hSx, hSv, hown, hbl⟩ := hrel
    have HOW := Lib.hid hown
    have HSL := Lib.hid hSl
    have HSX := Lib.hid hSx
    have HSV := Lib.hid hSv
    have HBL := Lib.hid hbl
    have hsr := hbl.size
    clear hown hSl hSx hSv hbl
    by_cases hil : i < l.length
    · obtain ⟨ad, rfl, hcell⟩ := HX.out i hil
      have HCA : Hid (∀ wx, Below w.heap.size w wx → wx.cell? (ad.add i) = some (.int .u8 (dg l i : Nat))) := fun wx hb => (hb.cell (World.block_lt_of_cell? w _ hcell)).trans hcell
      clear hcell
      go_wp2_with fail
      go_loopw [7] (fun k wr => ∃ (kk : Nat) (S : List Nat), k = .int .i64 kk ∧ kk ≤ m.length ∧ S.length = n ∧ (∀ p, dg S p ≤ 81 * i + 81) ∧ (∀ p, i + kk ≤ p → dg S p ≤ 81 * i) ∧ val 10 S = val 10 (l.take i) * val 10 m + 10 ^ i * (dg l i * val 10 (m.take kk)) ∧
          Own wr w.heap.size 3 .i64 (.slice (some ⟨w.heap.size, 0, none⟩) n n) S ∧ Below w.heap.size w wr) (fun k _ => m.length - (intOf k).toNat)
      case atStart => exact ⟨0, S, rfl, by omega, HSL.out, fun p => by have := HSX.out p; omega, fun p _ => HSX.out p, by rw [HSV.out]; simp [val], HOW.out, HBL.out⟩
      case round =>
        obtain ⟨k, T, rfl, hk, hTl, hT1, hT2, hTv, hown, hbl⟩ := hrel
        have HOT := Lib.hid hown
        have HTL := Lib.hid hTl
        have HT1 := Lib.hid hT1
        have HT2 := Lib.hid hT2
        have HTV := Lib.hid hTv
        have HBT := Lib.hid hbl
        have hst := hbl.size
        clear hTl hT1 hT2 hTv
        by_cases hkm : k < m.length
        · obtain ⟨bd, rfl, hcell⟩ := HY.out k hkm
          have hcb := (HBT.out.cell (World.block_lt_of_cell? w _ hcell)).trans hcell
          have hca := HCA.out _ HBT.out
          have hikn := HII.out i k hil hkm
          have hct := hown.cell (i + k) (by rw [HTL.out]; omega)
          have hft := hown.free (i + k)
          have hda : dg l i ≤ 9 := by have := dg_lt HL.out (by omega) i; omega
          have hdb : dg m k ≤ 9 := by have := dg_lt HM.out (by omega) k; omega
          have hdt : dg T (i + k) ≤ 81 * i := HT2.out _ (Nat.le_refl _)
          obtain ⟨p, hp⟩ : ∃ p, p = dg l i * dg m k := ⟨_, rfl⟩
          have hp81 : p ≤ 81 := by rw [hp]; exact Nat.mul_le_mul hda hdb
          have hpi : (dg l i : Int) * (dg m k : Int) = (p : Int) := by rw [hp]; simp
          have HP := Lib.hid hp
          have hik0 : (0 : Int) ≤ (i : Int) + (k : Int) := by omega
          have hik1 : (i : Int) + (k : Int) < (n : Int) := by omega
          have hw1 : IntKind.i64.wrap ((i : Int) + (k : Int)) = (i : Int) + (k : Int) := wrap_i64 _ (by omega)
          have hw2 : IntKind.i64.wrap ((dg l i : Int) * (dg m k : Int)) = (p : Int) := by rw [hpi]; exact wrap_i64 _ (by omega)
          have hw3 : IntKind.i64.wrap (p : Int) = (p : Int) := wrap_i64 _ (by omega)
          have hw4 : IntKind.i64.wrap ((dg T (i + k) : Int) + (p : Int)) = (dg T (i + k) : Int) + (p : Int) := wrap_i64 _ (by omega)
          have hw5 : IntKind.i64.wrap (dg l i : Int) = (dg l i : Int) := wrap_i64 _ (by omega)
          have hw6 : IntKind.i64.wrap (dg m k : Int) = (dg m k : Int) := wrap_i64 _ (by omega)
          have htn : ((i : Int) + (k : Int)).toNat = i + k := by omega
          have hct2 : wr.cell? ⟨w.heap.size, ((i : Int) + (k : Int)).toNat, none⟩ = some (.int .i64 (dg T (i + k) : Nat)) := by rw [htn]; exact hct
          have hft2 : wr.frozen? ⟨w.heap.size, ((i : Int) + (k : Int)).toNat, none⟩ = false := by rw [htn]; exact hft
          clear hcell hown hbl hp
          clear htn
          go_wp2_with fail
          refine wp_region_still_tail 22 (by kernel_rfl) (by kernel_rfl) ?_
          simp only [List.take_succ_cons, List.take_zero, List.drop_succ_cons, List.drop_zero]
          repeat still_step
          refine wpStill_nil ?_
          change wpList _ _ _ _ _ wr.drew
          go_wp2_with fail
          go_roundw
          case rel =>
            refine ⟨k + 1, T.set (i + k) (dg T (i + k) + p), by go_num, by omega, by simp [HTL.out], ?_, ?_, sums_step HTV.out (by rw [HTL.out]; omega) HP.out, ?_, (HBT.out.drew).setCell (by simp) _⟩
            · intro q; rw [dg_set]; have := HT1.out q; split <;> omega
            · intro q hq; rw [dg_set, if_neg (by omega)]; exact HT2.out q (by omega)
            · exact HOT.out.drew.stored _ _
          case measure => simp [intOf]; omega
        · have hkm : m.length ≤ k := by omega
          go_wp2_with fail
          go_roundw
          case rel =>
            refine ⟨i + 1, T, by go_num, by omega, HTL.out, fun p => by have := HT1.out p; omega, ?_, HOT.out, HBT.out⟩
            have := HTV.out
            rw [List.take_of_length_le hkm] at this
            rw [this, take_b, Nat.add_mul, Nat.mul_assoc]
          case measure => simp [intOf]; omega
    · obtain rfl : i = l.length := by omega
      obtain ⟨wq, hwq⟩ : ∃ wq, wq = wr := ⟨_, rfl⟩
      subst hwq
      have HSV2 : Hid (val 10 S = val 10 l * val 10 m) := by have := HSV.out; rwa [List.take_length] at this
      have HSR := Lib.hid HOW.out.rd
      go_wp2_with (at_make; refine mk0 rfl _ _ 87 rfl 5 .u8 i0 1 Tryz.underlying87 hi hz0 hz1 hz2 _ _ _ _ n rfl rfl rfl rfl (by omega) (by unfold maxLen; omega) ?_)
      intro w3 hown3 hb3
      have hs3 := hb3.size
      go_wp2_with fail
      go_loopw [9, 10] (fun c i wx => ∃ (ii cc : Nat) (O : List Nat), i = .int .i64 ii ∧ c = .int .i64 cc ∧ cc ≤ 100000000000 ∧ ii ≤ n ∧ O.length = n ∧ (∀ x ∈ O, x < 10) ∧ val 10 (O.take ii) + 10 ^ ii * cc = val 10 (S.take ii) ∧
          Own wx wq.heap.size 5 .u8 (.slice (some ⟨wq.heap.size, 0, none⟩) n n) O ∧ Below wq.heap.size wq wx) (fun _ i _ => n - (intOf i).toNat)
      case atStart => exact ⟨0, 0, List.replicate n 0, rfl, rfl, by omega, by omega, by simp, by intro x hx; rw [List.eq_of_mem_replicate hx]; omega, by simp [val], hown3, hb3⟩
      case round =>
        obtain ⟨k, c, O, rfl, rfl, hc, hk, hOl, hOx, hOv, hown, hbx⟩ := hrel
        have HOO := Lib.hid hown
        have HOL := Lib.hid hOl
        have HOX := Lib.hid hOx
        have HOV := Lib.hid hOv
        have HBX := Lib.hid hbx
        have hsx := hbx.size
        by_cases hkn : k < n
        · have hcs : wq.cell? ⟨wq.heap.size, k, none⟩ = none ∨ True := .inr trivial
          have hct : wr.cell? ⟨w.heap.size, k, none⟩ = some (.int .i64 (dg S k : Nat)) := by
            have h := HOW.out.cell k (by rw [HSL.out]; exact hkn)
            exact (hbx.cell (World.block_lt_of_cell? wq _ h)).trans h
          have hdo := hown.cell k (by rw [HOL.out]; exact hkn)
          have hfo := hown.free k
          have hds : dg S k ≤ 81 * l.length := HSX.out k
          have hki : (0 : Int) ≤ (k : Int) := by omega
          have hkj : (k : Int) < (n : Int) := by omega
          clear hown hOl hOx hOv hbx hcs
          have HXX : Hid (((c : Int) + (dg S k : Int)) % 10 = ((c + dg S k) % 10 : Nat)) := by unfold Hid; omega
          have hl81 : 81 * l.length ≤ 81000000 := by omega
          go_wp2_with fail
          go_roundw
          case rel =>
            refine ⟨k + 1, (c + dg S k) / 10, O.set k ((c + dg S k) % 10), by go_num, by go_num, by omega, by omega, by simp [HOL.out], ?_, out_step HOV.out (by rw [HOL.out]; exact hkn) rfl, ?_, HBX.out.setCell (by simp) _⟩
            · intro x hx
              rcases List.mem_or_eq_of_mem_set hx with h | h
              · exact HOX.out x h
              · omega
            · rw [HXX.out]; exact HOO.out.stored _ _
          case measure => simp [intOf]; omega
        · obtain rfl : k = n := by omega
          have HE : Hid (val 10 O = val 10 l * val 10 m) := by
            have h3 := HOV.out
            rw [List.take_of_length_le (by rw [HOL.out]; omega), List.take_of_length_le (by rw [HSL.out]; omega), HSV2.out] at h3
            have h4 := val_lt2 HL.out HM.out
            rw [← HN.out] at h4
            rcases Nat.eq_zero_or_pos c with h5 | h5
            · rw [h5] at h3; unfold Hid; omega
            · exfalso
              have h6 : 10 ^ k * 1 ≤ 10 ^ k * c := Nat.mul_le_mul_left _ h5
              omega
          go_wp2_with fail
          refine (refTrim_any _ O _ HOO.out.rd HOX.out).mono ?_
          rintro e w5 ⟨u, rfl, hu, rfl⟩
          rw [HE.out] at hu
          go_wp2_with fail
          go_ret
          exact ⟨_, rfl, hu, HBL.out.trans (HBX.out.mono hsr)⟩

end Go.Proofs.YtemcpgfoggdaiaaGreatDoor
