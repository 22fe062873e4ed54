/- The document's answer of layer 1: order. -/
import Derived.Test.YtjfncepmpabcnaaGreatDoorNatD
import Derived.Test.YtjfncepmpabcnaaGreatDoorText
import Derived.Test.YtjfncepmpabcnaaGreatDoorNatG
import Derived.Test.YtjfncepmpabcnaaGreatDoorNatH
import Derived.Test.YtjfncepmpabcnaaGreatDoorNatP
namespace Go.Proofs.YtjfncepmpabcnaaGreatDoor
open Go.RowKit

theorem RdI.take {w : World} {ao : Option Addr} {ac : Nat} {k : IntKind} {l : List Nat} (h : RdI w (.slice ao l.length ac) k l) {j : Nat} (hj : j ≤ l.length) : RdI w (.slice ao j ac) k (l.take j) := by
  obtain ⟨_, _, h0, h1, h2, h3, h4⟩ := h
  cases h0
  have hl : (l.take j).length = j := by simp; omega
  refine ⟨ao, ac, by rw [hl], by omega, h2, h3, fun i hi => ?_⟩
  rw [hl] at hi
  obtain ⟨ad, h5, h6⟩ := h4 i (by omega)
  refine ⟨ad, h5, ?_⟩
  rw [h6, dg_eq _ i (by omega), dg_eq _ i (by rw [hl]; exact hi)]
  simp

theorem take_b (b : Nat) (l : List Nat) (k : Nat) : val b (l.take (k + 1)) = val b (l.take k) + b ^ k * dg l k := by
  by_cases hk : k < l.length
  · exact val_take_succ _ l k hk
  · rw [dg_out l k (by omega), List.take_of_length_le (by omega), List.take_of_length_le (by omega)]; rfl
theorem plus10 {l m o : List Nat} {k c : Nat} (h : val 10 o + 10 ^ k * c = val 10 (l.take k) + val 10 (m.take k)) (ho : o.length = k) {s : Nat} (hs : s = c + dg l k + dg m k) :
    val 10 (o ++ [s % 10]) + 10 ^ (k + 1) * (s / 10) = val 10 (l.take (k + 1)) + val 10 (m.take (k + 1)) := by
  rw [take_b, take_b, val_snoc, ho, Nat.pow_succ]
  have e := Nat.mod_add_div s 10
  generalize s % 10 = r at *
  generalize s / 10 = q at *
  generalize 10 ^ k = P at *
  have e2 : P * s = P * c + P * dg l k + P * dg m k := by rw [hs, Nat.mul_add, Nat.mul_add]
  have e3 : P * s = P * r + P * 10 * q := by rw [← e, Nat.mul_add, Nat.mul_assoc]
  omega

set_option maxRecDepth 100000 in
set_option maxHeartbeats 1000000 in
theorem refTrim_any (v : Value) (l : List Nat) (w : World) (hv : RdI w v .u8 l) (h2 : ∀ x ∈ l, x < 10) :
    Calls Tryz.prog 144 #[v] w fun e w' => ∃ u, e = .returned u ∧ RdI w' u .u8 (digs 10 (val 10 l)) ∧ w = w' := by
  have hv' := Lib.hid hv
  have H2 := Lib.hid h2
  obtain ⟨ao, ac, rfl, _, hm, _, hx⟩ := hv
  have HX := Lib.hid hx
  clear hx h2
  unfold maxLen at hm
  go_enter Tryz.func144, Tryz.ntmps144
  go_wp2_with fail
  go_loop [0] (fun i => ∃ kk : Nat, i = .slice ao kk ac ∧ kk ≤ l.length ∧ val 10 (l.take kk) = val 10 l) (fun i => lenOf i)
  case atStart => exact ⟨l.length, rfl, by omega, by rw [List.take_length]⟩
  case round =>
    obtain ⟨k, rfl, hk, hval⟩ := hrel
    have HV := Lib.hid hval
    clear hval
    by_cases hk0 : 0 < k
    · obtain ⟨k, rfl⟩ : ∃ j, k = j + 1 := ⟨k - 1, by omega⟩
      obtain ⟨ad, rfl, hcell⟩ := HX.out k (by omega)
      have hc2 : w.cell? (ad.add ((((k + 1 : Nat) : Int) - 1).toNat)) = some (.int .u8 (dg l k : Nat)) := by
        rw [show (((k + 1 : Nat) : Int) - 1).toNat = k by omega]; exact hcell
      by_cases hd : dg l k = 0
      · have hb : ((dg l k : Int) == 0) = true := by simp [hd]
        have HD := Lib.hid hd
        clear hd
        go_wp2_with fail
        go_round
        case rel =>
          refine ⟨k, by go_num, by omega, ?_⟩
          have := HV.out
          rw [take_b, HD.out] at this
          omega
        case measure => simp [lenOf]
      · have hb : ((dg l k : Int) == 0) = false := by simp [hd]
        have HD := Lib.hid hd
        clear hd
        go_wp2_with fail
        go_ret
        refine ⟨_, rfl, ?_, rfl⟩
        have hr : Rgt 10 (l.take (k + 1)) := rgt_of_last (fun x hx => H2.out x (List.mem_of_mem_take hx)) (.inr (by
          have hl : (l.take (k + 1)).length = k + 1 := by simp; omega
          rw [hl, Nat.add_sub_cancel, dg_eq _ k (by omega)]
          have := HD.out
          rw [dg_eq _ k (by omega)] at this
          simpa using this))
        rw [← HV.out, ← hr.digs (by omega)]
        exact hv'.out.take hk
    · obtain rfl : k = 0 := by omega
      go_wp2_with fail
      go_ret
      refine ⟨_, rfl, ?_, rfl⟩
      rw [← HV.out, List.take_zero, val, digs_zero]
      exact (hv'.out.take (j := 0) (by omega))

set_option maxRecDepth 100000 in
set_option maxHeartbeats 2000000 in
theorem refPlus_any (v u : Value) (l m : List Nat) (w : World) (hv : RdI w v .u8 l) (hu : RdI w u .u8 m) (hl : ∀ x ∈ l, x < 10) (hm : ∀ x ∈ m, x < 10) (h1 : l.length ≤ 100000000) (h2 : m.length ≤ 100000000) :
    Calls Tryz.prog 140 #[v, u] w fun e w' => ∃ u, e = .returned u ∧ RdI w' u .u8 (digs 10 (val 10 l + val 10 m)) ∧ Below w.heap.size w w' := by
  have HL := Lib.hid hl
  have HM := Lib.hid hm
  obtain ⟨ao, ac, rfl, _, hac, _, hx⟩ := hv
  obtain ⟨bo, bc, rfl, _, hbc, _, hy⟩ := hu
  have HX := Lib.hid hx
  have HY := Lib.hid hy
  clear hl hm hx hy
  obtain ⟨i0, hi, hz0, hz1, hz2⟩ := info_parts Tryz.infoU8
  obtain ⟨n, hn⟩ : ∃ n, n = max l.length m.length := ⟨_, rfl⟩
  have hln : l.length ≤ n := by omega
  have hmn : m.length ≤ n := by omega
  have hn1 : n ≤ 100000000 := by omega
  have hnn : n = l.length ∨ n = m.length := by omega
  clear hn
  go_enter Tryz.func140, Tryz.ntmps140
  go_wp2_with fail
  go_loopw [5, 6, 7] (fun out c i wr => ∃ (o : List Nat) (cc kk : Nat), i = .int .i64 kk ∧ c = .int .u8 cc ∧ Own wr w.heap.size 5 .u8 out o ∧ o.length = kk ∧ kk ≤ n + 1 ∧ cc ≤ 1 ∧ (kk = n + 1 → cc = 0) ∧
      val 10 o + 10 ^ kk * cc = val 10 (l.take kk) + val 10 (m.take kk) ∧ (∀ x ∈ o, x < 10) ∧ Below w.heap.size w wr) (fun _ _ k _ => n + 1 - (intOf k).toNat)
  case atStart => exact ⟨[], 0, 0, rfl, rfl, World.ownsRow_nil _ _ _ _, rfl, by omega, by omega, by omega, by simp [val], by simp, Below.refl _ _⟩
  case round =>
    obtain ⟨o, c, k, rfl, rfl, hown, hol, hk, hc9, hkc, hval, hox, hbl⟩ := hrel
    have HV := Lib.hid hval
    have HL2 := Lib.hid hol
    have HOX := Lib.hid hox
    have HBL := Lib.hid hbl
    have hsz := hbl.size
    have HOW := Lib.hid hown
    have HKC := Lib.hid hkc
    clear hval hol hox hbl hkc
    have hdl : dg l k ≤ 9 := by have := dg_lt HL.out (by omega) k; omega
    have hdm : dg m k ≤ 9 := by have := dg_lt HM.out (by omega) k; omega
    by_cases hcase : k < l.length ∨ k < m.length ∨ 0 < c
    · have hk1 : k < n + 1 := by
        rcases hcase with h | h | h
        · omega
        · omega
        · have := HKC.out; omega
      by_cases ha : k < l.length
      · by_cases hb : k < m.length
        · skip
          obtain ⟨ad, had, hcell⟩ := HX.out k ha
          subst had
          have hca := (HBL.out.cell (World.block_lt_of_cell? w _ hcell)).trans hcell
          clear hcell
          obtain ⟨bd, hbd, hcell⟩ := HY.out k hb
          subst hbd
          have hcb := (HBL.out.cell (World.block_lt_of_cell? w _ hcell)).trans hcell
          clear hcell
          have HXX : Hid (((c : Int) + (dg l k : Int) + (dg m k : Int)) % 10 = ((c + dg l k + dg m k) % 10 : Nat)) := by unfold Hid; omega
          have HK : Hid (k + 1 = n + 1 → (c + dg l k + dg m k) / 10 = 0) := by
            intro h
            omega
          clear hcase
          go_wp2_with (at_builtin; refine app1 rfl _ _ 109 rfl 5 .u8 i0 1 Tryz.underlying109 hi hz0 hz1 hz2 w.heap.size _ o rfl HOW.out _ ((c + dg l k + dg m k) % 10) HXX.out rfl rfl (by rw [HL2.out]; unfold maxLen; omega) (by rw [HL2.out]; omega) (by omega) ?_; intro v' w2 hown2 hb2)
          go_roundw
          case rel => exact ⟨o ++ [(c + dg l k + dg m k) % 10], (c + dg l k + dg m k) / 10, k + 1, by go_num, by go_num, hown2, by simp [HL2.out], by omega, by omega, HK.out, plus10 HV.out HL2.out rfl, by intro x hx; rcases List.mem_append.1 hx with h | h; exact HOX.out x h; simp at h; omega, HBL.out.trans hb2⟩
          case measure => simp [intOf]; omega
        · skip
          obtain ⟨ad, had, hcell⟩ := HX.out k ha
          subst had
          have hca := (HBL.out.cell (World.block_lt_of_cell? w _ hcell)).trans hcell
          clear hcell
          have hzb : dg m k = 0 := dg_out m k (by omega)
          have HXX : Hid (((c : Int) + (dg l k : Int)) % 10 = ((c + dg l k + dg m k) % 10 : Nat)) := by unfold Hid; omega
          have HK : Hid (k + 1 = n + 1 → (c + dg l k + dg m k) / 10 = 0) := by
            intro h
            omega
          clear hcase
          go_wp2_with (at_builtin; refine app1 rfl _ _ 109 rfl 5 .u8 i0 1 Tryz.underlying109 hi hz0 hz1 hz2 w.heap.size _ o rfl HOW.out _ ((c + dg l k + dg m k) % 10) HXX.out rfl rfl (by rw [HL2.out]; unfold maxLen; omega) (by rw [HL2.out]; omega) (by omega) ?_; intro v' w2 hown2 hb2)
          go_roundw
          case rel => exact ⟨o ++ [(c + dg l k + dg m k) % 10], (c + dg l k + dg m k) / 10, k + 1, by go_num, by go_num, hown2, by simp [HL2.out], by omega, by omega, HK.out, plus10 HV.out HL2.out rfl, by intro x hx; rcases List.mem_append.1 hx with h | h; exact HOX.out x h; simp at h; omega, HBL.out.trans hb2⟩
          case measure => simp [intOf]; omega
      · by_cases hb : k < m.length
        · skip
          have hza : dg l k = 0 := dg_out l k (by omega)
          obtain ⟨bd, hbd, hcell⟩ := HY.out k hb
          subst hbd
          have hcb := (HBL.out.cell (World.block_lt_of_cell? w _ hcell)).trans hcell
          clear hcell
          have HXX : Hid (((c : Int) + (dg m k : Int)) % 10 = ((c + dg l k + dg m k) % 10 : Nat)) := by unfold Hid; omega
          have HK : Hid (k + 1 = n + 1 → (c + dg l k + dg m k) / 10 = 0) := by
            intro h
            omega
          clear hcase
          go_wp2_with (at_builtin; refine app1 rfl _ _ 109 rfl 5 .u8 i0 1 Tryz.underlying109 hi hz0 hz1 hz2 w.heap.size _ o rfl HOW.out _ ((c + dg l k + dg m k) % 10) HXX.out rfl rfl (by rw [HL2.out]; unfold maxLen; omega) (by rw [HL2.out]; omega) (by omega) ?_; intro v' w2 hown2 hb2)
          go_roundw
          case rel => exact ⟨o ++ [(c + dg l k + dg m k) % 10], (c + dg l k + dg m k) / 10, k + 1, by go_num, by go_num, hown2, by simp [HL2.out], by omega, by omega, HK.out, plus10 HV.out HL2.out rfl, by intro x hx; rcases List.mem_append.1 hx with h | h; exact HOX.out x h; simp at h; omega, HBL.out.trans hb2⟩
          case measure => simp [intOf]; omega
        · skip
          have hza : dg l k = 0 := dg_out l k (by omega)
          have hzb : dg m k = 0 := dg_out m k (by omega)
          have hc0 : 0 < c := by omega
          have HXX : Hid (((c : Int)) % 10 = ((c + dg l k + dg m k) % 10 : Nat)) := by unfold Hid; omega
          have HK : Hid (k + 1 = n + 1 → (c + dg l k + dg m k) / 10 = 0) := by
            intro h
            omega
          clear hcase
          go_wp2_with (at_builtin; refine app1 rfl _ _ 109 rfl 5 .u8 i0 1 Tryz.underlying109 hi hz0 hz1 hz2 w.heap.size _ o rfl HOW.out _ ((c + dg l k + dg m k) % 10) HXX.out rfl rfl (by rw [HL2.out]; unfold maxLen; omega) (by rw [HL2.out]; omega) (by omega) ?_; intro v' w2 hown2 hb2)
          go_roundw
          case rel => exact ⟨o ++ [(c + dg l k + dg m k) % 10], (c + dg l k + dg m k) / 10, k + 1, by go_num, by go_num, hown2, by simp [HL2.out], by omega, by omega, HK.out, plus10 HV.out HL2.out rfl, by intro x hx; rcases List.mem_append.1 hx with h | h; exact HOX.out x h; simp at h; omega, HBL.out.trans hb2⟩
          case measure => simp [intOf]; omega
    · have ha : ¬ k < l.length := by omega
      have hb : ¬ k < m.length := by omega
      have hc0 : ¬ 0 < c := by omega
      have HE : Hid (val 10 o = val 10 l + val 10 m) := by
        have := HV.out
        rw [List.take_of_length_le (by omega), List.take_of_length_le (by omega), show c = 0 by omega] at this
        unfold Hid; omega
      obtain ⟨oo, oc, rfl, _, _, _, _⟩ := hown.rd
      clear hcase
      go_wp2_with fail
      refine (refTrim_any _ o _ HOW.out.rd HOX.out).mono ?_
      rintro e w2 ⟨u, rfl, hu, rfl⟩
      rw [HE.out] at hu
      go_wp2_with fail
      go_ret
      exact ⟨_, rfl, hu, HBL.out⟩

end Go.Proofs.YtjfncepmpabcnaaGreatDoor

namespace Go.Proofs.YtjfncepmpabcnaaGreatDoor
open Go.RowKit

theorem dig_step {ds : List Nat} {x nn : Nat} (h : val 10 ds + 10 ^ ds.length * nn = x) : val 10 (ds ++ [nn % 10]) + 10 ^ (ds ++ [nn % 10]).length * (nn / 10) = x := by
  rw [val_snoc, List.length_append, List.length_singleton, Nat.pow_succ, Nat.mul_assoc, Nat.add_assoc, ← Nat.mul_add, Nat.mod_add_div, h]
theorem val_noughts (b k : Nat) (l : List Nat) : val b (List.replicate k 0 ++ l) = b ^ k * val b l := by
  have : ∀ n, val b (List.replicate n 0) = 0 := by intro n; induction n with | zero => rfl | succ n ih => rw [List.replicate_succ, val, ih]; omega
  rw [val_append, this, List.length_replicate, Nat.zero_add]
theorem digs10_len {n k : Nat} (h : n < 1000000000 ^ k) : (digs 10 n).length ≤ 9 * k := by
  refine digs_length_le _ (by omega) _ _ ?_
  rwa [show (1000000000 : Nat) = 10 ^ 9 from rfl, ← Nat.pow_mul] at h

set_option maxRecDepth 100000 in
set_option maxHeartbeats 4000000 in
theorem refRead_any (v : Value) (l : List Nat) (w : World) (hv : RdI w v .u32 l) (h1 : l.length ≤ 1000000) (h2 : ∀ x ∈ l, x < 4294967296) :
    Calls Tryz.prog 110 #[v] w fun e w' => ∃ u, e = .returned u ∧ RdI w' u .u8 (digs 10 (val 1000000000 l)) ∧ Below w.heap.size w w' := by
  have H2 := Lib.hid h2
  obtain ⟨ao, ac, rfl, _, hm, _, hx⟩ := hv
  have HX := Lib.hid hx
  clear hx h2
  unfold maxLen at hm
  obtain ⟨i0, hi, hz0, hz1, hz2⟩ := info_parts Tryz.infoU8
  go_enter Tryz.func110, Tryz.ntmps110
  go_wp2_with fail
  go_loopw [3, 4] (fun out i wr => ∃ (j : Nat), i = .int .i64 ((j : Int) - 1) ∧ j ≤ l.length ∧ RdI wr out .u8 (digs 10 (val 1000000000 (l.drop j))) ∧ Below w.heap.size w wr) (fun _ i _ => (intOf i + 1).toNat)
  case atStart => exact ⟨l.length, by go_num, by omega, by rw [List.drop_length, val, digs_zero]; exact ⟨none, 0, rfl, by simp, by unfold maxLen; omega, fun _ => rfl, fun i hi => by simp at hi⟩, Below.refl _ _⟩
  case round =>
    obtain ⟨j, rfl, hj, hout, hbl⟩ := hrel
    have HO := Lib.hid hout
    obtain ⟨oo, oc, rfl, _, hom, _, _⟩ := hout
    have HBL := Lib.hid hbl
    have hsr := hbl.size
    clear hbl
    by_cases hj0 : 0 < j
    · obtain ⟨i, rfl⟩ : ∃ i, j = i + 1 := ⟨j - 1, by omega⟩
      have hil : i < l.length := by omega
      obtain ⟨ad, rfl, hcell0⟩ := HX.out i hil
      have HCELL : Hid (w.cell? (ad.add i) = some (.int .u32 (dg l i : Nat))) := hcell0
      have hlt0 := World.block_lt_of_cell? w _ hcell0
      have HLT := Lib.hid hlt0
      clear hcell0 hlt0
      obtain ⟨N, hN⟩ : ∃ N, N = val 1000000000 (l.drop (i + 1)) := ⟨_, rfl⟩
      have HDR : Hid (val 1000000000 (l.drop i) = dg l i + 1000000000 * N) := by unfold Hid; rw [drop_dg l i hil, val, hN]
      have hNl : N < 1000000000 ^ (2 * l.length) := by
        rw [hN]
        exact Nat.lt_of_lt_of_le (val_lt_any _ fun x hx => H2.out x (List.mem_of_mem_drop hx)) (Nat.pow_le_pow_right (by omega) (by rw [List.length_drop]; omega))
      have hdl := digs10_len hNl
      rw [← hN] at HO ⊢
      clear hN hNl
      rw [show (((i + 1 : Nat) : Int) - 1) = (i : Int) by omega]
      rcases Nat.eq_zero_or_pos N with hz | hp
      · subst hz
        have hc : wr.cell? (ad.add i) = some (.int .u32 (dg l i : Nat)) := (HBL.out.cell HLT.out).trans HCELL.out
        have HOP : Hid (RdI wr (.slice oo (digs 10 0).length oc) .u8 []) := HO.out
        have HOPX : Hid (∀ x ∈ ([] : List Nat), x < 10) := by intro x hx; simp at hx
        have HOPL : Hid (([] : List Nat).length ≤ 100000000) := by unfold Hid; simp
        have HOPV : Hid (val 10 [] = 1000000000 * 0) := rfl
        have HBW : Hid (Below w.heap.size w wr) := HBL.out
        clear HO
        rw [digs_zero, List.length_nil] at HOP ⊢
        obtain ⟨wq, hwq⟩ : ∃ wq, wq = wr := ⟨_, rfl⟩
        subst hwq
        go_wp2_with fail
        have hsW := HBW.out.size
        go_loopw [5, 6] (fun d n wx => ∃ (ds : List Nat) (nn : Nat), n = .int .u32 nn ∧ nn < 4294967296 ∧ Own wx wq.heap.size 5 .u8 d ds ∧ (∀ x ∈ ds, x < 10) ∧ val 10 ds + 10 ^ ds.length * nn = dg l i ∧ ds.length ≤ 20 ∧ Below wq.heap.size wq wx) (fun _ n _ => (intOf n).toNat)
        case atStart => exact ⟨[], dg l i, rfl, dg_lt H2.out (by omega) i, World.ownsRow_nil _ _ _ _, by simp, by simp [val], by simp, Below.refl _ _⟩
        case round =>
          obtain ⟨ds, nn, rfl, hnn, hown, hdx, hdv, hdl, hbx⟩ := hrel
          have HDX := Lib.hid hdx
          have HDV := Lib.hid hdv
          have HBX := Lib.hid hbx
          have HOW := Lib.hid hown
          have hsx := hbx.size
          obtain ⟨eo, ec, rfl, _, _, _, _⟩ := hown.rd
          clear hown
          have HLI := Lib.hid (dg_lt H2.out (by omega) i)
          clear hdx hdv hbx
          by_cases hn0 : 0 < nn
          · have HXX : Hid ((nn : Int) % 10 = (nn % 10 : Nat)) := by unfold Hid; omega
            have hdl2 : ds.length + 1 ≤ 20 := by
              have h1 := HDV.out
              have h2 : 10 ^ ds.length * 1 ≤ 10 ^ ds.length * nn := Nat.mul_le_mul_left _ hn0
              have h3 : 10 ^ ds.length < 10 ^ 10 := by have := HLI.out; omega
              have := (Nat.pow_lt_pow_iff_right (by omega)).1 h3
              omega
            go_wp2_with (at_builtin; refine app1 rfl _ _ 109 rfl 5 .u8 i0 1 Tryz.underlying109 hi hz0 hz1 hz2 wq.heap.size _ ds rfl HOW.out _ (nn % 10) (by first | exact HXX.out | (rw [← HXX.out]; try rfl)) rfl rfl (by unfold maxLen; omega) (by omega) (by omega) ?_; intro v' w5 hown2 hb5)
            go_roundw
            case rel => exact ⟨ds ++ [nn % 10], nn / 10, by go_num, by omega, hown2, by intro x hx; rcases List.mem_append.1 hx with h | h; exact HDX.out x h; simp at h; omega, dig_step HDV.out, by simp; omega, HBX.out.trans (hb5.mono (by omega))⟩
            case measure => simp [intOf]; omega
          · obtain rfl : nn = 0 := by omega
            have HDE : Hid (val 10 ds = dg l i) := by have := HDV.out; unfold Hid; omega
            go_wp2_with fail
            refine (refPlus_any _ _ _ ds _ (HOP.out.keep HBX.out) HOW.out.rd HOPX.out HDX.out HOPL.out (by omega)).mono ?_
            rintro e w6 ⟨u, rfl, hu, hb6⟩
            rw [HDE.out, HOPV.out, Nat.add_comm, ← HDR.out] at hu
            go_wp2_with fail
            go_roundw
            case rel => exact ⟨i, by go_num, by omega, hu, (HBW.out.trans (HBX.out.mono hsW)).trans (hb6.mono (by omega))⟩
            case measure => simp [intOf] <;> omega

      · have hpl : 0 < (digs 10 N).length := by
          rcases Nat.eq_zero_or_pos (digs 10 N).length with h | h
          · have := val_digs 10 (by omega) N
            rw [List.length_eq_zero_iff.1 h] at this
            simp [val] at this; omega
          · exact h
        go_wp2_with (first | (at_make; refine mk0 rfl _ _ 109 rfl 5 .u8 i0 1 Tryz.underlying109 hi hz0 hz1 hz2 _ _ _ _ 9 rfl rfl rfl rfl (by omega) (by unfold maxLen; omega) ?_; intro w3 hown3 hb3; have hs3 := hb3.size) | (at_builtin; refine appL rfl _ _ 109 rfl 5 .u8 i0 1 Tryz.underlying109 hi hz0 hz1 hz2 wr.heap.size _ (List.replicate 9 0) rfl hown3 _ (digs 10 N) rfl (HO.out.keep hb3) (by simp; unfold maxLen; omega) (by simp; omega) (by omega) ?_; intro v4 w4 hown4 hb4; obtain ⟨vo, vc, rfl, _, _, _, _⟩ := hown4.rd; have HOP := Lib.hid hown4.rd; have HBW : Hid (Below w.heap.size w w4) := ((HBL.out.trans (hb3.mono hsr)).trans (hb4.mono hsr)); have hc : w4.cell? (ad.add i) = some (.int .u32 (dg l i : Nat)) := (HBW.out.cell HLT.out).trans HCELL.out; have HOPX : Hid (∀ x ∈ List.replicate 9 0 ++ digs 10 N, x < 10) := (by intro x hx; rcases List.mem_append.1 hx with h | h; (rw [List.eq_of_mem_replicate h]; omega); exact digs_lt _ (by omega) _ x h); have HOPL : Hid ((List.replicate 9 0 ++ digs 10 N).length ≤ 100000000) := (by unfold Hid; simp; omega); have HOPV : Hid (val 10 (List.replicate 9 0 ++ digs 10 N) = 1000000000 * N) := (by unfold Hid; rw [val_noughts, val_digs _ (by omega)]); clear hown3 hown4 hb3 hb4 HO))
        go_wp2_with fail
        have hsW := HBW.out.size
        go_loopw [5, 6] (fun d n wx => ∃ (ds : List Nat) (nn : Nat), n = .int .u32 nn ∧ nn < 4294967296 ∧ Own wx w4.heap.size 5 .u8 d ds ∧ (∀ x ∈ ds, x < 10) ∧ val 10 ds + 10 ^ ds.length * nn = dg l i ∧ ds.length ≤ 20 ∧ Below w4.heap.size w4 wx) (fun _ n _ => (intOf n).toNat)
        case atStart => exact ⟨[], dg l i, rfl, dg_lt H2.out (by omega) i, World.ownsRow_nil _ _ _ _, by simp, by simp [val], by simp, Below.refl _ _⟩
        case round =>
          obtain ⟨ds, nn, rfl, hnn, hown, hdx, hdv, hdl, hbx⟩ := hrel
          have HDX := Lib.hid hdx
          have HDV := Lib.hid hdv
          have HBX := Lib.hid hbx
          have HOW := Lib.hid hown
          have hsx := hbx.size
          obtain ⟨eo, ec, rfl, _, _, _, _⟩ := hown.rd
          clear hown
          have HLI := Lib.hid (dg_lt H2.out (by omega) i)
          clear hdx hdv hbx
          by_cases hn0 : 0 < nn
          · have HXX : Hid ((nn : Int) % 10 = (nn % 10 : Nat)) := by unfold Hid; omega
            have hdl2 : ds.length + 1 ≤ 20 := by
              have h1 := HDV.out
              have h2 : 10 ^ ds.length * 1 ≤ 10 ^ ds.length * nn := Nat.mul_le_mul_left _ hn0
              have h3 : 10 ^ ds.length < 10 ^ 10 := by have := HLI.out; omega
              have := (Nat.pow_lt_pow_iff_right (by omega)).1 h3
              omega
            go_wp2_with (at_builtin; refine app1 rfl _ _ 109 rfl 5 .u8 i0 1 Tryz.underlying109 hi hz0 hz1 hz2 w4.heap.size _ ds rfl HOW.out _ (nn % 10) (by first | exact HXX.out | (rw [← HXX.out]; try rfl)) rfl rfl (by unfold maxLen; omega) (by omega) (by omega) ?_; intro v' w5 hown2 hb5)
            go_roundw
            case rel => exact ⟨ds ++ [nn % 10], nn / 10, by go_num, by omega, hown2, by intro x hx; rcases List.mem_append.1 hx with h | h; exact HDX.out x h; simp at h; omega, dig_step HDV.out, by simp; omega, HBX.out.trans (hb5.mono (by omega))⟩
            case measure => simp [intOf]; omega
          · obtain rfl : nn = 0 := by omega
            have HDE : Hid (val 10 ds = dg l i) := by have := HDV.out; unfold Hid; omega
            go_wp2_with fail
            refine (refPlus_any _ _ _ ds _ (HOP.out.keep HBX.out) HOW.out.rd HOPX.out HDX.out HOPL.out (by omega)).mono ?_
            rintro e w6 ⟨u, rfl, hu, hb6⟩
            rw [HDE.out, HOPV.out, Nat.add_comm, ← HDR.out] at hu
            go_wp2_with fail
            go_roundw
            case rel => exact ⟨i, by go_num, by omega, hu, (HBW.out.trans (HBX.out.mono hsW)).trans (hb6.mono (by omega))⟩
            case measure => simp [intOf] <;> omega

    · obtain rfl : j = 0 := by omega
      go_wp2_with fail
      go_ret
      exact ⟨_, rfl, HO.out, HBL.out⟩

end Go.Proofs.YtjfncepmpabcnaaGreatDoor

namespace Go.Proofs.YtjfncepmpabcnaaGreatDoor
open Go.RowKit

theorem rgt_of_pow {b : Nat} {l : List Nat} (hx : ∀ x ∈ l, x < b) (h : l.length = 0 ∨ b ^ (l.length - 1) ≤ val b l) : Rgt b l := by
  refine rgt_of_last hx ?_
  rcases h with h | h
  · exact .inl h
  rcases Nat.eq_zero_or_pos l.length with h0 | h0
  · exact .inl h0
  refine .inr fun hc => ?_
  have h1 := val_dropLast b l h0 hc
  have h2 := val_lt b l.dropLast fun x hx' => hx x ((List.dropLast_sublist l).subset hx')
  rw [List.length_dropLast] at h2
  omega
theorem drop_chunk {l : List Nat} {e t : Nat} (he : e ≤ l.length) (ht : t < e) : val 10 ((l.take e).drop t) = dg l t + 10 * val 10 ((l.take e).drop (t + 1)) := by
  have hl : t < (l.take e).length := by simp; omega
  rw [drop_dg _ t hl, val]
  congr 1
  rw [dg_eq _ t hl, dg_eq _ t (by omega)]
  simp
theorem write_step {l ds : List Nat} {e i : Nat} (he : e ≤ l.length) (hi : i ≤ e) (hds : i = 9 * ds.length) (h : val 1000000000 ds = val 10 (l.take i)) :
    val 1000000000 (ds ++ [val 10 ((l.take e).drop i)]) = val 10 (l.take e) := by
  have hs := val_split 10 (l.take e) i (by simp; omega)
  rw [List.take_take, Nat.min_eq_left hi] at hs
  rw [val_snoc, hs, h, show (1000000000 : Nat) = 10 ^ 9 from rfl, ← Nat.pow_mul, ← hds]
theorem chunk_lt {l : List Nat} {e t : Nat} (hx : ∀ x ∈ l, x < 10) (he : e ≤ t + 9) : val 10 ((l.take e).drop t) < 1000000000 := by
  have h1 := val_lt 10 ((l.take e).drop t) fun x h => hx x (List.mem_of_mem_take (List.mem_of_mem_drop h))
  have : (10 : Nat) ^ ((l.take e).drop t).length ≤ 10 ^ 9 := Nat.pow_le_pow_right (by omega) (by simp; omega)
  omega

set_option maxRecDepth 100000 in
set_option maxHeartbeats 4000000 in
theorem refWrite_any (v : Value) (l : List Nat) (w : World) (hv : RdI w v .u8 l) (h1 : l.length ≤ 100000000) (h2 : Rgt 10 l) :
    Calls Tryz.prog 111 #[v] w fun e w' => ∃ u, e = .returned u ∧ Own w' w.heap.size 103 .u32 u (digs 1000000000 (val 10 l)) ∧ Below w.heap.size w w' := by
  have H2 := Lib.hid h2
  obtain ⟨ao, ac, rfl, _, hm, _, hx⟩ := hv
  have HX := Lib.hid hx
  clear hx h2
  unfold maxLen at hm
  obtain ⟨i0, hi, hz0, hz1, hz2⟩ := info_parts Tryz.infoU32
  go_enter Tryz.func111, Tryz.ntmps111
  go_wp2_with fail
  go_loopw [3, 4] (fun out i wr => ∃ (ds : List Nat) (j : Nat), i = .int .i64 j ∧ j = 9 * ds.length ∧ j < l.length + 9 ∧ Own wr w.heap.size 103 .u32 out ds ∧ (∀ x ∈ ds, x < 1000000000) ∧ val 1000000000 ds = val 10 (l.take j) ∧ Below w.heap.size w wr) (fun _ i _ => l.length + 9 - (intOf i).toNat)
  case atStart => exact ⟨[], 0, rfl, rfl, by omega, World.ownsRow_nil _ _ _ _, by simp, by simp [val], Below.refl _ _⟩
  case round =>
    obtain ⟨ds, j, rfl, hj, hjl, hown, hdx, hdv, hbl⟩ := hrel
    have HJ := Lib.hid hj
    have HOW := Lib.hid hown
    have HDX := Lib.hid hdx
    have HDV := Lib.hid hdv
    have HBL := Lib.hid hbl
    have hsr := hbl.size
    obtain ⟨oo, oc, rfl, _, _, _, _⟩ := hown.rd
    clear hj hown hdx hdv hbl
    by_cases hjn : j < l.length
    · obtain ⟨e, he⟩ : ∃ e : Nat, e = min (j + 9) l.length := ⟨_, rfl⟩
      have hel : e ≤ l.length := by omega
      have hje : j < e := by omega
      have he9 : e ≤ j + 9 := by omega
      have hmn : ∀ (ts : Array TypeId) (t : TypeId) (w : World), (Builtin.min_ ts t #[.int .i64 ((j : Int) + 9), .int .i64 (l.length : Int)]).run Tryz.prog w = .ok (.int .i64 (e : Int)) w := by
        intro ts t w
        rw [run_min_int2]
        congr 2
        subst he
        split <;> omega
      have HE : Hid (l.take (j + 9) = l.take e) := by
        unfold Hid
        rcases Nat.lt_or_ge (j + 9) l.length with h | h
        · congr 1; omega
        · rw [List.take_of_length_le (by omega), List.take_of_length_le (by omega)]
      clear he
      go_wp2_with fail
      have h0 : ((l.take e).drop e) = [] := List.drop_of_length_le (by rw [List.length_take]; exact Nat.min_le_left _ _)
      go_loop [5, 6] (fun n k => ∃ (t nn : Nat), n = .int .u32 nn ∧ k = .int .i64 ((t : Int) - 1) ∧ j ≤ t ∧ t ≤ e ∧ nn = val 10 ((l.take e).drop t)) (fun _ k => (intOf k + 1).toNat)
      case atStart => exact ⟨e, 0, rfl, rfl, by omega, Nat.le_refl _, by rw [h0]; rfl⟩
      case round =>
        obtain ⟨t, nn, rfl, rfl, hjt, hte, hnn⟩ := hrel
        have HNN := Lib.hid hnn
        have hnl : nn < 1000000000 := by rw [hnn]; exact chunk_lt H2.out.1 (by omega)
        clear hnn
        by_cases htj : j < t
        · obtain ⟨q, rfl⟩ : ∃ q, t = q + 1 := ⟨t - 1, by omega⟩
          obtain ⟨ad, rfl, hcell⟩ := HX.out q (by omega)
          have hc := (HBL.out.cell (World.block_lt_of_cell? w _ hcell)).trans hcell
          have HST := drop_chunk (l := l) hel (show q < e by omega)
          rw [← HNN.out] at HST
          have hnew : 10 * nn + dg l q < 1000000000 := by
            have := chunk_lt (l := l) (e := e) (t := q) H2.out.1 (by omega)
            omega
          have HST2 := Lib.hid HST
          clear HST hcell
          rw [show (((q + 1 : Nat) : Int) - 1) = (q : Int) by omega]
          have hq0 : (0 : Int) ≤ (q : Int) := by omega
          have hq1 : (q : Int) < (l.length : Int) := by omega
          have hq2 : (j : Int) ≤ (q : Int) := by omega
          go_wp2_with fail
          go_round
          case rel => exact ⟨q, 10 * nn + dg l q, by go_num, by go_num, by omega, by omega, by rw [HST2.out]; omega⟩
          case measure => simp [intOf]
        · obtain rfl : t = j := by omega
          have hq2 : ¬ ((t : Int) ≤ (t : Int) - 1) := by omega
          have HST := Lib.hid (write_step hel (Nat.le_of_lt hje) HJ.out HDV.out)
          have HDL : Hid (ds.length ≤ 100000000) := by have := HJ.out; unfold Hid; omega
          have HNX : Hid (∀ x ∈ ds ++ [nn], x < 1000000000) := by
            intro x hx
            rcases List.mem_append.1 hx with h | h
            · exact HDX.out x h
            · simp at h; omega
          go_wp2_with (at_builtin; refine app1 rfl _ _ 27 rfl 103 .u32 i0 4 Tryz.underlying27 hi hz0 hz1 hz2 w.heap.size _ ds rfl HOW.out _ nn rfl rfl rfl (by have := HDL.out; unfold maxLen; omega) (by have := HDL.out; omega) (by omega) ?_; intro v' w5 hown2 hb5)
          go_roundw
          case rel => exact ⟨ds ++ [nn], t + 9, by go_num, by have := HJ.out; simp; omega, by omega, hown2, HNX.out, by rw [HE.out, HNN.out]; exact HST.out, HBL.out.trans (hb5.mono (by omega))⟩
          case measure => simp [intOf]; omega
    · have HVE : Hid (val 1000000000 ds = val 10 l) := by have := HDV.out; rwa [List.take_of_length_le (by omega)] at this
      have HR : Hid (ds = digs 1000000000 (val 10 l)) := by
        unfold Hid
        rw [← HVE.out]
        refine (rgt_of_pow HDX.out ?_).digs (by omega)
        rcases Nat.eq_zero_or_pos ds.length with h0 | h0
        · exact .inl h0
        right
        have hj2 := HJ.out
        have h3 := rgt_pow_le H2.out (by omega)
        have h4 : (1000000000 : Nat) ^ (ds.length - 1) ≤ 10 ^ (l.length - 1) := by
          rw [show (1000000000 : Nat) = 10 ^ 9 from rfl, ← Nat.pow_mul]
          exact Nat.pow_le_pow_right (by omega) (by omega)
        rw [HVE.out]; omega
      go_wp2_with fail
      go_ret
      exact ⟨_, rfl, by rw [← HR.out]; exact HOW.out, HBL.out⟩

end Go.Proofs.YtjfncepmpabcnaaGreatDoor

namespace Go.Proofs.YtjfncepmpabcnaaGreatDoor
open Go.RowKit

theorem infoInt : (Tryz.prog.info? 3).map (fun i => (i.zero, i.size, i.bytes)) = some (some (.int .i64 0), 1, 8) := by kernel_rfl

theorem wrap_i64 (n : Int) (h : -9223372036854775808 ≤ n ∧ n ≤ 9223372036854775807) : IntKind.i64.wrap n = n := by
  simp only [IntKind.wrap, IntKind.signed, IntKind.bits]
  simp
  omega
theorem sums_step {l m S : List Nat} {i k : Nat} (h : val 10 S = val 10 (l.take i) * val 10 m + 10 ^ i * (dg l i * val 10 (m.take k))) (hj : i + k < S.length) {p : Nat} (hp : p = dg l i * dg m k) :
    val 10 (S.set (i + k) (dg S (i + k) + p)) = val 10 (l.take i) * val 10 m + 10 ^ i * (dg l i * val 10 (m.take (k + 1))) := by
  have e1 := val_set 10 S (i + k) (dg S (i + k) + p) hj
  rw [take_b, Nat.mul_add, Nat.mul_add]
  have e3 : 10 ^ i * (dg l i * (10 ^ k * dg m k)) = 10 ^ (i + k) * p := by
    subst hp
    rw [Nat.pow_add, Nat.mul_left_comm (dg l i), ← Nat.mul_assoc]
  rw [e3]
  generalize 10 ^ (i + k) = Q at *
  rw [Nat.mul_add] at e1
  omega
theorem dg_set (l : List Nat) (j y p : Nat) : dg (l.set j y) p = if p = j ∧ j < l.length then y else dg l p := by
  unfold dg
  simp only [List.getD_eq_getElem?_getD, List.getElem?_set]
  by_cases h : j = p
  · subst h
    by_cases h2 : j < l.length <;> simp [h2]
  · have h2 : ¬ p = j := fun h' => h h'.symm
    simp [h, h2]
theorem out_step {O S : List Nat} {i c : Nat} (h : val 10 (O.take i) + 10 ^ i * c = val 10 (S.take i)) (hi : i < O.length) {x : Nat} (hx : x = c + dg S i) :
    val 10 ((O.set i (x % 10)).take (i + 1)) + 10 ^ (i + 1) * (x / 10) = val 10 (S.take (i + 1)) := by
  rw [take_b, take_b, List.take_set_of_le (by omega), dg_set, if_pos ⟨rfl, hi⟩, Nat.pow_succ]
  have e := Nat.mod_add_div x 10
  generalize x % 10 = r at *
  generalize x / 10 = q at *
  generalize 10 ^ i = P at *
  have e2 : P * x = P * c + P * dg S i := by rw [hx, Nat.mul_add]
  have e3 : P * x = P * r + P * 10 * q := by rw [← e, Nat.mul_add, Nat.mul_assoc]
  omega
theorem val_lt2 {l m : List Nat} (hl : ∀ x ∈ l, x < 10) (hm : ∀ x ∈ m, x < 10) : val 10 l * val 10 m < 10 ^ (l.length + m.length) := by
  rw [Nat.pow_add]
  exact Nat.mul_lt_mul'' (val_lt 10 l hl) (val_lt 10 m hm)

set_option maxRecDepth 100000 in
set_option maxHeartbeats 4000000 in
theorem refTimes_any (v u : Value) (l m : List Nat) (w : World) (hv : RdI w v .u8 l) (hu : RdI w u .u8 m) (hl : ∀ x ∈ l, x < 10) (hm : ∀ x ∈ m, x < 10) (h1 : l.length ≤ 1000000) (h2 : m.length ≤ 1000000) :
    Calls Tryz.prog 109 #[v, u] w fun e w' => ∃ u, e = .returned u ∧ RdI w' u .u8 (digs 10 (val 10 l * val 10 m)) ∧ Below w.heap.size w w' := by
  have HL := Lib.hid hl
  have HM := Lib.hid hm
  obtain ⟨ao, ac, rfl, _, hac, _, hx⟩ := hv
  obtain ⟨bo, bc, rfl, _, hbc, _, hy⟩ := hu
  have HX := Lib.hid hx
  have HY := Lib.hid hy
  clear hl hm hx hy
  obtain ⟨i0, hi, hz0, hz1, hz2⟩ := info_parts Tryz.infoU8
  obtain ⟨j0, hj, hy0, hy1, hy2⟩ := info_parts infoInt
  have hnil : ∀ (w : World) (l : List Nat), l = [] → RdI w (.slice none 0 0) .u8 l := by
    rintro w _ rfl
    exact ⟨none, 0, rfl, by simp, by unfold maxLen; omega, fun _ => rfl, fun i hi => by simp at hi⟩
  by_cases hl0 : l.length = 0
  · have hb : ((l.length : Int) == 0) = true := by simp [hl0]
    have HE : Hid (digs 10 (val 10 l * val 10 m) = []) := by unfold Hid; rw [List.length_eq_zero_iff.1 hl0, val, Nat.zero_mul, digs_zero]
    go_enter Tryz.func109, Tryz.ntmps109
    go_wp2_with fail
    go_ret
    exact ⟨_, rfl, hnil _ _ HE.out, Below.refl _ _⟩
  have hb1 : ((l.length : Int) == 0) = false := by simp only [beq_eq_false_iff_ne, ne_eq]; omega
  by_cases hm0 : m.length = 0
  · have hb : ((m.length : Int) == 0) = true := by simp [hm0]
    have HE : Hid (digs 10 (val 10 l * val 10 m) = []) := by unfold Hid; rw [List.length_eq_zero_iff.1 hm0, val, Nat.mul_zero, digs_zero]
    go_enter Tryz.func109, Tryz.ntmps109
    go_wp2_with fail
    go_ret
    exact ⟨_, rfl, hnil _ _ HE.out, Below.refl _ _⟩
  have hb2 : ((m.length : Int) == 0) = false := by simp only [beq_eq_false_iff_ne, ne_eq]; omega
  clear hnil
  go_enter Tryz.func109, Tryz.ntmps109
  go_wp2_with (at_make; refine mk0 rfl _ _ 145 rfl 3 .i64 j0 8 Tryz.underlying145 hj hy0 hy1 hy2 _ _ _ _ (l.length + m.length) rfl rfl (by simp) (by simp) (by omega) (by unfold maxLen; omega) ?_)
  intro w1 hown hbw1
  obtain ⟨n, hn⟩ : ∃ n, n = l.length + m.length := ⟨_, rfl⟩
  rw [← hn] at hown ⊢
  have hn1 : n ≤ 2000000 := by omega
  have hnl : l.length ≤ n := by omega
  have HN := Lib.hid hn
  have hii : ∀ (i k : Nat), i < l.length → k < m.length → i + k < n := by intro i k h1 h2; omega
  have HII := Lib.hid hii
  clear hn hii
  go_wp2_with fail
  go_loopw [6] (fun i wr => ∃ (ii : Nat) (S : List Nat), i = .int .i64 ii ∧ ii ≤ l.length ∧ S.length = n ∧ (∀ p, dg S p ≤ 81 * ii) ∧ val 10 S = val 10 (l.take ii) * val 10 m ∧
      Own wr w.heap.size 3 .i64 (.slice (some ⟨w.heap.size, 0, none⟩) n n) S ∧ Below w.heap.size w wr) (fun i _ => l.length - (intOf i).toNat)
  case atStart => exact ⟨0, List.replicate n 0, rfl, by omega, by simp, by intro p; unfold dg; simp only [List.getD_eq_getElem?_getD, List.getElem?_replicate]; split <;> simp, by
    have := val_noughts 10 n []
    rw [List.append_nil] at this
    rw [this]; simp [val], hown, hbw1⟩
  case round =>
    obtain ⟨i, S, rfl, hil1, hSl, hSx, hSv, hown, hbl⟩ := hrel
    have HOW := Lib.hid hown
    have HSL := Lib.hid hSl
    have HSX := Lib.hid hSx
    have HSV := Lib.hid hSv
    have HBL := Lib.hid hbl
    have hsr := hbl.size
    clear hown hSl hSx hSv hbl
    by_cases hil : i < l.length
    · obtain ⟨ad, rfl, hcell⟩ := HX.out i hil
      have HCA : Hid (∀ wx, Below w.heap.size w wx → wx.cell? (ad.add i) = some (.int .u8 (dg l i : Nat))) := fun wx hb => (hb.cell (World.block_lt_of_cell? w _ hcell)).trans hcell
      clear hcell
      go_wp2_with fail
      go_loopw [7] (fun k wr => ∃ (kk : Nat) (S : List Nat), k = .int .i64 kk ∧ kk ≤ m.length ∧ S.length = n ∧ (∀ p, dg S p ≤ 81 * i + 81) ∧ (∀ p, i + kk ≤ p → dg S p ≤ 81 * i) ∧ val 10 S = val 10 (l.take i) * val 10 m + 10 ^ i * (dg l i * val 10 (m.take kk)) ∧
          Own wr w.heap.size 3 .i64 (.slice (some ⟨w.heap.size, 0, none⟩) n n) S ∧ Below w.heap.size w wr) (fun k _ => m.length - (intOf k).toNat)
      case atStart => exact ⟨0, S, rfl, by omega, HSL.out, fun p => by have := HSX.out p; omega, fun p _ => HSX.out p, by rw [HSV.out]; simp [val], HOW.out, HBL.out⟩
      case round =>
        obtain ⟨k, T, rfl, hk, hTl, hT1, hT2, hTv, hown, hbl⟩ := hrel
        have HOT := Lib.hid hown
        have HTL := Lib.hid hTl
        have HT1 := Lib.hid hT1
        have HT2 := Lib.hid hT2
        have HTV := Lib.hid hTv
        have HBT := Lib.hid hbl
        have hst := hbl.size
        clear hTl hT1 hT2 hTv
        by_cases hkm : k < m.length
        · obtain ⟨bd, rfl, hcell⟩ := HY.out k hkm
          have hcb := (HBT.out.cell (World.block_lt_of_cell? w _ hcell)).trans hcell
          have hca := HCA.out _ HBT.out
          have hikn := HII.out i k hil hkm
          have hct := hown.cell (i + k) (by rw [HTL.out]; omega)
          have hft := hown.free (i + k)
          have hda : dg l i ≤ 9 := by have := dg_lt HL.out (by omega) i; omega
          have hdb : dg m k ≤ 9 := by have := dg_lt HM.out (by omega) k; omega
          have hdt : dg T (i + k) ≤ 81 * i := HT2.out _ (Nat.le_refl _)
          obtain ⟨p, hp⟩ : ∃ p, p = dg l i * dg m k := ⟨_, rfl⟩
          have hp81 : p ≤ 81 := by rw [hp]; exact Nat.mul_le_mul hda hdb
          have hpi : (dg l i : Int) * (dg m k : Int) = (p : Int) := by rw [hp]; simp
          have HP := Lib.hid hp
          have hik0 : (0 : Int) ≤ (i : Int) + (k : Int) := by omega
          have hik1 : (i : Int) + (k : Int) < (n : Int) := by omega
          have hw1 : IntKind.i64.wrap ((i : Int) + (k : Int)) = (i : Int) + (k : Int) := wrap_i64 _ (by omega)
          have hw2 : IntKind.i64.wrap ((dg l i : Int) * (dg m k : Int)) = (p : Int) := by rw [hpi]; exact wrap_i64 _ (by omega)
          have hw3 : IntKind.i64.wrap (p : Int) = (p : Int) := wrap_i64 _ (by omega)
          have hw4 : IntKind.i64.wrap ((dg T (i + k) : Int) + (p : Int)) = (dg T (i + k) : Int) + (p : Int) := wrap_i64 _ (by omega)
          have hw5 : IntKind.i64.wrap (dg l i : Int) = (dg l i : Int) := wrap_i64 _ (by omega)
          have hw6 : IntKind.i64.wrap (dg m k : Int) = (dg m k : Int) := wrap_i64 _ (by omega)
          have htn : ((i : Int) + (k : Int)).toNat = i + k := by omega
          have hct2 : wr.cell? ⟨w.heap.size, ((i : Int) + (k : Int)).toNat, none⟩ = some (.int .i64 (dg T (i + k) : Nat)) := by rw [htn]; exact hct
          have hft2 : wr.frozen? ⟨w.heap.size, ((i : Int) + (k : Int)).toNat, none⟩ = false := by rw [htn]; exact hft
          clear hcell hown hbl hp
          clear htn
          go_wp2_with fail
          refine wp_region_still_tail 22 (by kernel_rfl) (by kernel_rfl) ?_
          simp only [List.take_succ_cons, List.take_zero, List.drop_succ_cons, List.drop_zero]
          repeat still_step
          refine wpStill_nil ?_
          change wpList _ _ _ _ _ wr.drew
          go_wp2_with fail
          go_roundw
          case rel =>
            refine ⟨k + 1, T.set (i + k) (dg T (i + k) + p), by go_num, by omega, by simp [HTL.out], ?_, ?_, sums_step HTV.out (by rw [HTL.out]; omega) HP.out, ?_, (HBT.out.drew).setCell (by simp) _⟩
            · intro q; rw [dg_set]; have := HT1.out q; split <;> omega
            · intro q hq; rw [dg_set, if_neg (by omega)]; exact HT2.out q (by omega)
            · exact HOT.out.drew.stored _ _
          case measure => simp [intOf]; omega
        · have hkm : m.length ≤ k := by omega
          go_wp2_with fail
          go_roundw
          case rel =>
            refine ⟨i + 1, T, by go_num, by omega, HTL.out, fun p => by have := HT1.out p; omega, ?_, HOT.out, HBT.out⟩
            have := HTV.out
            rw [List.take_of_length_le hkm] at this
            rw [this, take_b, Nat.add_mul, Nat.mul_assoc]
          case measure => simp [intOf]; omega
    · obtain rfl : i = l.length := by omega
      obtain ⟨wq, hwq⟩ : ∃ wq, wq = wr := ⟨_, rfl⟩
      subst hwq
      have HSV2 : Hid (val 10 S = val 10 l * val 10 m) := by have := HSV.out; rwa [List.take_length] at this
      have HSR := Lib.hid HOW.out.rd
      go_wp2_with (at_make; refine mk0 rfl _ _ 109 rfl 5 .u8 i0 1 Tryz.underlying109 hi hz0 hz1 hz2 _ _ _ _ n rfl rfl rfl rfl (by omega) (by unfold maxLen; omega) ?_)
      intro w3 hown3 hb3
      have hs3 := hb3.size
      go_wp2_with fail
      go_loopw [9, 10] (fun c i wx => ∃ (ii cc : Nat) (O : List Nat), i = .int .i64 ii ∧ c = .int .i64 cc ∧ cc ≤ 100000000000 ∧ ii ≤ n ∧ O.length = n ∧ (∀ x ∈ O, x < 10) ∧ val 10 (O.take ii) + 10 ^ ii * cc = val 10 (S.take ii) ∧
          Own wx wq.heap.size 5 .u8 (.slice (some ⟨wq.heap.size, 0, none⟩) n n) O ∧ Below wq.heap.size wq wx) (fun _ i _ => n - (intOf i).toNat)
      case atStart => exact ⟨0, 0, List.replicate n 0, rfl, rfl, by omega, by omega, by simp, by intro x hx; rw [List.eq_of_mem_replicate hx]; omega, by simp [val], hown3, hb3⟩
      case round =>
        obtain ⟨k, c, O, rfl, rfl, hc, hk, hOl, hOx, hOv, hown, hbx⟩ := hrel
        have HOO := Lib.hid hown
        have HOL := Lib.hid hOl
        have HOX := Lib.hid hOx
        have HOV := Lib.hid hOv
        have HBX := Lib.hid hbx
        have hsx := hbx.size
        by_cases hkn : k < n
        · have hcs : wq.cell? ⟨wq.heap.size, k, none⟩ = none ∨ True := .inr trivial
          have hct : wr.cell? ⟨w.heap.size, k, none⟩ = some (.int .i64 (dg S k : Nat)) := by
            have h := HOW.out.cell k (by rw [HSL.out]; exact hkn)
            exact (hbx.cell (World.block_lt_of_cell? wq _ h)).trans h
          have hdo := hown.cell k (by rw [HOL.out]; exact hkn)
          have hfo := hown.free k
          have hds : dg S k ≤ 81 * l.length := HSX.out k
          have hki : (0 : Int) ≤ (k : Int) := by omega
          have hkj : (k : Int) < (n : Int) := by omega
          clear hown hOl hOx hOv hbx hcs
          have HXX : Hid (((c : Int) + (dg S k : Int)) % 10 = ((c + dg S k) % 10 : Nat)) := by unfold Hid; omega
          have hl81 : 81 * l.length ≤ 81000000 := by omega
          go_wp2_with fail
          go_roundw
          case rel =>
            refine ⟨k + 1, (c + dg S k) / 10, O.set k ((c + dg S k) % 10), by go_num, by go_num, by omega, by omega, by simp [HOL.out], ?_, out_step HOV.out (by rw [HOL.out]; exact hkn) rfl, ?_, HBX.out.setCell (by simp) _⟩
            · intro x hx
              rcases List.mem_or_eq_of_mem_set hx with h | h
              · exact HOX.out x h
              · omega
            · rw [HXX.out]; exact HOO.out.stored _ _
          case measure => simp [intOf]; omega
        · obtain rfl : k = n := by omega
          have HE : Hid (val 10 O = val 10 l * val 10 m) := by
            have h3 := HOV.out
            rw [List.take_of_length_le (by rw [HOL.out]; omega), List.take_of_length_le (by rw [HSL.out]; omega), HSV2.out] at h3
            have h4 := val_lt2 HL.out HM.out
            rw [← HN.out] at h4
            rcases Nat.eq_zero_or_pos c with h5 | h5
            · rw [h5] at h3; unfold Hid; omega
            · exfalso
              have h6 : 10 ^ k * 1 ≤ 10 ^ k * c := Nat.mul_le_mul_left _ h5
              omega
          go_wp2_with fail
          refine (refTrim_any _ O _ HOO.out.rd HOX.out).mono ?_
          rintro e w5 ⟨u, rfl, hu, rfl⟩
          rw [HE.out] at hu
          go_wp2_with fail
          go_ret
          exact ⟨_, rfl, hu, HBL.out.trans (HBX.out.mono hsr)⟩

end Go.Proofs.YtjfncepmpabcnaaGreatDoor

namespace Go.Proofs.YtjfncepmpabcnaaGreatDoor
open Go.RowKit

set_option maxRecDepth 100000 in
set_option maxHeartbeats 4000000 in
theorem refAdd_any (u : Value) (ls : List (List Nat)) (w : World) (hu : RdRows w u .u32 ls) (h2 : wgt ls ≤ 100000) (h3 : ∀ l ∈ ls, ∀ x ∈ l, x < 4294967296) :
    Calls Tryz.prog 106 #[u] w fun e w' => ∃ u, e = .returned u ∧ Own w' w.heap.size 103 .u32 u (digs 1000000000 (sumV ls)) ∧ Below w.heap.size w w' := by
  have H3 := Lib.hid h3
  obtain ⟨bo, bc, rfl, _, hbm, hx⟩ := hu
  have HX := Lib.hid hx
  clear h3 hx
  unfold maxLen at hbm
  go_enter Tryz.func106, Tryz.ntmps106
  go_wp2_with fail
  go_loopw [3, 4] (fun out i wr => ∃ (k T : Nat), i = .int .i64 k ∧ k ≤ ls.length ∧ T = (ls.take k).foldl (fun n a => n + val 1000000000 a) 0 ∧ T < 1000000000 ^ (wgt (ls.take k) + 0) ∧ RdI wr out .u8 (digs 10 T) ∧ Below w.heap.size w wr) (fun _ i _ => ls.length - (intOf i).toNat)
  case atStart => exact ⟨0, 0, rfl, by omega, rfl, by simp [wgt], ⟨none, 0, rfl, by simp [digs_zero], by unfold maxLen; omega, fun _ => rfl, fun i hi => by simp [digs_zero] at hi⟩, Below.refl _ _⟩
  case round =>
    obtain ⟨k, T, rfl, hk, hT, hTl, hTr, hbl⟩ := hrel
    have HT := Lib.hid hT
    have HTB := Lib.hid hTl
    have HTR := Lib.hid hTr
    have HBL := Lib.hid hbl
    have hsr := hbl.size
    have hw6 := wgt_take_le ls k
    have HTL : Hid ((digs 10 T).length ≤ 1000000) := by have := digs10_len hTl; unfold Hid; omega
    obtain ⟨tto, ttc, rfl, _, _, _, _⟩ := hTr
    clear hT hTl
    by_cases hkl : k < ls.length
    · obtain ⟨ad, row, had, hcell, hrow⟩ := HX.out k hkl
      subst had
      have HROW := Lib.hid (hrow.keep hbl)
      obtain ⟨rro, rrc, rfl, _, _, _, _⟩ := hrow
      have hcr := (hbl.cell (World.block_lt_of_cell? w _ hcell)).trans hcell
      have HLX : Hid (∀ x ∈ rowOf ls k, x < 4294967296) := by
        refine H3.out _ ?_
        rw [rowOf_eq ls k hkl]; exact List.getElem_mem hkl
      have hw7 := wgt_mem ls k hkl
      have HRL : Hid ((digs 10 (val 1000000000 (rowOf ls k))).length ≤ 1000000) := by have := digs10_len (val_lt_any _ HLX.out); unfold Hid; omega
      clear hcell hbl
      go_wp2_with fail
      refine (refRead_any _ (rowOf ls k) _ HROW.out (by omega) HLX.out).mono ?_
      rintro e w5 ⟨x, rfl, hx5, hb5⟩
      go_wp2_with fail
      refine (refPlus_any _ _ (digs 10 T) (digs 10 (val 1000000000 (rowOf ls k))) _ (HTR.out.keep hb5) hx5 (digs_lt _ (by omega) _) (digs_lt _ (by omega) _) (Nat.le_trans HTL.out (by omega)) (Nat.le_trans HRL.out (by omega))).mono ?_
      rintro e w6 ⟨y, rfl, hy6, hb6⟩
      rw [val_digs _ (by omega), val_digs _ (by omega)] at hy6
      have hs5 := hb5.size
      go_wp2_with fail
      go_roundw
      case rel =>
        refine ⟨k + 1, _, by go_num, by omega, ?_, ?_, hy6, HBL.out.trans ((hb5.mono hsr).trans (hb6.mono (by omega)))⟩
        · rw [foldl_take_succ _ _ _ _ hkl, ← HT.out]
        · have e : wgt (ls.take (k + 1)) + 0 = wgt (ls.take k) + 0 + 2 * (rowOf ls k).length + 1 := by rw [wgt_take_succ _ _ hkl]; omega
          rw [e]
          exact add_lt_pow HTB.out (val_lt_any _ HLX.out)
      case measure => simp [intOf]; omega
    · have HE : Hid (T = sumV ls) := by have := HT.out; rw [List.take_of_length_le (by omega)] at this; exact this
      go_wp2_with fail
      refine (refWrite_any _ (digs 10 T) _ HTR.out (Nat.le_trans HTL.out (by omega)) (digs_rgt _ (by omega) _)).mono ?_
      rintro e w5 ⟨x, rfl, hx5, hb5⟩
      rw [val_digs _ (by omega), HE.out] at hx5
      go_wp2_with fail
      go_ret
      exact ⟨_, rfl, hx5.low hsr, HBL.out.trans (hb5.mono hsr)⟩

set_option maxRecDepth 100000 in
set_option maxHeartbeats 4000000 in
theorem refMul_any (u : Value) (ls : List (List Nat)) (w : World) (hu : RdRows w u .u32 ls) (h2 : wgt ls ≤ 100000) (h3 : ∀ l ∈ ls, ∀ x ∈ l, x < 4294967296) :
    Calls Tryz.prog 62 #[u] w fun e w' => ∃ u, e = .returned u ∧ Own w' w.heap.size 103 .u32 u (digs 1000000000 (prodV ls)) ∧ Below w.heap.size w w' := by
  have H3 := Lib.hid h3
  obtain ⟨bo, bc, rfl, _, hbm, hx⟩ := hu
  have HX := Lib.hid hx
  clear h3 hx
  unfold maxLen at hbm
  go_enter Tryz.func62, Tryz.ntmps62
  go_wp2_with fail
  have hone : RdI (w.alloc (.cells #[.int .u8 1] 5)) (.slice (some ⟨w.heap.size, 0, none⟩) 1 1) .u8 (digs 10 1) := by
    rw [show digs 10 1 = [1] by rw [digs_cons _ (by omega) _ (by omega)]; rfl]
    exact rd_box _ _ _ _ _ rfl
  have hb1 : Below w.heap.size w (w.alloc (.cells #[.int .u8 1] 5)) := (Below.refl _ _).alloc (Nat.le_refl _) _
  go_loopw [3, 4] (fun out i wr => ∃ (k T : Nat), i = .int .i64 k ∧ k ≤ ls.length ∧ T = (ls.take k).foldl (fun n a => n * val 1000000000 a) 1 ∧ T < 1000000000 ^ (wgt (ls.take k) + 1) ∧ RdI wr out .u8 (digs 10 T) ∧ Below w.heap.size w wr) (fun _ i _ => ls.length - (intOf i).toNat)
  case atStart => exact ⟨0, 1, rfl, by omega, rfl, by simp [wgt], hone, hb1⟩
  case round =>
    obtain ⟨k, T, rfl, hk, hT, hTl, hTr, hbl⟩ := hrel
    have HT := Lib.hid hT
    have HTB := Lib.hid hTl
    have HTR := Lib.hid hTr
    have HBL := Lib.hid hbl
    have hsr := hbl.size
    have hw6 := wgt_take_le ls k
    have HTL : Hid ((digs 10 T).length ≤ 1000000) := by have := digs10_len hTl; unfold Hid; omega
    obtain ⟨tto, ttc, rfl, _, _, _, _⟩ := hTr
    clear hT hTl
    by_cases hkl : k < ls.length
    · obtain ⟨ad, row, had, hcell, hrow⟩ := HX.out k hkl
      subst had
      have HROW := Lib.hid (hrow.keep hbl)
      obtain ⟨rro, rrc, rfl, _, _, _, _⟩ := hrow
      have hcr := (hbl.cell (World.block_lt_of_cell? w _ hcell)).trans hcell
      have HLX : Hid (∀ x ∈ rowOf ls k, x < 4294967296) := by
        refine H3.out _ ?_
        rw [rowOf_eq ls k hkl]; exact List.getElem_mem hkl
      have hw7 := wgt_mem ls k hkl
      have HRL : Hid ((digs 10 (val 1000000000 (rowOf ls k))).length ≤ 1000000) := by have := digs10_len (val_lt_any _ HLX.out); unfold Hid; omega
      clear hcell hbl
      go_wp2_with fail
      refine (refRead_any _ (rowOf ls k) _ HROW.out (by omega) HLX.out).mono ?_
      rintro e w5 ⟨x, rfl, hx5, hb5⟩
      go_wp2_with fail
      refine (refTimes_any _ _ (digs 10 T) (digs 10 (val 1000000000 (rowOf ls k))) _ (HTR.out.keep hb5) hx5 (digs_lt _ (by omega) _) (digs_lt _ (by omega) _) (Nat.le_trans HTL.out (by omega)) (Nat.le_trans HRL.out (by omega))).mono ?_
      rintro e w6 ⟨y, rfl, hy6, hb6⟩
      rw [val_digs _ (by omega), val_digs _ (by omega)] at hy6
      have hs5 := hb5.size
      go_wp2_with fail
      go_roundw
      case rel =>
        refine ⟨k + 1, _, by go_num, by omega, ?_, ?_, hy6, HBL.out.trans ((hb5.mono hsr).trans (hb6.mono (by omega)))⟩
        · rw [foldl_take_succ _ _ _ _ hkl, ← HT.out]
        · have e : wgt (ls.take (k + 1)) + 1 = wgt (ls.take k) + 1 + 2 * (rowOf ls k).length + 1 := by rw [wgt_take_succ _ _ hkl]; omega
          rw [e]
          exact mul_lt_pow HTB.out (val_lt_any _ HLX.out)
      case measure => simp [intOf]; omega
    · have HE : Hid (T = prodV ls) := by have := HT.out; rw [List.take_of_length_le (by omega)] at this; exact this
      go_wp2_with fail
      refine (refWrite_any _ (digs 10 T) _ HTR.out (Nat.le_trans HTL.out (by omega)) (digs_rgt _ (by omega) _)).mono ?_
      rintro e w5 ⟨x, rfl, hx5, hb5⟩
      rw [val_digs _ (by omega), HE.out] at hx5
      go_wp2_with fail
      go_ret
      exact ⟨_, rfl, hx5.low hsr, HBL.out.trans (hb5.mono hsr)⟩

end Go.Proofs.YtjfncepmpabcnaaGreatDoor

namespace Go.Proofs.YtjfncepmpabcnaaGreatDoor
open Go.RowKit

theorem numD_take {l : List UInt8} {k : Nat} (hk : k < l.length) : numD (l.take (k + 1)) = numD (l.take k) * 10 + (bAt l k - 48) := by
  rw [List.take_succ_eq_append_getElem hk, numD_append, List.length_singleton]
  simp [numD, numF, bAt, hk]
theorem of_rev {O : List Nat} {n i x : Nat} (hO : O.length = n) (hi : i < n) : val 10 ((O.set (n - 1 - i) x).drop (n - (i + 1))) = x + 10 * val 10 (O.drop (n - i)) := by
  rw [show n - (i + 1) = n - 1 - i by omega, drop_dg _ _ (by simp; omega), val, dg_set, if_pos ⟨rfl, by omega⟩, List.drop_set_of_lt (by omega), show n - 1 - i + 1 = n - i by omega]

set_option maxRecDepth 100000 in
set_option maxHeartbeats 4000000 in
theorem refOf_any (s : ByteArray) (w : World) (h1 : s.size ≤ 1000000) :
    Calls Tryz.prog 119 #[.string s] w fun e w' => ∃ u, e = .returned (.tuple #[u, .bool (okT s.data.toList)]) ∧ RdI w' u .u32 (ofR s.data.toList) ∧ Below w.heap.size w w' := by
  obtain ⟨i0, hi, hz0, hz1, hz2⟩ := info_parts Tryz.infoU8
  obtain ⟨l, hl⟩ : ∃ l, l = s.data.toList := ⟨_, rfl⟩
  rw [← hl]
  have hsz : s.size = l.length := by rw [hl, Array.length_toList]; rfl
  have HL := Lib.hid hl
  clear hl
  have hno : ∀ (w : World), okT l = false → RdI w (.slice none 0 0) .u32 (ofR l) := by
    intro w h
    rw [ofR_no h]
    exact ⟨none, 0, rfl, by simp, by unfold maxLen; omega, fun _ => rfl, fun i hi => by simp at hi⟩
  by_cases h0 : l.length = 0
  · have hok : okT l = false := by simp [okT, h0]
    have hE2 : ((l.length : Int) == 0) = true := by simp [h0]
    have HO := Lib.hid hok
    clear hok
    go_enter Tryz.func119, Tryz.ntmps119
    go_wp2_with fail
    go_ret2
    exact ⟨_, by rw [HO.out]; rfl, hno _ HO.out, Below.refl _ _⟩
  have hE2 : ((l.length : Int) == 0) = false := by simp only [beq_eq_false_iff_ne, ne_eq]; omega
  have hlp : 0 < l.length := by omega
  have HATK : Hid (∀ (k : Nat) (hk : k < s.size), bAt l k = (s[k]'hk).toNat) := by
    intro k hk
    have : k < s.data.toList.length := by rw [← HL.out]; omega
    have h : bAt s.data.toList k = (s[k]'hk).toNat := by
      rw [bAt, List.getD_eq_getElem?_getD, List.getElem?_eq_getElem this]
      simp [ByteArray.getElem_eq_getElem_data]
    rwa [← HL.out] at h
  by_cases h2 : 1 < l.length ∧ bAt l 0 = 48
  · have hok : okT l = false := by simp [okT, h2.1, h2.2]
    have h21 : (1 : Int) < (l.length : Int) := by omega
    have h22 : ((s[0]'(by omega)).toNat : Int) = 48 := by have := HATK.out 0 (by omega); omega
    have HO := Lib.hid hok
    clear hok
    go_enter Tryz.func119, Tryz.ntmps119
    go_wp2_with fail
    go_ret2
    exact ⟨_, by rw [HO.out]; rfl, hno _ HO.out, Below.refl _ _⟩
  have hokd : okT l = decB l := by
    simp only [okT, h0, decide_false, Bool.false_or]
    have : (decide (1 < l.length) && decide (bAt l 0 = 48)) = false := by simpa using h2
    rw [this]; simp
  have HO := Lib.hid hokd
  clear hokd
  have hcase : (((1 : Int) < (l.length : Int)) ∧ (((s[0]'(by omega)).toNat : Int) == 48) = false) ∨ ¬ ((1 : Int) < (l.length : Int)) := by
    by_cases h : 1 < l.length
    · left
      refine ⟨by omega, ?_⟩
      have := HATK.out 0 (by omega)
      simp only [beq_eq_false_iff_ne, ne_eq]
      intro hc
      exact h2 ⟨h, by omega⟩
    · right; omega
  clear h2
  obtain ⟨n, hn⟩ : ∃ n, n = l.length := ⟨_, rfl⟩
  rcases hcase with ⟨h21, h22⟩ | h21
  all_goals
    go_enter Tryz.func119, Tryz.ntmps119
    go_wp2_with (at_make; refine mk0 rfl _ _ 109 rfl 5 .u8 i0 1 Tryz.underlying109 hi hz0 hz1 hz2 _ _ _ _ l.length rfl rfl rfl rfl (by omega) (by unfold maxLen; omega) ?_)
    intro w1 hown hbw1
    go_wp2_with fail
    go_loopw [5] (fun i wr => ∃ (k : Nat) (O : List Nat), i = .int .i64 k ∧ k ≤ l.length ∧ O.length = l.length ∧ (∀ x ∈ O, x < 10) ∧ val 10 (O.drop (l.length - k)) = numD (l.take k) ∧ (∀ j, j < k → 48 ≤ bAt l j ∧ bAt l j ≤ 57) ∧
        Own wr w.heap.size 5 .u8 (.slice (some ⟨w.heap.size, 0, none⟩) l.length l.length) O ∧ Below w.heap.size w wr) (fun i _ => l.length - (intOf i).toNat)
    case atStart => exact ⟨0, List.replicate l.length 0, rfl, by omega, by simp, by intro x hx; rw [List.eq_of_mem_replicate hx]; omega, by rw [List.drop_of_length_le (by simp)]; rfl, fun j hj => by omega, hown, hbw1⟩
    case round =>
      obtain ⟨k, O, rfl, hk, hOl, hOx, hOv, hdg, hown, hbl⟩ := hrel
      have HOL := Lib.hid hOl
      have HOX := Lib.hid hOx
      have HOV := Lib.hid hOv
      have HDG := Lib.hid hdg
      have HOW := Lib.hid hown
      have HBL := Lib.hid hbl
      have hsr := hbl.size
      by_cases hkl : k < l.length
      · have hks : k < s.size := by omega
        have hat := HATK.out k hks
        have hki : (0 : Int) ≤ (k : Int) := by omega
        have hkj : (k : Int) < (l.length : Int) := by omega
        by_cases hd : 48 ≤ bAt l k ∧ bAt l k ≤ 57
        · have hct := hown.cell (l.length - 1 - k) (by rw [HOL.out]; omega)
          have hft := hown.free (l.length - 1 - k)
          have htn : ((l.length : Int) - 1 - (k : Int)).toNat = l.length - 1 - k := by omega
          have hct2 : wr.cell? ⟨w.heap.size, ((l.length : Int) - 1 - (k : Int)).toNat, none⟩ = some (.int .u8 (dg O (l.length - 1 - k) : Nat)) := by rw [htn]; exact hct
          have hft2 : wr.frozen? ⟨w.heap.size, ((l.length : Int) - 1 - (k : Int)).toNat, none⟩ = false := by rw [htn]; exact hft
          have hi0 : (0 : Int) ≤ (l.length : Int) - 1 - (k : Int) := by omega
          have hi1 : (l.length : Int) - 1 - (k : Int) < (l.length : Int) := by omega
          have hd1 : ¬ (((s[k]'hks).toNat : Int) < 48) := by omega
          have hd2 : ¬ ((57 : Int) < ((s[k]'hks).toNat : Int)) := by omega
          have HXX : Hid (((s[k]'hks).toNat : Int) - 48 = ((bAt l k - 48 : Nat) : Int)) := by unfold Hid; omega
          have HTN := Lib.hid htn
          have HDD := Lib.hid hd
          clear htn hOl hOx hOv hdg hown hbl hd
          go_wp2_with fail
          go_roundw
          case rel =>
            refine ⟨k + 1, O.set (l.length - 1 - k) (bAt l k - 48), by go_num, by omega, by simp [HOL.out], ?_, ?_, ?_, ?_, HBL.out.setCell (by simp) _⟩
            · intro x hx
              rcases List.mem_or_eq_of_mem_set hx with h | h
              · exact HOX.out x h
              · have := HDD.out; omega
            · rw [of_rev HOL.out hkl, HOV.out, numD_take hkl]; omega
            · intro j hj
              rcases Nat.lt_or_ge j k with h | h
              · exact HDG.out j h
              · obtain rfl : j = k := by omega
                exact HDD.out
            · rw [HXX.out]; exact HOW.out.stored _ _
          case measure => simp [intOf]; omega
        · have HO2 : Hid (okT l = false) := by unfold Hid; rw [HO.out]; exact decB_at hkl (by omega)
          by_cases hd1 : ((s[k]'hks).toNat : Int) < 48
          · clear hOl hOx hOv hdg hown hbl
            go_wp2_with fail
            go_ret2
            exact ⟨_, by rw [HO2.out]; rfl, hno _ HO2.out, HBL.out⟩
          · have hd2 : (57 : Int) < ((s[k]'hks).toNat : Int) := by omega
            clear hOl hOx hOv hdg hown hbl
            go_wp2_with fail
            go_ret2
            exact ⟨_, by rw [HO2.out]; rfl, hno _ HO2.out, HBL.out⟩
      · obtain rfl : k = l.length := by omega
        have HO2 : Hid (okT l = true) := by unfold Hid; rw [HO.out]; exact decB_all HDG.out
        have HV : Hid (val 10 O = numD l) := by have := HOV.out; rwa [Nat.sub_self, List.drop_zero, List.take_length] at this
        clear hOl hOx hOv hdg hown hbl
        go_wp2_with fail
        refine (refTrim_any _ O _ HOW.out.rd HOX.out).mono ?_
        rintro e w5 ⟨u, rfl, hu, rfl⟩
        rw [HV.out] at hu
        have hdl : (digs 10 (numD l)).length ≤ 100000000 := by
          have := digs_length_le 10 (by omega) (numD l) _ (numD_lt l (by rw [← HO.out]; exact HO2.out))
          omega
        go_wp2_with fail
        refine (refWrite_any _ _ _ hu hdl (digs_rgt _ (by omega) _)).mono ?_
        rintro e w6 ⟨x, rfl, hx, hb6⟩
        rw [val_digs _ (by omega)] at hx
        go_wp2_with fail
        go_ret2
        exact ⟨_, by rw [HO2.out]; rfl, by rw [ofR_ok HO2.out]; exact hx.rd, HBL.out.trans (hb6.mono hsr)⟩

end Go.Proofs.YtjfncepmpabcnaaGreatDoor

namespace Go.Proofs.YtjfncepmpabcnaaGreatDoor
open Go.RowKit

theorem digs_lt_of_len {A C : Nat} (h : (digs 10 A).length < (digs 10 C).length) : A < C := by
  have := val_lt_len (b := 10) (by omega) (digs_rgt 10 (by omega) A) (digs_rgt 10 (by omega) C) h
  rwa [val_digs _ (by omega), val_digs _ (by omega)] at this
theorem digs_lt_of_top {A C k : Nat} (h1 : k < (digs 10 A).length) (h2 : k < (digs 10 C).length) (he : (digs 10 A).drop (k + 1) = (digs 10 C).drop (k + 1)) (hd : dg (digs 10 A) k < dg (digs 10 C) k) : A < C := by
  have := val_lt_top 10 (digs_lt 10 (by omega) A) h1 h2 he hd
  rwa [val_digs _ (by omega), val_digs _ (by omega)] at this
theorem digs10_inj {A C : Nat} (h : digs 10 A = digs 10 C) : A = C := by
  have := congrArg (val 10) h
  rwa [val_digs _ (by omega), val_digs _ (by omega)] at this

end Go.Proofs.YtjfncepmpabcnaaGreatDoor
