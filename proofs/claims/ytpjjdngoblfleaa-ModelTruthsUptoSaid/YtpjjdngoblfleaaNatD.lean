/- nat: products. -/
import Derived.Test.YtpjjdngoblfleaaNatC
namespace Go.Proofs.Ytpjjdngoblfleaa
open Go.RowKit

theorem val_set (b : Nat) (l : List Nat) (j y : Nat) (h : j < l.length) : val b (l.set j y) + b ^ j * dg l j = val b l + b ^ j * y := by
  rw [val_split b l j (by omega), val_split b (l.set j y) j (by simp; omega), drop_dg l j h, List.take_set_of_le (by omega)]
  have e : (l.set j y).drop j = y :: l.drop (j + 1) := by
    rw [drop_dg _ j (by simpa using h), dg_eq _ j (by simpa using h)]
    simp [List.drop_set]
  rw [e]
  simp only [val, Nat.mul_add]
  omega

theorem val_take_le (b : Nat) (l : List Nat) (k : Nat) : val b (l.take k) ≤ val b l := by
  have := val_append b (l.take k) (l.drop k)
  rw [List.take_append_drop] at this
  rw [this]; exact Nat.le_add_right _ _

theorem times_step {D m : List Nat} {A x i k c P : Nat} (hP : P = 1000000000 ^ i) (h : val 1000000000 D + 1000000000 ^ (i + k) * c = A + P * (x * val 1000000000 (m.take k))) (hj : i + k < D.length) (p : Nat) (hp : p = x * dg m k) :
    val 1000000000 (D.set (i + k) ((c + (dg D (i + k) + p)) % 1000000000)) + 1000000000 ^ (i + (k + 1)) * ((c + (dg D (i + k) + p)) / 1000000000) = A + P * (x * val 1000000000 (m.take (k + 1))) := by
  have e1 := val_set 1000000000 D (i + k) ((c + (dg D (i + k) + p)) % 1000000000) hj
  have e2 := Nat.mod_add_div (c + (dg D (i + k) + p)) 1000000000
  generalize (c + (dg D (i + k) + p)) % 1000000000 = r at *
  generalize (c + (dg D (i + k) + p)) / 1000000000 = q at *
  rw [take_succ_val, Nat.mul_add, Nat.mul_add]
  have e3 : P * (x * (1000000000 ^ k * dg m k)) = 1000000000 ^ (i + k) * p := by
    subst hp hP
    rw [Nat.pow_add, Nat.mul_left_comm x, ← Nat.mul_assoc]
  have e4 : 1000000000 ^ (i + (k + 1)) * q = 1000000000 ^ (i + k) * (1000000000 * q) := by
    rw [← Nat.add_assoc, Nat.pow_succ, Nat.mul_assoc]
  rw [e3, e4]
  generalize 1000000000 ^ (i + k) = R at *
  have e5 : R * (r + 1000000000 * q) = R * (c + (dg D (i + k) + p)) := by rw [e2]
  rw [Nat.mul_add, Nat.mul_add, Nat.mul_add] at e5
  omega

theorem mul_digit {a b : Nat} (ha : a < 1000000000) (hb : b < 1000000000) : a * b ≤ 999999998000000001 := by
  have := Nat.mul_le_mul (show a ≤ 999999999 by omega) (show b ≤ 999999999 by omega)
  omega

theorem times_room {l m : List Nat} {i k : Nat} {T c : Nat} (hl : ∀ x ∈ l, x < 1000000000) (hm : ∀ x ∈ m, x < 1000000000) (hi : i < l.length)
    (h : T + 1000000000 ^ (i + k) * c = val 1000000000 (l.take i) * val 1000000000 m + 1000000000 ^ i * (dg l i * val 1000000000 (m.take k))) (hc : 0 < c) : k ≤ m.length := by
  have h1 : 1000000000 ^ i * (dg l i * val 1000000000 (m.take k)) ≤ 1000000000 ^ i * (dg l i * val 1000000000 m) := Nat.mul_le_mul_left _ (Nat.mul_le_mul_left _ (val_take_le _ _ _))
  have h2 : val 1000000000 (l.take (i + 1)) * val 1000000000 m = val 1000000000 (l.take i) * val 1000000000 m + 1000000000 ^ i * (dg l i * val 1000000000 m) := by
    rw [take_succ_val, Nat.add_mul, Nat.mul_assoc]
  have h3 := val_lt 1000000000 (l.take (i + 1)) (fun x hx => hl x (List.mem_of_mem_take hx))
  rw [List.length_take, Nat.min_eq_left (by omega)] at h3
  have h4 := val_lt 1000000000 m hm
  have h5 := Nat.mul_lt_mul'' h3 h4
  rw [← Nat.pow_add] at h5
  have h6 : 1000000000 ^ (i + k) * 1 ≤ 1000000000 ^ (i + k) * c := Nat.mul_le_mul_left _ hc
  have h7 : 1000000000 ^ (i + k) < 1000000000 ^ (i + 1 + m.length) := by omega
  have := (Nat.pow_lt_pow_iff_right (by omega)).1 h7
  omega

set_option maxRecDepth 100000 in
set_option maxHeartbeats 2000000 in
theorem times_any (v u : Value) (l m : List Nat) (w : World) (hv : RdI w v .u64 l) (hu : RdI w u .u64 m) (hl : ∀ x ∈ l, x < 1000000000) (hm : ∀ x ∈ m, x < 1000000000) (h1 : l.length ≤ 100000000) (h2 : m.length ≤ 100000000) :
    Calls Try.prog 160 #[.agg #[v], .agg #[u]] w fun e w' => ∃ u, e = .returned (.agg #[u]) ∧ Own w' w.heap.size 101 .u64 u (digs 1000000000 (val 1000000000 l * val 1000000000 m)) ∧ Below w.heap.size w w' := by
  have hv' := Lib.hid hv
  have hu' := Lib.hid hu
  have HL := Lib.hid hl
  have HM := Lib.hid hm
  obtain ⟨ao, ac, rfl, _, hac, _, hx⟩ := hv
  have HX := Lib.hid hx
  obtain ⟨bo, bc, rfl, _, _, _, _⟩ := hu
  clear hl hm hx
  obtain ⟨i0, hi, hz0, hz1, hz2⟩ := info_parts Try.infoU64
  go_enter Try.func160, Try.ntmps160
  go_wp2_with (at_make; refine mk0 rfl _ _ 184 rfl 101 .u64 i0 8 Try.underlying184 hi hz0 hz1 hz2 _ _ _ _ (l.length + m.length + 1) rfl rfl (by simp) (by simp) (by omega) (by unfold maxLen; omega) ?_)
  intro w1 hown hb1
  obtain ⟨W, hW⟩ : ∃ W, W = ((w.alloc (Obj.cells #[Value.slice ao l.length ac] 186)).alloc (Obj.cells #[Value.slice bo m.length bc] 186)).alloc (Obj.cells #[Value.slice none 0 0] 186) := ⟨_, rfl⟩
  have HB0 : Hid (Below w.heap.size w W) := by rw [hW]; exact ((((Below.refl _ _).alloc (Nat.le_refl _) _).alloc (by simp only [size_alloc] <;> omega) _).alloc (by simp only [size_alloc] <;> omega) _)
  have HC0 : Hid (W.cell? ⟨w.heap.size, 0, none⟩ = some (Value.slice ao l.length ac)) := by unfold Hid; rw [hW]; simp (disch := first | omega | (simp only [size_alloc]; omega) | simp only [size_alloc]) only [cell_new, cell_old]; all_goals rfl
  have HC1 : Hid (W.cell? ⟨w.heap.size + 1, 0, none⟩ = some (Value.slice bo m.length bc)) := by unfold Hid; rw [hW]; simp (disch := first | omega | (simp only [size_alloc]; omega) | simp only [size_alloc]) only [cell_new, cell_old]; all_goals rfl
  have HC2 : Hid (W.cell? ⟨w.heap.size + 1 + 1, 0, none⟩ = some (Value.slice none 0 0)) := by unfold Hid; rw [hW]; simp (disch := first | omega | (simp only [size_alloc]; omega) | simp only [size_alloc]) only [cell_new]; all_goals rfl
  have HF2 : Hid (W.frozen? ⟨w.heap.size + 1 + 1, 0, none⟩ = false) := by unfold Hid; rw [hW]; simp (disch := first | omega | (simp only [size_alloc]; omega) | simp only [size_alloc]) only [free_new]
  have HS : Hid (W.heap.size = w.heap.size + 1 + 1 + 1) := by unfold Hid; rw [hW]; simp only [size_alloc]
  rw [← hW] at hb1
  clear hW
  have hc0 : w1.cell? ⟨w.heap.size, 0, none⟩ = some (Value.slice ao l.length ac) := (hb1.cell (p := ⟨w.heap.size, 0, none⟩) (by (try dsimp only); omega)).trans HC0.out
  have hc1 : w1.cell? ⟨w.heap.size + 1, 0, none⟩ = some (Value.slice bo m.length bc) := (hb1.cell (p := ⟨w.heap.size + 1, 0, none⟩) (by (try dsimp only); omega)).trans HC1.out
  have hc2 : w1.cell? ⟨w.heap.size + 1 + 1, 0, none⟩ = some (Value.slice none 0 0) := (hb1.cell (p := ⟨w.heap.size + 1 + 1, 0, none⟩) (by (try dsimp only); omega)).trans HC2.out
  have hf2 : w1.frozen? ⟨w.heap.size + 1 + 1, 0, none⟩ = false := (hb1.frozen (p := ⟨w.heap.size + 1 + 1, 0, none⟩) (by (try dsimp only); omega)).trans HF2.out
  go_wp2_with fail
  clear hc0 hc1 hc2 hf2
  go_loopw [22] (fun i wr => ∃ (ii : Nat) (D : List Nat), i = .int .i64 ii ∧ ii ≤ l.length ∧ D.length = l.length + m.length + 1 ∧ (∀ x ∈ D, x < 1000000000) ∧ val 1000000000 D = val 1000000000 (l.take ii) * val 1000000000 m ∧
      Own wr (w.heap.size + 1 + 1 + 1) 101 .u64 (.slice (some ⟨w.heap.size + 1 + 1 + 1, 0, none⟩) (l.length + m.length + 1) (l.length + m.length + 1)) D ∧ Below (w.heap.size + 1 + 1 + 1) W wr) (fun i _ => l.length - (intOf i).toNat)
  case atStart => exact ⟨0, List.replicate (l.length + m.length + 1) 0, rfl, by omega, by simp, by intro x hx; rw [List.eq_of_mem_replicate hx]; omega, by
    have : ∀ n, val 1000000000 (List.replicate n 0) = 0 := by intro n; induction n with | zero => rfl | succ n ih => rw [List.replicate_succ, val, ih]
    rw [this]; simp [val], hown, hb1⟩
  case round =>
    obtain ⟨i, D, rfl, hi1, hDl, hDx, hDv, hown, hbl⟩ := hrel
    have HB := Lib.hid (HB0.out.trans (hbl.mono (by omega)))
    have hsz := hbl.size
    rw [HS.out] at hsz
    have hc0 : wr.cell? ⟨w.heap.size, 0, none⟩ = some (Value.slice ao l.length ac) := (hbl.cell (p := ⟨w.heap.size, 0, none⟩) (by (try dsimp only); omega)).trans HC0.out
    have hc1 : wr.cell? ⟨w.heap.size + 1, 0, none⟩ = some (Value.slice bo m.length bc) := (hbl.cell (p := ⟨w.heap.size + 1, 0, none⟩) (by (try dsimp only); omega)).trans HC1.out
    have hc2 : wr.cell? ⟨w.heap.size + 1 + 1, 0, none⟩ = some (Value.slice none 0 0) := (hbl.cell (p := ⟨w.heap.size + 1 + 1, 0, none⟩) (by (try dsimp only); omega)).trans HC2.out
    have hf2 : wr.frozen? ⟨w.heap.size + 1 + 1, 0, none⟩ = false := (hbl.frozen (p := ⟨w.heap.size + 1 + 1, 0, none⟩) (by (try dsimp only); omega)).trans HF2.out
    have HW := Lib.hid hown
    have HDV := Lib.hid hDv
    have HDL := Lib.hid hDl
    have HDX := Lib.hid hDx
    clear hDv hDl hDx hown
    by_cases hil : i < l.length
    · obtain ⟨ad, had, hcell⟩ := HX.out i hil
      subst had
      have hcr := (HB.out.cell (World.block_lt_of_cell? w _ hcell)).trans hcell
      clear hcell
      have hii : (0 : Int) ≤ (i : Int) := by omega
      have hij : (i : Int) < (l.length : Int) := by omega
      go_wp2_with fail
      go_loopw [8, 9] (fun c k wr => ∃ (cc kk : Nat) (D : List Nat), c = .int .u64 cc ∧ k = .int .i64 kk ∧ cc < 1000000000 ∧ kk ≤ m.length + 1 ∧ D.length = l.length + m.length + 1 ∧ (∀ x ∈ D, x < 1000000000) ∧
          val 1000000000 D + 1000000000 ^ (i + kk) * cc = val 1000000000 (l.take i) * val 1000000000 m + 1000000000 ^ i * (dg l i * val 1000000000 (m.take kk)) ∧
          Own wr (w.heap.size + 1 + 1 + 1) 101 .u64 (.slice (some ⟨w.heap.size + 1 + 1 + 1, 0, none⟩) (l.length + m.length + 1) (l.length + m.length + 1)) D ∧ Below (w.heap.size + 1 + 1 + 1) W wr) (fun _ k _ => m.length + 2 - (intOf k).toNat)
      case atStart => exact ⟨0, 0, D, rfl, rfl, by omega, by omega, HDL.out, HDX.out, by rw [HDV.out]; simp [val], HW.out, hbl⟩
      case round =>
        obtain ⟨c, k, E, rfl, rfl, hc, hk, hEl, hEx, hEv, hown, hbl2⟩ := hrel
        have HB2 := Lib.hid (HB0.out.trans (hbl2.mono (by omega)))
        have hsz2 := hbl2.size
        rw [HS.out] at hsz2
        have HU := Lib.hid (hu'.out.keep HB2.out)
        have hd0 : wr.cell? ⟨w.heap.size, 0, none⟩ = some (Value.slice (some ad) l.length ac) := (hbl2.cell (p := ⟨w.heap.size, 0, none⟩) (by (try dsimp only); omega)).trans HC0.out
        have hd1 : wr.cell? ⟨w.heap.size + 1, 0, none⟩ = some (Value.slice bo m.length bc) := (hbl2.cell (p := ⟨w.heap.size + 1, 0, none⟩) (by (try dsimp only); omega)).trans HC1.out
        have hd2 : wr.cell? ⟨w.heap.size + 1 + 1, 0, none⟩ = some (Value.slice none 0 0) := (hbl2.cell (p := ⟨w.heap.size + 1 + 1, 0, none⟩) (by (try dsimp only); omega)).trans HC2.out
        have hg2 : wr.frozen? ⟨w.heap.size + 1 + 1, 0, none⟩ = false := (hbl2.frozen (p := ⟨w.heap.size + 1 + 1, 0, none⟩) (by (try dsimp only); omega)).trans HF2.out
        have HEV := Lib.hid hEv
        have HEL := Lib.hid hEl
        have HEX := Lib.hid hEx
        have HO := Lib.hid hown
        have hroom : 0 < c → k ≤ m.length := times_room HL.out HM.out hil hEv
        have HROOM := Lib.hid hroom
        clear hEv hEl hEx hroom
        by_cases hkc : k < m.length ∨ (¬ k < m.length ∧ 0 < c)
        · have hkm : k ≤ m.length := by rcases hkc with h | h; omega; exact HROOM.out h.2
          have hdl := dg_lt HL.out (by omega) i
          have hdm := dg_lt HM.out (by omega) k
          have hde := dg_lt HEX.out (by omega) (i + k)
          obtain ⟨p, hp⟩ : ∃ p, p = dg l i * dg m k := ⟨_, rfl⟩
          have hp1 : p ≤ 999999998000000001 := by rw [hp]; exact mul_digit hdl hdm
          have hpi : (dg l i : Int) * (dg m k : Int) = (p : Int) := by rw [hp]; simp
          have HP := Lib.hid hp
          clear hp
          have hec := hown.cell (i + k) (by rw [HEL.out]; omega)
          have hef := hown.free (i + k)
          have hik0 : (0 : Int) ≤ (i : Int) + (k : Int) := by omega
          have hik1 : (i : Int) + (k : Int) < (l.length : Int) + (m.length : Int) + 1 := by omega
          have HXX : Hid (((c : Int) + ((dg E (i + k) : Int) + (p : Int))) % 1000000000 = ((c + (dg E (i + k) + p)) % 1000000000 : Nat)) := by unfold Hid; omega
          clear hown
          rcases hkc with hkc | ⟨hkn, hkc⟩
          all_goals
            go_wp2_with fail
            go_quiet ((go_at_call 152; exact qs (at_any _ m _ _ (HU.out.drewN _) (by omega) (by omega) (by omega))))
            go_wp2_with fail
            go_roundw
            case rel =>
              refine ⟨(c + (dg E (i + k) + p)) / 1000000000, k + 1, E.set (i + k) ((c + (dg E (i + k) + p)) % 1000000000), by go_num, by go_num, by omega, by omega, by simp [HEL.out], ?_, times_step rfl HEV.out (by rw [HEL.out]; omega) p HP.out, ?_, (belowN hbl2 _).setCell (by simp) _⟩
              · intro x hx
                rcases List.mem_or_eq_of_mem_set hx with h | h
                · exact HEX.out x h
                · omega
              · rw [HXX.out]
                exact (HO.out.drewN _).stored _ _
            case measure => simp [intOf]; omega
        · have hc0 : c = 0 := by omega
          have HC := Lib.hid hc0
          have hkm : ¬ k < m.length := by omega
          have HKM : Hid (m.length ≤ k) := by unfold Hid; omega
          have hcn : ¬ 0 < c := by omega
          clear hc0 hkc hown
          go_wp2_with fail
          go_roundw
          case rel =>
            refine ⟨i + 1, E, by go_num, by omega, HEL.out, HEX.out, ?_, HO.out, hbl2⟩
            have := HEV.out
            rw [HC.out, List.take_of_length_le HKM.out] at this
            rw [take_succ_val, Nat.add_mul, Nat.mul_assoc]
            omega
          case measure => simp [intOf]; omega
    · have he : i = l.length := by omega
      subst he
      have HE : Hid (val 1000000000 D = val 1000000000 l * val 1000000000 m) := by
        have := HDV.out
        rw [List.take_length] at this; exact this
      go_wp2_with fail
      refine (carried_any _ _ _ HW.out.rd (by rw [HDL.out]; omega) (fun x hx => by have := HDX.out x hx; omega)).mono ?_
      rintro e w2 ⟨u, rfl, hu, hb2⟩
      rw [HE.out] at hu
      obtain ⟨uo, uc, rfl, _, _, _, _⟩ := hu.rd
      have hc2 : w2.cell? ⟨w.heap.size + 1 + 1, 0, none⟩ = some (Value.slice none 0 0) := (hb2.cell (p := ⟨w.heap.size + 1 + 1, 0, none⟩) (by dsimp only; omega)).trans hc2
      have hf2 : w2.frozen? ⟨w.heap.size + 1 + 1, 0, none⟩ = false := (hb2.frozen (p := ⟨w.heap.size + 1 + 1, 0, none⟩) (by dsimp only; omega)).trans hf2
      go_wp2_with fail
      refine bodyPost_ret (v := .agg #[Value.slice uo _ uc]) (by simp [results, Try.results160, go_sem, hc2]; rfl) rfl ⟨_, rfl, ?_, ?_⟩
      · exact (hu.set (by dsimp only; omega) _).low (by omega)
      · exact (HB.out.trans (hb2.mono (by omega))).setCell (by dsimp only; omega) _

end Go.Proofs.Ytpjjdngoblfleaa
