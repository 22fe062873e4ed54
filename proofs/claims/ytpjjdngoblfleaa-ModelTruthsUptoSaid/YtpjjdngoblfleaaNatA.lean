/- nat: the digit of a place, and what carries. -/
import Derived.Test.YtpjjdngoblfleaaChecked
import Derived.Test.YtpjjdngoblfleaaBase
namespace Go.Proofs.Ytpjjdngoblfleaa
open Go.RowKit

theorem Try.infoU64 : (Try.prog.info? 101).map (fun i => (i.zero, i.size, i.bytes)) = some (some (.int .u64 0), 1, 8) := by kernel_rfl

set_option maxHeartbeats 400000 in
theorem at_any (v : Value) (l : List Nat) (k : Int) (w : World) (hv : RdI w v .u64 l) (h0 : 0 ≤ k ∨ l = []) (h1 : k ≤ 1000000000000) (h2 : -1 ≤ k) :
    Calls Try.prog 152 #[v, .int .i64 k] w fun e w' => e = .returned (.int .u64 (dg l k.toNat : Nat)) ∧ w = w' := by
  obtain ⟨ao, cap, rfl, hc, hm, _, hx⟩ := hv
  unfold maxLen at hm
  by_cases hk : 0 ≤ k
  · obtain ⟨k, rfl⟩ := Int.eq_ofNat_of_zero_le hk
    by_cases hk : k < l.length
    · obtain ⟨ad, rfl, hcell⟩ := hx k hk
      clear hx h0 h2
      go_enter Try.func152, Try.ntmps152
      go_wp2
      go_ret
      exact ⟨by simp, rfl⟩
    · have e1 := dg_out l k (by omega)
      have E1 := Lib.hid e1
      clear hx h0 h2 e1
      have hk' : decide ((k : Int) < (l.length : Int)) = false := by simp; omega
      go_enter Try.func152, Try.ntmps152
      go_wp2
      go_ret
      exact ⟨by rw [Int.toNat_natCast, E1.out]; rfl, rfl⟩
  · have hl : l = [] := by rcases h0 with h | h; exact absurd h hk; exact h
    subst hl
    clear hx h0
    have hk' : decide ((0 : Int) ≤ k) = false := by simp; omega
    go_enter Try.func152, Try.ntmps152
    go_wp2
    go_ret
    exact ⟨by simp [dg], rfl⟩

set_option maxHeartbeats 400000 in
theorem top_any (v : Value) (l : List Nat) (w : World) (hv : RdI w v .u64 l) (h1 : l.length ≤ 1000000000000) :
    Calls Try.prog 161 #[v] w fun e w' => e = .returned (.int .u64 (dg l (l.length - 1) : Nat)) ∧ w = w' := by
  have hv' := Lib.hid hv
  obtain ⟨ao, cap, rfl, hc, hm, _, hx⟩ := hv
  clear hx
  unfold maxLen at hm
  have hl : 0 ≤ (l.length : Int) - 1 ∨ l = [] := by
    cases l with
    | nil => exact .inr rfl
    | cons x l => left; simp
  have HL := Lib.hid hl
  clear hl
  go_enter Try.func161, Try.ntmps161
  go_wp2_with (go_at_call 152; refine (at_any _ l _ _ hv'.out HL.out (by omega) (by omega)).mono ?_; rintro e w' ⟨rfl, rfl⟩)
  go_ret
  exact ⟨rfl, rfl⟩

/-- One digit more is carried out. -/
theorem carry_step {l o : List Nat} {k c : Nat} (h : val 1000000000 o + 1000000000 ^ k * c = val 1000000000 (l.take k)) (ho : o.length = k) (x : Nat) (hx : x = dg l k) :
    val 1000000000 (o ++ [(c + x) % 1000000000]) + 1000000000 ^ (k + 1) * ((c + x) / 1000000000) = val 1000000000 (l.take (k + 1)) := by
  subst hx
  have e : val 1000000000 (l.take (k + 1)) = val 1000000000 (l.take k) + 1000000000 ^ k * dg l k := by
    by_cases hk : k < l.length
    · exact val_take_succ _ l k hk
    · rw [dg_out l k (by omega), List.take_of_length_le (by omega), List.take_of_length_le (by omega)]; rfl
  rw [e, ← h, val_snoc, ho, Nat.pow_succ]
  have := Nat.mod_add_div (c + dg l k) 1000000000
  generalize (c + dg l k) % 1000000000 = r at *
  generalize (c + dg l k) / 1000000000 = q at *
  have e2 : 1000000000 ^ k * c + 1000000000 ^ k * dg l k = 1000000000 ^ k * (r + 1000000000 * q) := by rw [← Nat.mul_add, ← this]
  rw [Nat.mul_add, ← Nat.mul_assoc] at e2
  omega

set_option maxRecDepth 100000 in
set_option maxHeartbeats 1000000 in
theorem carried_any (v : Value) (l : List Nat) (w : World) (hv : RdI w v .u64 l) (h1 : l.length ≤ 1000000000) (h2 : ∀ x ∈ l, x ≤ 8589934592) :
    Calls Try.prog 153 #[v] w fun e w' => ∃ u, e = .returned (.agg #[u]) ∧ Own w' w.heap.size 101 .u64 u (digs 1000000000 (val 1000000000 l)) ∧ Below w.heap.size w w' := by
  have hv' := Lib.hid hv
  obtain ⟨ao, cap, rfl, hc, hm, _, hx⟩ := hv
  clear hx
  have H2 := Lib.hid h2
  clear h2
  unfold maxLen at hm
  obtain ⟨i0, hi, hz0, hz1, hz2⟩ := info_parts Try.infoU64
  go_enter Try.func153, Try.ntmps153
  go_wp2_with (at_make; refine wpList_make_own _ rfl _ _ 184 rfl (w.heap.size + 1) 101 i0 (.int .u64 0) 1 Try.underlying184 hi hz0 hz1 _ _ _ (l.length + 2) rfl rfl (by simp) (by rw [hz2]; omega) (by unfold maxLen; omega) (by simp) ?_)
  intro w1 hown hgrow
  have hb1 : Below (w.heap.size + 1) (w.alloc (Obj.cells #[Value.slice none 0 0] 186)) w1 := (Below.refl _ _).grown hgrow (by simp) (by simp)
  have hb0 : Below w.heap.size w (w.alloc (Obj.cells #[Value.slice none 0 0] 186)) := (Below.refl _ _).alloc (Nat.le_refl _) _
  have HB0 := Lib.hid hb0
  clear hb0 hgrow
  obtain ⟨W, hW⟩ : ∃ W, W = w.alloc (Obj.cells #[Value.slice none 0 0] 186) := ⟨_, rfl⟩
  rw [← hW] at HB0 hb1
  have hwc : W.cell? ⟨w.heap.size, 0, none⟩ = some (Value.slice none 0 0) := by rw [hW]; simp
  have hwf : W.frozen? ⟨w.heap.size, 0, none⟩ = false := by rw [hW]; simp
  have hws : W.heap.size = w.heap.size + 1 := by rw [hW]; simp
  have HC := Lib.hid hwc
  have HF := Lib.hid hwf
  have HS := Lib.hid hws
  clear hwc hwf hws hW
  go_wp2_with fail
  go_loopw [3, 4, 5] (fun out c k wr => ∃ (o : List Nat) (cc kk : Nat), k = .int .i64 kk ∧ c = .int .u64 cc ∧ Own wr (w.heap.size + 1) 101 .u64 out o ∧ o.length = kk ∧ kk ≤ l.length + 1 ∧ cc ≤ 9 ∧ (kk = l.length + 1 → cc = 0) ∧
      val 1000000000 o + 1000000000 ^ kk * cc = val 1000000000 (l.take kk) ∧ (∀ x ∈ o, x < 1000000000) ∧ Below (w.heap.size + 1) W wr) (fun _ _ k _ => l.length + 1 - (intOf k).toNat)
  case atStart => exact ⟨[], 0, 0, rfl, rfl, hown, rfl, by omega, by omega, by omega, by simp [val], by simp, hb1⟩
  case round =>
    obtain ⟨o, c, k, rfl, rfl, hown, hol, hk, hc9, hkc, hval, hox, hbl⟩ := hrel
    have hd : dg l k ≤ 8589934592 := dg_le H2.out k
    have HV := Lib.hid hval
    have HL := Lib.hid hol
    have HOX := Lib.hid hox
    have HBL := Lib.hid (HB0.out.trans (hbl.mono (by omega)))
    have HR := Lib.hid (hv'.out.keep HBL.out)
    have hsz := hbl.size
    rw [HS.out] at hsz
    clear hval hol hox
    by_cases hkl : k < l.length ∨ (¬ k < l.length ∧ 0 < c)
    · have hk1 : k < l.length + 1 := by omega
      have HX : Hid (((c : Int) + (dg l k : Int)) % 1000000000 = ((c + dg l k) % 1000000000 : Nat)) := by unfold Hid; omega
      have HK : Hid (k + 1 = l.length + 1 → (c + dg l k) / 1000000000 = 0) := by
        intro h; rw [dg_out l k (by omega)]; omega
      clear hkc
      rcases hkl with hkl | ⟨hkn, hkl⟩
      all_goals
        go_wp2_with (first
          | (go_at_call 152; refine (at_any _ l _ _ HR.out (by omega) (by omega) (by omega)).mono ?_; rintro e w' ⟨rfl, rfl⟩)
          | (at_builtin; refine app1 rfl _ _ 184 rfl 101 .u64 i0 8 Try.underlying184 hi hz0 hz1 hz2 (w.heap.size + 1) _ o rfl hown _ ((c + dg l k) % 1000000000) HX.out rfl rfl (by rw [HL.out]; unfold maxLen; omega) (by rw [HL.out]; omega) (by omega) ?_; intro v' w2 hown2 hb2))
        go_roundw
        case rel => exact ⟨o ++ [(c + dg l k) % 1000000000], (c + dg l k) / 1000000000, k + 1, by go_num, by go_num, hown2, by simp [HL.out], by omega, by omega, HK.out,
          carry_step HV.out HL.out _ rfl, by intro x hx; rcases List.mem_append.1 hx with h | h; exact HOX.out x h; simp at h; omega, hbl.trans hb2⟩
        case measure => simp [intOf]; omega
    · have hc0 : c = 0 := by omega
      have HC0 := Lib.hid hc0
      have hv0 : Hid (val 1000000000 o = val 1000000000 l) := by
        have := HV.out
        rw [List.take_of_length_le (by omega), hc0] at this
        unfold Hid; omega
      have hcase : ¬ k < l.length := by omega
      obtain ⟨oo, oc, rfl, hoc, hom, _, hox⟩ := hown.rd
      have HW := Lib.hid hown
      have hol : o.length ≤ 1000000001 := by have := HL.out; omega
      have hcn : ¬ 0 < c := by omega
      have HOX' := HOX
      clear hown hox HV HL hkl hkc hoc hom HR hc0 HC0 HOX hc9 hd hk
      go_wp2_with fail
      go_loopw [3] (fun out w2 => ∃ (p : List Nat), Own w2 (w.heap.size + 1) 101 .u64 out p ∧ val 1000000000 p = val 1000000000 l ∧ (∀ x ∈ p, x < 1000000000) ∧ p.length ≤ 1000000001 ∧ Below (w.heap.size + 1) W w2) (fun out _ => lenOf out)
      case atStart => exact ⟨o, HW.out, hv0.out, HOX'.out, hol, hbl⟩
      case round =>
        obtain ⟨p, hown, hvp, hpx, hpl, hbp⟩ := hrel
        have HV := Lib.hid hvp
        have HPX := Lib.hid hpx
        have HB := Lib.hid hbp
        have HR := Lib.hid hown.rd
        have hcl : wr.cell? ⟨w.heap.size, 0, none⟩ = some (Value.slice none 0 0) := (hbp.cell (p := ⟨w.heap.size, 0, none⟩) (by simp)).trans HC.out
        have hcf : wr.frozen? ⟨w.heap.size, 0, none⟩ = false := (hbp.frozen (p := ⟨w.heap.size, 0, none⟩) (by simp)).trans HF.out
        clear hvp hpx hbp
        by_cases hp : 0 < p.length
        · obtain ⟨g, gc, rfl, hgc, hgm, hgb, hgs⟩ := hown.at hp
          have HO := Lib.hid hown
          clear hown
          unfold maxLen at hgm
          by_cases ht : dg p (p.length - 1) = 0
          · have hb : ((dg p (p.length - 1) : Int) == 0) = true := by simp [ht]
            have HT := Lib.hid ht
            clear ht
            go_wp2_with (go_at_call 161; refine (top_any _ p _ HR.out (by omega)).mono ?_; rintro e w' ⟨rfl, rfl⟩)
            go_roundw
            case rel => exact ⟨p.dropLast, HO.out.pop hp, (val_dropLast _ _ hp HT.out).trans HV.out, fun x hx => HPX.out x ((List.dropLast_sublist p).subset hx), by simp; omega, HB.out⟩
            case measure => simp [lenOf]; omega
          · have hb : ((dg p (p.length - 1) : Int) == 0) = false := by simp; omega
            have HT := Lib.hid ht
            clear ht
            go_wp2_with (go_at_call 161; refine (top_any _ p _ HR.out (by omega)).mono ?_; rintro e w' ⟨rfl, rfl⟩)
            refine bodyPost_ret (v := .agg #[Value.slice (some ⟨g, 0, none⟩) p.length gc]) (by simp [results, Try.results153, go_sem, hcl]) rfl ⟨_, rfl, ?_, ?_⟩
            · rw [← HV.out, ← (rgt_of_last HPX.out (.inr HT.out)).digs (by omega)]
              exact (HO.out.set (by simp) _).low (by omega)
            · exact (HB0.out.trans (HB.out.mono (by omega))).setCell (by simp) _
        · have hp0 : p = [] := List.eq_nil_of_length_eq_zero (by omega)
          subst hp0
          obtain ⟨po, pc, rfl, _, hpm, _, _⟩ := hown.rd
          have HO := Lib.hid hown
          clear hown
          go_wp2_with fail
          refine bodyPost_ret (v := .agg #[Value.slice po 0 pc]) (by simp [results, Try.results153, go_sem, hcl]) rfl ⟨_, rfl, ?_, ?_⟩
          · rw [← HV.out, val, digs_zero]
            exact (HO.out.set (by simp) _).low (by omega)
          · exact (HB0.out.trans (HB.out.mono (by omega))).setCell (by simp) _

end Go.Proofs.Ytpjjdngoblfleaa
