/- nat: sums and differences. -/
import Derived.Test.YtpjjdngoblfleaaNatB
namespace Go.Proofs.Ytpjjdngoblfleaa
open Go.RowKit

/-- What is filled in place by place. -/
def fillTo (f : Nat → Nat) (n k : Nat) : List Nat := (List.range k).map f ++ List.replicate (n - k) 0
theorem fillTo_length (f : Nat → Nat) (n k : Nat) (h : k ≤ n) : (fillTo f n k).length = n := by simp [fillTo]; omega
theorem fillTo_set (f : Nat → Nat) (n k : Nat) (h : k < n) : (fillTo f n k).set k (f k) = fillTo f n (k + 1) := by
  unfold fillTo
  have e : n - k = (n - (k + 1)) + 1 := by omega
  rw [e, List.replicate_succ, List.set_append_right _ _ (by simp)]
  have : k - ((List.range k).map f).length = 0 := by simp
  rw [this, List.set_cons_zero, List.range_succ, List.map_append, List.append_assoc]
  rfl
theorem fillTo_end (f : Nat → Nat) (n : Nat) : fillTo f n n = (List.range n).map f := by simp [fillTo]

theorem val_range_dg (b : Nat) (l : List Nat) (n : Nat) (h : l.length ≤ n) : val b ((List.range n).map (dg l)) = val b l := by
  induction n with
  | zero => have : l = [] := List.eq_nil_of_length_eq_zero (by omega)
            subst this; rfl
  | succ n ih =>
    rw [List.range_succ, List.map_append, List.map_singleton, val_snoc]
    by_cases hl : l.length ≤ n
    · rw [ih hl, dg_out l n hl]; rfl
    · have hl : l.length = n + 1 := by omega
      have e1 : (List.range n).map (dg l) = l.take n := by
        apply List.ext_getElem
        · simp; omega
        · intro i h1 h2
          simp at h1 ⊢
          exact dg_eq l i (by omega)
      have := val_take_succ b l n (by omega)
      rw [← hl, List.take_length] at this
      rw [e1, this, List.length_take, Nat.min_eq_left (by omega)]

theorem val_range_add (b : Nat) (f g : Nat → Nat) (n : Nat) : val b ((List.range n).map fun k => f k + g k) = val b ((List.range n).map f) + val b ((List.range n).map g) := by
  induction n with
  | zero => rfl
  | succ n ih =>
    rw [List.range_succ, List.map_append, List.map_append, List.map_append, List.map_singleton, List.map_singleton, List.map_singleton, val_snoc, val_snoc, val_snoc, ih]
    simp only [List.length_map, List.length_range, Nat.mul_add]
    omega

set_option maxRecDepth 100000 in
set_option maxHeartbeats 1000000 in
theorem plus_any (v u : Value) (l m : List Nat) (w : World) (hv : RdI w v .u64 l) (hu : RdI w u .u64 m) (hl : ∀ x ∈ l, x < 1000000000) (hm : ∀ x ∈ m, x < 1000000000) (h1 : l.length ≤ 1000000000) (h2 : m.length ≤ 1000000000) :
    Calls Try.prog 136 #[.agg #[v], .agg #[u]] w fun e w' => ∃ u, e = .returned (.agg #[u]) ∧ Own w' w.heap.size 101 .u64 u (digs 1000000000 (val 1000000000 l + val 1000000000 m)) ∧ Below w.heap.size w w' := by
  have hv' := Lib.hid hv
  have hu' := Lib.hid hu
  have HL := Lib.hid hl
  have HM := Lib.hid hm
  obtain ⟨ao, ac, rfl, _, _, _, _⟩ := hv
  obtain ⟨bo, bc, rfl, _, _, _, _⟩ := hu
  clear hl hm
  obtain ⟨i0, hi, hz0, hz1, hz2⟩ := info_parts Try.infoU64
  obtain ⟨n, hn⟩ : ∃ n, n = max l.length m.length := ⟨_, rfl⟩
  have hln : l.length ≤ n := by omega
  have hmn : m.length ≤ n := by omega
  have hn1 : n ≤ 1000000000 := by omega
  have hmx : ∀ (ts : Array TypeId) (t : TypeId) (w : World), (Builtin.max_ ts t #[.int .i64 (l.length : Int), .int .i64 (m.length : Int)]).run Try.prog w = .ok (.int .i64 (n : Int)) w := by
    intro ts t w
    rw [run_max_int2]
    congr 2
    subst hn
    split <;> omega
  clear hn
  go_enter Try.func136, Try.ntmps136
  go_wp2_with (at_make; refine mk0 rfl _ _ 184 rfl 101 .u64 i0 8 Try.underlying184 hi hz0 hz1 hz2 _ _ _ _ n rfl rfl rfl rfl (by omega) (by unfold maxLen; omega) ?_)
  intro w1 hown hb1
  obtain ⟨W, hW⟩ : ∃ W, W = ((w.alloc (Obj.cells #[Value.slice ao l.length ac] 186)).alloc (Obj.cells #[Value.slice bo m.length bc] 186)).alloc (Obj.cells #[Value.slice none 0 0] 186) := ⟨_, rfl⟩
  have HB0 : Hid (Below w.heap.size w W) := by rw [hW]; exact ((((Below.refl _ _).alloc (Nat.le_refl _) _).alloc (by simp only [size_alloc] <;> omega) _).alloc (by simp only [size_alloc] <;> omega) _)
  have HC0 : Hid (W.cell? ⟨w.heap.size, 0, none⟩ = some (Value.slice ao l.length ac)) := by unfold Hid; rw [hW]; simp (disch := first | omega | (simp only [size_alloc]; omega) | simp only [size_alloc]) only [cell_new, cell_old]; all_goals rfl
  have HC1 : Hid (W.cell? ⟨w.heap.size + 1, 0, none⟩ = some (Value.slice bo m.length bc)) := by unfold Hid; rw [hW]; simp (disch := first | omega | (simp only [size_alloc]; omega) | simp only [size_alloc]) only [cell_new, cell_old]; all_goals rfl
  have HC2 : Hid (W.cell? ⟨w.heap.size + 1 + 1, 0, none⟩ = some (Value.slice none 0 0)) := by unfold Hid; rw [hW]; simp (disch := first | omega | (simp only [size_alloc]; omega) | simp only [size_alloc]) only [cell_new]; all_goals rfl
  have HF2 : Hid (W.frozen? ⟨w.heap.size + 1 + 1, 0, none⟩ = false) := by unfold Hid; rw [hW]; simp (disch := first | omega | (simp only [size_alloc]; omega) | simp only [size_alloc]) only [free_new]
  have HS : Hid (W.heap.size = w.heap.size + 1 + 1 + 1) := by unfold Hid; rw [hW]; simp only [size_alloc]
  rw [← hW] at hb1
  clear hW
  go_wp2_with fail
  go_loopw [17] (fun i wr => ∃ kk : Nat, i = .int .i64 kk ∧ kk ≤ n ∧ Own wr (w.heap.size + 1 + 1 + 1) 101 .u64 (.slice (some ⟨w.heap.size + 1 + 1 + 1, 0, none⟩) n n) (fillTo (fun k => dg l k + dg m k) n kk) ∧ Below (w.heap.size + 1 + 1 + 1) W wr) (fun i _ => n - (intOf i).toNat)
  case atStart => exact ⟨0, rfl, by omega, by simpa [fillTo] using hown, hb1⟩
  case round =>
    obtain ⟨k, rfl, hk, hown, hbl⟩ := hrel
    have HB := Lib.hid (HB0.out.trans (hbl.mono (by omega)))
    have hsz := hbl.size
    rw [HS.out] at hsz
    have HR := Lib.hid (hv'.out.keep HB.out)
    have HU := Lib.hid (hu'.out.keep HB.out)
    have hc0 : wr.cell? ⟨w.heap.size, 0, none⟩ = some (Value.slice ao l.length ac) := (hbl.cell (p := ⟨w.heap.size, 0, none⟩) (by (try dsimp only); omega)).trans HC0.out
    have hc1 : wr.cell? ⟨w.heap.size + 1, 0, none⟩ = some (Value.slice bo m.length bc) := (hbl.cell (p := ⟨w.heap.size + 1, 0, none⟩) (by (try dsimp only); omega)).trans HC1.out
    have hc2 : wr.cell? ⟨w.heap.size + 1 + 1, 0, none⟩ = some (Value.slice none 0 0) := (hbl.cell (p := ⟨w.heap.size + 1 + 1, 0, none⟩) (by (try dsimp only); omega)).trans HC2.out
    have hf2 : wr.frozen? ⟨w.heap.size + 1 + 1, 0, none⟩ = false := (hbl.frozen (p := ⟨w.heap.size + 1 + 1, 0, none⟩) (by (try dsimp only); omega)).trans HF2.out
    have HW := Lib.hid hown
    by_cases hkn : k < n
    · have hdl := dg_lt HL.out (by omega) k
      have hdm := dg_lt HM.out (by omega) k
      have hdc := hown.cell k (by rw [fillTo_length _ _ _ hk]; exact hkn)
      have hdf := hown.free k
      clear hown
      have hki : (0 : Int) ≤ (k : Int) := by omega
      have hkj : (k : Int) < (n : Int) := by omega
      go_wp2_with fail
      refine wp_region_still_tail 12 (by kernel_rfl) (by kernel_rfl) ?_
      simp only [List.take_succ_cons, List.take_zero, List.drop_succ_cons, List.drop_zero]
      repeat still_step
      still_call (st (at_any _ l k _ HR.out.drew (by omega) (by omega) (by omega)))
      repeat still_step
      still_call (st (at_any _ m k _ HU.out.drew (by omega) (by omega) (by omega)))
      repeat still_step
      refine wpStill_nil ?_
      change wpList _ _ _ _ _ wr.drew
      go_wp2_with fail
      go_roundw
      case rel =>
        refine ⟨k + 1, by go_num, by omega, ?_, (hbl.setCell (by simp) _).drew⟩
        rw [← fillTo_set _ _ _ hkn]
        exact (HW.out.stored k (dg l k + dg m k)).drew
      case measure => simp [intOf]; omega
    · have he : k = n := by omega
      subst he
      rw [fillTo_end] at HW
      have HX : Hid (∀ x ∈ (List.range k).map (fun k => dg l k + dg m k), x ≤ 8589934592) := by
        intro x hx
        obtain ⟨j, _, rfl⟩ := List.mem_map.1 hx
        have h1 := dg_lt HL.out (by omega) j
        have h2 := dg_lt HM.out (by omega) j
        omega
      have HE : Hid (val 1000000000 ((List.range k).map (fun k => dg l k + dg m k)) = val 1000000000 l + val 1000000000 m) := by
        unfold Hid; rw [val_range_add, val_range_dg _ _ _ hln, val_range_dg _ _ _ hmn]
      clear hown
      go_wp2_with fail
      refine (carried_any _ _ _ HW.out.rd (by simp; omega) HX.out).mono ?_
      rintro e w2 ⟨u, rfl, hu, hb2⟩
      rw [HE.out] at hu
      obtain ⟨uo, uc, rfl, _, _, _, _⟩ := hu.rd
      have hc2 : w2.cell? ⟨w.heap.size + 1 + 1, 0, none⟩ = some (Value.slice none 0 0) := (hb2.cell (p := ⟨w.heap.size + 1 + 1, 0, none⟩) (by dsimp only; omega)).trans hc2
      have hf2 : w2.frozen? ⟨w.heap.size + 1 + 1, 0, none⟩ = false := (hb2.frozen (p := ⟨w.heap.size + 1 + 1, 0, none⟩) (by dsimp only; omega)).trans hf2
      go_wp2_with fail
      refine bodyPost_ret (v := .agg #[Value.slice uo _ uc]) (by simp [results, Try.results136, go_sem, hc2]; rfl) rfl ⟨_, rfl, ?_, ?_⟩
      · exact (hu.set (by dsimp only; omega) _).low (by omega)
      · exact (HB.out.trans (hb2.mono (by omega))).setCell (by dsimp only; omega) _

/-- Places filled ahead of noughts. -/
theorem pad_set (o : List Nat) (n k x : Nat) (ho : o.length = k) (h : k < n) : (o ++ List.replicate (n - k) 0).set k x = (o ++ [x]) ++ List.replicate (n - (k + 1)) 0 := by
  have e : n - k = (n - (k + 1)) + 1 := by omega
  rw [e, List.replicate_succ, List.set_append_right _ _ (by omega)]
  have : k - o.length = 0 := by omega
  rw [this, List.set_cons_zero, List.append_assoc]
  rfl

theorem take_succ_val (b : Nat) (l : List Nat) (k : Nat) : val b (l.take (k + 1)) = val b (l.take k) + b ^ k * dg l k := by
  by_cases hk : k < l.length
  · exact val_take_succ _ l k hk
  · rw [dg_out l k (by omega), List.take_of_length_le (by omega), List.take_of_length_le (by omega)]; rfl

theorem borrow_step {l m o : List Nat} {k c x : Nat} (h : val 1000000000 o + val 1000000000 (m.take k) = val 1000000000 (l.take k) + 1000000000 ^ k * c) (ho : o.length = k)
    (hx : x + dg m k + c = dg l k + 1000000000) (hc : x / 1000000000 ≤ 1) :
    val 1000000000 (o ++ [x % 1000000000]) + val 1000000000 (m.take (k + 1)) = val 1000000000 (l.take (k + 1)) + 1000000000 ^ (k + 1) * (1 - x / 1000000000) := by
  rw [take_succ_val, take_succ_val, val_snoc, ho, Nat.pow_succ]
  have h1 := Nat.mod_add_div x 1000000000
  generalize x % 1000000000 = r at *
  generalize x / 1000000000 = q at *
  generalize dg l k = a at *
  generalize dg m k = d at *
  generalize 1000000000 ^ k = p at *
  have e2 : p * (r + d + c) = p * (a + 1000000000 * (1 - q)) := by
    congr 1; omega
  rw [Nat.mul_add, Nat.mul_add, Nat.mul_add, ← Nat.mul_assoc] at e2
  omega

set_option maxRecDepth 100000 in
set_option maxHeartbeats 1000000 in
theorem less_any (v u : Value) (l m : List Nat) (w : World) (hv : RdI w v .u64 l) (hu : RdI w u .u64 m) (hl : ∀ x ∈ l, x < 1000000000) (hm : ∀ x ∈ m, x < 1000000000) (h1 : l.length ≤ 1000000000) (h2 : m.length ≤ l.length) (h3 : val 1000000000 m ≤ val 1000000000 l) :
    Calls Try.prog 140 #[.agg #[v], .agg #[u]] w fun e w' => ∃ u, e = .returned (.agg #[u]) ∧ Own w' w.heap.size 101 .u64 u (digs 1000000000 (val 1000000000 l - val 1000000000 m)) ∧ Below w.heap.size w w' := by
  have hv' := Lib.hid hv
  have hu' := Lib.hid hu
  have HL := Lib.hid hl
  have HM := Lib.hid hm
  have H3 := Lib.hid h3
  obtain ⟨ao, ac, rfl, _, _, _, _⟩ := hv
  obtain ⟨bo, bc, rfl, _, _, _, _⟩ := hu
  clear hl hm h3
  obtain ⟨i0, hi, hz0, hz1, hz2⟩ := info_parts Try.infoU64
  go_enter Try.func140, Try.ntmps140
  go_wp2_with (at_make; refine mk0 rfl _ _ 184 rfl 101 .u64 i0 8 Try.underlying184 hi hz0 hz1 hz2 _ _ _ _ l.length rfl rfl rfl rfl (by omega) (by unfold maxLen; omega) ?_)
  intro w1 hown hb1
  obtain ⟨W, hW⟩ : ∃ W, W = ((w.alloc (Obj.cells #[Value.slice ao l.length ac] 186)).alloc (Obj.cells #[Value.slice bo m.length bc] 186)).alloc (Obj.cells #[Value.slice none 0 0] 186) := ⟨_, rfl⟩
  have HB0 : Hid (Below w.heap.size w W) := by rw [hW]; exact ((((Below.refl _ _).alloc (Nat.le_refl _) _).alloc (by simp only [size_alloc] <;> omega) _).alloc (by simp only [size_alloc] <;> omega) _)
  have HC0 : Hid (W.cell? ⟨w.heap.size, 0, none⟩ = some (Value.slice ao l.length ac)) := by unfold Hid; rw [hW]; simp (disch := first | omega | (simp only [size_alloc]; omega) | simp only [size_alloc]) only [cell_new, cell_old]; all_goals rfl
  have HC1 : Hid (W.cell? ⟨w.heap.size + 1, 0, none⟩ = some (Value.slice bo m.length bc)) := by unfold Hid; rw [hW]; simp (disch := first | omega | (simp only [size_alloc]; omega) | simp only [size_alloc]) only [cell_new, cell_old]; all_goals rfl
  have HC2 : Hid (W.cell? ⟨w.heap.size + 1 + 1, 0, none⟩ = some (Value.slice none 0 0)) := by unfold Hid; rw [hW]; simp (disch := first | omega | (simp only [size_alloc]; omega) | simp only [size_alloc]) only [cell_new]; all_goals rfl
  have HF2 : Hid (W.frozen? ⟨w.heap.size + 1 + 1, 0, none⟩ = false) := by unfold Hid; rw [hW]; simp (disch := first | omega | (simp only [size_alloc]; omega) | simp only [size_alloc]) only [free_new]
  have HS : Hid (W.heap.size = w.heap.size + 1 + 1 + 1) := by unfold Hid; rw [hW]; simp only [size_alloc]
  rw [← hW] at hb1
  clear hW
  go_wp2_with fail
  go_loopw [6, 15] (fun c i wr => ∃ (kk cc : Nat) (o : List Nat), i = .int .i64 kk ∧ c = .int .u64 cc ∧ kk ≤ l.length ∧ cc ≤ 1 ∧ o.length = kk ∧ (∀ x ∈ o, x < 1000000000) ∧
      val 1000000000 o + val 1000000000 (m.take kk) = val 1000000000 (l.take kk) + 1000000000 ^ kk * cc ∧
      Own wr (w.heap.size + 1 + 1 + 1) 101 .u64 (.slice (some ⟨w.heap.size + 1 + 1 + 1, 0, none⟩) l.length l.length) (o ++ List.replicate (l.length - kk) 0) ∧ Below (w.heap.size + 1 + 1 + 1) W wr) (fun _ i _ => l.length - (intOf i).toNat)
  case atStart => exact ⟨0, 0, [], rfl, rfl, by omega, by omega, rfl, by simp, by simp [val], by simpa using hown, hb1⟩
  case round =>
    obtain ⟨k, c, o, rfl, rfl, hk, hc, hol, hox, hval, hown, hbl⟩ := hrel
    have HB := Lib.hid (HB0.out.trans (hbl.mono (by omega)))
    have hsz := hbl.size
    rw [HS.out] at hsz
    have HR := Lib.hid (hv'.out.keep HB.out)
    have HU := Lib.hid (hu'.out.keep HB.out)
    have hc0 : wr.cell? ⟨w.heap.size, 0, none⟩ = some (Value.slice ao l.length ac) := (hbl.cell (p := ⟨w.heap.size, 0, none⟩) (by (try dsimp only); omega)).trans HC0.out
    have hc1 : wr.cell? ⟨w.heap.size + 1, 0, none⟩ = some (Value.slice bo m.length bc) := (hbl.cell (p := ⟨w.heap.size + 1, 0, none⟩) (by (try dsimp only); omega)).trans HC1.out
    have hc2 : wr.cell? ⟨w.heap.size + 1 + 1, 0, none⟩ = some (Value.slice none 0 0) := (hbl.cell (p := ⟨w.heap.size + 1 + 1, 0, none⟩) (by (try dsimp only); omega)).trans HC2.out
    have hf2 : wr.frozen? ⟨w.heap.size + 1 + 1, 0, none⟩ = false := (hbl.frozen (p := ⟨w.heap.size + 1 + 1, 0, none⟩) (by (try dsimp only); omega)).trans HF2.out
    have HW := Lib.hid hown
    have HV := Lib.hid hval
    have HOL := Lib.hid hol
    have HOX := Lib.hid hox
    clear hval hox
    by_cases hkn : k < l.length
    · have hdl := dg_lt HL.out (by omega) k
      have hdm := dg_lt HM.out (by omega) k
      have hdc := hown.cell k (by simp; omega)
      have hdf := hown.free k
      clear hown hol
      have hki : (0 : Int) ≤ (k : Int) := by omega
      have hkj : (k : Int) < (l.length : Int) := by omega
      have HX : Hid (((dg l k : Int) + 1000000000 - (dg m k : Int) - (c : Int)) % 1000000000 = ((dg l k + 1000000000 - dg m k - c) % 1000000000 : Nat)) := by unfold Hid; omega
      go_wp2_with fail
      go_quiet ((go_at_call 152; first | exact qs (at_any _ l _ _ (HR.out.drewN _) (by omega) (by omega) (by omega)) | exact qs (at_any _ m _ _ (HU.out.drewN _) (by omega) (by omega) (by omega))))
      go_wp2_with fail
      go_roundw
      case rel =>
        refine ⟨k + 1, 1 - (dg l k + 1000000000 - dg m k - c) / 1000000000, o ++ [(dg l k + 1000000000 - dg m k - c) % 1000000000], by go_num, by go_num, by omega, by omega, by simp [HOL.out], ?_, borrow_step HV.out HOL.out (by omega) (by omega), ?_, (belowN hbl _).setCell (by simp) _⟩
        · intro x hx
          rcases List.mem_append.1 hx with h | h
          · exact HOX.out x h
          · simp at h; omega
        · rw [← pad_set o l.length k _ HOL.out hkn, HX.out]
          exact (HW.out.drewN _).stored k _
      case measure => simp [intOf]; omega
    · have he : k = l.length := by omega
      subst he
      have hE : Hid (val 1000000000 o = val 1000000000 l - val 1000000000 m) := by
        unfold Hid
        have e := HV.out
        rw [List.take_of_length_le h2, List.take_length] at e
        have hlt := val_lt 1000000000 o HOX.out
        rw [HOL.out] at hlt
        have h3 := H3.out
        rcases Nat.lt_or_ge 0 c with h | h
        · obtain rfl : c = 1 := by omega
          omega
        · obtain rfl : c = 0 := by omega
          omega
      have hW2 : Hid (Own wr (w.heap.size + 1 + 1 + 1) 101 .u64 (.slice (some ⟨w.heap.size + 1 + 1 + 1, 0, none⟩) l.length l.length) o) := by
        have := HW.out
        rw [Nat.sub_self, List.replicate_zero, List.append_nil] at this
        exact this
      clear hown hol HW HV
      go_wp2_with fail
      refine (carried_any _ _ _ hW2.out.rd (by rw [HOL.out]; omega) (fun x hx => by have := HOX.out x hx; omega)).mono ?_
      rintro e w2 ⟨u, rfl, hu, hb2⟩
      rw [hE.out] at hu
      obtain ⟨uo, uc, rfl, _, _, _, _⟩ := hu.rd
      have hc2 : w2.cell? ⟨w.heap.size + 1 + 1, 0, none⟩ = some (Value.slice none 0 0) := (hb2.cell (p := ⟨w.heap.size + 1 + 1, 0, none⟩) (by dsimp only; omega)).trans hc2
      have hf2 : w2.frozen? ⟨w.heap.size + 1 + 1, 0, none⟩ = false := (hb2.frozen (p := ⟨w.heap.size + 1 + 1, 0, none⟩) (by dsimp only; omega)).trans hf2
      go_wp2_with fail
      refine bodyPost_ret (v := .agg #[Value.slice uo _ uc]) (by simp [results, Try.results140, go_sem, hc2]; rfl) rfl ⟨_, rfl, ?_, ?_⟩
      · exact (hu.set (by dsimp only; omega) _).low (by omega)
      · exact (HB.out.trans (hb2.mono (by omega))).setCell (by dsimp only; omega) _

end Go.Proofs.Ytpjjdngoblfleaa
