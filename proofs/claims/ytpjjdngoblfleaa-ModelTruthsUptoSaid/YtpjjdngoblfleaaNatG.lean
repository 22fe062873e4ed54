/- nat: folded; sums and products of rows. -/
import Derived.Test.YtpjjdngoblfleaaNatD
import Derived.Deep.DeepCutAuto
import Derived.Deep.RegionLaw
namespace Go.Proofs.Ytpjjdngoblfleaa
open Go.RowKit
attribute [local go_sem ↓] Go.wp_at_zero Go.wp_at_succ

/-- The row of a place; behind the last one none. -/
def rowOf (ls : List (List Nat)) (k : Nat) : List Nat := ls.getD k []
theorem rowOf_eq (ls : List (List Nat)) (k : Nat) (h : k < ls.length) : rowOf ls k = ls[k] := by simp [rowOf, List.getD, h]

/-- The slice value v reads as rows of numbers. -/
def RdRows (w : World) (v : Value) (k : IntKind) (ls : List (List Nat)) : Prop :=
  ∃ ao cap, v = .slice ao ls.length cap ∧ ls.length ≤ cap ∧ cap ≤ maxLen ∧
    ∀ i, i < ls.length → ∃ ad row, ao = some ad ∧ w.cell? (ad.add i) = some row ∧ RdI w row k (rowOf ls i)

theorem RdRows.keep {w w' : World} {v : Value} {k : IntKind} {ls : List (List Nat)} (h : RdRows w v k ls) (hb : Below w.heap.size w w') : RdRows w' v k ls := by
  obtain ⟨ao, cap, h1, h2, h3, h4⟩ := h
  refine ⟨ao, cap, h1, h2, h3, fun i hi => ?_⟩
  obtain ⟨ad, row, h5, h6, h7⟩ := h4 i hi
  exact ⟨ad, row, h5, by rw [hb.cell (World.block_lt_of_cell? w _ h6)]; exact h6, h7.keep hb⟩

theorem val_lt_any (l : List Nat) (h : ∀ x ∈ l, x < 4294967296) : val 1000000000 l < 1000000000 ^ (2 * l.length) := by
  induction l with
  | nil => simp [val]
  | cons x l ih =>
    have h1 := ih (fun y hy => h y (List.mem_cons_of_mem _ hy))
    have h2 := h x List.mem_cons_self
    have e : 2 * (x :: l).length = 2 * l.length + 2 := by simp; omega
    rw [e, Nat.pow_add]
    simp only [val]
    have h3 : 1 ≤ 1000000000 ^ (2 * l.length) := Nat.pow_pos (by omega)
    generalize 1000000000 ^ (2 * l.length) = P at *
    omega

theorem digs_len_any (l : List Nat) (h : ∀ x ∈ l, x < 4294967296) : (digs 1000000000 (val 1000000000 l)).length ≤ 2 * l.length :=
  digs_length_le _ (by omega) _ _ (val_lt_any l h)

theorem add_lt_pow {a b p q : Nat} (ha : a < 1000000000 ^ p) (hb : b < 1000000000 ^ q) : a + b < 1000000000 ^ (p + q + 1) := by
  have h1 : 1000000000 ^ p ≤ 1000000000 ^ (p + q) := Nat.pow_le_pow_right (by omega) (by omega)
  have h2 : 1000000000 ^ q ≤ 1000000000 ^ (p + q) := Nat.pow_le_pow_right (by omega) (by omega)
  rw [Nat.pow_succ]; omega
theorem mul_lt_pow {a b p q : Nat} (ha : a < 1000000000 ^ p) (hb : b < 1000000000 ^ q) : a * b < 1000000000 ^ (p + q + 1) := by
  have h1 := Nat.mul_lt_mul'' ha hb
  rw [← Nat.pow_add] at h1
  exact Nat.lt_of_lt_of_le h1 (Nat.pow_le_pow_right (by omega) (by omega))

/-- The weight of rows: how long what is made of them can grow. -/
def wgt : List (List Nat) → Nat
  | [] => 0
  | a :: l => 2 * a.length + 1 + wgt l

theorem wgt_take_succ (ls : List (List Nat)) (k : Nat) (h : k < ls.length) : wgt (ls.take (k + 1)) = wgt (ls.take k) + (2 * (rowOf ls k).length + 1) := by
  induction ls generalizing k with
  | nil => simp at h
  | cons a l ih =>
    cases k with
    | zero => simp [wgt, rowOf]
    | succ k =>
      have := ih k (by simp at h; omega)
      have e : rowOf (a :: l) (k + 1) = rowOf l k := by simp [rowOf]
      rw [e]
      simp only [List.take_succ_cons, wgt] at *
      omega
theorem wgt_take_le (ls : List (List Nat)) (k : Nat) : wgt (ls.take k) ≤ wgt ls := by
  induction ls generalizing k with
  | nil => simp
  | cons a l ih =>
    cases k with
    | zero => simp [wgt]
    | succ k => simp only [List.take_succ_cons, wgt]; have := ih k; omega
theorem foldl_take_succ (f : Nat → List Nat → Nat) (n : Nat) (ls : List (List Nat)) (k : Nat) (h : k < ls.length) : (ls.take (k + 1)).foldl f n = f ((ls.take k).foldl f n) (rowOf ls k) := by
  rw [List.take_succ_eq_append_getElem h, List.foldl_append]
  simp [rowOf_eq ls k h]
theorem wgt_mem (ls : List (List Nat)) (k : Nat) (h : k < ls.length) : 2 * (rowOf ls k).length + 1 ≤ wgt ls := by
  have h1 := wgt_take_succ ls k h
  have h2 := wgt_take_le ls (k + 1)
  omega

set_option maxRecDepth 100000 in
set_option maxHeartbeats 2000000 in
theorem folded_plus (v u : Value) (n : Nat) (ls : List (List Nat)) (w : World) (hv : RdI w v .u64 (digs 1000000000 n)) (hu : RdRows w u .u32 ls) (h1 : (digs 1000000000 n).length ≤ 1000) (h2 : wgt ls ≤ 1000000) (h3 : ∀ l ∈ ls, ∀ x ∈ l, x < 4294967296) (h4 : ls.length ≤ 1000000) :
    Calls Try.prog 135 #[.agg #[v], .func (.func 136) #[] #[], u] w fun e w' => ∃ u, e = .returned u ∧ Own w' w.heap.size 113 .u32 u (digs 1000000000 (ls.foldl (fun n a => n + val 1000000000 a) n)) ∧ Below w.heap.size w w' := by
  have hv' := Lib.hid hv
  have hu' := Lib.hid hu
  have H3 := Lib.hid h3
  obtain ⟨ao, ac, rfl, _, _, _, _⟩ := hv
  obtain ⟨bo, bc, rfl, _, hbm, hx⟩ := hu
  have HX := Lib.hid hx
  clear h3 hx
  go_enter Try.func135, Try.ntmps135
  have hb1 : Hid (Below w.heap.size w (w.alloc (Obj.cells #[Value.slice ao (digs 1000000000 n).length ac] 186))) := (Below.refl _ _).alloc (Nat.le_refl _) _
  have HS0 : Hid (n < 1000000000 ^ (digs 1000000000 n).length) := by
    have := val_lt 1000000000 (digs 1000000000 n) (digs_lt _ (by omega) _)
    rw [val_digs _ (by omega)] at this; exact this
  go_wp2_with fail
  go_loopw [11] (fun i wr => ∃ (kk T : Nat) (tv : Value), i = .int .i64 kk ∧ kk ≤ ls.length ∧ T = (ls.take kk).foldl (fun n a => n + val 1000000000 a) n ∧ T < 1000000000 ^ ((digs 1000000000 n).length + wgt (ls.take kk)) ∧ RdI wr tv .u64 (digs 1000000000 T) ∧
      wr.cell? ⟨w.heap.size, 0, none⟩ = some tv ∧ wr.frozen? ⟨w.heap.size, 0, none⟩ = false ∧ Below w.heap.size w wr) (fun i _ => ls.length - (intOf i).toNat)
  case atStart => exact ⟨0, n, _, rfl, by omega, by simp, by simpa [wgt] using HS0.out, hv'.out.keep hb1.out, by simp, by simp, hb1.out⟩
  case round =>
    obtain ⟨k, T, tv, rfl, hk, hT, hTl, hTr, hcb, hfb, hbl⟩ := hrel
    have HT := Lib.hid hT
    have HTL : Hid ((digs 1000000000 T).length ≤ 1001000) := by
      have h5 := digs_length_le 1000000000 (by omega) T _ hTl
      have h6 := wgt_take_le ls k
      unfold Hid; omega
    have HTB := Lib.hid hTl
    have HTR := Lib.hid hTr
    have hl0 : w.heap.size < wr.heap.size := World.block_lt_of_cell? wr _ hcb
    obtain ⟨tto, ttc, rfl, _, _, _, _⟩ := hTr
    clear hT hTl
    by_cases hkl : k < ls.length
    · obtain ⟨ad, row, had, hcell, hrow⟩ := HX.out k hkl
      subst had
      have HROW := Lib.hid (hrow.keep hbl)
      obtain ⟨rro, rrc, rfl, _, _, _, _⟩ := hrow
      have hcr := (hbl.cell (World.block_lt_of_cell? w _ hcell)).trans hcell
      have HLX : Hid (∀ x ∈ rowOf ls k, x < 4294967296) := by
        refine H3.out _ ?_
        rw [rowOf_eq ls k hkl]; exact List.getElem_mem hkl
      have HDL : Hid ((digs 1000000000 (val 1000000000 (rowOf ls k))).length ≤ 1000000) := by
        have h5 := digs_len_any _ HLX.out
        have h6 := wgt_mem ls k hkl
        unfold Hid; omega
      have HRL : Hid ((rowOf ls k).length ≤ 1000000) := by
        have h6 := wgt_mem ls k hkl
        unfold Hid; omega
      clear hcell
      go_wp2_with fail
      go_region_law (first | (go_simp; go_at_call 138; refine (of_any _ (rowOf ls k) _ (HROW.out.keep (by (repeat (first | exact Below.refl _ _ | assumption | refine Below.drew ?_ | refine belowN ?_ _ | refine Below.alloc ?_ (by (first | omega | (simp only [size_alloc, size_drew, size_drewN, size_set]; omega) | simp only [size_alloc, size_drew, size_drewN, size_set])) _ | refine Below.setCell ?_ (by (first | omega | (simp only [size_alloc, size_drew, size_drewN, size_set]; omega) | simp only [size_alloc, size_drew, size_drewN, size_set])) _)))) (by have := HRL.out; omega) HLX.out).mono ?_; rintro e w2 ⟨x, rfl, hx2, hbk⟩; have hB2 : Below wr.heap.size wr w2 := (by refine Below.trans ?_ (Below.mono hbk ?_) <;> first | ((repeat (first | exact Below.refl _ _ | assumption | refine Below.drew ?_ | refine belowN ?_ _ | refine Below.alloc ?_ (by (first | omega | (simp only [size_alloc, size_drew, size_drewN, size_set]; omega) | simp only [size_alloc, size_drew, size_drewN, size_set])) _ | refine Below.setCell ?_ (by (first | omega | (simp only [size_alloc, size_drew, size_drewN, size_set]; omega) | simp only [size_alloc, size_drew, size_drewN, size_set])) _)); done) | (first | omega | (simp only [size_drew]; omega) | simp only [size_alloc, size_drew, size_drewN, size_set])); have RTN := HTR.out.keep hB2; have hcb2 := (hB2.cell (p := ⟨w.heap.size, 0, none⟩) hl0).trans hcb) | (go_simp; go_at_call 136; refine (plus_any _ _ (digs 1000000000 T) (digs 1000000000 (val 1000000000 (rowOf ls k))) _ RTN hx2.rd (digs_lt _ (by omega) _) (digs_lt _ (by omega) _) (by have := HTL.out; omega) (by have := HDL.out; omega)).mono ?_; rintro e w3 ⟨y, rfl, hy, hbk2⟩; have hB3 : Below wr.heap.size wr w3 := hB2.trans (hbk2.mono hB2.size); have hs2 := hB2.size; have hcb3 := (hB3.cell (p := ⟨w.heap.size, 0, none⟩) hl0).trans hcb; have hfb3 := (hB3.frozen (p := ⟨w.heap.size, 0, none⟩) hl0).trans hfb; rw [val_digs _ (by omega), val_digs _ (by omega)] at hy; obtain ⟨yo, yc, rfl, _, _, _, _⟩ := hy.rd))
      all_goals
        go_wp2_with fail
        go_roundw
        case rel =>
          refine ⟨k + 1, _, _, by go_num, by omega, ?_, ?_, (hy.set ?_ _).rd, cell_same hcb3, (free_same _ _ _ _ _ _).trans hfb3, (hbl.trans (hB3.mono ?_)).setCell ?_ _⟩
          · rw [foldl_take_succ _ _ _ _ hkl, ← HT.out]
          · have e : (digs 1000000000 n).length + wgt (ls.take (k + 1)) = (digs 1000000000 n).length + wgt (ls.take k) + 2 * (rowOf ls k).length + 1 := by rw [wgt_take_succ _ _ hkl]; omega
            rw [e]
            exact add_lt_pow HTB.out (val_lt_any _ HLX.out)
          all_goals first | omega | (dsimp only; omega)
        case measure => simp [intOf]; omega
    · have he : k = ls.length := by omega
      have HE := Lib.hid he
      go_wp2_with (go_at_call 141; refine (row_any _ (digs 1000000000 T) _ HTR.out (by have := HTL.out; omega) (fun x hx => by have := digs_lt 1000000000 (by omega) T x hx; omega)).mono ?_; rintro e w2 ⟨u, rfl, hu, hbk⟩)
      go_ret
      refine ⟨_, rfl, ?_, hbl.trans (hbk.mono (by omega))⟩
      have e : ls.foldl (fun n a => n + val 1000000000 a) n = T := by have := HT.out; rw [HE.out, List.take_length] at this; exact this.symm
      rw [e]; exact hu.low (by omega)

set_option maxRecDepth 100000 in
set_option maxHeartbeats 2000000 in
theorem folded_times (v u : Value) (n : Nat) (ls : List (List Nat)) (w : World) (hv : RdI w v .u64 (digs 1000000000 n)) (hu : RdRows w u .u32 ls) (h1 : (digs 1000000000 n).length ≤ 1000) (h2 : wgt ls ≤ 1000000) (h3 : ∀ l ∈ ls, ∀ x ∈ l, x < 4294967296) (h4 : ls.length ≤ 1000000) :
    Calls Try.prog 135 #[.agg #[v], .func (.func 160) #[] #[], u] w fun e w' => ∃ u, e = .returned u ∧ Own w' w.heap.size 113 .u32 u (digs 1000000000 (ls.foldl (fun n a => n * val 1000000000 a) n)) ∧ Below w.heap.size w w' := by
  have hv' := Lib.hid hv
  have hu' := Lib.hid hu
  have H3 := Lib.hid h3
  obtain ⟨ao, ac, rfl, _, _, _, _⟩ := hv
  obtain ⟨bo, bc, rfl, _, hbm, hx⟩ := hu
  have HX := Lib.hid hx
  clear h3 hx
  go_enter Try.func135, Try.ntmps135
  have hb1 : Hid (Below w.heap.size w (w.alloc (Obj.cells #[Value.slice ao (digs 1000000000 n).length ac] 186))) := (Below.refl _ _).alloc (Nat.le_refl _) _
  have HS0 : Hid (n < 1000000000 ^ (digs 1000000000 n).length) := by
    have := val_lt 1000000000 (digs 1000000000 n) (digs_lt _ (by omega) _)
    rw [val_digs _ (by omega)] at this; exact this
  go_wp2_with fail
  go_loopw [11] (fun i wr => ∃ (kk T : Nat) (tv : Value), i = .int .i64 kk ∧ kk ≤ ls.length ∧ T = (ls.take kk).foldl (fun n a => n * val 1000000000 a) n ∧ T < 1000000000 ^ ((digs 1000000000 n).length + wgt (ls.take kk)) ∧ RdI wr tv .u64 (digs 1000000000 T) ∧
      wr.cell? ⟨w.heap.size, 0, none⟩ = some tv ∧ wr.frozen? ⟨w.heap.size, 0, none⟩ = false ∧ Below w.heap.size w wr) (fun i _ => ls.length - (intOf i).toNat)
  case atStart => exact ⟨0, n, _, rfl, by omega, by simp, by simpa [wgt] using HS0.out, hv'.out.keep hb1.out, by simp, by simp, hb1.out⟩
  case round =>
    obtain ⟨k, T, tv, rfl, hk, hT, hTl, hTr, hcb, hfb, hbl⟩ := hrel
    have HT := Lib.hid hT
    have HTL : Hid ((digs 1000000000 T).length ≤ 1001000) := by
      have h5 := digs_length_le 1000000000 (by omega) T _ hTl
      have h6 := wgt_take_le ls k
      unfold Hid; omega
    have HTB := Lib.hid hTl
    have HTR := Lib.hid hTr
    have hl0 : w.heap.size < wr.heap.size := World.block_lt_of_cell? wr _ hcb
    obtain ⟨tto, ttc, rfl, _, _, _, _⟩ := hTr
    clear hT hTl
    by_cases hkl : k < ls.length
    · obtain ⟨ad, row, had, hcell, hrow⟩ := HX.out k hkl
      subst had
      have HROW := Lib.hid (hrow.keep hbl)
      obtain ⟨rro, rrc, rfl, _, _, _, _⟩ := hrow
      have hcr := (hbl.cell (World.block_lt_of_cell? w _ hcell)).trans hcell
      have HLX : Hid (∀ x ∈ rowOf ls k, x < 4294967296) := by
        refine H3.out _ ?_
        rw [rowOf_eq ls k hkl]; exact List.getElem_mem hkl
      have HDL : Hid ((digs 1000000000 (val 1000000000 (rowOf ls k))).length ≤ 1000000) := by
        have h5 := digs_len_any _ HLX.out
        have h6 := wgt_mem ls k hkl
        unfold Hid; omega
      have HRL : Hid ((rowOf ls k).length ≤ 1000000) := by
        have h6 := wgt_mem ls k hkl
        unfold Hid; omega
      clear hcell
      go_wp2_with fail
      go_region_law (first | (go_simp; go_at_call 138; refine (of_any _ (rowOf ls k) _ (HROW.out.keep (by (repeat (first | exact Below.refl _ _ | assumption | refine Below.drew ?_ | refine belowN ?_ _ | refine Below.alloc ?_ (by (first | omega | (simp only [size_alloc, size_drew, size_drewN, size_set]; omega) | simp only [size_alloc, size_drew, size_drewN, size_set])) _ | refine Below.setCell ?_ (by (first | omega | (simp only [size_alloc, size_drew, size_drewN, size_set]; omega) | simp only [size_alloc, size_drew, size_drewN, size_set])) _)))) (by have := HRL.out; omega) HLX.out).mono ?_; rintro e w2 ⟨x, rfl, hx2, hbk⟩; have hB2 : Below wr.heap.size wr w2 := (by refine Below.trans ?_ (Below.mono hbk ?_) <;> first | ((repeat (first | exact Below.refl _ _ | assumption | refine Below.drew ?_ | refine belowN ?_ _ | refine Below.alloc ?_ (by (first | omega | (simp only [size_alloc, size_drew, size_drewN, size_set]; omega) | simp only [size_alloc, size_drew, size_drewN, size_set])) _ | refine Below.setCell ?_ (by (first | omega | (simp only [size_alloc, size_drew, size_drewN, size_set]; omega) | simp only [size_alloc, size_drew, size_drewN, size_set])) _)); done) | (first | omega | (simp only [size_drew]; omega) | simp only [size_alloc, size_drew, size_drewN, size_set])); have RTN := HTR.out.keep hB2; have hcb2 := (hB2.cell (p := ⟨w.heap.size, 0, none⟩) hl0).trans hcb) | (go_simp; go_at_call 160; refine (times_any _ _ (digs 1000000000 T) (digs 1000000000 (val 1000000000 (rowOf ls k))) _ RTN hx2.rd (digs_lt _ (by omega) _) (digs_lt _ (by omega) _) (by have := HTL.out; omega) (by have := HDL.out; omega)).mono ?_; rintro e w3 ⟨y, rfl, hy, hbk2⟩; have hB3 : Below wr.heap.size wr w3 := hB2.trans (hbk2.mono hB2.size); have hs2 := hB2.size; have hcb3 := (hB3.cell (p := ⟨w.heap.size, 0, none⟩) hl0).trans hcb; have hfb3 := (hB3.frozen (p := ⟨w.heap.size, 0, none⟩) hl0).trans hfb; rw [val_digs _ (by omega), val_digs _ (by omega)] at hy; obtain ⟨yo, yc, rfl, _, _, _, _⟩ := hy.rd))
      all_goals
        go_wp2_with fail
        go_roundw
        case rel =>
          refine ⟨k + 1, _, _, by go_num, by omega, ?_, ?_, (hy.set ?_ _).rd, cell_same hcb3, (free_same _ _ _ _ _ _).trans hfb3, (hbl.trans (hB3.mono ?_)).setCell ?_ _⟩
          · rw [foldl_take_succ _ _ _ _ hkl, ← HT.out]
          · have e : (digs 1000000000 n).length + wgt (ls.take (k + 1)) = (digs 1000000000 n).length + wgt (ls.take k) + 2 * (rowOf ls k).length + 1 := by rw [wgt_take_succ _ _ hkl]; omega
            rw [e]
            exact mul_lt_pow HTB.out (val_lt_any _ HLX.out)
          all_goals first | omega | (dsimp only; omega)
        case measure => simp [intOf]; omega
    · have he : k = ls.length := by omega
      have HE := Lib.hid he
      go_wp2_with (go_at_call 141; refine (row_any _ (digs 1000000000 T) _ HTR.out (by have := HTL.out; omega) (fun x hx => by have := digs_lt 1000000000 (by omega) T x hx; omega)).mono ?_; rintro e w2 ⟨u, rfl, hu, hbk⟩)
      go_ret
      refine ⟨_, rfl, ?_, hbl.trans (hbk.mono (by omega))⟩
      have e : ls.foldl (fun n a => n * val 1000000000 a) n = T := by have := HT.out; rw [HE.out, List.take_length] at this; exact this.symm
      rw [e]; exact hu.low (by omega)

end Go.Proofs.Ytpjjdngoblfleaa
