/- nat: the exported functions but the texts'. -/
import Derived.Test.YtpjjdngoblfleaaNatG
namespace Go.Proofs.Ytpjjdngoblfleaa
open Go.RowKit
attribute [local go_sem ↓] Go.wp_at_zero Go.wp_at_succ

def sumV (ls : List (List Nat)) : Nat := ls.foldl (fun n a => n + val 1000000000 a) 0
def prodV (ls : List (List Nat)) : Nat := ls.foldl (fun n a => n * val 1000000000 a) 1

set_option maxHeartbeats 400000 in
theorem natAdd_any (u : Value) (ls : List (List Nat)) (w : World) (hu : RdRows w u .u32 ls) (h2 : wgt ls ≤ 1000000) (h3 : ∀ l ∈ ls, ∀ x ∈ l, x < 4294967296) (h4 : ls.length ≤ 1000000) :
    Calls Try.prog 104 #[u] w fun e w' => ∃ u, e = .returned u ∧ Own w' w.heap.size 113 .u32 u (digs 1000000000 (sumV ls)) ∧ Below w.heap.size w w' := by
  have HU := Lib.hid hu
  have H3 := Lib.hid h3
  clear hu h3
  have HZ : Hid (RdI w (.slice none 0 0) .u64 (digs 1000000000 0)) := ⟨none, 0, rfl, by rw [digs_zero]; exact Nat.le_refl _, by unfold maxLen; omega, fun _ => rfl, fun i hi => by rw [digs_zero] at hi; simp at hi⟩
  go_enter Try.func104, Try.ntmps104
  go_wp2_with (go_at_call 135; refine (folded_plus (.slice none 0 0) _ 0 ls _ HZ.out HU.out (by rw [digs_zero]; exact Nat.zero_le _) h2 H3.out h4).mono ?_; rintro e w2 ⟨v, rfl, hv, hbk⟩)
  go_ret
  exact ⟨_, rfl, hv, hbk⟩

set_option maxHeartbeats 400000 in
theorem natMul_any (u : Value) (ls : List (List Nat)) (w : World) (hu : RdRows w u .u32 ls) (h2 : wgt ls ≤ 1000000) (h3 : ∀ l ∈ ls, ∀ x ∈ l, x < 4294967296) (h4 : ls.length ≤ 1000000) :
    Calls Try.prog 150 #[u] w fun e w' => ∃ u, e = .returned u ∧ Own w' w.heap.size 113 .u32 u (digs 1000000000 (prodV ls)) ∧ Below w.heap.size w w' := by
  have HU := Lib.hid hu
  have H3 := Lib.hid h3
  clear hu h3
  have H1 : Hid (RdI (w.alloc (Obj.cells #[Value.int .u64 1] 101)) (.slice (some ⟨w.heap.size, 0, none⟩) 1 1) .u64 (digs 1000000000 1)) := rd_box w .u64 1 101 _ rfl
  have HB : Hid (Below w.heap.size w (w.alloc (Obj.cells #[Value.int .u64 1] 101))) := (Below.refl _ _).alloc (Nat.le_refl _) _
  go_enter Try.func150, Try.ntmps150
  go_wp2_with (go_at_call 135; refine (folded_times (.slice (some ⟨w.heap.size, 0, none⟩) 1 1) _ 1 ls _ H1.out (HU.out.keep HB.out) (by decide) h2 H3.out h4).mono ?_; rintro e w2 ⟨v, rfl, hv, hbk⟩)
  go_ret
  exact ⟨_, rfl, hv.low (by simp), HB.out.trans (hbk.mono (by simp))⟩

set_option maxHeartbeats 400000 in
theorem natTrim_any (v : Value) (l : List Nat) (w : World) (hv : RdI w v .u32 l) (h1 : l.length ≤ 10000000) (h2 : ∀ x ∈ l, x < 4294967296) :
    Calls Try.prog 134 #[v] w fun e w' => ∃ u, e = .returned u ∧ Own w' w.heap.size 113 .u32 u (digs 1000000000 (val 1000000000 l)) ∧ Below w.heap.size w w' := by
  have HV := Lib.hid hv
  have H2 := Lib.hid h2
  clear hv h2
  have HL : Hid ((digs 1000000000 (val 1000000000 l)).length ≤ 1000000000) := by have := digs_len_any l H2.out; unfold Hid; omega
  go_enter Try.func134, Try.ntmps134
  go_wp2_with (first | (go_at_call 138; refine (of_any _ l _ HV.out (by omega) H2.out).mono ?_; rintro e w2 ⟨x, rfl, hx, hbk⟩) | (go_at_call 141; refine (row_any _ _ _ hx.rd HL.out (fun x hx => by have := digs_lt 1000000000 (by omega) _ x hx; omega)).mono ?_; rintro e w3 ⟨y, rfl, hy, hbk2⟩))
  go_ret
  exact ⟨_, rfl, hy.low hbk.size, hbk.trans (hbk2.mono hbk.size)⟩

set_option maxHeartbeats 400000 in
theorem natCmp_any (v u : Value) (l m : List Nat) (w : World) (hv : RdI w v .u32 l) (hu : RdI w u .u32 m) (h1 : l.length ≤ 10000000) (h2 : ∀ x ∈ l, x < 4294967296) (h3 : m.length ≤ 10000000) (h4 : ∀ x ∈ m, x < 4294967296) :
    Calls Try.prog 137 #[v, u] w fun e w' => e = .returned (.int .i64 (cmpI (val 1000000000 l : Nat) (val 1000000000 m : Nat))) ∧ Below w.heap.size w w' := by
  have HV := Lib.hid hv
  have HU := Lib.hid hu
  have H2 := Lib.hid h2
  have H4 := Lib.hid h4
  clear hv hu h2 h4
  have HL : Hid ((digs 1000000000 (val 1000000000 l)).length ≤ 1000000000) := by have := digs_len_any l H2.out; unfold Hid; omega
  have HM : Hid ((digs 1000000000 (val 1000000000 m)).length ≤ 1000000000) := by have := digs_len_any m H4.out; unfold Hid; omega
  go_enter Try.func137, Try.ntmps137
  go_wp2_with fail
  refine (of_any _ l _ HV.out (by omega) H2.out).mono ?_
  rintro e w2 ⟨x, rfl, hx, hbk⟩
  go_wp2_with fail
  refine (of_any _ m _ (HU.out.keep hbk) (by omega) H4.out).mono ?_
  rintro e w3 ⟨y, rfl, hy, hbk2⟩
  go_wp2_with fail
  refine (compare_any _ _ _ _ _ (hx.keep hbk2).rd hy.rd (digs_rgt _ (by omega) _) (digs_rgt _ (by omega) _) HL.out HM.out).mono ?_
  rintro e w4 ⟨rfl, hbk3⟩
  go_wp2_with fail
  go_ret
  exact ⟨by rw [val_digs _ (by omega), val_digs _ (by omega)]; rfl, (hbk.trans (hbk2.mono hbk.size)).trans (hbk3.mono (Nat.le_trans hbk.size hbk2.size))⟩

/-- Of the rows l, m: what Sub tells. -/
def SubPost (l m : List Nat) (w : World) (e : Ending) (w' : World) : Prop :=
  ∃ u, e = .returned (.tuple #[u, .bool (decide (val 1000000000 m ≤ val 1000000000 l))]) ∧ Own w' w.heap.size 113 .u32 u (digs 1000000000 (val 1000000000 l - val 1000000000 m)) ∧ Below w.heap.size w w'

set_option maxHeartbeats 1000000 in
theorem natSub_any (v u : Value) (l m : List Nat) (w : World) (hv : RdI w v .u32 l) (hu : RdI w u .u32 m) (h1 : l.length ≤ 10000000) (h2 : ∀ x ∈ l, x < 4294967296) (h3 : m.length ≤ 10000000) (h4 : ∀ x ∈ m, x < 4294967296) :
    Calls Try.prog 106 #[v, u] w (SubPost l m w) := by
  have HV := Lib.hid hv
  have HU := Lib.hid hu
  have H2 := Lib.hid h2
  have H4 := Lib.hid h4
  clear hv hu h2 h4
  have HL : Hid ((digs 1000000000 (val 1000000000 l)).length ≤ 1000000000) := by have := digs_len_any l H2.out; unfold Hid; omega
  have HM : Hid ((digs 1000000000 (val 1000000000 m)).length ≤ 1000000000) := by have := digs_len_any m H4.out; unfold Hid; omega
  have HC : Hid (cmpI (val 1000000000 (digs 1000000000 (val 1000000000 l)) : Nat) (val 1000000000 (digs 1000000000 (val 1000000000 m)) : Nat) = cmpI (val 1000000000 l : Nat) (val 1000000000 m : Nat)) := by
    unfold Hid; rw [val_digs _ (by omega), val_digs _ (by omega)]
  obtain ⟨z, hz⟩ : ∃ z, z = cmpI (val 1000000000 l : Nat) (val 1000000000 m : Nat) := ⟨_, rfl⟩
  have HZ := Lib.hid hz
  have HL2 : Hid ((digs 1000000000 (val 1000000000 l - val 1000000000 m)).length ≤ 1000000000) := by
    have h5 := digs_length_mono 1000000000 (by omega) (Nat.sub_le (val 1000000000 l) (val 1000000000 m))
    have := HL.out; unfold Hid; omega
  by_cases hlt : val 1000000000 l < val 1000000000 m
  · have hz1 : z < 0 := by rw [hz, cmpI_lt (by omega)]; omega
    have HLT := Lib.hid hlt
    clear hz hlt
    go_enter Try.func106, Try.ntmps106
    go_wp2_with fail
    refine (of_any _ l _ HV.out (by omega) H2.out).mono ?_
    rintro e w2 ⟨x, rfl, hx, hbk⟩
    go_wp2_with fail
    refine (of_any _ m _ (HU.out.keep hbk) (by omega) H4.out).mono ?_
    rintro e w3 ⟨y, rfl, hy, hbk2⟩
    have hB3 : Below w.heap.size w w3 := hbk.trans (hbk2.mono hbk.size)
    have HX := Lib.hid (hx.keep hbk2).rd
    have HY := Lib.hid hy.rd
    obtain ⟨xo, xc, rfl, _, _, _, _⟩ := hx.rd
    obtain ⟨yo, yc, rfl, _, _, _, _⟩ := hy.rd
    go_wp2_with fail
    refine (compare_any _ _ (digs 1000000000 (val 1000000000 l)) (digs 1000000000 (val 1000000000 m)) _ (HX.out.keep (by (repeat (first | exact Below.refl _ _ | assumption | refine Below.drew ?_ | refine belowN ?_ _ | refine Below.alloc ?_ (by (first | omega | (simp only [size_alloc]; omega) | simp only [size_alloc, size_drew, size_drewN, size_set])) _ | refine Below.setCell ?_ (by (first | omega | (simp only [size_alloc, size_drew, size_drewN, size_set]; omega) | simp only [size_alloc, size_drew, size_drewN, size_set])) _)))) (HY.out.keep (by (repeat (first | exact Below.refl _ _ | assumption | refine Below.drew ?_ | refine belowN ?_ _ | refine Below.alloc ?_ (by (first | omega | (simp only [size_alloc]; omega) | simp only [size_alloc, size_drew, size_drewN, size_set])) _ | refine Below.setCell ?_ (by (first | omega | (simp only [size_alloc, size_drew, size_drewN, size_set]; omega) | simp only [size_alloc, size_drew, size_drewN, size_set])) _)))) (digs_rgt _ (by omega) _) (digs_rgt _ (by omega) _) HL.out HM.out).mono ?_
    rintro e w4 ⟨he, hbk3⟩
    rw [HC.out, ← HZ.out] at he
    subst he
    have hs3 := hB3.size
    have hB4 : Below w.heap.size w w4 := hB3.trans (by refine Below.trans ?_ (Below.mono hbk3 ?_) <;> first | ((repeat (first | exact Below.refl _ _ | assumption | refine Below.drew ?_ | refine belowN ?_ _ | refine Below.alloc ?_ (by (first | omega | (simp only [size_alloc]; omega) | simp only [size_alloc, size_drew, size_drewN, size_set])) _ | refine Below.setCell ?_ (by (first | omega | (simp only [size_alloc, size_drew, size_drewN, size_set]; omega) | simp only [size_alloc, size_drew, size_drewN, size_set])) _)); done) | (first | omega | (simp only [size_alloc]; omega) | simp only [size_alloc, size_drew, size_drewN, size_set]))
    go_wp2_with fail
    go_ret2
    refine ⟨.slice none 0 0, ?_, ?_, hB4⟩
    · have := HLT.out
      rw [show decide (val 1000000000 m ≤ val 1000000000 l) = false from by simp; omega]
      rfl
    · have := HLT.out
      rw [show val 1000000000 l - val 1000000000 m = 0 from by omega, digs_zero]
      exact World.ownsRow_nil _ _ _ _
  · have hz1 : ¬ z < 0 := by
      rw [hz]; unfold cmpI
      rw [if_neg (by omega)]
      split <;> omega
    have HLT := Lib.hid hlt
    clear hz hlt
    go_enter Try.func106, Try.ntmps106
    go_wp2_with fail
    refine (of_any _ l _ HV.out (by omega) H2.out).mono ?_
    rintro e w2 ⟨x, rfl, hx, hbk⟩
    go_wp2_with fail
    refine (of_any _ m _ (HU.out.keep hbk) (by omega) H4.out).mono ?_
    rintro e w3 ⟨y, rfl, hy, hbk2⟩
    have hB3 : Below w.heap.size w w3 := hbk.trans (hbk2.mono hbk.size)
    have HX := Lib.hid (hx.keep hbk2).rd
    have HY := Lib.hid hy.rd
    obtain ⟨xo, xc, rfl, _, _, _, _⟩ := hx.rd
    obtain ⟨yo, yc, rfl, _, _, _, _⟩ := hy.rd
    have hs3 := hB3.size
    go_wp2_with fail
    refine (compare_any _ _ (digs 1000000000 (val 1000000000 l)) (digs 1000000000 (val 1000000000 m)) _ (HX.out.keep (by (repeat (first | exact Below.refl _ _ | assumption | refine Below.drew ?_ | refine belowN ?_ _ | refine Below.alloc ?_ (by (first | omega | (simp only [size_alloc]; omega) | simp only [size_alloc, size_drew, size_drewN, size_set])) _ | refine Below.setCell ?_ (by (first | omega | (simp only [size_alloc, size_drew, size_drewN, size_set]; omega) | simp only [size_alloc, size_drew, size_drewN, size_set])) _)))) (HY.out.keep (by (repeat (first | exact Below.refl _ _ | assumption | refine Below.drew ?_ | refine belowN ?_ _ | refine Below.alloc ?_ (by (first | omega | (simp only [size_alloc]; omega) | simp only [size_alloc, size_drew, size_drewN, size_set])) _ | refine Below.setCell ?_ (by (first | omega | (simp only [size_alloc, size_drew, size_drewN, size_set]; omega) | simp only [size_alloc, size_drew, size_drewN, size_set])) _)))) (digs_rgt _ (by omega) _) (digs_rgt _ (by omega) _) HL.out HM.out).mono ?_
    rintro e w4 ⟨he, hbk3⟩
    rw [HC.out, ← HZ.out] at he
    subst he
    have hB4 : Below w3.heap.size w3 w4 := (by refine Below.trans ?_ (Below.mono hbk3 ?_) <;> first | ((repeat (first | exact Below.refl _ _ | assumption | refine Below.drew ?_ | refine belowN ?_ _ | refine Below.alloc ?_ (by (first | omega | (simp only [size_alloc]; omega) | simp only [size_alloc, size_drew, size_drewN, size_set])) _ | refine Below.setCell ?_ (by (first | omega | (simp only [size_alloc, size_drew, size_drewN, size_set]; omega) | simp only [size_alloc, size_drew, size_drewN, size_set])) _)); done) | (first | omega | (simp only [size_alloc]; omega) | simp only [size_alloc, size_drew, size_drewN, size_set]))
    have hxc : w4.cell? ⟨w3.heap.size, 0, none⟩ = some (Value.slice xo (digs 1000000000 (val 1000000000 l)).length xc) := (hbk3.cell (p := ⟨w3.heap.size, 0, none⟩) (by simp only [size_alloc]; omega)).trans (by simp (disch := first | omega | (simp only [size_alloc, size_drew, size_drewN, size_set]; omega) | simp only [size_alloc, size_drew, size_drewN, size_set]) only [cell_new, cell_old]; rfl)
    have hyc : w4.cell? ⟨w3.heap.size + 1, 0, none⟩ = some (Value.slice yo (digs 1000000000 (val 1000000000 m)).length yc) := (hbk3.cell (p := ⟨w3.heap.size + 1, 0, none⟩) (by simp only [size_alloc]; omega)).trans (by simp (disch := first | omega | (simp only [size_alloc, size_drew, size_drewN, size_set]; omega) | simp only [size_alloc, size_drew, size_drewN, size_set]) only [cell_new]; rfl)
    have hs4 := hB4.size
    go_wp2_with fail
    refine (less_any _ _ (digs 1000000000 (val 1000000000 l)) (digs 1000000000 (val 1000000000 m)) _ (HX.out.keep hB4) (HY.out.keep hB4) (digs_lt _ (by omega) _) (digs_lt _ (by omega) _) HL.out (digs_length_mono _ (by omega) (by have := HLT.out; omega)) (by rw [val_digs _ (by omega), val_digs _ (by omega)]; have := HLT.out; omega)).mono ?_
    rintro e w5 ⟨q, rfl, hq, hbk4⟩
    rw [val_digs _ (by omega), val_digs _ (by omega)] at hq
    go_wp2_with fail
    refine (row_any _ _ _ hq.rd HL2.out (fun x hx => by have := digs_lt 1000000000 (by omega) _ x hx; omega)).mono ?_
    rintro e w6 ⟨p, rfl, hp, hbk5⟩
    have hs5 := hbk4.size
    go_wp2_with fail
    go_ret2
    refine ⟨p, ?_, hp.low (by omega), ((hB3.trans (hB4.mono (by omega))).trans (hbk4.mono (by omega))).trans (hbk5.mono (by omega))⟩
    have := HLT.out
    rw [show decide (val 1000000000 m ≤ val 1000000000 l) = true from by simp; omega]
    rfl

end Go.Proofs.Ytpjjdngoblfleaa
