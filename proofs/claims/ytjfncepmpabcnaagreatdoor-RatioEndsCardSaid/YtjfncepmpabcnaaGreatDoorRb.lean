/- The reference of chapter 1 by the pure run: order, less. -/
import Derived.Test.YtjfncepmpabcnaaGreatDoorRa
namespace Go.Proofs.YtjfncepmpabcnaaGreatDoor
open Go.RowKit
set_option linter.unusedVariables false
set_option maxRecDepth 100000

/-- The decimals of a number. -/
def R10 (l : List Int) (k : Nat) : Prop := l.length ≤ k ∧ ∃ n : Nat, l = iN (digs 10 n)
theorem R10_digs {n k : Nat} (h : (digs 10 n).length ≤ k) : R10 (iN (digs 10 n)) k := ⟨by rw [iN_len]; exact h, _, rfl⟩
def ordN (a b : Nat) : Int := if a < b then -1 else if b < a then 1 else 0
def sOrderD : Spec
  | [.f (.is .u8 l), .f (.is .u8 m)] => some (some (R10 l 1000000000 ∧ R10 m 1000000000), .one (.f (.v (.int .i64 (ordN (vI l) (vI m))))))
  | _ => none
theorem cOrderD {E : World → Hp → Prop} (hU : Up E) : Contract Tryz.prog E 141 sOrderD := by
  refine contract_loops [] Tryz.ntmps141 Tryz.func141 (by kernel_rfl) (by kernel_rfl) hU trivial ?_
  intro xs p r hs hp
  unfold sOrderD at hs
  split at hs
  · rename_i l m
    cases hs
    obtain ⟨⟨h1, A, rfl⟩, h2, C, rfl⟩ := hp _ rfl
    refine ⟨[.f (.is .u8 (iN (digs 10 A))), .f (.is .u8 (iN (digs 10 C)))], [(6, .s ⟨Nat, fun k => ⟨[(0, .f (.is .u8 (iN (digs 10 A)))), (1, .f (.is .u8 (iN (digs 10 C)))), (5, .f (.v (.int .i64 ((k : Int) - 1))))], []⟩,
      fun k => k ≤ (digs 10 A).length ∧ (digs 10 A).length = (digs 10 C).length ∧ (digs 10 A).drop k = (digs 10 C).drop k, fun k => k⟩)], .cons (.refl _) (.cons (.refl _) .nil), rfl, ?_⟩
    rw [vI_digs, vI_digs]
    rw [iN_len] at h1 h2
    have hlt : A < C → ordN A C = -1 := fun h => by unfold ordN; rw [if_pos h]
    have hgt : C < A → ordN A C = 1 := fun h => by unfold ordN; rw [if_neg (by omega), if_pos h]
    have heq : A = C → ordN A C = 0 := fun h => by unfold ordN; rw [if_neg (by omega), if_neg (by omega)]
    refine cast_rfl (p := ifB ((↑(iN (digs 10 A)).length : Int) != (↑(iN (digs 10 C)).length : Int)) (ifB (decide ((↑(iN (digs 10 A)).length : Int) < (↑(iN (digs 10 C)).length : Int))) (true = true ∧ Sub (PV.f (Lf.v (Value.int IntKind.i64 (-1 : Int)))) (PV.f (Lf.v (Value.int IntKind.i64 (ordN A C))))) (true = true ∧ Sub (PV.f (Lf.v (Value.int IntKind.i64 (1 : Int)))) (PV.f (Lf.v (Value.int IntKind.i64 (ordN A C)))))) (∃ (x1 : Nat), (True ∧ SubB (PV.f (Lf.is IntKind.u8 (iN (digs 10 A)))) (PV.f (Lf.is IntKind.u8 (iN (digs 10 A)))) ∧ SubB (PV.f (Lf.is IntKind.u8 (iN (digs 10 C)))) (PV.f (Lf.is IntKind.u8 (iN (digs 10 C)))) ∧ SubB (PV.f (Lf.v (Value.int IntKind.i64 (IntKind.i64.wrap ((↑(iN (digs 10 A)).length : Int) - (1 : Int)))))) (PV.f (Lf.v (Value.int IntKind.i64 ((↑x1 : Int) - (1 : Int))))) ∧ True) ∧ (x1 ≤ (digs 10 A).length ∧ (digs 10 A).length = (digs 10 C).length ∧ List.drop x1 (digs 10 A) = List.drop x1 (digs 10 C)) ∧ True ∧ ∀ (z2 : Nat), z2 ≤ (digs 10 A).length ∧ (digs 10 A).length = (digs 10 C).length ∧ List.drop z2 (digs 10 A) = List.drop z2 (digs 10 C) → True → ifB (decide ((↑z2 : Int) - (1 : Int) ≥ (0 : Int))) (((0 : Int) ≤ (↑z2 : Int) - (1 : Int) ∧ (↑z2 : Int) - (1 : Int) < (↑(iN (digs 10 A)).length : Int)) ∧ ((0 : Int) ≤ (↑z2 : Int) - (1 : Int) ∧ (↑z2 : Int) - (1 : Int) < (↑(iN (digs 10 C)).length : Int)) ∧ ifB (decide ((iN (digs 10 A)).getD ((↑z2 : Int) - (1 : Int)).toNat (0 : Int) < (iN (digs 10 C)).getD ((↑z2 : Int) - (1 : Int)).toNat (0 : Int))) (true = true ∧ Sub (PV.f (Lf.v (Value.int IntKind.i64 (-1 : Int)))) (PV.f (Lf.v (Value.int IntKind.i64 (ordN A C))))) (((0 : Int) ≤ (↑z2 : Int) - (1 : Int) ∧ (↑z2 : Int) - (1 : Int) < (↑(iN (digs 10 A)).length : Int)) ∧ ((0 : Int) ≤ (↑z2 : Int) - (1 : Int) ∧ (↑z2 : Int) - (1 : Int) < (↑(iN (digs 10 C)).length : Int)) ∧ ifB (decide ((iN (digs 10 A)).getD ((↑z2 : Int) - (1 : Int)).toNat (0 : Int) > (iN (digs 10 C)).getD ((↑z2 : Int) - (1 : Int)).toNat (0 : Int))) (true = true ∧ Sub (PV.f (Lf.v (Value.int IntKind.i64 (1 : Int)))) (PV.f (Lf.v (Value.int IntKind.i64 (ordN A C))))) (∃ (x3 : Nat), (True ∧ SubB (PV.f (Lf.is IntKind.u8 (iN (digs 10 A)))) (PV.f (Lf.is IntKind.u8 (iN (digs 10 A)))) ∧ SubB (PV.f (Lf.is IntKind.u8 (iN (digs 10 C)))) (PV.f (Lf.is IntKind.u8 (iN (digs 10 C)))) ∧ SubB (PV.f (Lf.v (Value.int IntKind.i64 (IntKind.i64.wrap ((↑z2 : Int) - (1 : Int) - (1 : Int)))))) (PV.f (Lf.v (Value.int IntKind.i64 ((↑x3 : Int) - (1 : Int))))) ∧ True) ∧ (x3 ≤ (digs 10 A).length ∧ (digs 10 A).length = (digs 10 C).length ∧ List.drop x3 (digs 10 A) = List.drop x3 (digs 10 C)) ∧ True ∧ x3.succ.le z2))) (true = true ∧ Sub (PV.f (Lf.v (Value.int IntKind.i64 (0 : Int)))) (PV.f (Lf.v (Value.int IntKind.i64 (ordN A C))))))) (by kernel_rfl) ?_
    refine ifB_iff.2 ⟨fun hb0 => ifB_iff.2 ⟨fun hb1 => ⟨rfl, ?m0⟩, fun hb1 => ⟨rfl, ?m1⟩⟩, fun hb0 => ⟨?x0, ⟨⟨trivial, ⟨.refl _, ⟨.refl _, ⟨?m2, trivial⟩⟩⟩⟩, ⟨?s0, ⟨trivial, fun z2 => fun hq2 => fun _ => ifB_iff.2 ⟨fun hb3 => ⟨?s1, ⟨?s2, ifB_iff.2 ⟨fun hb4 => ⟨rfl, ?m3⟩, fun hb4 => ⟨?s3, ⟨?s4, ifB_iff.2 ⟨fun hb5 => ⟨rfl, ?m4⟩, fun hb5 => ⟨?x1, ⟨⟨trivial, ⟨.refl _, ⟨.refl _, ⟨?m5, trivial⟩⟩⟩⟩, ⟨?s5, ⟨trivial, ?m6⟩⟩⟩⟩⟩⟩⟩⟩⟩⟩, fun hb3 => ⟨rfl, ?m7⟩⟩⟩⟩⟩⟩⟩
    case x0 => exact (digs 10 A).length
    case x1 => exact z2 - 1
    all_goals simp only [iN_len, iN_at, Int.toNat_natCast] at *
    case m0 => rw [hlt (digs_lt_of_len (by have := of_decide_eq_true hb1; omega))]; exact .refl _
    case m1 =>
      have h : (digs 10 C).length < (digs 10 A).length := by
        have := of_decide_eq_false hb1
        have := bne_iff_ne.1 hb0
        omega
      rw [hgt (digs_lt_of_len h)]; exact .refl _
    all_goals have hln : (digs 10 A).length = (digs 10 C).length := (by have := bne_eq_false_iff_eq.1 hb0; omega)
    case m2 => exact subB_int (by rw [wrapI _ ⟨by omega, by omega⟩])
    case s0 => exact ⟨Nat.le_refl _, hln, by rw [List.drop_of_length_le (Nat.le_refl _), List.drop_of_length_le (by omega)]⟩
    case m7 =>
      have h0 : z2 = 0 := by have := of_decide_eq_false hb3; omega
      subst h0
      have := hq2.2.2
      rw [List.drop_zero, List.drop_zero] at this
      rw [heq (digs10_inj this)]; exact .refl _
    all_goals obtain ⟨k, rfl⟩ : ∃ k, z2 = k + 1 := ⟨z2 - 1, by have := of_decide_eq_true hb3; omega⟩
    all_goals have hk := hq2.1
    all_goals have hw : (((k + 1 : Nat) : Int) - 1).toNat = k := by omega
    all_goals simp only [hw] at *
    case s1 => exact ⟨by omega, by omega⟩
    case s2 => exact ⟨by omega, by omega⟩
    case m3 => rw [hlt (digs_lt_of_top (k := k) (by omega) (by omega) hq2.2.2 (by have := of_decide_eq_true hb4; omega))]; exact .refl _
    case s3 => exact ⟨by omega, by omega⟩
    case s4 => exact ⟨by omega, by omega⟩
    case m4 => rw [hgt (digs_lt_of_top (k := k) (by omega) (by omega) hq2.2.2.symm (by have := of_decide_eq_true hb5; omega))]; exact .refl _
    all_goals rw [Nat.add_sub_cancel]
    case m5 => exact subB_int (by rw [wrapI _ ⟨by omega, by omega⟩]; omega)
    case s5 =>
      refine ⟨by omega, hln, ?_⟩
      have e1 := of_decide_eq_false hb4
      have e2 := of_decide_eq_false hb5
      rw [drop_dg _ k (by omega), drop_dg _ k (by omega), hq2.2.2, show dg (digs 10 A) k = dg (digs 10 C) k by omega]
    case m6 => exact Nat.le_refl _
  · cases hs
def sLessD : Spec
  | [.f (.is .u8 l), .f (.is .u8 m)] => some (some (R10 l 100000000 ∧ R10 m 100000000 ∧ vI m ≤ vI l), .nm Nat (vI l - vI m) dP)
  | _ => none
/-- A round of less: place, borrowed, decimals. -/
def ivL (L M : List Nat) (x : Nat × Nat × List Nat) : Prop := x.2.2.length = L.length ∧ x.1 ≤ L.length ∧ x.2.2.drop x.1 = L.drop x.1 ∧ val 10 (x.2.2.take x.1) + val 10 (M.take x.1) = val 10 (L.take x.1) + 10 ^ x.1 * x.2.1 ∧ x.2.1 ≤ 1 ∧ (∀ y ∈ x.2.2, y < 10)
def nxL (M : List Nat) (z : Nat × Nat × List Nat) : Nat × Nat × List Nat := (z.1 + 1, if dg z.2.2 z.1 < z.2.1 + dg M z.1 then 1 else 0, z.2.2.set z.1 (if dg z.2.2 z.1 < z.2.1 + dg M z.1 then dg z.2.2 z.1 + 10 - z.2.1 - dg M z.1 else dg z.2.2 z.1 - z.2.1 - dg M z.1))
theorem take_set_snoc {l : List Nat} {i x : Nat} (h : i < l.length) : (l.set i x).take (i + 1) = l.take i ++ [x] := by
  rw [List.take_add_one, List.getElem?_set, if_pos rfl, if_pos h, List.take_set_of_le (Nat.le_refl _)]; rfl
theorem iN_set (l : List Nat) (i : Nat) (x : Nat) : iN (l.set i x) = (iN l).set i (x : Int) := by
  unfold iN
  rw [List.map_set]; rfl
theorem ivL_next {L M : List Nat} {z : Nat × Nat × List Nat} (h : ivL L M z) (hi : z.1 < L.length) (hL : ∀ x ∈ L, x < 10) (hM : ∀ x ∈ M, x < 10) : ivL L M (nxL M z) := by
  obtain ⟨i, c, o⟩ := z
  obtain ⟨r1, r2, r3, r4, r5, r6⟩ := h
  dsimp only at r1 r2 r3 r4 r5 r6 hi
  have e1 := dg_lt r6 (by omega) i
  have e2 := dg_lt hM (by omega) i
  have hd : dg o i = dg L i := by
    have a1 := drop_dg o i (by omega)
    have a2 := drop_dg L i hi
    rw [r3, a2] at a1
    injection a1 with a1 _
    exact a1.symm
  refine ⟨by simp [nxL, r1], by simp only [nxL]; omega, ?_, ?_, by simp only [nxL]; split <;> omega, fun y hy => ?_⟩
  · simp only [nxL]
    rw [List.drop_set_of_lt (by omega)]
    have := congrArg (List.drop 1) r3
    rwa [List.drop_drop, List.drop_drop] at this
  · simp only [nxL]
    rw [take_set_snoc (by omega), val_snoc, List.length_take, Nat.min_eq_left (by omega), take_b 10 M i, val_take_succ 10 L i hi, Nat.pow_succ, ← hd]
    generalize 10 ^ i = p at *
    split
    · rename_i hlt
      obtain ⟨d, hd2⟩ : ∃ d, d = dg o i + 10 - c - dg M i := ⟨_, rfl⟩
      have : d + c + dg M i = dg o i + 10 := by omega
      rw [← hd2]
      have h2 : p * d + p * c + p * dg M i = p * dg o i + p * 10 := by rw [← Nat.mul_add, ← Nat.mul_add, this, Nat.mul_add]
      omega
    · rename_i hlt
      obtain ⟨d, hd2⟩ : ∃ d, d = dg o i - c - dg M i := ⟨_, rfl⟩
      have : d + c + dg M i = dg o i := by omega
      rw [← hd2]
      have h2 : p * d + p * c + p * dg M i = p * dg o i := by rw [← Nat.mul_add, ← Nat.mul_add, this]
      omega
  · simp only [nxL] at hy
    rcases List.mem_or_eq_of_mem_set hy with hy | rfl
    · exact r6 y hy
    · split <;> omega
theorem cLessD {E : World → Hp → Prop} (hU : Up E) : Contract Tryz.prog E 142 sLessD := by
  refine contract_loops [(144, sTrimD)] Tryz.ntmps142 Tryz.func142 (by kernel_rfl) (by kernel_rfl) hU ⟨cTrimD hU, trivial⟩ ?_
  intro xs p r hs hp
  unfold sLessD at hs
  split at hs
  · rename_i l m
    cases hs
    obtain ⟨⟨h1, A, rfl⟩, ⟨h3, C, rfl⟩, h5⟩ := hp _ rfl
    rw [vI_digs, vI_digs] at h5 ⊢
    refine ⟨[.f (.is .u8 (iN (digs 10 A))), .f (.is .u8 (iN (digs 10 C)))], [(4, .s ⟨Nat × Nat × List Nat, fun x => ⟨[(0, .f (.is .u8 (iN (digs 10 A)))), (1, .f (.is .u8 (iN (digs 10 C)))), (5, .wr 0), (6, .f (.v (.int .i64 (x.2.1 : Nat)))), (7, .f (.v (.int .i64 (x.1 : Nat))))], [.own 5 (.is .u8 (iN x.2.2))]⟩,
      ivL (digs 10 A) (digs 10 C), fun x => (digs 10 A).length - x.1⟩)], .cons (.refl _) (.cons (.refl _) .nil), rfl, ?_⟩
    have hca : (digs 10 C).length ≤ (digs 10 A).length := digs_length_mono 10 (by omega) h5
    rw [iN_len] at h1 h3
    have e0 := digs_lt 10 (by omega) A
    have f0 := digs_lt 10 (by omega) C
    refine cast_rfl (p := ((iN (digs 10 A)).length ≤ 9223372036854775807 ∧ (iN (digs 10 A)).length * 1 ≤ 140737488355328) ∧ ∃ (x1 : Nat × Nat × List Nat), (((5 = 5 ∧ Lf.is IntKind.u8 (iN x1.snd.snd) = Lf.is IntKind.u8 (iN (digs 10 A))) ∧ True) ∧ SubB (PV.f (Lf.is IntKind.u8 (iN (digs 10 A)))) (PV.f (Lf.is IntKind.u8 (iN (digs 10 A)))) ∧ SubB (PV.f (Lf.is IntKind.u8 (iN (digs 10 C)))) (PV.f (Lf.is IntKind.u8 (iN (digs 10 C)))) ∧ SubB (PV.wr 0) (PV.wr 0) ∧ SubB (PV.f (Lf.v (Value.int IntKind.i64 (0 : Int)))) (PV.f (Lf.v (Value.int IntKind.i64 (↑x1.snd.fst : Int)))) ∧ SubB (PV.f (Lf.v (Value.int IntKind.i64 (0 : Int)))) (PV.f (Lf.v (Value.int IntKind.i64 (↑x1.fst : Int)))) ∧ True) ∧ ivL (digs 10 A) (digs 10 C) x1 ∧ True ∧ ∀ (z2 : Nat × Nat × List Nat), ivL (digs 10 A) (digs 10 C) z2 → True → ifB (decide ((↑z2.fst : Int) < (↑(iN z2.snd.snd).length : Int))) (((0 : Int) ≤ (↑z2.fst : Int) ∧ (↑z2.fst : Int) < (↑(iN z2.snd.snd).length : Int)) ∧ ifB (decide ((↑z2.fst : Int) < (↑(iN (digs 10 C)).length : Int))) (((0 : Int) ≤ (↑z2.fst : Int) ∧ (↑z2.fst : Int) < (↑(iN (digs 10 C)).length : Int)) ∧ ifB (decide (IntKind.i64.wrap (IntKind.i64.wrap (IntKind.i64.wrap ((iN z2.snd.snd).getD (↑z2.fst : Int).toNat (0 : Int)) - (↑z2.snd.fst : Int)) - IntKind.i64.wrap ((iN (digs 10 C)).getD (↑z2.fst : Int).toNat (0 : Int))) < (0 : Int))) (((0 : Int) ≤ (↑z2.fst : Int) ∧ (↑z2.fst : Int) < (↑(iN z2.snd.snd).length : Int)) ∧ ∃ (x3 : Nat × Nat × List Nat), (((5 = 5 ∧ Lf.is IntKind.u8 (iN x3.snd.snd) = Lf.is IntKind.u8 ((iN z2.snd.snd).set (↑z2.fst : Int).toNat (IntKind.u8.wrap (IntKind.i64.wrap (IntKind.i64.wrap (IntKind.i64.wrap (IntKind.i64.wrap ((iN z2.snd.snd).getD (↑z2.fst : Int).toNat (0 : Int)) - (↑z2.snd.fst : Int)) - IntKind.i64.wrap ((iN (digs 10 C)).getD (↑z2.fst : Int).toNat (0 : Int))) + (10 : Int)))))) ∧ True) ∧ SubB (PV.f (Lf.is IntKind.u8 (iN (digs 10 A)))) (PV.f (Lf.is IntKind.u8 (iN (digs 10 A)))) ∧ SubB (PV.f (Lf.is IntKind.u8 (iN (digs 10 C)))) (PV.f (Lf.is IntKind.u8 (iN (digs 10 C)))) ∧ SubB (PV.wr 0) (PV.wr 0) ∧ SubB (PV.f (Lf.v (Value.int IntKind.i64 (1 : Int)))) (PV.f (Lf.v (Value.int IntKind.i64 (↑x3.snd.fst : Int)))) ∧ SubB (PV.f (Lf.v (Value.int IntKind.i64 (IntKind.i64.wrap ((↑z2.fst : Int) + (1 : Int)))))) (PV.f (Lf.v (Value.int IntKind.i64 (↑x3.fst : Int)))) ∧ True) ∧ ivL (digs 10 A) (digs 10 C) x3 ∧ True ∧ ((digs 10 A).length - x3.fst).succ.le ((digs 10 A).length - z2.fst)) (((0 : Int) ≤ (↑z2.fst : Int) ∧ (↑z2.fst : Int) < (↑(iN z2.snd.snd).length : Int)) ∧ ∃ (x3 : Nat × Nat × List Nat), (((5 = 5 ∧ Lf.is IntKind.u8 (iN x3.snd.snd) = Lf.is IntKind.u8 ((iN z2.snd.snd).set (↑z2.fst : Int).toNat (IntKind.u8.wrap (IntKind.i64.wrap (IntKind.i64.wrap (IntKind.i64.wrap ((iN z2.snd.snd).getD (↑z2.fst : Int).toNat (0 : Int)) - (↑z2.snd.fst : Int)) - IntKind.i64.wrap ((iN (digs 10 C)).getD (↑z2.fst : Int).toNat (0 : Int))))))) ∧ True) ∧ SubB (PV.f (Lf.is IntKind.u8 (iN (digs 10 A)))) (PV.f (Lf.is IntKind.u8 (iN (digs 10 A)))) ∧ SubB (PV.f (Lf.is IntKind.u8 (iN (digs 10 C)))) (PV.f (Lf.is IntKind.u8 (iN (digs 10 C)))) ∧ SubB (PV.wr 0) (PV.wr 0) ∧ SubB (PV.f (Lf.v (Value.int IntKind.i64 (0 : Int)))) (PV.f (Lf.v (Value.int IntKind.i64 (↑x3.snd.fst : Int)))) ∧ SubB (PV.f (Lf.v (Value.int IntKind.i64 (IntKind.i64.wrap ((↑z2.fst : Int) + (1 : Int)))))) (PV.f (Lf.v (Value.int IntKind.i64 (↑x3.fst : Int)))) ∧ True) ∧ ivL (digs 10 A) (digs 10 C) x3 ∧ True ∧ ((digs 10 A).length - x3.fst).succ.le ((digs 10 A).length - z2.fst))) (ifB (decide (IntKind.i64.wrap (IntKind.i64.wrap ((iN z2.snd.snd).getD (↑z2.fst : Int).toNat (0 : Int)) - (↑z2.snd.fst : Int)) < (0 : Int))) (((0 : Int) ≤ (↑z2.fst : Int) ∧ (↑z2.fst : Int) < (↑(iN z2.snd.snd).length : Int)) ∧ ∃ (x3 : Nat × Nat × List Nat), (((5 = 5 ∧ Lf.is IntKind.u8 (iN x3.snd.snd) = Lf.is IntKind.u8 ((iN z2.snd.snd).set (↑z2.fst : Int).toNat (IntKind.u8.wrap (IntKind.i64.wrap (IntKind.i64.wrap (IntKind.i64.wrap ((iN z2.snd.snd).getD (↑z2.fst : Int).toNat (0 : Int)) - (↑z2.snd.fst : Int)) + (10 : Int)))))) ∧ True) ∧ SubB (PV.f (Lf.is IntKind.u8 (iN (digs 10 A)))) (PV.f (Lf.is IntKind.u8 (iN (digs 10 A)))) ∧ SubB (PV.f (Lf.is IntKind.u8 (iN (digs 10 C)))) (PV.f (Lf.is IntKind.u8 (iN (digs 10 C)))) ∧ SubB (PV.wr 0) (PV.wr 0) ∧ SubB (PV.f (Lf.v (Value.int IntKind.i64 (1 : Int)))) (PV.f (Lf.v (Value.int IntKind.i64 (↑x3.snd.fst : Int)))) ∧ SubB (PV.f (Lf.v (Value.int IntKind.i64 (IntKind.i64.wrap ((↑z2.fst : Int) + (1 : Int)))))) (PV.f (Lf.v (Value.int IntKind.i64 (↑x3.fst : Int)))) ∧ True) ∧ ivL (digs 10 A) (digs 10 C) x3 ∧ True ∧ ((digs 10 A).length - x3.fst).succ.le ((digs 10 A).length - z2.fst)) (((0 : Int) ≤ (↑z2.fst : Int) ∧ (↑z2.fst : Int) < (↑(iN z2.snd.snd).length : Int)) ∧ ∃ (x3 : Nat × Nat × List Nat), (((5 = 5 ∧ Lf.is IntKind.u8 (iN x3.snd.snd) = Lf.is IntKind.u8 ((iN z2.snd.snd).set (↑z2.fst : Int).toNat (IntKind.u8.wrap (IntKind.i64.wrap (IntKind.i64.wrap ((iN z2.snd.snd).getD (↑z2.fst : Int).toNat (0 : Int)) - (↑z2.snd.fst : Int)))))) ∧ True) ∧ SubB (PV.f (Lf.is IntKind.u8 (iN (digs 10 A)))) (PV.f (Lf.is IntKind.u8 (iN (digs 10 A)))) ∧ SubB (PV.f (Lf.is IntKind.u8 (iN (digs 10 C)))) (PV.f (Lf.is IntKind.u8 (iN (digs 10 C)))) ∧ SubB (PV.wr 0) (PV.wr 0) ∧ SubB (PV.f (Lf.v (Value.int IntKind.i64 (0 : Int)))) (PV.f (Lf.v (Value.int IntKind.i64 (↑x3.snd.fst : Int)))) ∧ SubB (PV.f (Lf.v (Value.int IntKind.i64 (IntKind.i64.wrap ((↑z2.fst : Int) + (1 : Int)))))) (PV.f (Lf.v (Value.int IntKind.i64 (↑x3.fst : Int)))) ∧ True) ∧ ivL (digs 10 A) (digs 10 C) x3 ∧ True ∧ ((digs 10 A).length - x3.fst).succ.le ((digs 10 A).length - z2.fst)))) (D10 (iN z2.snd.snd) 1000000000 ∧ ∀ (z3 : Nat), z3 = vI (iN z2.snd.snd) → true = true ∧ Sub (PV.f (Lf.is IntKind.u8 (iN (digs 10 z3)))) (PV.f (Lf.is IntKind.u8 (iN (digs 10 (A - C))))))) (by kernel_rfl) ?_
    refine ⟨?s0, ⟨?x0, ⟨?s1, ⟨?s2, ⟨trivial, fun z2 => fun hq0 => fun _ => ifB_iff.2 ⟨fun hb1 => ⟨?s3, ifB_iff.2 ⟨fun hb2 => ⟨?s4, ifB_iff.2 ⟨fun hb3 => ⟨?s5, ⟨?x1, ⟨?s6, ⟨?s7, ⟨trivial, ?m0⟩⟩⟩⟩⟩, fun hb3 => ⟨?s8, ⟨?x2, ⟨?s9, ⟨?s10, ⟨trivial, ?m1⟩⟩⟩⟩⟩⟩⟩, fun hb2 => ifB_iff.2 ⟨fun hb4 => ⟨?s11, ⟨?x3, ⟨?s12, ⟨?s13, ⟨trivial, ?m2⟩⟩⟩⟩⟩, fun hb4 => ⟨?s14, ⟨?x4, ⟨?s15, ⟨?s16, ⟨trivial, ?m3⟩⟩⟩⟩⟩⟩⟩⟩, fun hb1 => ⟨?s17, fun z3 => fun hz3 => ⟨rfl, ?m4⟩⟩⟩⟩⟩⟩⟩⟩
    case x0 => exact (0, 0, digs 10 A)
    case s0 => rw [iN_len]; exact ⟨by omega, by omega⟩
    case s1 => exact ⟨⟨⟨rfl, rfl⟩, trivial⟩, .refl _, .refl _, .refl _, .refl _, .refl _, trivial⟩
    case s2 => exact ⟨rfl, Nat.zero_le _, rfl, by simp [val], Nat.zero_le _, e0⟩
    all_goals try exact nxL (digs 10 C) z2
    all_goals obtain ⟨r1, r2, r3, r4, r5, r6⟩ := hq0
    all_goals rw [iN_len, r1] at hb1
    case s17 => exact ⟨by rw [iN_len]; omega, _, rfl, r6⟩
    case m4 =>
      have hi : z2.1 = (digs 10 A).length := by have := of_decide_eq_false hb1; omega
      rw [hi, List.take_of_length_le (by omega), List.take_of_length_le (by omega), List.take_of_length_le (Nat.le_refl _), val_digs 10 (by omega), val_digs 10 (by omega)] at r4
      have hlt := val_lt 10 _ r6
      rw [r1] at hlt
      have hlt2 := val_lt 10 _ e0
      have hc0 : z2.2.1 = 0 := by
        rcases Nat.eq_zero_or_pos z2.2.1 with h | h
        · exact h
        · have h1 : z2.2.1 = 1 := by omega
          rw [h1, Nat.mul_one] at r4; omega
      rw [hc0, Nat.mul_zero, Nat.add_zero] at r4
      subst hz3
      unfold vI
      rw [natI_iN, show val 10 z2.2.2 = A - C by omega]; exact .refl _
    all_goals have hi := of_decide_eq_true hb1
    all_goals have d2 := dg_or (L := digs 10 C) z2.1
    all_goals have e1 := dg_lt r6 (by omega) z2.1
    all_goals have e2 := dg_lt f0 (by omega) z2.1
    all_goals have hn := ivL_next (z := z2) ⟨r1, r2, r3, r4, r5, r6⟩ (by omega) e0 f0
    all_goals simp (disch := omega) only [iN_len, iN_at, Int.toNat_natCast, decide_eq_true_eq, decide_eq_false_iff_not, wI] at *
    all_goals first
      | exact hn
      | exact ⟨by omega, by omega⟩
      | (show _ + 1 ≤ _; simp only [nxL]; omega)
      | (refine ⟨⟨⟨by trivial, ?_⟩, by trivial⟩, .refl _, .refl _, .refl _, subB_int ?_, subB_int ?_, by trivial⟩
         · simp only [nxL]
           rw [iN_set]
           congr 2
           rw [wrap8 _ (by omega)]
           split <;> omega
         · simp only [nxL]
           split <;> omega
         · simp only [nxL]; omega)
  · cases hs

end Go.Proofs.YtjfncepmpabcnaaGreatDoor
