/- The reference of chapter 2 by the pure run: DivMod; the reference of chapter 3: Of and what hangs on it. -/
import Derived.Test.YtjfncepmpabcnaaGreatDoorRg
namespace Go.Proofs.YtjfncepmpabcnaaGreatDoor
open Go.RowKit
set_option linter.unusedVariables false
set_option maxRecDepth 100000

def sDivR : Spec
  | [x, y] => match pvR x, pvR y with
    | some ((n, l), k, j), some ((n', l'), k', j') => some (some (k + k' ≤ 4000 ∧ zV n' l' ≠ 0), .nm2 Int Int (Int.fdiv (zV n l) (zV n' l')) (Int.fmod (zV n l) (zV n' l')) fun q r => .tup [zP q (j + 1), zP r j', .f (.v (.int .i64 0))])
    | _, _ => none
  | _ => none
/-- What is left of a number cut towards 0. -/
theorem cut_rest (x y : Int) : zOf (zNeg x != zNeg y) (x.natAbs / y.natAbs) * y + zOf (zNeg x) (x.natAbs % y.natAbs) = x := by
  have h1 : zOf ((zNeg x != zNeg y) != zNeg y) (x.natAbs / y.natAbs * y.natAbs) = zOf (zNeg x != zNeg y) (x.natAbs / y.natAbs) * y := by rw [zOf_mul, zOf_self]
  have h2 : ((zNeg x != zNeg y) != zNeg y) = zNeg x := by cases zNeg x <;> cases zNeg y <;> rfl
  rw [← h1, h2, ← zOf_add, Nat.div_add_mod', zOf_self]
theorem div_other {x y q r : Int} (hb : y ≠ 0) (hx : q * y + r = x) (hm : r.natAbs < y.natAbs) (h0 : r ≠ 0) (hs : (!zNeg r == zNeg y) = true) : q - 1 = Int.fdiv x y ∧ r + y = Int.fmod x y := by
  refine fdm_unique hb (by rw [Int.sub_mul, Int.one_mul]; omega) ?_
  rw [Bool.not_eq_true'] at hs
  have hs : zNeg r ≠ zNeg y := by simpa using hs
  by_cases hy : y < 0
  · have e : zNeg y = true := zNeg_iff.2 hy
    have : ¬ r < 0 := fun h => hs (by rw [e, zNeg_iff.2 h])
    exact .inr ⟨hy, by omega, by omega⟩
  · have : r < 0 := by
      refine Decidable.byContradiction fun h => hs ?_
      rw [Bool.eq_iff_iff, zNeg_iff, zNeg_iff]
      omega
    exact .inl ⟨by omega, by omega, by omega⟩
theorem div_same {x y q r : Int} (hb : y ≠ 0) (hx : q * y + r = x) (hm : r.natAbs < y.natAbs) (hs : r = 0 ∨ (!zNeg r == zNeg y) = false) : q = Int.fdiv x y ∧ r = Int.fmod x y := by
  refine fdm_unique hb hx ?_
  rcases hs with rfl | hs
  · rcases Int.lt_trichotomy y 0 with h | h | h
    · exact .inr ⟨h, h, Int.le_refl _⟩
    · exact absurd h hb
    · exact .inl ⟨h, Int.le_refl _, h⟩
  · rw [Bool.not_eq_false'] at hs
    have hs : zNeg r = zNeg y := by simpa using hs
    rw [Bool.eq_iff_iff, zNeg_iff, zNeg_iff] at hs
    by_cases hy : y < 0
    · exact .inr ⟨hy, by omega, by omega⟩
    · exact .inl ⟨by omega, by omega, by omega⟩
theorem cDivZ {E : World → Hp → Prop} (hU : Up E) : Contract Tryz.prog E 89 sDivR := by
  refine contract_loopsG [(58, sNormZ), (56, sOf), (68, sDivL), (61, sOfB), (16, sMulR), (123, sSubZ), (57, sPlusZ)] Tryz.ntmps89 Tryz.func89 (by kernel_rfl) (by kernel_rfl) hU ⟨cNormZ, cOfR, cDivL hU, cOfB, cMulZ hU, cSubZ hU, cPlusZ hU, trivial⟩ ?_
  intro xs p r hs hp
  unfold sDivR at hs
  split at hs
  · rename_i x y
    split at hs
    · rename_i n l k j n' l' k' j' hx hy
      cases hs
      obtain ⟨hk, h0⟩ := hp _ rfl
      refine ⟨[rawP n l k, rawP n' l' k'], [], .cons (sub_raw hx) (.cons (sub_raw hy) .nil), rfl, fun hgx hg => ?_⟩
      obtain ⟨a1, a2, a3⟩ := pvR_good hx hgx.1
      obtain ⟨b1, b2, b3⟩ := pvR_good hy hgx.2.1
      refine cast_rfl (p := k ≤ 1000000 ∧ ∀ (z1 : Int), z1 = zV n l → k' ≤ 1000000 ∧ ∀ (z2 : Int), z2 = zV n' l' → ifB ((↑(digs 1000000000 z2.natAbs).length : Int) == (0 : Int)) (((-9223372036854775808 : Int) ≤ (0 : Int) ∧ (0 : Int) ≤ (9223372036854775807 : Int)) ∧ ∀ (z3 : Int), z3 = (0 : Int) → ((-9223372036854775808 : Int) ≤ (0 : Int) ∧ (0 : Int) ≤ (9223372036854775807 : Int)) ∧ ∀ (z4 : Int), z4 = (0 : Int) → true = true ∧ Sub (PV.tup [PV.agg [PV.f (Lf.zn z3), PV.f (Lf.zd z3 3)], PV.agg [PV.f (Lf.zn z4), PV.f (Lf.zd z4 3)], PV.f (Lf.v (Value.int IntKind.i64 (9 : Int)))]) (PV.tup [PV.agg [PV.f (Lf.zn ((zV n l).fdiv (zV n' l'))), PV.f (Lf.zd ((zV n l).fdiv (zV n' l')) (j + 1))], PV.agg [PV.f (Lf.zn ((zV n l).fmod (zV n' l'))), PV.f (Lf.zd ((zV n l).fmod (zV n' l')) j')], PV.f (Lf.v (Value.int IntKind.i64 (0 : Int)))])) ((k + 1 ≤ 100000 ∧ k' + 1 ≤ 100000 ∧ vB (digs 1000000000 z2.natAbs) ≠ 0) ∧ ∀ (z3 : Nat), z3 = vB (digs 1000000000 z1.natAbs) / vB (digs 1000000000 z2.natAbs) → ∀ (z4 : Nat), z4 = vB (digs 1000000000 z1.natAbs) % vB (digs 1000000000 z2.natAbs) → k + 1 + 1 ≤ 1000000 ∧ ∀ (z5 : Int), z5 = zV (!zNeg z1 == zNeg z2) (digs 1000000000 (↑z3 : Int).natAbs) → k + 1 + 1 + 1 + 2 + (k' + 1 + 2 + 0) ≤ 10000 ∧ ∀ (z6 : Int), z6 = (1 : Int) * zV (zNeg z5) (digs 1000000000 z5.natAbs) * zV (zNeg z2) (digs 1000000000 z2.natAbs) → k + 1 + (1 + (k + 1 + 1 + 1) + (k' + 1)) ≤ 30000 ∧ ∀ (z7 : Int), z7 = zV (zNeg z1) (digs 1000000000 z1.natAbs) - zV (zNeg z6) (digs 1000000000 z6.natAbs) → ifB (decide ((↑(digs 1000000000 z7.natAbs).length : Int) > (0 : Int))) (ifB (!zNeg z7 == zNeg z2) (((-9223372036854775808 : Int) ≤ (1 : Int) ∧ (1 : Int) ≤ (9223372036854775807 : Int)) ∧ ∀ (z8 : Int), z8 = (1 : Int) → k + 1 + 1 + 1 + 3 ≤ 30000 ∧ ∀ (z9 : Int), z9 = zV (zNeg z5) (digs 1000000000 z5.natAbs) - zV (zNeg z8) (digs 1000000000 z8.natAbs) → k + 1 + (1 + (k + 1 + 1 + 1) + (k' + 1)) + 1 + (k' + 1) ≤ 40000 ∧ ∀ (z10 : Int), z10 = zV (zNeg z7) (digs 1000000000 z7.natAbs) + zV (zNeg z2) (digs 1000000000 z2.natAbs) → ((true = true ∧ Sub (PV.tup [PV.agg [PV.f (Lf.zn z9), PV.f (Lf.zd z9 (k + 1 + 1 + 1 + 3 + 1))], PV.agg [PV.f (Lf.zn z10), PV.f (Lf.zd z10 (k + 1 + (1 + (k + 1 + 1 + 1) + (k' + 1)) + 1 + (k' + 1) + 1))], PV.f (Lf.v (Value.int IntKind.i64 (0 : Int)))]) (PV.tup [PV.agg [PV.f (Lf.zn ((zV n l).fdiv (zV n' l'))), PV.f (Lf.zd ((zV n l).fdiv (zV n' l')) (j + 1))], PV.agg [PV.f (Lf.zn ((zV n l).fmod (zV n' l'))), PV.f (Lf.zd ((zV n l).fmod (zV n' l')) j')], PV.f (Lf.v (Value.int IntKind.i64 (0 : Int)))])) ∧ true = true ∧ Sub (PV.tup [PV.agg [PV.f (Lf.zn z9), PV.f (Lf.zd z9 (k + 1 + 1 + 1 + 3 + 1))], PV.agg [PV.f (Lf.zn z10), PV.f (Lf.zd z10 (k + 1 + (1 + (k + 1 + 1 + 1) + (k' + 1)) + 1 + (k' + 1) + 1))], PV.f (Lf.v (Value.int IntKind.i64 (0 : Int)))]) (PV.tup [PV.agg [PV.f (Lf.zn ((zV n l).fdiv (zV n' l'))), PV.f (Lf.zd ((zV n l).fdiv (zV n' l')) (j + 1))], PV.agg [PV.f (Lf.zn ((zV n l).fmod (zV n' l'))), PV.f (Lf.zd ((zV n l).fmod (zV n' l')) j')], PV.f (Lf.v (Value.int IntKind.i64 (0 : Int)))])) ∧ true = true ∧ Sub (PV.tup [PV.agg [PV.f (Lf.zn z9), PV.f (Lf.zd z9 (k + 1 + 1 + 1 + 3 + 1))], PV.agg [PV.f (Lf.zn z10), PV.f (Lf.zd z10 (k + 1 + (1 + (k + 1 + 1 + 1) + (k' + 1)) + 1 + (k' + 1) + 1))], PV.f (Lf.v (Value.int IntKind.i64 (0 : Int)))]) (PV.tup [PV.agg [PV.f (Lf.zn ((zV n l).fdiv (zV n' l'))), PV.f (Lf.zd ((zV n l).fdiv (zV n' l')) (j + 1))], PV.agg [PV.f (Lf.zn ((zV n l).fmod (zV n' l'))), PV.f (Lf.zd ((zV n l).fmod (zV n' l')) j')], PV.f (Lf.v (Value.int IntKind.i64 (0 : Int)))])) (((true = true ∧ Sub (PV.tup [PV.agg [PV.f (Lf.zn z5), PV.f (Lf.zd z5 (k + 1 + 1 + 1))], PV.agg [PV.f (Lf.zn z7), PV.f (Lf.zd z7 (k + 1 + (1 + (k + 1 + 1 + 1) + (k' + 1)) + 1))], PV.f (Lf.v (Value.int IntKind.i64 (0 : Int)))]) (PV.tup [PV.agg [PV.f (Lf.zn ((zV n l).fdiv (zV n' l'))), PV.f (Lf.zd ((zV n l).fdiv (zV n' l')) (j + 1))], PV.agg [PV.f (Lf.zn ((zV n l).fmod (zV n' l'))), PV.f (Lf.zd ((zV n l).fmod (zV n' l')) j')], PV.f (Lf.v (Value.int IntKind.i64 (0 : Int)))])) ∧ true = true ∧ Sub (PV.tup [PV.agg [PV.f (Lf.zn z5), PV.f (Lf.zd z5 (k + 1 + 1 + 1))], PV.agg [PV.f (Lf.zn z7), PV.f (Lf.zd z7 (k + 1 + (1 + (k + 1 + 1 + 1) + (k' + 1)) + 1))], PV.f (Lf.v (Value.int IntKind.i64 (0 : Int)))]) (PV.tup [PV.agg [PV.f (Lf.zn ((zV n l).fdiv (zV n' l'))), PV.f (Lf.zd ((zV n l).fdiv (zV n' l')) (j + 1))], PV.agg [PV.f (Lf.zn ((zV n l).fmod (zV n' l'))), PV.f (Lf.zd ((zV n l).fmod (zV n' l')) j')], PV.f (Lf.v (Value.int IntKind.i64 (0 : Int)))])) ∧ true = true ∧ Sub (PV.tup [PV.agg [PV.f (Lf.zn z5), PV.f (Lf.zd z5 (k + 1 + 1 + 1))], PV.agg [PV.f (Lf.zn z7), PV.f (Lf.zd z7 (k + 1 + (1 + (k + 1 + 1 + 1) + (k' + 1)) + 1))], PV.f (Lf.v (Value.int IntKind.i64 (0 : Int)))]) (PV.tup [PV.agg [PV.f (Lf.zn ((zV n l).fdiv (zV n' l'))), PV.f (Lf.zd ((zV n l).fdiv (zV n' l')) (j + 1))], PV.agg [PV.f (Lf.zn ((zV n l).fmod (zV n' l'))), PV.f (Lf.zd ((zV n l).fmod (zV n' l')) j')], PV.f (Lf.v (Value.int IntKind.i64 (0 : Int)))]))) (((true = true ∧ Sub (PV.tup [PV.agg [PV.f (Lf.zn z5), PV.f (Lf.zd z5 (k + 1 + 1 + 1))], PV.agg [PV.f (Lf.zn z7), PV.f (Lf.zd z7 (k + 1 + (1 + (k + 1 + 1 + 1) + (k' + 1)) + 1))], PV.f (Lf.v (Value.int IntKind.i64 (0 : Int)))]) (PV.tup [PV.agg [PV.f (Lf.zn ((zV n l).fdiv (zV n' l'))), PV.f (Lf.zd ((zV n l).fdiv (zV n' l')) (j + 1))], PV.agg [PV.f (Lf.zn ((zV n l).fmod (zV n' l'))), PV.f (Lf.zd ((zV n l).fmod (zV n' l')) j')], PV.f (Lf.v (Value.int IntKind.i64 (0 : Int)))])) ∧ true = true ∧ Sub (PV.tup [PV.agg [PV.f (Lf.zn z5), PV.f (Lf.zd z5 (k + 1 + 1 + 1))], PV.agg [PV.f (Lf.zn z7), PV.f (Lf.zd z7 (k + 1 + (1 + (k + 1 + 1 + 1) + (k' + 1)) + 1))], PV.f (Lf.v (Value.int IntKind.i64 (0 : Int)))]) (PV.tup [PV.agg [PV.f (Lf.zn ((zV n l).fdiv (zV n' l'))), PV.f (Lf.zd ((zV n l).fdiv (zV n' l')) (j + 1))], PV.agg [PV.f (Lf.zn ((zV n l).fmod (zV n' l'))), PV.f (Lf.zd ((zV n l).fmod (zV n' l')) j')], PV.f (Lf.v (Value.int IntKind.i64 (0 : Int)))])) ∧ true = true ∧ Sub (PV.tup [PV.agg [PV.f (Lf.zn z5), PV.f (Lf.zd z5 (k + 1 + 1 + 1))], PV.agg [PV.f (Lf.zn z7), PV.f (Lf.zd z7 (k + 1 + (1 + (k + 1 + 1 + 1) + (k' + 1)) + 1))], PV.f (Lf.v (Value.int IntKind.i64 (0 : Int)))]) (PV.tup [PV.agg [PV.f (Lf.zn ((zV n l).fdiv (zV n' l'))), PV.f (Lf.zd ((zV n l).fdiv (zV n' l')) (j + 1))], PV.agg [PV.f (Lf.zn ((zV n l).fmod (zV n' l'))), PV.f (Lf.zd ((zV n l).fmod (zV n' l')) j')], PV.f (Lf.v (Value.int IntKind.i64 (0 : Int)))])))) (by kernel_rfl) ?_
      refine ⟨?s0, fun z1 => fun hz1 => ⟨?s1, fun z2 => fun hz2 => ifB_iff.2 ⟨fun hb0 => ⟨?s2, fun z3 => fun hz3 => ⟨?s3, fun z4 => fun hz4 => ⟨rfl, ?m0⟩⟩⟩, fun hb0 => ⟨?s4, fun z3 => fun hz3 => fun z4 => fun hz4 => ⟨?s5, fun z5 => fun hz5 => ⟨?s6, fun z6 => fun hz6 => ⟨?s7, fun z7 => fun hz7 => ifB_iff.2 ⟨fun hb1 => ifB_iff.2 ⟨fun hb2 => ⟨?s8, fun z8 => fun hz8 => ⟨?s9, fun z9 => fun hz9 => ⟨?s10, fun z10 => fun hz10 => ⟨?s11, ⟨rfl, ?m1⟩⟩⟩⟩⟩, fun hb2 => ⟨?s12, ⟨rfl, ?m2⟩⟩⟩, fun hb1 => ⟨?s13, ⟨rfl, ?m3⟩⟩⟩⟩⟩⟩⟩⟩⟩⟩
      case s0 => omega
      case s1 => omega
      case s2 => decide
      case s3 => decide
      case s8 => decide
      case s5 => omega
      case s6 => omega
      case s7 => omega
      case s9 => omega
      case s10 => omega
      all_goals have hb : z2 ≠ 0 := (by rw [hz2]; exact h0)
      case m0 =>
        have h1 := val_digs 1000000000 (by omega) z2.natAbs
        rw [List.length_eq_zero_iff.1 (show (digs 1000000000 z2.natAbs).length = 0 by simpa using hb0)] at h1
        exact absurd (Int.natAbs_eq_zero.1 h1.symm) hb
      case s4 => rw [vB_dig]; exact ⟨by omega, by omega, by omega⟩
      all_goals simp only [zV_digs, vB_dig] at hz3 hz4 hz6 hz7
      all_goals try simp only [zV_digs] at hz9 hz10
      all_goals have h5 : z5 = zOf (zNeg z1 != zNeg z2) (z1.natAbs / z2.natAbs) := (by rw [hz5, Int.natAbs_natCast, zV_dig, hz3, sgn_bne])
      all_goals have h7 : z7 = zOf (zNeg z1) (z1.natAbs % z2.natAbs) := (by
        have := cut_rest z1 z2
        rw [← h5] at this
        rw [hz7, hz6, Int.one_mul]
        omega)
      all_goals have hm : z7.natAbs < z2.natAbs := (by rw [h7, zOf_abs]; exact Nat.mod_lt _ (by omega))
      all_goals have hx : z5 * z2 + z7 = z1 := (by rw [hz7, hz6, Int.one_mul]; omega)
      all_goals have hZ1 : ZB (Int.fdiv z1 z2) (j + 1) := ZB.fdiv (by rw [hz1]; exact a3) hb
      all_goals have hZ2 : ZB (Int.fmod z1 z2) j' := ZB.fmod (by rw [hz2]; exact b3) hb
      all_goals rw [← hz1, ← hz2]
      case s11 =>
        subst hz8
        obtain ⟨e1, e2⟩ := div_other hb hx hm (fun h => by rw [h] at hb1; exact absurd hb1 (by decide)) hb2
        have hk := sub_div (a := k + 1 + 1 + 1 + 3 + 1) (b := k + 1 + (1 + (k + 1 + 1 + 1) + (k' + 1)) + 1 + (k' + 1) + 1) (hz9.trans e1) (hz10.trans e2) hZ1 hZ2
        exact ⟨⟨rfl, hk⟩, ⟨rfl, hk⟩⟩
      case m1 =>
        subst hz8
        obtain ⟨e1, e2⟩ := div_other hb hx hm (fun h => by rw [h] at hb1; exact absurd hb1 (by decide)) hb2
        exact sub_div (hz9.trans e1) (hz10.trans e2) hZ1 hZ2
      case s12 =>
        obtain ⟨e1, e2⟩ := div_same hb hx hm (.inr hb2)
        have hk := sub_div (a := k + 1 + 1 + 1) (b := k + 1 + (1 + (k + 1 + 1 + 1) + (k' + 1)) + 1) e1 e2 hZ1 hZ2
        exact ⟨⟨rfl, hk⟩, ⟨rfl, hk⟩⟩
      case m2 =>
        obtain ⟨e1, e2⟩ := div_same hb hx hm (.inr hb2)
        exact sub_div e1 e2 hZ1 hZ2
      all_goals have h0' : z7 = 0 := (by
        have h1 := val_digs 1000000000 (by omega) z7.natAbs
        rw [List.length_eq_zero_iff.1 (show (digs 1000000000 z7.natAbs).length = 0 by have := of_decide_eq_false hb1; omega)] at h1
        exact Int.natAbs_eq_zero.1 h1.symm)
      all_goals obtain ⟨e1, e2⟩ := div_same hb hx hm (.inl h0')
      case s13 =>
        have hk := sub_div (a := k + 1 + 1 + 1) (b := k + 1 + (1 + (k + 1 + 1 + 1) + (k' + 1)) + 1) e1 e2 hZ1 hZ2
        exact ⟨⟨rfl, hk⟩, ⟨rfl, hk⟩⟩
      case m3 => exact sub_div e1 e2 hZ1 hZ2
    · cases hs
  · cases hs

end Go.Proofs.YtjfncepmpabcnaaGreatDoor
