/- The reference of chapter 3 by the pure run: Of, Floor, Div, Add, Sub. -/
import Derived.Test.YtjfncepmpabcnaaGreatDoorRh
namespace Go.Proofs.YtjfncepmpabcnaaGreatDoor
open Go.RowKit
set_option linter.unusedVariables false
set_option maxRecDepth 100000

def sOfNR : Spec
  | [x, y] => match pvR x, pvR y with
    | some ((n, l), k, _), some ((n', l'), k', _) => some (some (k ≤ 900 ∧ k' ≤ 900), .nm2 Rat Int (ofRat n l n' l') (ofErr n l n' l') fun r e => .tup [qP r (k + 6) (k' + 6), .f (.v (.int .i64 e))])
    | _, _ => none
  | _ => none
def sFloorR : Spec
  | [x] => match pvQ x with
    | some (((n, l), k, _), ((n', l'), k', _)) => some (some (k ≤ 900 ∧ k' ≤ 900), .nm Int (takeQ n l n' l').floor fun z => zP z (k + 4))
    | none => none
  | _ => none
def sDivQR : Spec
  | [x, y] => match pvQ x, pvQ y with
    | some (((n, l), k, _), ((n', l'), k', _)), some (((m, u), i, _), ((m', u'), i', _)) => some (some (k ≤ 300 ∧ k' ≤ 300 ∧ i ≤ 300 ∧ i' ≤ 300),
        .nm2 Rat Int (takeQ n l n' l' / takeQ m u m' u') (if takeQ m u m' u' = 0 then 9 else 0) fun r e => .tup [qP r (k + i' + 30) (k' + i + 30), .f (.v (.int .i64 e))])
    | _, _ => none
  | _ => none
def sAddQR : Spec
  | [.f y] => match sliceQ y with
    | some L => some (some ((L.foldl bPl (3, 3)).1 ≤ 200 ∧ (L.foldl bPl (3, 3)).2 ≤ 200 ∧ L.length ≤ 1000000), .nm Rat (L.foldl (fun a e => a + ofE e) 0) fun r => qP r (L.foldl bPl (3, 3)).1 (L.foldl bPl (3, 3)).2)
    | none => none
  | _ => none
def sSubQR : Spec
  | [x, y] => match pvQ x, pvQ y with
    | some (((n, l), k, _), ((n', l'), k', _)), some (((m, u), i, _), ((m', u'), i', _)) => some (some (k ≤ 20 ∧ k' ≤ 20 ∧ i ≤ 20 ∧ i' ≤ 20),
        .nm Rat (takeQ n l n' l' - takeQ m u m' u') fun r => qP r (k + 2 * k' + i + 2 * i' + 150) (k' + i' + 100))
    | _, _ => none
  | _ => none
section
variable {E : World → Hp → Prop} (hU : Up E)
include hU
theorem cOfNR : Contract Tryz.prog E 37 sOfNR := by
  refine contract_loopsG [(85, sRight), (75, sNought), (87, sZero), (86, sCmp), (88, sNeg), (18, sGcdR), (89, sDivR)] Tryz.ntmps37 Tryz.func37 (by kernel_rfl) (by kernel_rfl) hU ⟨cRightZ hU, cNoughtR hU, cZeroR hU, cCmpZ hU, cNegZ hU, cGcdZ hU, cDivZ hU, trivial⟩ ?_
  intro xs p r hs hp
  unfold sOfNR at hs
  split at hs
  · rename_i x y
    split at hs
    · rename_i n l k j n' l' k' j' hx hy
      cases hs
      obtain ⟨hk, hk'⟩ := hp _ rfl
      refine ⟨[rawP n l k, rawP n' l' k'], [], .cons (sub_raw hx) (.cons (sub_raw hy) .nil), rfl, fun hgx hg => ?_⟩
      refine cast_rfl (p := k ≤ 1000000 ∧ ifB (!rightZ n l) (true = true ∧ Sub (PV.tup [PV.agg [PV.f (Lf.zn (0 : Int)), PV.f (Lf.zd (0 : Int) 3), PV.f (Lf.zn (1 : Int)), PV.f (Lf.zd (1 : Int) 3)], PV.f (Lf.v (Value.int IntKind.i64 (2 : Int)))]) (PV.tup [PV.agg [PV.f (Lf.zn (ofRat n l n' l').num), PV.f (Lf.zd (ofRat n l n' l').num (k + 6)), PV.f (Lf.zn (↑(ofRat n l n' l').den : Int)), PV.f (Lf.zd (↑(ofRat n l n' l').den : Int) (k' + 6))], PV.f (Lf.v (Value.int IntKind.i64 (ofErr n l n' l')))])) (k' ≤ 1000000 ∧ ifB (!rightZ n' l') (true = true ∧ Sub (PV.tup [PV.agg [PV.f (Lf.zn (0 : Int)), PV.f (Lf.zd (0 : Int) 3), PV.f (Lf.zn (1 : Int)), PV.f (Lf.zd (1 : Int) 3)], PV.f (Lf.v (Value.int IntKind.i64 (2 : Int)))]) (PV.tup [PV.agg [PV.f (Lf.zn (ofRat n l n' l').num), PV.f (Lf.zd (ofRat n l n' l').num (k + 6)), PV.f (Lf.zn (↑(ofRat n l n' l').den : Int)), PV.f (Lf.zd (↑(ofRat n l n' l').den : Int) (k' + 6))], PV.f (Lf.v (Value.int IntKind.i64 (ofErr n l n' l')))])) (k' + 3 ≤ 90000 ∧ ifB (cmpI (zV n' l') (zV (zNeg (0 : Int)) (digs 1000000000 (Int.natAbs (0 : Int)))) == (0 : Int)) (true = true ∧ Sub (PV.tup [PV.agg [PV.f (Lf.zn (0 : Int)), PV.f (Lf.zd (0 : Int) 3), PV.f (Lf.zn (1 : Int)), PV.f (Lf.zd (1 : Int) 3)], PV.f (Lf.v (Value.int IntKind.i64 (9 : Int)))]) (PV.tup [PV.agg [PV.f (Lf.zn (ofRat n l n' l').num), PV.f (Lf.zd (ofRat n l n' l').num (k + 6)), PV.f (Lf.zn (↑(ofRat n l n' l').den : Int)), PV.f (Lf.zd (↑(ofRat n l n' l').den : Int) (k' + 6))], PV.f (Lf.v (Value.int IntKind.i64 (ofErr n l n' l')))])) (k' + 3 ≤ 90000 ∧ ifB (decide (cmpI (zV n' l') (zV (zNeg (0 : Int)) (digs 1000000000 (Int.natAbs (0 : Int)))) < (0 : Int))) (k ≤ 100000 ∧ ∀ (z1 : Int), z1 = -zV n l → k' ≤ 100000 ∧ ∀ (z2 : Int), z2 = -zV n' l' → k + 1 + 2 + (k' + 1 + 2 + 0) ≤ 20000 ∧ ∀ (z3 : Int), z3 = gcd2 (gcd2 (0 : Int) (zV (zNeg z1) (digs 1000000000 z1.natAbs))) (zV (zNeg z2) (digs 1000000000 z2.natAbs)) → (k + 1 + (0 + (k + 1) + 1 + (k' + 1) + 1) ≤ 4000 ∧ zV (zNeg z3) (digs 1000000000 z3.natAbs) ≠ (0 : Int)) ∧ ∀ (z4 : Int), z4 = (zV (zNeg z1) (digs 1000000000 z1.natAbs)).fdiv (zV (zNeg z3) (digs 1000000000 z3.natAbs)) → ∀ (z5 : Int), z5 = (zV (zNeg z1) (digs 1000000000 z1.natAbs)).fmod (zV (zNeg z3) (digs 1000000000 z3.natAbs)) → (k' + 1 + (0 + (k + 1) + 1 + (k' + 1) + 1) ≤ 4000 ∧ zV (zNeg z3) (digs 1000000000 z3.natAbs) ≠ (0 : Int)) ∧ ∀ (z6 : Int), z6 = (zV (zNeg z2) (digs 1000000000 z2.natAbs)).fdiv (zV (zNeg z3) (digs 1000000000 z3.natAbs)) → ∀ (z7 : Int), z7 = (zV (zNeg z2) (digs 1000000000 z2.natAbs)).fmod (zV (zNeg z3) (digs 1000000000 z3.natAbs)) → true = true ∧ Sub (PV.tup [PV.agg [PV.f (Lf.zn z4), PV.f (Lf.zd z4 (k + 1 + 1)), PV.f (Lf.zn z6), PV.f (Lf.zd z6 (k' + 1 + 1))], PV.f (Lf.v (Value.int IntKind.i64 (0 : Int)))]) (PV.tup [PV.agg [PV.f (Lf.zn (ofRat n l n' l').num), PV.f (Lf.zd (ofRat n l n' l').num (k + 6)), PV.f (Lf.zn (↑(ofRat n l n' l').den : Int)), PV.f (Lf.zd (↑(ofRat n l n' l').den : Int) (k' + 6))], PV.f (Lf.v (Value.int IntKind.i64 (ofErr n l n' l')))])) (k + 2 + (k' + 2 + 0) ≤ 20000 ∧ ∀ (z1 : Int), z1 = gcd2 (gcd2 (0 : Int) (zV n l)) (zV n' l') → (k + (0 + (k + 1) + 1 + (k' + 1) + 1) ≤ 4000 ∧ zV (zNeg z1) (digs 1000000000 z1.natAbs) ≠ (0 : Int)) ∧ ∀ (z2 : Int), z2 = (zV n l).fdiv (zV (zNeg z1) (digs 1000000000 z1.natAbs)) → ∀ (z3 : Int), z3 = (zV n l).fmod (zV (zNeg z1) (digs 1000000000 z1.natAbs)) → (k' + (0 + (k + 1) + 1 + (k' + 1) + 1) ≤ 4000 ∧ zV (zNeg z1) (digs 1000000000 z1.natAbs) ≠ (0 : Int)) ∧ ∀ (z4 : Int), z4 = (zV n' l').fdiv (zV (zNeg z1) (digs 1000000000 z1.natAbs)) → ∀ (z5 : Int), z5 = (zV n' l').fmod (zV (zNeg z1) (digs 1000000000 z1.natAbs)) → true = true ∧ Sub (PV.tup [PV.agg [PV.f (Lf.zn z2), PV.f (Lf.zd z2 (k + 1 + 1)), PV.f (Lf.zn z4), PV.f (Lf.zd z4 (k' + 1 + 1))], PV.f (Lf.v (Value.int IntKind.i64 (0 : Int)))]) (PV.tup [PV.agg [PV.f (Lf.zn (ofRat n l n' l').num), PV.f (Lf.zd (ofRat n l n' l').num (k + 6)), PV.f (Lf.zn (↑(ofRat n l n' l').den : Int)), PV.f (Lf.zd (↑(ofRat n l n' l').den : Int) (k' + 6))], PV.f (Lf.v (Value.int IntKind.i64 (ofErr n l n' l')))])))))) (by kernel_rfl) ?_
      refine ⟨?s0, ifB_iff.2 ⟨fun hb0 => ⟨rfl, ?m0⟩, fun hb0 => ⟨?s1, ifB_iff.2 ⟨fun hb1 => ⟨rfl, ?m1⟩, fun hb1 => ⟨?s2, ifB_iff.2 ⟨fun hb2 => ⟨rfl, ?m2⟩, fun hb2 => ⟨?s3, ifB_iff.2 ⟨fun hb3 => ⟨?s4, fun z1 => fun hz1 => ⟨?s5, fun z2 => fun hz2 => ⟨?s6, fun z3 => fun hz3 => ⟨?s7, fun z4 => fun hz4 => fun z5 => fun hz5 => ⟨?s8, fun z6 => fun hz6 => fun z7 => fun hz7 => ⟨rfl, ?m3⟩⟩⟩⟩⟩⟩, fun hb3 => ⟨?s9, fun z1 => fun hz1 => ⟨?s10, fun z2 => fun hz2 => fun z3 => fun hz3 => ⟨?s11, fun z4 => fun hz4 => fun z5 => fun hz5 => ⟨rfl, ?m4⟩⟩⟩⟩⟩⟩⟩⟩⟩⟩⟩⟩
      all_goals (try simp only [Bool.not_eq_true', Bool.not_eq_false', cmpI_eq0, zV_digs, gcd2_two, decide_eq_true_eq, decide_eq_false_iff_not] at *)
      all_goals first | omega | skip
      case m0 =>
        have e1 : ofRat n l n' l' = 0 := by unfold ofRat; rw [hb0]; rfl
        have e2 : ofErr n l n' l' = 2 := by unfold ofErr; rw [hb0]; rfl
        rw [e1, e2]
        exact sub_tup2 (.zd rfl (by omega) (.zd rfl (by omega) .nil))
      case m1 =>
        have e1 : ofRat n l n' l' = 0 := by unfold ofRat; rw [hb0, hb1]; rfl
        have e2 : ofErr n l n' l' = 2 := by unfold ofErr; rw [hb0, hb1]; rfl
        rw [e1, e2]
        exact sub_tup2 (.zd rfl (by omega) (.zd rfl (by omega) .nil))
      case m2 =>
        have e1 : ofRat n l n' l' = 0 := by unfold ofRat; rw [hb0, hb1, hb2]; exact Rat.divInt_zero _
        have e2 : ofErr n l n' l' = 9 := by unfold ofErr; rw [hb0, hb1]; exact if_pos hb2
        rw [e1, e2]
        exact sub_tup2 (.zd rfl (by omega) (.zd rfl (by omega) .nil))
      all_goals have e1 : ofRat n l n' l' = Rat.divInt (zV n l) (zV n' l') := (by unfold ofRat; rw [hb0, hb1]; rfl)
      all_goals have e2 : ofErr n l n' l' = 0 := (by unfold ofErr; rw [hb0, hb1]; exact if_neg hb2)
      case s7 => exact ⟨by omega, by have := gcd2_pos (y := z1) (x := z2) (by omega); omega⟩
      case s8 => exact ⟨by omega, by have := gcd2_pos (y := z1) (x := z2) (by omega); omega⟩
      case s10 => exact ⟨by omega, by have := gcd2_pos (y := zV n l) (x := zV n' l') hb2; omega⟩
      case s11 => exact ⟨by omega, by have := gcd2_pos (y := zV n l) (x := zV n' l') hb2; omega⟩
      all_goals rw [e1, e2]
      case m3 =>
        have hp : zV n' l' < 0 := by
          rcases Int.lt_trichotomy (zV n' l') 0 with h | h | h
          · exact h
          · exact absurd h hb2
          · rw [cmpI_gt h] at hb3; exact absurd hb3 (by decide)
        have hx0 : 0 < z2 := by omega
        refine sub_tup2 (.zd ?_ (by omega) (.zd ?_ (by omega) .nil))
        · rw [hz4, hz3, red_num hx0, hz1, hz2, divInt_negs]
        · rw [hz6, hz3, red_den hx0, hz1, hz2, divInt_negs]
      case m4 =>
        have hp : 0 < zV n' l' := by
          rcases Int.lt_trichotomy (zV n' l') 0 with h | h | h
          · rw [cmpI_lt h] at hb3; exact absurd (by decide) hb3
          · exact absurd h hb2
          · exact h
        refine sub_tup2 (.zd ?_ (by omega) (.zd ?_ (by omega) .nil))
        · rw [hz2, hz1, red_num hp]
        · rw [hz4, hz1, red_den hp]
    · cases hs
  · cases hs
theorem cFloorR : Contract Tryz.prog E 46 sFloorR := by
  refine contract_loopsG [(82, sTakeR), (89, sDivR)] Tryz.ntmps46 Tryz.func46 (by kernel_rfl) (by kernel_rfl) hU ⟨cTakeR hU, cDivZ hU, trivial⟩ ?_
  intro xs p r hs hp
  unfold sFloorR at hs
  split at hs
  · rename_i x
    split at hs
    · rename_i n l k j n' l' k' j' hx
      cases hs
      obtain ⟨hk, hk'⟩ := hp _ rfl
      refine ⟨[rawQ n l k n' l' k'], [], .cons (sub_rawQ hx) .nil, rfl, fun hgx hg => ?_⟩
      refine cast_rfl (p := (k ≤ 9000 ∧ k' ≤ 9000) ∧ ∀ (z1 : Rat), z1 = takeQ n l n' l' → (k + 3 + (k' + 3) ≤ 4000 ∧ zV (zNeg (↑z1.den : Int)) (digs 1000000000 (↑z1.den : Int).natAbs) ≠ (0 : Int)) ∧ ∀ (z2 : Int), z2 = (zV (zNeg z1.num) (digs 1000000000 z1.num.natAbs)).fdiv (zV (zNeg (↑z1.den : Int)) (digs 1000000000 (↑z1.den : Int).natAbs)) → ∀ (z3 : Int), z3 = (zV (zNeg z1.num) (digs 1000000000 z1.num.natAbs)).fmod (zV (zNeg (↑z1.den : Int)) (digs 1000000000 (↑z1.den : Int).natAbs)) → true = true ∧ Sub (PV.agg [PV.f (Lf.zn z2), PV.f (Lf.zd z2 (k + 3 + 1))]) (PV.agg [PV.f (Lf.zn (takeQ n l n' l').floor), PV.f (Lf.zd (takeQ n l n' l').floor (k + 4))])) (by kernel_rfl) ?_
      refine ⟨?s0, fun z1 => fun hz1 => ⟨?s1, fun z2 => fun hz2 => fun z3 => fun hz3 => ⟨rfl, ?m0⟩⟩⟩
      all_goals (try simp only [zV_digs] at *)
      case s0 => omega
      case s1 => exact ⟨by omega, den0 _⟩
      case m0 =>
        subst hz1 hz2
        refine Subl.agg (.zd ?_ (by omega) .nil)
        rw [Rat.floor_def, Int.fdiv_eq_ediv_of_nonneg _ (by omega)]
    · cases hs
  · cases hs
theorem cDivQR : Contract Tryz.prog E 35 sDivQR := by
  refine contract_loopsG [(82, sTakeR), (83, sMul2), (37, sOfNR)] Tryz.ntmps35 Tryz.func35 (by kernel_rfl) (by kernel_rfl) hU ⟨cTakeR hU, cMul2R hU, cOfNR hU, trivial⟩ ?_
  intro xs p r hs hp
  unfold sDivQR at hs
  split at hs
  · rename_i x y
    split at hs
    · rename_i n l k j n' l' k' j' m u i _ m' u' i' _ hx hy
      cases hs
      obtain ⟨hk, hk', hi, hi'⟩ := hp _ rfl
      refine ⟨[rawQ n l k n' l' k', rawQ m u i m' u' i'], [], .cons (sub_rawQ hx) (.cons (sub_rawQ hy) .nil), rfl, fun hgx hg => ?_⟩
      refine cast_rfl (p := (k ≤ 9000 ∧ k' ≤ 9000) ∧ ∀ (z1 : Rat), z1 = takeQ n l n' l' → (i ≤ 9000 ∧ i' ≤ 9000) ∧ ∀ (z2 : Rat), z2 = takeQ m u m' u' → k + 3 + (i' + 3) ≤ 9990 ∧ ∀ (z3 : Int), z3 = zV (zNeg z1.num) (digs 1000000000 z1.num.natAbs) * zV (zNeg (↑z2.den : Int)) (digs 1000000000 (↑z2.den : Int).natAbs) → k' + 3 + (i + 3) ≤ 9990 ∧ ∀ (z4 : Int), z4 = zV (zNeg (↑z1.den : Int)) (digs 1000000000 (↑z1.den : Int).natAbs) * zV (zNeg z2.num) (digs 1000000000 z2.num.natAbs) → (k + 3 + (i' + 3) + 1 ≤ 900 ∧ k' + 3 + (i + 3) + 1 ≤ 900) ∧ ∀ (z5 : Rat), z5 = ofRat (zNeg z3) (digs 1000000000 z3.natAbs) (zNeg z4) (digs 1000000000 z4.natAbs) → ∀ (z6 : Int), z6 = ofErr (zNeg z3) (digs 1000000000 z3.natAbs) (zNeg z4) (digs 1000000000 z4.natAbs) → true = true ∧ Sub (PV.tup [PV.agg [PV.f (Lf.zn z5.num), PV.f (Lf.zd z5.num (k + 3 + (i' + 3) + 1 + 6)), PV.f (Lf.zn (↑z5.den : Int)), PV.f (Lf.zd (↑z5.den : Int) (k' + 3 + (i + 3) + 1 + 6))], PV.f (Lf.v (Value.int IntKind.i64 z6))]) (PV.tup [PV.agg [PV.f (Lf.zn (takeQ n l n' l' / takeQ m u m' u').num), PV.f (Lf.zd (takeQ n l n' l' / takeQ m u m' u').num (k + i' + 30)), PV.f (Lf.zn (↑(takeQ n l n' l' / takeQ m u m' u').den : Int)), PV.f (Lf.zd (↑(takeQ n l n' l' / takeQ m u m' u').den : Int) (k' + i + 30))], PV.f (Lf.v (Value.int IntKind.i64 (if takeQ m u m' u' = (0 : Rat) then (9 : Int) else (0 : Int))))])) (by kernel_rfl) ?_
      refine ⟨?s0, fun z1 => fun hz1 => ⟨?s1, fun z2 => fun hz2 => ⟨?s2, fun z3 => fun hz3 => ⟨?s3, fun z4 => fun hz4 => ⟨?s4, fun z5 => fun hz5 => fun z6 => fun hz6 => ⟨rfl, ?m0⟩⟩⟩⟩⟩⟩
      all_goals first | omega | skip
      case m0 =>
        subst hz1 hz2
        rw [ofRat_canon] at hz5
        rw [ofErr_canon] at hz6
        simp only [zV_digs] at hz3 hz4
        subst hz3 hz4
        rw [← div_parts] at hz5
        have e : (((takeQ n l n' l').den : Int) * (takeQ m u m' u').num = 0) = (takeQ m u m' u' = 0) := by
          rw [Int.mul_eq_zero, num0]
          exact propext ⟨fun h => h.resolve_left (den0 _), .inr⟩
        simp only [e] at hz6
        rw [hz5, hz6]
        exact sub_tup2 (.zd rfl (by omega) (.zd rfl (by omega) .nil))
    · cases hs
  · cases hs
theorem cAddQR : Contract Tryz.prog E 92 sAddQR := by
  refine contract_loopsG [(75, sNought), (82, sTakeR), (83, sMul2), (14, sAddR), (37, sOfNR)] Tryz.ntmps92 Tryz.func92 (by kernel_rfl) (by kernel_rfl) hU ⟨cNoughtR hU, cTakeR hU, cMul2R hU, cAddZ hU, cOfNR hU, trivial⟩ ?_
  intro xs p r hs hp
  unfold sAddQR at hs
  split at hs
  · rename_i y
    split at hs
    · rename_i L hy
      cases hs
      obtain ⟨hk, hj, hL⟩ := hp _ rfl
      refine ⟨[.f (.qs L)], [(3, .s ⟨Nat, fun i => ⟨[(0, .f (.qs L)), (2, .bp 0 0), (3, .bp 1 0), (4, .f (.v (.int .i64 (i : Nat))))],
          [.cells [.f (.v (.bool false)), .f (.v (.slice none 0 0)), .f (.v (.bool false)), .f (.v (.slice none 0 0))], .cells (qL ((L.take i).foldl (fun a e => a + ofE e) 0) ((L.take i).foldl bPl (3, 3)).1 ((L.take i).foldl bPl (3, 3)).2)]⟩, fun i => i ≤ L.length, fun i => L.length - i⟩)], .cons (sub_qs hy) .nil, rfl, fun hgx hg => ?_⟩
      have key : ∀ i, i < L.length → (L.getD i ((false, [], 0), (false, [], 0))).1.2.2 + 3 ≤ 200 ∧ (L.getD i ((false, [], 0), (false, [], 0))).2.2.2 + 3 ≤ 200 ∧ ((L.take i).foldl bPl (3, 3)).1 ≤ 200 ∧ ((L.take i).foldl bPl (3, 3)).2 ≤ 200 ∧
          (L.take (i + 1)).foldl bPl (3, 3) = bPl ((L.take i).foldl bPl (3, 3)) (L.getD i ((false, [], 0), (false, [], 0))) := by
        intro i hi
        have h3 := foldl_take bPl (3, 3) L ((false, [], 0), (false, [], 0)) hi
        have h4 := bPl_mono (L.take (i + 1)) (L.drop (i + 1)) (3, 3)
        rw [List.take_append_drop, h3] at h4
        generalize (L.take i).foldl bPl (3, 3) = B at *
        generalize L.foldl bPl (3, 3) = F at *
        generalize L.getD i ((false, [], 0), (false, [], 0)) = e at *
        unfold bPl at h4
        dsimp only at h4
        exact ⟨by omega, by omega, by omega, by omega, h3⟩
      refine cast_rfl (p := ∃ (x1 : Nat), (((SubB (PV.f (Lf.v (Value.bool false))) (PV.f (Lf.v (Value.bool false))) ∧ SubB (PV.f (Lf.v (Value.slice none 0 0))) (PV.f (Lf.v (Value.slice none 0 0))) ∧ SubB (PV.f (Lf.v (Value.bool false))) (PV.f (Lf.v (Value.bool false))) ∧ SubB (PV.f (Lf.v (Value.slice none 0 0))) (PV.f (Lf.v (Value.slice none 0 0))) ∧ True) ∧ (SubB (PV.f (Lf.zn (0 : Int))) (PV.f (Lf.zn (List.foldl (fun (a : Rat) (e : QE) => a + ofE e) (0 : Rat) (List.take x1 L)).num)) ∧ SubB (PV.f (Lf.zd (0 : Int) 3)) (PV.f (Lf.zd (List.foldl (fun (a : Rat) (e : QE) => a + ofE e) (0 : Rat) (List.take x1 L)).num (List.foldl bPl (3, 3) (List.take x1 L)).fst)) ∧ SubB (PV.f (Lf.zn (1 : Int))) (PV.f (Lf.zn (↑(List.foldl (fun (a : Rat) (e : QE) => a + ofE e) (0 : Rat) (List.take x1 L)).den : Int))) ∧ SubB (PV.f (Lf.zd (1 : Int) 3)) (PV.f (Lf.zd (↑(List.foldl (fun (a : Rat) (e : QE) => a + ofE e) (0 : Rat) (List.take x1 L)).den : Int) (List.foldl bPl (3, 3) (List.take x1 L)).snd)) ∧ True) ∧ True) ∧ SubB (PV.f (Lf.qs L)) (PV.f (Lf.qs L)) ∧ SubB (PV.bp 0 0) (PV.bp 0 0) ∧ SubB (PV.bp 1 0) (PV.bp 1 0) ∧ SubB (PV.f (Lf.v (Value.int IntKind.i64 (0 : Int)))) (PV.f (Lf.v (Value.int IntKind.i64 (↑x1 : Int)))) ∧ True) ∧ x1 ≤ L.length ∧ True ∧ ∀ (z2 : Nat), z2 ≤ L.length → True → ifB (decide ((↑z2 : Int) < (↑L.length : Int))) (((0 : Int) ≤ (↑z2 : Int) ∧ (↑z2 : Int) < (↑L.length : Int)) ∧ ((L.getD (↑z2 : Int).toNat ((false, [], 0), false, [], 0)).fst.snd.snd ≤ 9000 ∧ (L.getD (↑z2 : Int).toNat ((false, [], 0), false, [], 0)).snd.snd.snd ≤ 9000) ∧ ∀ (z3 : Rat), z3 = takeQ (L.getD (↑z2 : Int).toNat ((false, [], 0), false, [], 0)).fst.fst (L.getD (↑z2 : Int).toNat ((false, [], 0), false, [], 0)).fst.snd.fst (L.getD (↑z2 : Int).toNat ((false, [], 0), false, [], 0)).snd.fst (L.getD (↑z2 : Int).toNat ((false, [], 0), false, [], 0)).snd.snd.fst → (List.foldl bPl (3, 3) (List.take z2 L)).fst + ((L.getD (↑z2 : Int).toNat ((false, [], 0), false, [], 0)).snd.snd.snd + 3) ≤ 9990 ∧ ∀ (z4 : Int), z4 = zV (zNeg (List.foldl (fun (a : Rat) (e : QE) => a + ofE e) (0 : Rat) (List.take z2 L)).num) (digs 1000000000 (List.foldl (fun (a : Rat) (e : QE) => a + ofE e) (0 : Rat) (List.take z2 L)).num.natAbs) * zV (zNeg (↑z3.den : Int)) (digs 1000000000 (↑z3.den : Int).natAbs) → (L.getD (↑z2 : Int).toNat ((false, [], 0), false, [], 0)).fst.snd.snd + 3 + (List.foldl bPl (3, 3) (List.take z2 L)).snd ≤ 9990 ∧ ∀ (z5 : Int), z5 = zV (zNeg z3.num) (digs 1000000000 z3.num.natAbs) * zV (zNeg (↑(List.foldl (fun (a : Rat) (e : QE) => a + ofE e) (0 : Rat) (List.take z2 L)).den : Int)) (digs 1000000000 (↑(List.foldl (fun (a : Rat) (e : QE) => a + ofE e) (0 : Rat) (List.take z2 L)).den : Int).natAbs) → (List.foldl bPl (3, 3) (List.take z2 L)).fst + ((L.getD (↑z2 : Int).toNat ((false, [], 0), false, [], 0)).snd.snd.snd + 3) + 1 + 2 + ((L.getD (↑z2 : Int).toNat ((false, [], 0), false, [], 0)).fst.snd.snd + 3 + (List.foldl bPl (3, 3) (List.take z2 L)).snd + 1 + 2 + 0) ≤ 20000 ∧ ∀ (z6 : Int), z6 = (0 : Int) + zV (zNeg z4) (digs 1000000000 z4.natAbs) + zV (zNeg z5) (digs 1000000000 z5.natAbs) → (List.foldl bPl (3, 3) (List.take z2 L)).snd + ((L.getD (↑z2 : Int).toNat ((false, [], 0), false, [], 0)).snd.snd.snd + 3) ≤ 9990 ∧ ∀ (z7 : Int), z7 = zV (zNeg (↑(List.foldl (fun (a : Rat) (e : QE) => a + ofE e) (0 : Rat) (List.take z2 L)).den : Int)) (digs 1000000000 (↑(List.foldl (fun (a : Rat) (e : QE) => a + ofE e) (0 : Rat) (List.take z2 L)).den : Int).natAbs) * zV (zNeg (↑z3.den : Int)) (digs 1000000000 (↑z3.den : Int).natAbs) → (0 + ((List.foldl bPl (3, 3) (List.take z2 L)).fst + ((L.getD (↑z2 : Int).toNat ((false, [], 0), false, [], 0)).snd.snd.snd + 3) + 1) + 1 + ((L.getD (↑z2 : Int).toNat ((false, [], 0), false, [], 0)).fst.snd.snd + 3 + (List.foldl bPl (3, 3) (List.take z2 L)).snd + 1) + 1 ≤ 900 ∧ (List.foldl bPl (3, 3) (List.take z2 L)).snd + ((L.getD (↑z2 : Int).toNat ((false, [], 0), false, [], 0)).snd.snd.snd + 3) + 1 ≤ 900) ∧ ∀ (z8 : Rat), z8 = ofRat (zNeg z6) (digs 1000000000 z6.natAbs) (zNeg z7) (digs 1000000000 z7.natAbs) → ∀ (z9 : Int), z9 = ofErr (zNeg z6) (digs 1000000000 z6.natAbs) (zNeg z7) (digs 1000000000 z7.natAbs) → ∃ (x10 : Nat), (((SubB (PV.f (Lf.v (Value.bool false))) (PV.f (Lf.v (Value.bool false))) ∧ SubB (PV.f (Lf.v (Value.slice none 0 0))) (PV.f (Lf.v (Value.slice none 0 0))) ∧ SubB (PV.f (Lf.v (Value.bool false))) (PV.f (Lf.v (Value.bool false))) ∧ SubB (PV.f (Lf.v (Value.slice none 0 0))) (PV.f (Lf.v (Value.slice none 0 0))) ∧ True) ∧ (SubB (PV.f (Lf.zn z8.num)) (PV.f (Lf.zn (List.foldl (fun (a : Rat) (e : QE) => a + ofE e) (0 : Rat) (List.take x10 L)).num)) ∧ SubB (PV.f (Lf.zd z8.num (0 + ((List.foldl bPl (3, 3) (List.take z2 L)).fst + ((L.getD (↑z2 : Int).toNat ((false, [], 0), false, [], (0 : Nat))).snd.snd.snd + 3) + 1) + 1 + ((L.getD (↑z2 : Int).toNat ((false, [], 0), false, [], (0 : Nat))).fst.snd.snd + 3 + (List.foldl bPl (3, 3) (List.take z2 L)).snd + 1) + 1 + 6))) (PV.f (Lf.zd (List.foldl (fun (a : Rat) (e : QE) => a + ofE e) (0 : Rat) (List.take x10 L)).num (List.foldl bPl (3, 3) (List.take x10 L)).fst)) ∧ SubB (PV.f (Lf.zn (↑z8.den : Int))) (PV.f (Lf.zn (↑(List.foldl (fun (a : Rat) (e : QE) => a + ofE e) (0 : Rat) (List.take x10 L)).den : Int))) ∧ SubB (PV.f (Lf.zd (↑z8.den : Int) ((List.foldl bPl (3, 3) (List.take z2 L)).snd + ((L.getD (↑z2 : Int).toNat ((false, [], 0), false, [], (0 : Nat))).snd.snd.snd + 3) + 1 + 6))) (PV.f (Lf.zd (↑(List.foldl (fun (a : Rat) (e : QE) => a + ofE e) (0 : Rat) (List.take x10 L)).den : Int) (List.foldl bPl (3, 3) (List.take x10 L)).snd)) ∧ True) ∧ True) ∧ SubB (PV.f (Lf.qs L)) (PV.f (Lf.qs L)) ∧ SubB (PV.bp 0 0) (PV.bp 0 0) ∧ SubB (PV.bp 1 0) (PV.bp 1 0) ∧ SubB (PV.f (Lf.v (Value.int IntKind.i64 (IntKind.i64.wrap ((↑z2 : Int) + (1 : Int)))))) (PV.f (Lf.v (Value.int IntKind.i64 (↑x10 : Int)))) ∧ True) ∧ x10 ≤ L.length ∧ True ∧ (L.length - x10).succ.le (L.length - z2)) (true = true ∧ Sub (PV.agg [PV.f (Lf.zn (List.foldl (fun (a : Rat) (e : QE) => a + ofE e) (0 : Rat) (List.take z2 L)).num), PV.f (Lf.zd (List.foldl (fun (a : Rat) (e : QE) => a + ofE e) (0 : Rat) (List.take z2 L)).num (List.foldl bPl (3, 3) (List.take z2 L)).fst), PV.f (Lf.zn (↑(List.foldl (fun (a : Rat) (e : QE) => a + ofE e) (0 : Rat) (List.take z2 L)).den : Int)), PV.f (Lf.zd (↑(List.foldl (fun (a : Rat) (e : QE) => a + ofE e) (0 : Rat) (List.take z2 L)).den : Int) (List.foldl bPl (3, 3) (List.take z2 L)).snd)]) (PV.agg [PV.f (Lf.zn (List.foldl (fun (a : Rat) (e : QE) => a + ofE e) (0 : Rat) L).num), PV.f (Lf.zd (List.foldl (fun (a : Rat) (e : QE) => a + ofE e) (0 : Rat) L).num (List.foldl bPl (3, 3) L).fst), PV.f (Lf.zn (↑(List.foldl (fun (a : Rat) (e : QE) => a + ofE e) (0 : Rat) L).den : Int)), PV.f (Lf.zd (↑(List.foldl (fun (a : Rat) (e : QE) => a + ofE e) (0 : Rat) L).den : Int) (List.foldl bPl (3, 3) L).snd)]))) (by kernel_rfl) ?_
      refine ⟨?x0, ⟨⟨⟨⟨.refl _, ⟨.refl _, ⟨.refl _, ⟨.refl _, trivial⟩⟩⟩⟩, ⟨⟨?m0, ⟨?m1, ⟨?m2, ⟨?m3, trivial⟩⟩⟩⟩, trivial⟩⟩, ⟨.refl _, ⟨.refl _, ⟨.refl _, ⟨?m4, trivial⟩⟩⟩⟩⟩, ⟨?s0, ⟨trivial, fun z2 => fun hq0 => fun _ => ifB_iff.2 ⟨fun hb1 => ⟨?s1, ⟨?s2, fun z3 => fun hz3 => ⟨?s3, fun z4 => fun hz4 => ⟨?s4, fun z5 => fun hz5 => ⟨?s5, fun z6 => fun hz6 => ⟨?s6, fun z7 => fun hz7 => ⟨?s7, fun z8 => fun hz8 => fun z9 => fun hz9 => ⟨?x1, ⟨⟨⟨⟨.refl _, ⟨.refl _, ⟨.refl _, ⟨.refl _, trivial⟩⟩⟩⟩, ⟨⟨?m5, ⟨?m6, ⟨?m7, ⟨?m8, trivial⟩⟩⟩⟩, trivial⟩⟩, ⟨.refl _, ⟨.refl _, ⟨.refl _, ⟨?m9, trivial⟩⟩⟩⟩⟩, ⟨?s8, ⟨trivial, ?m10⟩⟩⟩⟩⟩⟩⟩⟩⟩⟩⟩, fun hb1 => ⟨rfl, ?m11⟩⟩⟩⟩⟩⟩
      case x0 => exact 0
      case x1 => exact z2 + 1
      all_goals (try simp only [Int.toNat_natCast] at *)
      case m0 => exact subB_zn rfl
      case m1 => exact subB_zd rfl (Nat.le_refl _)
      case m2 => exact subB_zn rfl
      case m3 => exact subB_zd rfl (Nat.le_refl _)
      case m4 => exact subB_int rfl
      case s0 => omega
      case m11 =>
        have h1 := of_decide_eq_false hb1
        obtain rfl : z2 = L.length := by omega
        rw [List.take_length]
        exact .refl _
      all_goals have h1 := of_decide_eq_true hb1
      all_goals have hz : z2 < L.length := (by omega)
      all_goals obtain ⟨g1, g2, g3, g4, g5⟩ := key z2 hz
      all_goals have g6 := foldl_take (fun a e => a + ofE e) (0 : Rat) L ((false, [], 0), (false, [], 0)) hz
      all_goals generalize hq : (L.take z2).foldl (fun a e => a + ofE e) (0 : Rat) = q at *
      all_goals generalize (L.take z2).foldl bPl (3, 3) = B at *
      all_goals generalize hw : L.getD z2 ((false, [], 0), (false, [], 0)) = e at *
      all_goals (try simp only [zV_digs] at *)
      all_goals first | omega | exact ⟨by omega, by omega⟩ | skip
      case m9 => exact subB_succ (by omega)
      case m10 => show L.length - (z2 + 1) + 1 ≤ L.length - z2; omega
      all_goals have h8 : z8 = q + ofE e := (by
        have e3 : z3 = ofE e := hz3
        rw [hz8, ofRat_canon, hz6, hz7, hz4, hz5, Int.zero_add, ← Rat.divInt_add_divInt _ _ (den0 q) (den0 z3), Rat.num_divInt_den, Rat.num_divInt_den, e3])
      all_goals rw [g6, h8]
      case m5 => exact .refl _
      case m6 => rw [g5]; exact subB_zd rfl (by unfold bPl; dsimp only; omega)
      case m7 => exact .refl _
      case m8 => rw [g5]; exact subB_zd rfl (by unfold bPl; dsimp only; omega)
    · cases hs
  · cases hs
theorem cSubQR : Contract Tryz.prog E 42 sSubQR := by
  refine contract_loopsG [(41, sNegQ), (92, sAddQR)] Tryz.ntmps42 Tryz.func42 (by kernel_rfl) (by kernel_rfl) hU ⟨cNegR hU, cAddQR hU, trivial⟩ ?_
  intro xs p r hs hp
  unfold sSubQR at hs
  split at hs
  · rename_i x y
    split at hs
    · rename_i n l k j n' l' k' j' m u i _ m' u' i' _ hx hy
      cases hs
      obtain ⟨hk, hk', hi, hi'⟩ := hp _ rfl
      refine ⟨[rawQ n l k n' l' k', rawQ m u i m' u' i'], [], .cons (sub_rawQ hx) (.cons (sub_rawQ hy) .nil), rfl, fun hgx hg => ?_⟩
      refine cast_rfl (p := (i ≤ 1900 ∧ i' ≤ 1900) ∧ ∀ (z1 : Rat), z1 = -takeQ m u m' u' → ((List.foldl bPl (3, 3) [((n, l, k), n', l', k'), ((zNeg z1.num, digs 1000000000 z1.num.natAbs, i + 3), zNeg (↑z1.den : Int), digs 1000000000 (↑z1.den : Int).natAbs, i' + 3)]).fst ≤ 200 ∧ (List.foldl bPl (3, 3) [((n, l, k), n', l', k'), ((zNeg z1.num, digs 1000000000 z1.num.natAbs, i + 3), zNeg (↑z1.den : Int), digs 1000000000 (↑z1.den : Int).natAbs, i' + 3)]).snd ≤ 200 ∧ 2 ≤ 1000000) ∧ ∀ (z2 : Rat), z2 = List.foldl (fun (a : Rat) (e : QE) => a + ofE e) (0 : Rat) [((n, l, k), n', l', k'), ((zNeg z1.num, digs 1000000000 z1.num.natAbs, i + 3), zNeg (↑z1.den : Int), digs 1000000000 (↑z1.den : Int).natAbs, i' + 3)] → true = true ∧ Sub (PV.agg [PV.f (Lf.zn z2.num), PV.f (Lf.zd z2.num (List.foldl bPl (3, 3) [((n, l, k), n', l', k'), ((zNeg z1.num, digs 1000000000 z1.num.natAbs, i + 3), zNeg (↑z1.den : Int), digs 1000000000 (↑z1.den : Int).natAbs, i' + 3)]).fst), PV.f (Lf.zn (↑z2.den : Int)), PV.f (Lf.zd (↑z2.den : Int) (List.foldl bPl (3, 3) [((n, l, k), n', l', k'), ((zNeg z1.num, digs 1000000000 z1.num.natAbs, i + 3), zNeg (↑z1.den : Int), digs 1000000000 (↑z1.den : Int).natAbs, i' + 3)]).snd)]) (PV.agg [PV.f (Lf.zn (takeQ n l n' l' - takeQ m u m' u').num), PV.f (Lf.zd (takeQ n l n' l' - takeQ m u m' u').num (k + 2 * k' + i + 2 * i' + 150)), PV.f (Lf.zn (↑(takeQ n l n' l' - takeQ m u m' u').den : Int)), PV.f (Lf.zd (↑(takeQ n l n' l' - takeQ m u m' u').den : Int) (k' + i' + 100))])) (by kernel_rfl) ?_
      refine ⟨?s0, fun z1 => fun hz1 => ⟨?s1, fun z2 => fun hz2 => ⟨rfl, ?m0⟩⟩⟩
      case s0 => omega
      case s1 => simp only [List.foldl_cons, List.foldl_nil, bPl]; omega
      case m0 =>
        subst hz1 hz2
        have e : List.foldl (fun a e => a + ofE e) (0 : Rat) [((n, l, k), n', l', k'), ((zNeg (-takeQ m u m' u').num, digs 1000000000 (-takeQ m u m' u').num.natAbs, i + 3), zNeg ((-takeQ m u m' u').den : Int), digs 1000000000 ((-takeQ m u m' u').den : Int).natAbs, i' + 3)] = takeQ n l n' l' - takeQ m u m' u' := by
          simp only [List.foldl_cons, List.foldl_nil, ofE]
          rw [takeQ_canon, Rat.zero_add, Rat.sub_eq_add_neg]
        rw [e]
        simp only [List.foldl_cons, List.foldl_nil, bPl]
        exact Subl.agg (.zd rfl (by omega) (.zd rfl (by omega) .nil))
    · cases hs
  · cases hs
end

end Go.Proofs.YtjfncepmpabcnaaGreatDoor
