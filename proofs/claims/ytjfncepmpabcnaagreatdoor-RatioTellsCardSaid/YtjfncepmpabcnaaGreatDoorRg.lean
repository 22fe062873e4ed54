/- The reference of chapter 3 by the pure run. -/
import Derived.Test.YtjfncepmpabcnaaGreatDoorRf
namespace Go.Proofs.YtjfncepmpabcnaaGreatDoor
open Go.RowKit
set_option linter.unusedVariables false
set_option maxRecDepth 100000

theorem lr_zd {z : Int} {k j : Nat} {v : Value} {H : Hp} (hv : PR H B0 v (.f (.lr (digs 1000000000 z.natAbs) k))) (hj : k ≤ j) : PR H B0 v (.f (.zd z j)) := by
  have hr := hv.rd
  have hg : (digs 1000000000 z.natAbs).length ≤ k ∧ ∀ x ∈ digs 1000000000 z.natAbs, x < 4294967296 := rd_good hr (by simp [Lf.view])
  have hz : ZB z j := by
    have := zb_of_len (neg := zNeg z) hg.1
    rw [zOf_self] at this
    exact this.mono hj
  cases hr with
  | sl hvw _ hc hm h0 b o val hb hcell hk hrec => exact .f (.sl (f := .zd z j) hvw hz hc hm h0 b o val hb hcell hk hrec)
/-- A right ratio as it came. -/
theorem raw_take {n n' : Bool} {l l' : List Nat} {k k' : Nat} (h : rightQ n l n' l' = true) : Sub (rawQ n l k n' l' k') (qP (takeQ n l n' l') (k + 3) (k' + 3)) := by
  have h1 := takeQ_yes h
  have h2 : rightZ n l = true := by unfold rightQ at h; rw [Bool.and_eq_true] at h; exact h.1
  have h3 : rightZ n' l' = true := by unfold rightQ at h; rw [Bool.and_eq_true, Bool.and_eq_true] at h; exact h.2.1
  obtain ⟨e1, e2⟩ := rightZ_digs h2
  obtain ⟨e3, e4⟩ := rightZ_digs h3
  revert h1
  generalize takeQ n l n' l' = q
  intro h1
  generalize ha : zV n l = a at *
  generalize hb : zV n' l' = b at *
  obtain ⟨h1, h4⟩ := h1
  subst h1 h4 e1 e2 e3 e4
  refine ⟨fun H v hv => ?_⟩
  obtain ⟨vs, rfl, h5⟩ := PRs.of_agg hv
  match vs, h5.1 with
  | [p, q, r, s], _ =>
    have a0 := (h5.2 0 _ _ rfl rfl).val
    have a2 := (h5.2 2 _ _ rfl rfl).val
    subst a0 a2
    have a1 := lr_zd (h5.2 1 _ _ rfl rfl) (j := k + 3) (by omega)
    have a3 := lr_zd (h5.2 3 _ _ rfl rfl) (j := k' + 3) (by omega)
    exact (PRs.cons (.f (.zn _)) (.cons a1 (.cons (.f (.zn _)) (.cons a3 .nil)))).agg
/-- A right whole number as it came. -/
theorem raw_whole {n : Bool} {l : List Nat} {k : Nat} (h : rightZ n l = true) : Sub (.agg [.f (.v (.bool n)), .f (.lr l k), .f (.zn 1), .f (.zd 1 3)]) (qP ((zV n l : Int) : Rat) (k + 3) 6) := by
  obtain ⟨e1, e2⟩ := rightZ_digs h
  generalize ha : zV n l = a at *
  subst e1 e2
  refine ⟨fun H v hv => ?_⟩
  obtain ⟨vs, rfl, h5⟩ := PRs.of_agg hv
  match vs, h5.1 with
  | [p, q, r, s], _ =>
    have a0 := (h5.2 0 _ _ rfl rfl).val
    subst a0
    have a1 := lr_zd (h5.2 1 _ _ rfl rfl) (j := k + 3) (by omega)
    have a3 := (sub_zd (k := 3) (k' := 6) (ZB.one.mono (by omega))).out _ _ (h5.2 3 _ _ rfl rfl)
    exact (PRs.cons (.f (.zn _)) (.cons a1 (.cons (h5.2 2 _ _ rfl rfl) (.cons a3 .nil)))).agg
theorem cmpI_pos {a : Int} (h : decide (cmpI a 0 > 0) = true) : 0 < a := by
  rcases Int.lt_trichotomy a 0 with h1 | h1 | h1
  · rw [cmpI_lt h1] at h; exact absurd h (by decide)
  · rw [cmpI_eq h1] at h; exact absurd h (by decide)
  · exact h1
theorem cmpI_npos {a : Int} (h : decide (cmpI a 0 > 0) = false) : ¬ 0 < a := fun h1 => by
  rw [cmpI_gt h1] at h; exact absurd h (by decide)
def sNought : Spec
  | [] => some (none, .one (.agg [.f (.zn 0), .f (.zd 0 3), .f (.zn 1), .f (.zd 1 3)]))
  | _ => none
def sZero : Spec
  | [] => some (none, .one (zP 0 3))
  | _ => none
def sMul2 : Spec
  | [x, y] => match pvR x, pvR y with
    | some ((n, l), k, j), some ((n', l'), k', j') => some (some (k + k' ≤ 9990), .nm Int (zV n l * zV n' l') fun z => zP z (j + j' + 1))
    | _, _ => none
  | _ => none
def sRightR : Spec
  | [x] => match pvQ x with
    | some (((n, l), k, _), ((n', l'), k', _)) => some (some (k ≤ 9000 ∧ k' ≤ 9000), .one (.f (.v (.bool (rightQ n l n' l')))))
    | none => none
  | _ => none
def sTakeR : Spec
  | [x] => match pvQ x with
    | some (((n, l), k, _), ((n', l'), k', _)) => some (some (k ≤ 9000 ∧ k' ≤ 9000), .nm Rat (takeQ n l n' l') fun r => qP r (k + 3) (k' + 3))
    | none => none
  | _ => none
section
variable {E : World → Hp → Prop} (hU : Up E)
include hU
theorem cOneR : Contract Tryz.prog E 90 sOne := by
  refine contract_loopsG [(56, sOf)] Tryz.ntmps90 Tryz.func90 (by kernel_rfl) (by kernel_rfl) hU ⟨cOfR, trivial⟩ ?_
  intro xs p r hs hp
  unfold sOne at hs
  split at hs
  · cases hs
    refine ⟨[], [], .nil, rfl, fun hgx hg => ?_⟩
    refine cast_rfl (p := ((-9223372036854775808 : Int) ≤ (1 : Int) ∧ (1 : Int) ≤ (9223372036854775807 : Int)) ∧ ∀ (z1 : Int), z1 = (1 : Int) → true = true ∧ Sub (PV.agg [PV.f (Lf.zn z1), PV.f (Lf.zd z1 3)]) (PV.agg [PV.f (Lf.zn (1 : Int)), PV.f (Lf.zd (1 : Int) 3)])) (by kernel_rfl) ?_
    refine ⟨?s0, fun z1 => fun hz1 => ⟨rfl, ?m0⟩⟩
    case s0 => decide
    case m0 => subst hz1; exact .refl _
  · cases hs
theorem cZeroR : Contract Tryz.prog E 87 sZero := by
  refine contract_loopsG [(56, sOf)] Tryz.ntmps87 Tryz.func87 (by kernel_rfl) (by kernel_rfl) hU ⟨cOfR, trivial⟩ ?_
  intro xs p r hs hp
  unfold sZero at hs
  split at hs
  · cases hs
    refine ⟨[], [], .nil, rfl, fun hgx hg => ?_⟩
    refine cast_rfl (p := ((-9223372036854775808 : Int) ≤ (0 : Int) ∧ (0 : Int) ≤ (9223372036854775807 : Int)) ∧ ∀ (z1 : Int), z1 = (0 : Int) → true = true ∧ Sub (PV.agg [PV.f (Lf.zn z1), PV.f (Lf.zd z1 3)]) (PV.agg [PV.f (Lf.zn (0 : Int)), PV.f (Lf.zd (0 : Int) 3)])) (by kernel_rfl) ?_
    refine ⟨?s0, fun z1 => fun hz1 => ⟨rfl, ?m0⟩⟩
    case s0 => decide
    case m0 => subst hz1; exact .refl _
  · cases hs
theorem cNoughtR : Contract Tryz.prog E 75 sNought := by
  refine contract_loopsG [(90, sOne), (87, sZero)] Tryz.ntmps75 Tryz.func75 (by kernel_rfl) (by kernel_rfl) hU ⟨cOneR hU, cZeroR hU, trivial⟩ ?_
  intro xs p r hs hp
  unfold sNought at hs
  split at hs
  · cases hs
    refine ⟨[], [], .nil, rfl, fun hgx hg => ?_⟩
    refine cast_rfl (p := true = true ∧ Sub (PV.agg [PV.f (Lf.zn (0 : Int)), PV.f (Lf.zd (0 : Int) 3), PV.f (Lf.zn (1 : Int)), PV.f (Lf.zd (1 : Int) 3)]) (PV.agg [PV.f (Lf.zn (0 : Int)), PV.f (Lf.zd (0 : Int) 3), PV.f (Lf.zn (1 : Int)), PV.f (Lf.zd (1 : Int) 3)])) (by kernel_rfl) ?_
    refine ⟨rfl, ?m0⟩
    case m0 => exact .refl _
  · cases hs
theorem cMul2R : Contract Tryz.prog E 83 sMul2 := by
  refine contract_loopsG [(16, sMulR)] Tryz.ntmps83 Tryz.func83 (by kernel_rfl) (by kernel_rfl) hU ⟨cMulZ hU, trivial⟩ ?_
  intro xs p r hs hp
  unfold sMul2 at hs
  split at hs
  · rename_i x y
    split at hs
    · rename_i n l k j n' l' k' j' hx hy
      cases hs
      have hk := hp _ rfl
      refine ⟨[rawP n l k, rawP n' l' k'], [], .cons (sub_raw hx) (.cons (sub_raw hy) .nil), rfl, fun hgx hg => ?_⟩
      obtain ⟨a1, a2, a3⟩ := pvR_good hx hgx.1
      obtain ⟨b1, b2, b3⟩ := pvR_good hy hgx.2.1
      refine cast_rfl (p := k + 2 + (k' + 2 + 0) ≤ 10000 ∧ ∀ (z1 : Int), z1 = (1 : Int) * zV n l * zV n' l' → true = true ∧ Sub (PV.agg [PV.f (Lf.zn z1), PV.f (Lf.zd z1 (1 + (k + 1) + (k' + 1)))]) (PV.agg [PV.f (Lf.zn (zV n l * zV n' l')), PV.f (Lf.zd (zV n l * zV n' l') (j + j' + 1))])) (by kernel_rfl) ?_
      refine ⟨?s0, fun z1 => fun hz1 => ⟨rfl, ?m0⟩⟩
      case s0 => omega
      case m0 =>
        have : z1 = zV n l * zV n' l' := by rw [hz1, Int.one_mul]
        subst this
        exact sub_zP ((a3.mul b3).mono (by omega))
    · cases hs
  · cases hs
theorem cRightR : Contract Tryz.prog E 39 sRightR := by
  refine contract_loopsG [(85, sRight), (87, sZero), (18, sGcdR), (90, sOne), (86, sCmp)] Tryz.ntmps39 Tryz.func39 (by kernel_rfl) (by kernel_rfl) hU ⟨cRightZ hU, cZeroR hU, cGcdZ hU, cOneR hU, cCmpZ hU, trivial⟩ ?_
  intro xs p r hs hp
  unfold sRightR at hs
  split at hs
  · rename_i x
    split at hs
    · rename_i n l k j n' l' k' j' hx
      cases hs
      obtain ⟨hk, hk'⟩ := hp _ rfl
      refine ⟨[rawQ n l k n' l' k'], [], .cons (sub_rawQ hx) .nil, rfl, fun hgx hg => ?_⟩
      refine cast_rfl (p := k ≤ 1000000 ∧ ifB (rightZ n l) (k' ≤ 1000000 ∧ ifB (rightZ n' l') (k' + 3 ≤ 90000 ∧ ifB (decide (cmpI (zV n' l') (zV (zNeg (0 : Int)) (digs 1000000000 (Int.natAbs (0 : Int)))) > (0 : Int))) (k + 2 + (k' + 2 + 0) ≤ 20000 ∧ ∀ (z1 : Int), z1 = gcd2 (gcd2 (0 : Int) (zV n l)) (zV n' l') → 0 + (k + 1) + 1 + (k' + 1) + 1 + 3 ≤ 90000 ∧ true = true ∧ Sub (PV.f (Lf.v (Value.bool (cmpI (zV (zNeg z1) (digs 1000000000 z1.natAbs)) (zV (zNeg (1 : Int)) (digs 1000000000 (Int.natAbs (1 : Int)))) == (0 : Int))))) (PV.f (Lf.v (Value.bool (rightQ n l n' l'))))) (true = true ∧ Sub (PV.f (Lf.v (Value.bool false))) (PV.f (Lf.v (Value.bool (rightQ n l n' l')))))) (true = true ∧ Sub (PV.f (Lf.v (Value.bool false))) (PV.f (Lf.v (Value.bool (rightQ n l n' l')))))) (true = true ∧ Sub (PV.f (Lf.v (Value.bool false))) (PV.f (Lf.v (Value.bool (rightQ n l n' l')))))) (by kernel_rfl) ?_
      refine ⟨?s0, ifB_iff.2 ⟨fun hb0 => ⟨?s1, ifB_iff.2 ⟨fun hb1 => ⟨?s2, ifB_iff.2 ⟨fun hb2 => ⟨?s3, fun z1 => fun hz1 => ⟨?s4, ⟨rfl, ?m0⟩⟩⟩, fun hb2 => ⟨rfl, ?m1⟩⟩⟩, fun hb1 => ⟨rfl, ?m2⟩⟩⟩, fun hb0 => ⟨rfl, ?m3⟩⟩⟩
      all_goals (try simp only [zV_digs, gcd2_two] at *)
      all_goals first | omega | skip
      all_goals refine sub_bool ?_
      all_goals unfold rightQ
      case m0 => rw [cmpI_eq0, hb0, hb1, ← hz1, decide_eq_true (cmpI_pos hb2)]; rfl
      case m1 => rw [hb0, hb1, decide_eq_false (fun h => cmpI_npos hb2 h)]; rfl
      case m2 => rw [hb0, hb1]; rfl
      case m3 => rw [hb0]; rfl
    · cases hs
  · cases hs
theorem cTakeR : Contract Tryz.prog E 82 sTakeR := by
  refine contract_loopsG [(39, sRightR), (75, sNought)] Tryz.ntmps82 Tryz.func82 (by kernel_rfl) (by kernel_rfl) hU ⟨cRightR hU, cNoughtR hU, trivial⟩ ?_
  intro xs p r hs hp
  unfold sTakeR at hs
  split at hs
  · rename_i x
    split at hs
    · rename_i n l k j n' l' k' j' hx
      cases hs
      obtain ⟨hk, hk'⟩ := hp _ rfl
      refine ⟨[rawQ n l k n' l' k'], [], .cons (sub_rawQ hx) .nil, rfl, fun hgx hg => ?_⟩
      refine cast_rfl (p := (k ≤ 9000 ∧ k' ≤ 9000) ∧ ifB (rightQ n l n' l') (true = true ∧ Sub (PV.agg [PV.f (Lf.v (Value.bool n)), PV.f (Lf.lr l k), PV.f (Lf.v (Value.bool n')), PV.f (Lf.lr l' k')]) (PV.agg [PV.f (Lf.zn (takeQ n l n' l').num), PV.f (Lf.zd (takeQ n l n' l').num (k + 3)), PV.f (Lf.zn (↑(takeQ n l n' l').den : Int)), PV.f (Lf.zd (↑(takeQ n l n' l').den : Int) (k' + 3))])) (true = true ∧ Sub (PV.agg [PV.f (Lf.zn (0 : Int)), PV.f (Lf.zd (0 : Int) 3), PV.f (Lf.zn (1 : Int)), PV.f (Lf.zd (1 : Int) 3)]) (PV.agg [PV.f (Lf.zn (takeQ n l n' l').num), PV.f (Lf.zd (takeQ n l n' l').num (k + 3)), PV.f (Lf.zn (↑(takeQ n l n' l').den : Int)), PV.f (Lf.zd (↑(takeQ n l n' l').den : Int) (k' + 3))]))) (by kernel_rfl) ?_
      refine ⟨?s0, ifB_iff.2 ⟨fun hb0 => ⟨rfl, ?m0⟩, fun hb0 => ⟨rfl, ?m1⟩⟩⟩
      case s0 => exact ⟨hk, hk'⟩
      case m0 => exact raw_take hb0
      case m1 =>
        rw [takeQ_no hb0]
        exact Subl.agg (.zd rfl (by omega) (.zd rfl (by omega) .nil))
    · cases hs
  · cases hs
theorem cWholeR : Contract Tryz.prog E 43 sWhole := by
  refine contract_loopsG [(85, sRight), (75, sNought), (90, sOne)] Tryz.ntmps43 Tryz.func43 (by kernel_rfl) (by kernel_rfl) hU ⟨cRightZ hU, cNoughtR hU, cOneR hU, trivial⟩ ?_
  intro xs p r hs hp
  unfold sWhole at hs
  split at hs
  · rename_i x
    split at hs
    · rename_i n l k j hx
      cases hs
      have hk := hp _ rfl
      refine ⟨[rawP n l k], [], .cons (sub_raw hx) .nil, rfl, fun hgx hg => ?_⟩
      refine cast_rfl (p := k ≤ 1000000 ∧ ifB (!rightZ n l) (true = true ∧ Sub (PV.agg [PV.f (Lf.zn (0 : Int)), PV.f (Lf.zd (0 : Int) 3), PV.f (Lf.zn (1 : Int)), PV.f (Lf.zd (1 : Int) 3)]) (PV.agg [PV.f (Lf.zn (match rightZ n l with | true => (↑(zV n l) : Rat) | false => (0 : Rat)).num), PV.f (Lf.zd (match rightZ n l with | true => (↑(zV n l) : Rat) | false => (0 : Rat)).num (k + 3)), PV.f (Lf.zn (↑(match rightZ n l with | true => (↑(zV n l) : Rat) | false => (0 : Rat)).den : Int)), PV.f (Lf.zd (↑(match rightZ n l with | true => (↑(zV n l) : Rat) | false => (0 : Rat)).den : Int) 6)])) (true = true ∧ Sub (PV.agg [PV.f (Lf.v (Value.bool n)), PV.f (Lf.lr l k), PV.f (Lf.zn (1 : Int)), PV.f (Lf.zd (1 : Int) 3)]) (PV.agg [PV.f (Lf.zn (match rightZ n l with | true => (↑(zV n l) : Rat) | false => (0 : Rat)).num), PV.f (Lf.zd (match rightZ n l with | true => (↑(zV n l) : Rat) | false => (0 : Rat)).num (k + 3)), PV.f (Lf.zn (↑(match rightZ n l with | true => (↑(zV n l) : Rat) | false => (0 : Rat)).den : Int)), PV.f (Lf.zd (↑(match rightZ n l with | true => (↑(zV n l) : Rat) | false => (0 : Rat)).den : Int) 6)]))) (by kernel_rfl) ?_
      refine ⟨?s0, ifB_iff.2 ⟨fun hb0 => ⟨rfl, ?m0⟩, fun hb0 => ⟨rfl, ?m1⟩⟩⟩
      case s0 => omega
      case m0 =>
        rw [Bool.not_eq_true'] at hb0
        rw [hb0]
        exact Subl.agg (.zd rfl (by omega) (.zd rfl (by omega) .nil))
      case m1 =>
        rw [Bool.not_eq_false'] at hb0
        have := raw_whole (k := k) hb0
        rw [hb0]
        exact this
    · cases hs
  · cases hs
theorem cCmpR : Contract Tryz.prog E 38 sCmpQ := by
  refine contract_loopsG [(82, sTakeR), (83, sMul2), (86, sCmp)] Tryz.ntmps38 Tryz.func38 (by kernel_rfl) (by kernel_rfl) hU ⟨cTakeR hU, cMul2R hU, cCmpZ hU, trivial⟩ ?_
  intro xs p r hs hp
  unfold sCmpQ at hs
  split at hs
  · rename_i x y
    split at hs
    · rename_i n l k j n' l' k' j' m u i _ m' u' i' _ hx hy
      cases hs
      obtain ⟨hk, hk', hi, hi'⟩ := hp _ rfl
      refine ⟨[rawQ n l k n' l' k', rawQ m u i m' u' i'], [], .cons (sub_rawQ hx) (.cons (sub_rawQ hy) .nil), rfl, fun hgx hg => ?_⟩
      refine cast_rfl (p := (k ≤ 9000 ∧ k' ≤ 9000) ∧ ∀ (z1 : Rat), z1 = takeQ n l n' l' → (i ≤ 9000 ∧ i' ≤ 9000) ∧ ∀ (z2 : Rat), z2 = takeQ m u m' u' → k + 3 + (i' + 3) ≤ 9990 ∧ ∀ (z3 : Int), z3 = zV (zNeg z1.num) (digs 1000000000 z1.num.natAbs) * zV (zNeg (↑z2.den : Int)) (digs 1000000000 (↑z2.den : Int).natAbs) → i + 3 + (k' + 3) ≤ 9990 ∧ ∀ (z4 : Int), z4 = zV (zNeg z2.num) (digs 1000000000 z2.num.natAbs) * zV (zNeg (↑z1.den : Int)) (digs 1000000000 (↑z1.den : Int).natAbs) → k + 3 + (i' + 3) + 1 + (i + 3 + (k' + 3) + 1) ≤ 90000 ∧ true = true ∧ Sub (PV.f (Lf.v (Value.int IntKind.i64 (cmpI (zV (zNeg z3) (digs 1000000000 z3.natAbs)) (zV (zNeg z4) (digs 1000000000 z4.natAbs)))))) (PV.f (Lf.v (Value.int IntKind.i64 (cmpI ((takeQ n l n' l').num * (↑(takeQ m u m' u').den : Int)) ((takeQ m u m' u').num * (↑(takeQ n l n' l').den : Int))))))) (by kernel_rfl) ?_
      refine ⟨?s0, fun z1 => fun hz1 => ⟨?s1, fun z2 => fun hz2 => ⟨?s2, fun z3 => fun hz3 => ⟨?s3, fun z4 => fun hz4 => ⟨?s4, ⟨rfl, ?m0⟩⟩⟩⟩⟩⟩
      all_goals (try simp only [zV_digs] at *)
      case s0 => omega
      case s1 => omega
      case s2 => omega
      case s3 => omega
      case s4 => omega
      case m0 =>
        subst hz1 hz2 hz3 hz4
        exact .refl _
    · cases hs
  · cases hs
theorem cNegR : Contract Tryz.prog E 41 sNegQ := by
  refine contract_loopsG [(82, sTakeR), (88, sNeg)] Tryz.ntmps41 Tryz.func41 (by kernel_rfl) (by kernel_rfl) hU ⟨cTakeR hU, cNegZ hU, trivial⟩ ?_
  intro xs p r hs hp
  unfold sNegQ at hs
  split at hs
  · rename_i x
    split at hs
    · rename_i n l k j n' l' k' j' hx
      cases hs
      obtain ⟨hk, hk'⟩ := hp _ rfl
      refine ⟨[rawQ n l k n' l' k'], [], .cons (sub_rawQ hx) .nil, rfl, fun hgx hg => ?_⟩
      refine cast_rfl (p := (k ≤ 9000 ∧ k' ≤ 9000) ∧ ∀ (z1 : Rat), z1 = takeQ n l n' l' → k + 3 ≤ 100000 ∧ ∀ (z2 : Int), z2 = -zV (zNeg z1.num) (digs 1000000000 z1.num.natAbs) → true = true ∧ Sub (PV.agg [PV.f (Lf.zn z2), PV.f (Lf.zd z2 (k + 3)), PV.f (Lf.zn (↑z1.den : Int)), PV.f (Lf.zd (↑z1.den : Int) (k' + 3))]) (PV.agg [PV.f (Lf.zn (-takeQ n l n' l').num), PV.f (Lf.zd (-takeQ n l n' l').num (k + 3)), PV.f (Lf.zn (↑(-takeQ n l n' l').den : Int)), PV.f (Lf.zd (↑(-takeQ n l n' l').den : Int) (k' + 3))])) (by kernel_rfl) ?_
      refine ⟨?s0, fun z1 => fun hz1 => ⟨?s1, fun z2 => fun hz2 => ⟨rfl, ?m0⟩⟩⟩
      case s0 => omega
      case s1 => omega
      case m0 =>
        subst hz1 hz2
        rw [zV_digs]
        exact Subl.agg (.zd (by rw [Rat.neg_num]) (by omega) (.zd (by rw [Rat.neg_den]) (by omega) .nil))
    · cases hs
  · cases hs
theorem cTextR : Contract Tryz.prog E 44 sTextQ := by
  refine contract_loopsG [(82, sTakeR), (90, sOne), (86, sCmp), (93, sText)] Tryz.ntmps44 Tryz.func44 (by kernel_rfl) (by kernel_rfl) hU ⟨cTakeR hU, cOneR hU, cCmpZ hU, cTextZ hU, trivial⟩ ?_
  intro xs p r hs hp
  unfold sTextQ at hs
  split at hs
  · rename_i x
    split at hs
    · rename_i n l k j n' l' k' j' hx
      cases hs
      obtain ⟨hk, hk', ht, ht'⟩ := hp _ rfl
      refine ⟨[rawQ n l k n' l' k'], [], .cons (sub_rawQ hx) .nil, rfl, fun hgx hg => ?_⟩
      refine cast_rfl (p := (k ≤ 9000 ∧ k' ≤ 9000) ∧ ∀ (z1 : Rat), z1 = takeQ n l n' l' → k + 3 ≤ 90000 ∧ k' + 3 + 3 ≤ 90000 ∧ ifB (cmpI (zV (zNeg (↑z1.den : Int)) (digs 1000000000 (↑z1.den : Int).natAbs)) (zV (zNeg (1 : Int)) (digs 1000000000 (Int.natAbs (1 : Int)))) == (0 : Int)) (true = true ∧ Sub (PV.f (Lf.v (Value.string (ByteArray.mk (zText (zV (zNeg z1.num) (digs 1000000000 z1.num.natAbs))).toArray)))) (PV.f (Lf.v (Value.string (ByteArray.mk (textQ (takeQ n l n' l')).toArray))))) ((↑((ByteArray.mk (zText (zV (zNeg z1.num) (digs 1000000000 z1.num.natAbs))).toArray).size + 1) : Int) ≤ IntKind.i64.max ∧ k' + 3 ≤ 90000 ∧ (↑((ByteArray.mk (zText (zV (zNeg z1.num) (digs 1000000000 z1.num.natAbs))).toArray ++ ByteArray.mk #[(47 : UInt8)]).size + (ByteArray.mk (zText (zV (zNeg (↑z1.den : Int)) (digs 1000000000 (↑z1.den : Int).natAbs))).toArray).size) : Int) ≤ IntKind.i64.max ∧ true = true ∧ Sub (PV.f (Lf.v (Value.string (ByteArray.mk (zText (zV (zNeg z1.num) (digs 1000000000 z1.num.natAbs))).toArray ++ ByteArray.mk #[(47 : UInt8)] ++ ByteArray.mk (zText (zV (zNeg (↑z1.den : Int)) (digs 1000000000 (↑z1.den : Int).natAbs))).toArray)))) (PV.f (Lf.v (Value.string (ByteArray.mk (textQ (takeQ n l n' l')).toArray)))))) (by kernel_rfl) ?_
      refine ⟨?s0, fun z1 => fun hz1 => ⟨?s1, ⟨?s2, ifB_iff.2 ⟨fun hb0 => ⟨rfl, ?m0⟩, fun hb0 => ⟨?s3, ⟨?s4, ⟨?s5, ⟨rfl, ?m1⟩⟩⟩⟩⟩⟩⟩⟩
      all_goals (try simp only [zV_digs, cmpI_eq0, decide_eq_true_eq, decide_eq_false_iff_not] at *)
      case s0 => omega
      case s1 => omega
      case s2 => omega
      case s4 => omega
      case s3 => subst hz1; have : IntKind.i64.max = 9223372036854775807 := by decide
                 rw [this]; simp only [ByteArray.size, Array.size]; simp; omega
      case s5 => subst hz1; have : IntKind.i64.max = 9223372036854775807 := by decide
                 rw [this]; simp only [ByteArray.size_append]; simp only [ByteArray.size, Array.size]; simp; omega
      case m0 =>
        subst hz1
        unfold textQ
        rw [if_pos hb0]
        exact .refl _
      case m1 =>
        subst hz1
        unfold textQ
        rw [if_neg hb0]
        have e : ∀ A B : List UInt8, (⟨A.toArray⟩ ++ ⟨#[47]⟩ ++ ⟨B.toArray⟩ : ByteArray) = ⟨(A ++ 47 :: B).toArray⟩ := by
          intro A B
          apply ByteArray.ext
          simp [ByteArray.data_append]
        rw [e]
        exact .refl _
    · cases hs
  · cases hs
end

end Go.Proofs.YtjfncepmpabcnaaGreatDoor
