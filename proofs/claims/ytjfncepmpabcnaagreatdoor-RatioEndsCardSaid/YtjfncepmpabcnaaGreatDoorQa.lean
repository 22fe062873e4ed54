/- The layer ratio by the pure run: one, positive, reduced. The layer ratio by the pure run: folds. The layer ratio by the pure run: its functions. The layer ratio by the pure run: Of, Mul, Div; the kit's SameRatio; few. The layer ratio by the pure run: Parse; the examples. -/
import Derived.Test.YtjfncepmpabcnaaGreatDoorPn
namespace Go.Proofs.YtjfncepmpabcnaaGreatDoor
open Go.RowKit
set_option linter.unusedVariables false
set_option maxRecDepth 100000

theorem cmpI_eq0 (a b : Int) : (cmpI a b == 0) = decide (a = b) := by
  rcases Int.lt_trichotomy a b with h | h | h
  · rw [cmpI_lt h, decide_eq_false (by omega)]; rfl
  · rw [cmpI_eq h, decide_eq_true h]; rfl
  · rw [cmpI_gt h, decide_eq_false (by omega)]; rfl
theorem gcd2_zero (y : Int) : gcd2 0 y = (y.natAbs : Int) := by unfold gcd2; rw [show (0 : Int).natAbs = 0 from rfl, Nat.gcd_zero_left]
theorem gcd2_two (y x : Int) : gcd2 (gcd2 0 y) x = gcd2 y x := by rw [gcd2_zero]; unfold gcd2; rw [Int.natAbs_natCast]
theorem gcd2_pos {y x : Int} (hx : x ≠ 0) : 0 < gcd2 y x := by
  unfold gcd2
  have : 0 < Nat.gcd y.natAbs x.natAbs := Nat.gcd_pos_of_pos_right _ (by omega)
  omega
theorem fdiv_gcd {y x : Int} {a : Int} (ha : (gcd2 y x : Int) ∣ a) : Int.fdiv a (gcd2 y x) = a / gcd2 y x := Int.fdiv_eq_ediv_of_dvd ha
theorem gcd2_dvdl (y x : Int) : gcd2 y x ∣ y := Int.natAbs_dvd_natAbs.1 (by unfold gcd2; rw [Int.natAbs_natCast]; exact Nat.gcd_dvd_left _ _)
theorem gcd2_dvdr (y x : Int) : gcd2 y x ∣ x := Int.natAbs_dvd_natAbs.1 (by unfold gcd2; rw [Int.natAbs_natCast]; exact Nat.gcd_dvd_right _ _)
theorem gcd2_int (y x : Int) : ((x.gcd y : Nat) : Int) = gcd2 y x := by unfold gcd2; rw [Int.gcd_comm]; rfl
/-- Lowest terms. -/
theorem red_num {y x : Int} (hx : 0 < x) : Int.fdiv y (gcd2 y x) = (Rat.divInt y x).num := by
  rw [fdiv_gcd (gcd2_dvdl y x), Rat.num_divInt, gcd2_int, Int.sign_eq_one_of_pos hx, Int.one_mul]
theorem red_den {y x : Int} (hx : 0 < x) : Int.fdiv x (gcd2 y x) = ((Rat.divInt y x).den : Int) := by
  rw [fdiv_gcd (gcd2_dvdr y x), Rat.den_divInt, if_neg (by omega), Int.natCast_ediv, gcd2_int]
  congr 1
  omega
theorem divInt_negs (y x : Int) : Rat.divInt (-y) (-x) = Rat.divInt y x := Rat.neg_divInt_neg y x
def sOne : Spec
  | [] => some (none, .one (zP 1 3))
  | _ => none
def sPositive : Spec
  | [x] => match pvR x with
    | some ((n, l), k, _) => some (some (k ≤ 80000), .one (.f (.v (.bool (decide (0 < zV n l))))))
    | none => none
  | _ => none
/-- THE ratio r, its parts in at most k and j limbs. -/
def qP (r : Rat) (k j : Nat) : PV := .agg [.f (.zn r.num), .f (.zd r.num k), .f (.zn r.den), .f (.zd r.den j)]
def sReduced : Spec
  | [x, y] => match pvR x, pvR y with
    | some ((n, l), k, _), some ((n', l'), k', _) => some (some (k ≤ 8700 ∧ k' ≤ 8700 ∧ zV n' l' ≠ 0), .nm Rat (Rat.divInt (zV n l) (zV n' l')) fun r => qP r (k + 2) (k' + 2))
    | _, _ => none
  | _ => none
/-- An api.Ratio's two numbers, as they came. -/
def pvQ : PV → Option (((Bool × List Nat) × Nat × Nat) × ((Bool × List Nat) × Nat × Nat))
  | .agg [.f a, .f b, .f c, .f d] => match asR a b, asR c d with
    | some x, some y => some (x, y)
    | _, _ => none
  | _ => none
def rawQ (n : Bool) (l : List Nat) (k : Nat) (n' : Bool) (l' : List Nat) (k' : Nat) : PV := .agg [.f (.v (.bool n)), .f (.lr l k), .f (.v (.bool n')), .f (.lr l' k')]
theorem sub_rawQ {x : PV} {n n' : Bool} {l l' : List Nat} {k j k' j' : Nat} (h : pvQ x = some (((n, l), k, j), ((n', l'), k', j'))) : Sub x (rawQ n l k n' l' k') := by
  refine ⟨fun H v hv => ?_⟩
  unfold pvQ at h
  split at h
  · rename_i a b c d
    split at h
    · rename_i x y hx hy
      cases h
      obtain ⟨vs, rfl, h1⟩ := PRs.of_agg hv
      obtain ⟨p, q, r, s, rfl⟩ : ∃ p q r s, vs = [p, q, r, s] := by
        have := h1.1
        match vs, this with
        | [p, q, r, s], _ => exact ⟨p, q, r, s, rfl⟩
      obtain ⟨h3, h4⟩ := rd_raw hx (h1.2 0 _ _ rfl rfl).rd (h1.2 1 _ _ rfl rfl).rd
      obtain ⟨h5, h6⟩ := rd_raw hy (h1.2 2 _ _ rfl rfl).rd (h1.2 3 _ _ rfl rfl).rd
      exact (PRs.cons (.f h3) (.cons (.f h4) (.cons (.f h5) (.cons (.f h6) .nil)))).agg
    · cases h
  · cases h
/-- Is it a right ratio? -/
def rightQ (n : Bool) (l : List Nat) (n' : Bool) (l' : List Nat) : Bool := rightZ n l && (rightZ n' l' && (decide (0 < zV n' l') && decide (gcd2 (zV n l) (zV n' l') = 1)))
/-- A right ratio, or 0 in its place. -/
def takeQ (n : Bool) (l : List Nat) (n' : Bool) (l' : List Nat) : Rat := match rightQ n l n' l' with | true => Rat.divInt (zV n l) (zV n' l') | false => 0
def sRightQ : Spec
  | [x] => match pvQ x with
    | some (((n, l), k, _), ((n', l'), k', _)) => some (some (k ≤ 8700 ∧ k' ≤ 8700), .one (.f (.v (.bool (rightQ n l n' l')))))
    | none => none
  | _ => none
def sOfQ : Spec
  | [x] => match pvQ x with
    | some (((n, l), k, _), ((n', l'), k', _)) => some (some (k ≤ 8700 ∧ k' ≤ 8700), .nm Rat (takeQ n l n' l') fun r => qP r (k + 3) (k' + 3))
    | none => none
  | _ => none
def sPlusQ : Spec
  | [x, y] => match pvQ x, pvQ y with
    | some (((n, l), k, _), ((n', l'), k', _)), some (((m, u), i, _), ((m', u'), i', _)) => some (some (k ≤ 2000 ∧ k' ≤ 2000 ∧ i ≤ 2000 ∧ i' ≤ 2000 ∧ zV n' l' ≠ 0 ∧ zV m' u' ≠ 0),
        .nm Rat (Rat.divInt (zV n l) (zV n' l') + Rat.divInt (zV m u) (zV m' u')) fun r => qP r (k + k' + i + i' + 20) (k' + i' + 20))
    | _, _ => none
  | _ => none
theorem takeQ_yes {n n' : Bool} {l l' : List Nat} (h : rightQ n l n' l' = true) : (takeQ n l n' l').num = zV n l ∧ ((takeQ n l n' l').den : Int) = zV n' l' := by
  unfold takeQ
  rw [h]
  unfold rightQ at h
  simp only [Bool.and_eq_true, decide_eq_true_eq] at h
  obtain ⟨-, -, h1, h2⟩ := h
  rw [← red_num h1, ← red_den h1, h2]
  exact ⟨by rw [Int.fdiv_one], by rw [Int.fdiv_one]⟩
theorem takeQ_no {n n' : Bool} {l l' : List Nat} (h : rightQ n l n' l' = false) : takeQ n l n' l' = 0 := by
  unfold takeQ; rw [h]
section
variable {E : World → Hp → Prop} (hU : Up E)
include hU
theorem cOne : Contract Tryz.prog E 72 sOne := by
  refine contract_plain [(31, sOf)] Tryz.ntmps72 Tryz.func72 (by kernel_rfl) (by kernel_rfl) hU ⟨(cOf hU), trivial⟩ ?_
  intro xs p r hs hp
  unfold sOne at hs
  split at hs
  · cases hs
    refine ⟨[], .nil, rfl, ?_⟩
    refine cast_rfl (p := ((-9223372036854775808 : Int) ≤ (1 : Int) ∧ (1 : Int) ≤ (9223372036854775807 : Int)) ∧ ∀ (z1 : Int), z1 = (1 : Int) → true = true ∧ Sub (PV.agg [PV.f (Lf.zn z1), PV.f (Lf.zd z1 3)]) (PV.agg [PV.f (Lf.zn (1 : Int)), PV.f (Lf.zd (1 : Int) 3)])) (by kernel_rfl) ?_
    refine ⟨?s0, fun z1 => fun hz1 => ⟨rfl, ?m0⟩⟩
    case s0 => decide
    case m0 => subst hz1; exact .refl _
  · cases hs
theorem cPositive : Contract Tryz.prog E 78 sPositive := by
  refine contract_plain [(70, sCmp)] Tryz.ntmps78 Tryz.func78 (by kernel_rfl) (by kernel_rfl) hU ⟨(cCmp hU), trivial⟩ ?_
  intro xs p r hs hp
  unfold sPositive at hs
  split at hs
  · rename_i x
    split at hs
    · rename_i n l k j hx
      cases hs
      have hk := hp _ rfl
      refine ⟨[rawP n l k], .cons (sub_raw hx) .nil, rfl, ?_⟩
      refine cast_rfl (p := k + 0 ≤ 90000 ∧ true = true ∧ Sub (PV.f (Lf.v (Value.bool (decide (cmpI (zV n l) (zV false []) > (0 : Int)))))) (PV.f (Lf.v (Value.bool (decide ((0 : Int) < zV n l)))))) (by kernel_rfl) ?_
      refine ⟨?s0, ⟨rfl, ?m0⟩⟩
      case s0 => omega
      case m0 =>
        refine sub_bool ?_
        have e : zV false [] = 0 := rfl
        rw [e]
        rcases Int.lt_trichotomy (zV n l) 0 with h | h | h
        · rw [cmpI_lt h, decide_eq_false (by decide), decide_eq_false (by omega)]
        · rw [cmpI_eq h, decide_eq_false (by decide), decide_eq_false (by omega)]
        · rw [cmpI_gt h, decide_eq_true (by decide), decide_eq_true (by omega)]
    · cases hs
  · cases hs
theorem cReduced : Contract Tryz.prog E 84 sReduced := by
  refine contract_plain [(78, sPositive), (91, sNeg), (17, sGcd), (50, sDiv)] Tryz.ntmps84 Tryz.func84 (by kernel_rfl) (by kernel_rfl) hU ⟨cPositive hU, (cNeg hU), (cGcd hU), (cDiv hU), trivial⟩ ?_
  intro xs p r hs hp
  unfold sReduced at hs
  split at hs
  · rename_i x y
    split at hs
    · rename_i n l k j n' l' k' j' hx hy
      cases hs
      obtain ⟨hk, hk', h0⟩ := hp _ rfl
      refine ⟨[rawP n l k, rawP n' l' k'], .cons (sub_raw hx) (.cons (sub_raw hy) .nil), rfl, ?_⟩
      refine cast_rfl (p := k' ≤ 80000 ∧ ifB (!decide ((0 : Int) < zV n' l')) (k ≤ 100000 ∧ ∀ (z1 : Int), z1 = -zV n l → k' ≤ 100000 ∧ ∀ (z2 : Int), z2 = -zV n' l' → k + 1 + 2 + (k' + 1 + 2 + 0) ≤ 20000 ∧ ∀ (z3 : Int), z3 = gcd2 (gcd2 (0 : Int) (zV (zNeg z1) (digs 1000000000 z1.natAbs))) (zV (zNeg z2) (digs 1000000000 z2.natAbs)) → (k + 1 + 2 * (0 + (k + 1) + 1 + (k' + 1) + 1) ≤ 44000 ∧ zV (zNeg z3) (digs 1000000000 z3.natAbs) ≠ (0 : Int)) ∧ ∀ (z4 : Int), z4 = (zV (zNeg z1) (digs 1000000000 z1.natAbs)).fdiv (zV (zNeg z3) (digs 1000000000 z3.natAbs)) → ∀ (z5 : Int), z5 = (zV (zNeg z1) (digs 1000000000 z1.natAbs)).fmod (zV (zNeg z3) (digs 1000000000 z3.natAbs)) → (k' + 1 + 2 * (0 + (k + 1) + 1 + (k' + 1) + 1) ≤ 44000 ∧ zV (zNeg z3) (digs 1000000000 z3.natAbs) ≠ (0 : Int)) ∧ ∀ (z6 : Int), z6 = (zV (zNeg z2) (digs 1000000000 z2.natAbs)).fdiv (zV (zNeg z3) (digs 1000000000 z3.natAbs)) → ∀ (z7 : Int), z7 = (zV (zNeg z2) (digs 1000000000 z2.natAbs)).fmod (zV (zNeg z3) (digs 1000000000 z3.natAbs)) → true = true ∧ Sub (PV.agg [PV.f (Lf.zn z4), PV.f (Lf.zd z4 (k + 1 + 1)), PV.f (Lf.zn z6), PV.f (Lf.zd z6 (k' + 1 + 1))]) (PV.agg [PV.f (Lf.zn (Rat.divInt (zV n l) (zV n' l')).num), PV.f (Lf.zd (Rat.divInt (zV n l) (zV n' l')).num (k + 2)), PV.f (Lf.zn (↑(Rat.divInt (zV n l) (zV n' l')).den : Int)), PV.f (Lf.zd (↑(Rat.divInt (zV n l) (zV n' l')).den : Int) (k' + 2))])) (k + 2 + (k' + 2 + 0) ≤ 20000 ∧ ∀ (z1 : Int), z1 = gcd2 (gcd2 (0 : Int) (zV n l)) (zV n' l') → (k + 2 * (0 + (k + 1) + 1 + (k' + 1) + 1) ≤ 44000 ∧ zV (zNeg z1) (digs 1000000000 z1.natAbs) ≠ (0 : Int)) ∧ ∀ (z2 : Int), z2 = (zV n l).fdiv (zV (zNeg z1) (digs 1000000000 z1.natAbs)) → ∀ (z3 : Int), z3 = (zV n l).fmod (zV (zNeg z1) (digs 1000000000 z1.natAbs)) → (k' + 2 * (0 + (k + 1) + 1 + (k' + 1) + 1) ≤ 44000 ∧ zV (zNeg z1) (digs 1000000000 z1.natAbs) ≠ (0 : Int)) ∧ ∀ (z4 : Int), z4 = (zV n' l').fdiv (zV (zNeg z1) (digs 1000000000 z1.natAbs)) → ∀ (z5 : Int), z5 = (zV n' l').fmod (zV (zNeg z1) (digs 1000000000 z1.natAbs)) → true = true ∧ Sub (PV.agg [PV.f (Lf.zn z2), PV.f (Lf.zd z2 (k + 1 + 1)), PV.f (Lf.zn z4), PV.f (Lf.zd z4 (k' + 1 + 1))]) (PV.agg [PV.f (Lf.zn (Rat.divInt (zV n l) (zV n' l')).num), PV.f (Lf.zd (Rat.divInt (zV n l) (zV n' l')).num (k + 2)), PV.f (Lf.zn (↑(Rat.divInt (zV n l) (zV n' l')).den : Int)), PV.f (Lf.zd (↑(Rat.divInt (zV n l) (zV n' l')).den : Int) (k' + 2))]))) (by kernel_rfl) ?_
      refine ⟨?s0, ifB_iff.2 ⟨fun hb0 => ⟨?s1, fun z1 => fun hz1 => ⟨?s2, fun z2 => fun hz2 => ⟨?s3, fun z3 => fun hz3 => ⟨?s4, fun z4 => fun hz4 => fun z5 => fun hz5 => ⟨?s5, fun z6 => fun hz6 => fun z7 => fun hz7 => ⟨rfl, ?m0⟩⟩⟩⟩⟩⟩, fun hb0 => ⟨?s6, fun z1 => fun hz1 => ⟨?s7, fun z2 => fun hz2 => fun z3 => fun hz3 => ⟨?s8, fun z4 => fun hz4 => fun z5 => fun hz5 => ⟨rfl, ?m1⟩⟩⟩⟩⟩⟩
      all_goals (try simp only [zV_digs, gcd2_two] at *)
      case s0 => omega
      case s1 => omega
      case s2 => omega
      case s3 => omega
      case s4 =>
        subst hz2
        exact ⟨by omega, by have := gcd2_pos (y := z1) (x := -zV n' l') (by omega); omega⟩
      case s5 =>
        subst hz2
        exact ⟨by omega, by have := gcd2_pos (y := z1) (x := -zV n' l') (by omega); omega⟩
      case m0 =>
        simp at hb0
        have hx0 : 0 < z2 := by omega
        refine Subl.agg (.zd ?_ (by omega) (.zd ?_ (by omega) .nil))
        · rw [hz4, hz3, red_num hx0, hz1, hz2, divInt_negs]
        · rw [hz6, hz3, red_den hx0, hz1, hz2, divInt_negs]
      case s6 => omega
      case s7 => exact ⟨by omega, by have := gcd2_pos (y := zV n l) (x := zV n' l') h0; omega⟩
      case s8 => exact ⟨by omega, by have := gcd2_pos (y := zV n l) (x := zV n' l') h0; omega⟩
      case m1 =>
        simp at hb0
        refine Subl.agg (.zd ?_ (by omega) (.zd ?_ (by omega) .nil))
        · rw [hz2, hz1, red_num hb0]
        · rw [hz4, hz1, red_den hb0]
    · cases hs
  · cases hs

theorem cRightQ : Contract Tryz.prog E 25 sRightQ := by
  refine contract_plain [(77, sRight), (78, sPositive), (17, sGcd), (72, sOne), (70, sCmp)] Tryz.ntmps25 Tryz.func25 (by kernel_rfl) (by kernel_rfl) hU ⟨(cRight hU), cPositive hU, (cGcd hU), cOne hU, (cCmp hU), trivial⟩ ?_
  intro xs p r hs hp
  unfold sRightQ at hs
  split at hs
  · rename_i x
    split at hs
    · rename_i n l k j n' l' k' j' hx
      cases hs
      obtain ⟨hk, hk'⟩ := hp _ rfl
      refine ⟨[rawQ n l k n' l' k'], .cons (sub_rawQ hx) .nil, rfl, ?_⟩
      refine cast_rfl (p := k ≤ 1000000 ∧ ifB (rightZ n l) (k' ≤ 1000000 ∧ ifB (rightZ n' l') (k' ≤ 80000 ∧ ifB (decide ((0 : Int) < zV n' l')) (k + 2 + (k' + 2 + 0) ≤ 20000 ∧ ∀ (z1 : Int), z1 = gcd2 (gcd2 (0 : Int) (zV n l)) (zV n' l') → 0 + (k + 1) + 1 + (k' + 1) + 1 + 3 ≤ 90000 ∧ true = true ∧ Sub (PV.f (Lf.v (Value.bool (cmpI (zV (zNeg z1) (digs 1000000000 z1.natAbs)) (zV (zNeg (1 : Int)) (digs 1000000000 (Int.natAbs (1 : Int)))) == (0 : Int))))) (PV.f (Lf.v (Value.bool (rightQ n l n' l'))))) (true = true ∧ Sub (PV.f (Lf.v (Value.bool false))) (PV.f (Lf.v (Value.bool (rightQ n l n' l')))))) (true = true ∧ Sub (PV.f (Lf.v (Value.bool false))) (PV.f (Lf.v (Value.bool (rightQ n l n' l')))))) (true = true ∧ Sub (PV.f (Lf.v (Value.bool false))) (PV.f (Lf.v (Value.bool (rightQ n l n' l')))))) (by kernel_rfl) ?_
      refine ⟨?s0, ifB_iff.2 ⟨fun hb0 => ⟨?s1, ifB_iff.2 ⟨fun hb1 => ⟨?s2, ifB_iff.2 ⟨fun hb2 => ⟨?s3, fun z1 => fun hz1 => ⟨?s4, ⟨rfl, ?m0⟩⟩⟩, fun hb2 => ⟨rfl, ?m1⟩⟩⟩, fun hb1 => ⟨rfl, ?m2⟩⟩⟩, fun hb0 => ⟨rfl, ?m3⟩⟩⟩
      all_goals (try simp only [zV_digs, gcd2_two] at *)
      all_goals first | omega | skip
      all_goals refine sub_bool ?_
      all_goals unfold rightQ
      case m0 => rw [cmpI_eq0, hb0, hb1, hb2, hz1]; rfl
      case m1 => rw [hb0, hb1, hb2]; rfl
      case m2 => rw [hb0, hb1]; rfl
      case m3 => rw [hb0]; rfl
    · cases hs
  · cases hs
theorem cOfQ : Contract Tryz.prog E 73 sOfQ := by
  refine contract_plain [(25, sRightQ), (72, sOne), (13, sAdd)] Tryz.ntmps73 Tryz.func73 (by kernel_rfl) (by kernel_rfl) hU ⟨cRightQ hU, cOne hU, (cAdd hU), trivial⟩ ?_
  intro xs p r hs hp
  unfold sOfQ at hs
  split at hs
  · rename_i x
    split at hs
    · rename_i n l k j n' l' k' j' hx
      cases hs
      obtain ⟨hk, hk'⟩ := hp _ rfl
      refine ⟨[rawQ n l k n' l' k'], .cons (sub_rawQ hx) .nil, rfl, ?_⟩
      refine cast_rfl (p := (k ≤ 8700 ∧ k' ≤ 8700) ∧ ifB (!rightQ n l n' l') (true = true ∧ Sub (PV.agg [PV.f (Lf.v (Value.bool false)), PV.f (Lf.v (Value.slice none 0 0)), PV.f (Lf.zn (1 : Int)), PV.f (Lf.zd (1 : Int) 3)]) (PV.agg [PV.f (Lf.zn (takeQ n l n' l').num), PV.f (Lf.zd (takeQ n l n' l').num (k + 3)), PV.f (Lf.zn (↑(takeQ n l n' l').den : Int)), PV.f (Lf.zd (↑(takeQ n l n' l').den : Int) (k' + 3))])) (k + 2 + 0 ≤ 20000 ∧ ∀ (z1 : Int), z1 = (0 : Int) + zV n l → k' + 2 + 0 ≤ 20000 ∧ ∀ (z2 : Int), z2 = (0 : Int) + zV n' l' → true = true ∧ Sub (PV.agg [PV.f (Lf.zn z1), PV.f (Lf.zd z1 (0 + (k + 1) + 1)), PV.f (Lf.zn z2), PV.f (Lf.zd z2 (0 + (k' + 1) + 1))]) (PV.agg [PV.f (Lf.zn (takeQ n l n' l').num), PV.f (Lf.zd (takeQ n l n' l').num (k + 3)), PV.f (Lf.zn (↑(takeQ n l n' l').den : Int)), PV.f (Lf.zd (↑(takeQ n l n' l').den : Int) (k' + 3))]))) (by kernel_rfl) ?_
      refine ⟨?s0, ifB_iff.2 ⟨fun hb0 => ⟨rfl, ?m0⟩, fun hb0 => ⟨?s1, fun z1 => fun hz1 => ⟨?s2, fun z2 => fun hz2 => ⟨rfl, ?m1⟩⟩⟩⟩⟩
      all_goals (try simp only [zV_digs, gcd2_two] at *)
      all_goals first | omega | skip
      case m0 =>
        rw [Bool.not_eq_true'] at hb0
        rw [takeQ_no hb0]
        exact Subl.agg (.zero rfl (.zd rfl (by omega) .nil))
      case m1 =>
        rw [Bool.not_eq_false'] at hb0
        obtain ⟨h1, h2⟩ := takeQ_yes hb0
        exact Subl.agg (.zd (by rw [h1, hz1]; omega) (by omega) (.zd (by rw [h2, hz2]; omega) (by omega) .nil))
    · cases hs
  · cases hs
theorem cPlusQ : Contract Tryz.prog E 80 sPlusQ := by
  refine contract_plain [(15, sMul), (13, sAdd), (84, sReduced)] Tryz.ntmps80 Tryz.func80 (by kernel_rfl) (by kernel_rfl) hU ⟨(cMul hU), (cAdd hU), cReduced hU, trivial⟩ ?_
  intro xs p r hs hp
  unfold sPlusQ at hs
  split at hs
  · rename_i x y
    split at hs
    · rename_i n l k j n' l' k' j' m u i _ m' u' i' _ hx hy
      cases hs
      obtain ⟨hk, hk', hi, hi', h1, h2⟩ := hp _ rfl
      refine ⟨[rawQ n l k n' l' k', rawQ m u i m' u' i'], .cons (sub_rawQ hx) (.cons (sub_rawQ hy) .nil), rfl, ?_⟩
      refine cast_rfl (p := k + 2 + (i' + 2 + 0) ≤ 20000 ∧ ∀ (z1 : Int), z1 = (1 : Int) * zV n l * zV m' u' → i + 2 + (k' + 2 + 0) ≤ 20000 ∧ ∀ (z2 : Int), z2 = (1 : Int) * zV m u * zV n' l' → 1 + (k + 1) + (i' + 1) + 2 + (1 + (i + 1) + (k' + 1) + 2 + 0) ≤ 20000 ∧ ∀ (z3 : Int), z3 = (0 : Int) + zV (zNeg z1) (digs 1000000000 z1.natAbs) + zV (zNeg z2) (digs 1000000000 z2.natAbs) → k' + 2 + (i' + 2 + 0) ≤ 20000 ∧ ∀ (z4 : Int), z4 = (1 : Int) * zV n' l' * zV m' u' → (0 + (1 + (k + 1) + (i' + 1)) + 1 + (1 + (i + 1) + (k' + 1)) + 1 ≤ 8700 ∧ 1 + (k' + 1) + (i' + 1) ≤ 8700 ∧ zV (zNeg z4) (digs 1000000000 z4.natAbs) ≠ (0 : Int)) ∧ ∀ (z5 : Rat), z5 = Rat.divInt (zV (zNeg z3) (digs 1000000000 z3.natAbs)) (zV (zNeg z4) (digs 1000000000 z4.natAbs)) → true = true ∧ Sub (PV.agg [PV.f (Lf.zn z5.num), PV.f (Lf.zd z5.num (0 + (1 + (k + 1) + (i' + 1)) + 1 + (1 + (i + 1) + (k' + 1)) + 1 + 2)), PV.f (Lf.zn (↑z5.den : Int)), PV.f (Lf.zd (↑z5.den : Int) (1 + (k' + 1) + (i' + 1) + 2))]) (PV.agg [PV.f (Lf.zn (Rat.divInt (zV n l) (zV n' l') + Rat.divInt (zV m u) (zV m' u')).num), PV.f (Lf.zd (Rat.divInt (zV n l) (zV n' l') + Rat.divInt (zV m u) (zV m' u')).num (k + k' + i + i' + 20)), PV.f (Lf.zn (↑(Rat.divInt (zV n l) (zV n' l') + Rat.divInt (zV m u) (zV m' u')).den : Int)), PV.f (Lf.zd (↑(Rat.divInt (zV n l) (zV n' l') + Rat.divInt (zV m u) (zV m' u')).den : Int) (k' + i' + 20))])) (by kernel_rfl) ?_
      refine ⟨?s0, fun z1 => fun hz1 => ⟨?s1, fun z2 => fun hz2 => ⟨?s2, fun z3 => fun hz3 => ⟨?s3, fun z4 => fun hz4 => ⟨?s4, fun z5 => fun hz5 => ⟨rfl, ?m0⟩⟩⟩⟩⟩⟩
      all_goals (try simp only [zV_digs] at *)
      all_goals first | omega | skip
      case s4 => exact ⟨by omega, by omega, by rw [hz4]; simp [h1, h2]⟩
      case m0 =>
        have e : z5 = Rat.divInt (zV n l) (zV n' l') + Rat.divInt (zV m u) (zV m' u') := by
          rw [Rat.divInt_add_divInt _ _ h1 h2, hz5, hz3, hz4, hz1, hz2]
          simp only [Int.one_mul, Int.zero_add]
        rw [e]
        exact Subl.agg (.zd rfl (by omega) (.zd rfl (by omega) .nil))
    · cases hs
  · cases hs
end

end Go.Proofs.YtjfncepmpabcnaaGreatDoor

namespace Go.Proofs.YtjfncepmpabcnaaGreatDoor
open Go.RowKit
set_option linter.unusedVariables false
set_option maxRecDepth 100000

abbrev QE := (Bool × List Nat × Nat) × (Bool × List Nat × Nat)
def entQ : List Lf → Option QE
  | [a, b, c, d] => match asR a b, asR c d with
    | some ((n, l), k, _), some ((n', l'), k', _) => some ((n, l, k), (n', l', k'))
    | _, _ => none
  | _ => none
def rowsQ : List (List Lf) → Option (List QE)
  | [] => some []
  | r :: L => match entQ r, rowsQ L with
    | some x, some l => some (x :: l)
    | _, _ => none
def sliceQ : Lf → Option (List QE)
  | .row 4 L => rowsQ L
  | .qs L => some L
  | .v (.slice none 0 0) => some []
  | _ => none
theorem rowsQ_at : ∀ {L : List (List Lf)} {l : List QE}, rowsQ L = some l → l.length = L.length ∧ ∀ (i : Nat) x, l[i]? = some x → ∃ r, L[i]? = some r ∧ entQ r = some x
  | [], l, h => by simp only [rowsQ, Option.some.injEq] at h; subst h; simp
  | r :: L, l, h => by
    simp only [rowsQ] at h
    split at h
    · rename_i x l' hx hl
      cases h
      obtain ⟨h1, h2⟩ := rowsQ_at hl
      refine ⟨by simp [h1], fun i y hy => ?_⟩
      cases i with
      | zero => simp at hy; subst hy; exact ⟨r, rfl, hx⟩
      | succ i => simpa using h2 i y (by simpa using hy)
    · cases h
theorem sub_qs {y : Lf} {L : List QE} (h : sliceQ y = some L) : Sub (.f y) (.f (.qs L)) := by
  refine ⟨fun H v hv => ?_⟩
  unfold sliceQ at h
  split at h
  · rename_i R
    obtain ⟨h1, h2⟩ := rowsQ_at h
    have hr := hv.rd
    cases hr with
    | @sl _ k n get ao cap hview hg hc hm h0 b o val hb hcell hk hrec =>
      simp only [Lf.view, Option.some.injEq, Prod.mk.injEq] at hview
      obtain ⟨rfl, rfl, rfl⟩ := hview
      refine .f (.slf (fun _ => rfl) (f := .qs L) (k := 4) (n := R.length) (get := fun i => [.v (.bool (L.getD i ((false, [], 0), (false, [], 0))).1.1), .lr (L.getD i ((false, [], 0), (false, [], 0))).1.2.1 (L.getD i ((false, [], 0), (false, [], 0))).1.2.2, .v (.bool (L.getD i ((false, [], 0), (false, [], 0))).2.1), .lr (L.getD i ((false, [], 0), (false, [], 0))).2.2.1 (L.getD i ((false, [], 0), (false, [], 0))).2.2.2]) (by simp [Lf.view, h1]) trivial hc hm h0 b o val hb hcell (fun i hi => rfl) (fun i hi j x hx => ?_))
      have hil : i < L.length := by rw [h1]; exact hi
      obtain ⟨r, h3, h4⟩ := h2 i _ (List.getElem?_eq_getElem hil)
      have hget : R.getD i [] = r := by rw [List.getD_eq_getElem?_getD, h3]; rfl
      have hLi : L.getD i ((false, [], 0), (false, [], 0)) = L[i] := by rw [List.getD_eq_getElem?_getD, List.getElem?_eq_getElem hil]; rfl
      rw [hLi] at hx
      generalize L[i] = e at h4 hx
      unfold entQ at h4
      split at h4
      · rename_i p q s t
        split at h4
        · rename_i n l k' j1 n' l' k'' j2 ha hb'
          cases h4
          obtain ⟨r0, r1⟩ := rd_raw ha (hrec i hi 0 p (by show (R.getD i [])[0]? = _; rw [hget]; rfl)) (hrec i hi 1 q (by show (R.getD i [])[1]? = _; rw [hget]; rfl))
          obtain ⟨r2, r3⟩ := rd_raw hb' (hrec i hi 2 s (by show (R.getD i [])[2]? = _; rw [hget]; rfl)) (hrec i hi 3 t (by show (R.getD i [])[3]? = _; rw [hget]; rfl))
          match j with
          | 0 => simp at hx; subst hx; exact r0
          | 1 => simp at hx; subst hx; exact r1
          | 2 => simp at hx; subst hx; exact r2
          | 3 => simp at hx; subst hx; exact r3
          | j + 4 => simp at hx
        · cases h4
      · cases h4
  · cases h; exact hv
  · cases h
    have := hv.val
    subst this
    exact .f (nil_rd rfl trivial)
  · cases h

def ofE (e : QE) : Rat := takeQ e.1.1 e.1.2.1 e.2.1 e.2.2.1
def bPl (b : Nat × Nat) (e : QE) : Nat × Nat := (b.1 + b.2 + (e.1.2.2 + 3) + (e.2.2.2 + 3) + 20, b.2 + (e.2.2.2 + 3) + 20)
def qL (r : Rat) (k j : Nat) : List PV := [.f (.zn r.num), .f (.zd r.num k), .f (.zn r.den), .f (.zd r.den j)]
def sFold (f : FuncId) (op : Rat → Rat → Rat) (bn : Nat × Nat → QE → Nat × Nat) : Spec
  | [.agg [.f (.zn a), .f (.zd a' k), .f (.zn b), .f (.zd b' j)], .f (.v (.func (.func g) x z)), .f y] => match sliceQ y, Nat.beq g f, x.size, z.size with
    | some L, true, 0, 0 => some (some (a = a' ∧ b = b' ∧ (Rat.divInt a b).num = a ∧ ((Rat.divInt a b).den : Int) = b ∧ (L.foldl bn (k, j)).1 ≤ 1900 ∧ (L.foldl bn (k, j)).2 ≤ 1900 ∧ L.length ≤ 1000000),
        .nm Rat (L.foldl (fun a e => op a (ofE e)) (Rat.divInt a b)) fun r => qP r (L.foldl bn (k, j)).1 (L.foldl bn (k, j)).2)
    | _, _, _, _ => none
  | _ => none
theorem subB_zn {z z' : Int} (h : z = z') : SubB (.f (.zn z)) (.f (.zn z')) := by subst h; exact .refl _
theorem subB_zd {z z' : Int} {k k' : Nat} (h : z = z') (hk : k ≤ k') : SubB (.f (.zd z k)) (.f (.zd z' k')) := by
  subst h; exact ⟨fun H B v hv => .f (zd_mono hv.rd hk)⟩
theorem foldl_take {α β : Type} (f : β → α → β) (b : β) (L : List α) (d : α) {i : Nat} (h : i < L.length) : (L.take (i + 1)).foldl f b = f ((L.take i).foldl f b) (L.getD i d) := by
  rw [List.take_succ_eq_append_getElem h, List.foldl_append, List.getD_eq_getElem?_getD, List.getElem?_eq_getElem h]; rfl
theorem bPl_mono (L M : List QE) (b : Nat × Nat) : (L.foldl bPl b).1 ≤ ((L ++ M).foldl bPl b).1 ∧ (L.foldl bPl b).2 ≤ ((L ++ M).foldl bPl b).2 := by
  rw [List.foldl_append]
  generalize L.foldl bPl b = c
  induction M generalizing c with
  | nil => exact ⟨Nat.le_refl _, Nat.le_refl _⟩
  | cons e M ih => obtain ⟨h1, h2⟩ := ih (bPl c e); simp only [List.foldl_cons]; unfold bPl at h1 h2 ⊢; dsimp only at h1 h2; exact ⟨by omega, by omega⟩
theorem sub_canon {a a' b b' : Int} {k j : Nat} (ha : a = a') (hb : b = b') (h1 : (Rat.divInt a b).num = a) (h2 : ((Rat.divInt a b).den : Int) = b) : Sub (.agg [.f (.zn a), .f (.zd a' k), .f (.zn b), .f (.zd b' j)]) (.agg (qL (Rat.divInt a b) k j)) := by
  subst ha hb
  unfold qL
  rw [h1, h2]
  exact .refl _
section
variable {E : World → Hp → Prop} (hU : Up E)
include hU
theorem cFoldP : Contract Tryz.prog E 79 (sFold 80 (fun a b => a + b) bPl) := by
  refine contract_loops [(73, sOfQ), (80, sPlusQ)] Tryz.ntmps79 Tryz.func79 (by kernel_rfl) (by kernel_rfl) hU ⟨cOfQ hU, cPlusQ hU, trivial⟩ ?_
  intro xs p r hs hp
  unfold sFold at hs
  split at hs
  · rename_i a a' k b b' j g x z y
    split at hs
    · rename_i L hy hg hx hz
      cases hs
      obtain ⟨ha, hb, h1, h2, hk, hj, hL⟩ := hp _ rfl
      obtain rfl : x = #[] := Array.eq_empty_of_size_eq_zero hx
      obtain rfl : z = #[] := Array.eq_empty_of_size_eq_zero hz
      obtain rfl := Nat.eq_of_beq_eq_true hg
      refine ⟨[.agg (qL (Rat.divInt a b) k j), .f (.v (.func (.func 80) #[] #[])), .f (.qs L)],
        [(2, .s ⟨Nat, fun i => ⟨[(1, .f (.v (.func (.func 80) #[] #[]))), (3, .bp 0 0), (6, .bp 1 0), (9, .f (.qs L)), (10, .f (.v (.int .i64 L.length))), (11, .f (.v (.int .i64 i)))],
          [.cells (qL ((L.take i).foldl (fun a e => a + ofE e) (Rat.divInt a b)) ((L.take i).foldl bPl (k, j)).1 ((L.take i).foldl bPl (k, j)).2), .cells [.f (.v (.bool false)), .f (.v (.slice none 0 0)), .f (.v (.bool false)), .f (.v (.slice none 0 0))]]⟩, fun i => i ≤ L.length, fun i => L.length - i⟩)], .cons (sub_canon ha hb h1 h2) (.cons (.refl _) (.cons (sub_qs hy) .nil)), rfl, ?_⟩
      have key : ∀ i, i < L.length → (L.getD i ((false, [], 0), (false, [], 0))).1.2.2 + 3 ≤ 1900 ∧ (L.getD i ((false, [], 0), (false, [], 0))).2.2.2 + 3 ≤ 1900 ∧ ((L.take i).foldl bPl (k, j)).1 ≤ 1900 ∧ ((L.take i).foldl bPl (k, j)).2 ≤ 1900 ∧
          (L.take (i + 1)).foldl bPl (k, j) = bPl ((L.take i).foldl bPl (k, j)) (L.getD i ((false, [], 0), (false, [], 0))) := by
        intro i hi
        have h3 := foldl_take bPl (k, j) L ((false, [], 0), (false, [], 0)) hi
        have h4 := bPl_mono (L.take (i + 1)) (L.drop (i + 1)) (k, j)
        rw [List.take_append_drop, h3] at h4
        generalize (L.take i).foldl bPl (k, j) = B at *
        generalize L.foldl bPl (k, j) = F at *
        generalize L.getD i ((false, [], 0), (false, [], 0)) = e at *
        unfold bPl at h4
        dsimp only at h4
        exact ⟨by omega, by omega, by omega, by omega, h3⟩
      have hden : ∀ q : Rat, (q.den : Int) ≠ 0 := fun q => by have := q.den_pos; omega
      refine cast_rfl (p := ∃ (x1 : Nat), (((SubB (PV.f (Lf.zn (Rat.divInt a b).num)) (PV.f (Lf.zn (List.foldl (fun (a : Rat) (e : QE) => a + ofE e) (Rat.divInt a b) (List.take x1 L)).num)) ∧ SubB (PV.f (Lf.zd (Rat.divInt a b).num k)) (PV.f (Lf.zd (List.foldl (fun (a : Rat) (e : QE) => a + ofE e) (Rat.divInt a b) (List.take x1 L)).num (List.foldl bPl (k, j) (List.take x1 L)).fst)) ∧ SubB (PV.f (Lf.zn (↑(Rat.divInt a b).den : Int))) (PV.f (Lf.zn (↑(List.foldl (fun (a : Rat) (e : QE) => a + ofE e) (Rat.divInt a b) (List.take x1 L)).den : Int))) ∧ SubB (PV.f (Lf.zd (↑(Rat.divInt a b).den : Int) j)) (PV.f (Lf.zd (↑(List.foldl (fun (a : Rat) (e : QE) => a + ofE e) (Rat.divInt a b) (List.take x1 L)).den : Int) (List.foldl bPl (k, j) (List.take x1 L)).snd)) ∧ True) ∧ (SubB (PV.f (Lf.v (Value.bool false))) (PV.f (Lf.v (Value.bool false))) ∧ SubB (PV.f (Lf.v (Value.slice none 0 0))) (PV.f (Lf.v (Value.slice none 0 0))) ∧ SubB (PV.f (Lf.v (Value.bool false))) (PV.f (Lf.v (Value.bool false))) ∧ SubB (PV.f (Lf.v (Value.slice none 0 0))) (PV.f (Lf.v (Value.slice none 0 0))) ∧ True) ∧ True) ∧ SubB (PV.f (Lf.v (Value.func (Fn.func 80) #[] #[]))) (PV.f (Lf.v (Value.func (Fn.func 80) #[] #[]))) ∧ SubB (PV.bp 0 0) (PV.bp 0 0) ∧ SubB (PV.bp 1 0) (PV.bp 1 0) ∧ SubB (PV.f (Lf.qs L)) (PV.f (Lf.qs L)) ∧ SubB (PV.f (Lf.v (Value.int IntKind.i64 (↑L.length : Int)))) (PV.f (Lf.v (Value.int IntKind.i64 (↑L.length : Int)))) ∧ SubB (PV.f (Lf.v (Value.int IntKind.i64 (0 : Int)))) (PV.f (Lf.v (Value.int IntKind.i64 (↑x1 : Int)))) ∧ True) ∧ x1 ≤ L.length ∧ True ∧ ∀ (z2 : Nat), z2 ≤ L.length → True → ifB (decide ((↑z2 : Int) < (↑L.length : Int))) (((0 : Int) ≤ (↑z2 : Int) ∧ (↑z2 : Int) < (↑L.length : Int)) ∧ ((L.getD (↑z2 : Int).toNat ((false, [], 0), false, [], 0)).fst.snd.snd ≤ 8700 ∧ (L.getD (↑z2 : Int).toNat ((false, [], 0), false, [], 0)).snd.snd.snd ≤ 8700) ∧ ∀ (z3 : Rat), z3 = takeQ (L.getD (↑z2 : Int).toNat ((false, [], 0), false, [], 0)).fst.fst (L.getD (↑z2 : Int).toNat ((false, [], 0), false, [], 0)).fst.snd.fst (L.getD (↑z2 : Int).toNat ((false, [], 0), false, [], 0)).snd.fst (L.getD (↑z2 : Int).toNat ((false, [], 0), false, [], 0)).snd.snd.fst → ((List.foldl bPl (k, j) (List.take z2 L)).fst ≤ 2000 ∧ (List.foldl bPl (k, j) (List.take z2 L)).snd ≤ 2000 ∧ (L.getD (↑z2 : Int).toNat ((false, [], 0), false, [], 0)).fst.snd.snd + 3 ≤ 2000 ∧ (L.getD (↑z2 : Int).toNat ((false, [], 0), false, [], 0)).snd.snd.snd + 3 ≤ 2000 ∧ zV (zNeg (↑(List.foldl (fun (a : Rat) (e : QE) => a + ofE e) (Rat.divInt a b) (List.take z2 L)).den : Int)) (digs 1000000000 (↑(List.foldl (fun (a : Rat) (e : QE) => a + ofE e) (Rat.divInt a b) (List.take z2 L)).den : Int).natAbs) ≠ (0 : Int) ∧ zV (zNeg (↑z3.den : Int)) (digs 1000000000 (↑z3.den : Int).natAbs) ≠ (0 : Int)) ∧ ∀ (z4 : Rat), z4 = Rat.divInt (zV (zNeg (List.foldl (fun (a : Rat) (e : QE) => a + ofE e) (Rat.divInt a b) (List.take z2 L)).num) (digs 1000000000 (List.foldl (fun (a : Rat) (e : QE) => a + ofE e) (Rat.divInt a b) (List.take z2 L)).num.natAbs)) (zV (zNeg (↑(List.foldl (fun (a : Rat) (e : QE) => a + ofE e) (Rat.divInt a b) (List.take z2 L)).den : Int)) (digs 1000000000 (↑(List.foldl (fun (a : Rat) (e : QE) => a + ofE e) (Rat.divInt a b) (List.take z2 L)).den : Int).natAbs)) + Rat.divInt (zV (zNeg z3.num) (digs 1000000000 z3.num.natAbs)) (zV (zNeg (↑z3.den : Int)) (digs 1000000000 (↑z3.den : Int).natAbs)) → ∃ (x5 : Nat), (((SubB (PV.f (Lf.zn z4.num)) (PV.f (Lf.zn (List.foldl (fun (a : Rat) (e : QE) => a + ofE e) (Rat.divInt a b) (List.take x5 L)).num)) ∧ SubB (PV.f (Lf.zd z4.num ((List.foldl bPl (k, j) (List.take z2 L)).fst + (List.foldl bPl (k, j) (List.take z2 L)).snd + ((L.getD (↑z2 : Int).toNat ((false, [], 0), false, [], 0)).fst.snd.snd + 3) + ((L.getD (↑z2 : Int).toNat ((false, [], 0), false, [], 0)).snd.snd.snd + 3) + 20))) (PV.f (Lf.zd (List.foldl (fun (a : Rat) (e : QE) => a + ofE e) (Rat.divInt a b) (List.take x5 L)).num (List.foldl bPl (k, j) (List.take x5 L)).fst)) ∧ SubB (PV.f (Lf.zn (↑z4.den : Int))) (PV.f (Lf.zn (↑(List.foldl (fun (a : Rat) (e : QE) => a + ofE e) (Rat.divInt a b) (List.take x5 L)).den : Int))) ∧ SubB (PV.f (Lf.zd (↑z4.den : Int) ((List.foldl bPl (k, j) (List.take z2 L)).snd + ((L.getD (↑z2 : Int).toNat ((false, [], 0), false, [], 0)).snd.snd.snd + 3) + 20))) (PV.f (Lf.zd (↑(List.foldl (fun (a : Rat) (e : QE) => a + ofE e) (Rat.divInt a b) (List.take x5 L)).den : Int) (List.foldl bPl (k, j) (List.take x5 L)).snd)) ∧ True) ∧ (SubB (PV.f (Lf.v (Value.bool false))) (PV.f (Lf.v (Value.bool false))) ∧ SubB (PV.f (Lf.v (Value.slice none 0 0))) (PV.f (Lf.v (Value.slice none 0 0))) ∧ SubB (PV.f (Lf.v (Value.bool false))) (PV.f (Lf.v (Value.bool false))) ∧ SubB (PV.f (Lf.v (Value.slice none 0 0))) (PV.f (Lf.v (Value.slice none 0 0))) ∧ True) ∧ True) ∧ SubB (PV.f (Lf.v (Value.func (Fn.func 80) #[] #[]))) (PV.f (Lf.v (Value.func (Fn.func 80) #[] #[]))) ∧ SubB (PV.bp 0 0) (PV.bp 0 0) ∧ SubB (PV.bp 1 0) (PV.bp 1 0) ∧ SubB (PV.f (Lf.qs L)) (PV.f (Lf.qs L)) ∧ SubB (PV.f (Lf.v (Value.int IntKind.i64 (↑L.length : Int)))) (PV.f (Lf.v (Value.int IntKind.i64 (↑L.length : Int)))) ∧ SubB (PV.f (Lf.v (Value.int IntKind.i64 (IntKind.i64.wrap ((↑z2 : Int) + (1 : Int)))))) (PV.f (Lf.v (Value.int IntKind.i64 (↑x5 : Int)))) ∧ True) ∧ x5 ≤ L.length ∧ True ∧ (L.length - x5).succ.le (L.length - z2)) (true = true ∧ Sub (PV.agg [PV.f (Lf.zn (List.foldl (fun (a : Rat) (e : QE) => a + ofE e) (Rat.divInt a b) (List.take z2 L)).num), PV.f (Lf.zd (List.foldl (fun (a : Rat) (e : QE) => a + ofE e) (Rat.divInt a b) (List.take z2 L)).num (List.foldl bPl (k, j) (List.take z2 L)).fst), PV.f (Lf.zn (↑(List.foldl (fun (a : Rat) (e : QE) => a + ofE e) (Rat.divInt a b) (List.take z2 L)).den : Int)), PV.f (Lf.zd (↑(List.foldl (fun (a : Rat) (e : QE) => a + ofE e) (Rat.divInt a b) (List.take z2 L)).den : Int) (List.foldl bPl (k, j) (List.take z2 L)).snd)]) (PV.agg [PV.f (Lf.zn (List.foldl (fun (a : Rat) (e : QE) => a + ofE e) (Rat.divInt a b) L).num), PV.f (Lf.zd (List.foldl (fun (a : Rat) (e : QE) => a + ofE e) (Rat.divInt a b) L).num (List.foldl bPl (k, j) L).fst), PV.f (Lf.zn (↑(List.foldl (fun (a : Rat) (e : QE) => a + ofE e) (Rat.divInt a b) L).den : Int)), PV.f (Lf.zd (↑(List.foldl (fun (a : Rat) (e : QE) => a + ofE e) (Rat.divInt a b) L).den : Int) (List.foldl bPl (k, j) L).snd)]))) (by kernel_rfl) ?_
      refine ⟨?x0, ⟨⟨⟨⟨?m0, ⟨?m1, ⟨?m2, ⟨?m3, trivial⟩⟩⟩⟩, ⟨⟨.refl _, ⟨.refl _, ⟨.refl _, ⟨.refl _, trivial⟩⟩⟩⟩, trivial⟩⟩, ⟨.refl _, ⟨.refl _, ⟨.refl _, ⟨.refl _, ⟨?m4, ⟨?m5, trivial⟩⟩⟩⟩⟩⟩⟩, ⟨?s0, ⟨trivial, fun z2 => fun hq0 => fun _ => ifB_iff.2 ⟨fun hb1 => ⟨?s1, ⟨?s2, fun z3 => fun hz3 => ⟨?s3, fun z4 => fun hz4 => ⟨?x1, ⟨⟨⟨⟨?m6, ⟨?m7, ⟨?m8, ⟨?m9, trivial⟩⟩⟩⟩, ⟨⟨.refl _, ⟨.refl _, ⟨.refl _, ⟨.refl _, trivial⟩⟩⟩⟩, trivial⟩⟩, ⟨.refl _, ⟨.refl _, ⟨.refl _, ⟨.refl _, ⟨.refl _, ⟨?m10, trivial⟩⟩⟩⟩⟩⟩⟩, ⟨?s4, ⟨trivial, ?m11⟩⟩⟩⟩⟩⟩⟩, fun hb1 => ⟨rfl, ?m12⟩⟩⟩⟩⟩⟩
      case x0 => exact 0
      case x1 => exact z2 + 1
      all_goals (try simp only [zV_digs, Int.toNat_natCast, decide_eq_true_eq, Rat.num_divInt_den] at *)
      case m0 => exact subB_zn rfl
      case m1 => exact subB_zd rfl (Nat.le_refl _)
      case m2 => exact subB_zn rfl
      case m3 => exact subB_zd rfl (Nat.le_refl _)
      case m4 => exact .refl _
      case m5 => exact subB_int rfl
      case s0 => exact Nat.zero_le _
      case s1 => omega
      case s2 => obtain ⟨h3, h4, -⟩ := key z2 (by omega); exact ⟨by omega, by omega⟩
      case s3 => obtain ⟨h3, h4, h5, h6, -⟩ := key z2 (by omega); exact ⟨by omega, by omega, by omega, by omega, hden _, hden _⟩
      case m6 =>
        obtain ⟨-, -, -, -, h7⟩ := key z2 (by omega)
        rw [foldl_take _ _ L ((false, [], 0), (false, [], 0)) (by omega : z2 < L.length), hz4, hz3]
        exact .refl _
      case m7 =>
        obtain ⟨-, -, -, -, h7⟩ := key z2 (by omega)
        rw [h7, foldl_take _ _ L ((false, [], 0), (false, [], 0)) (by omega : z2 < L.length), hz4, hz3]
        exact subB_zd rfl (by unfold bPl; dsimp only; omega)
      case m8 =>
        obtain ⟨-, -, -, -, h7⟩ := key z2 (by omega)
        rw [foldl_take _ _ L ((false, [], 0), (false, [], 0)) (by omega : z2 < L.length), hz4, hz3]
        exact .refl _
      case m9 =>
        obtain ⟨-, -, -, -, h7⟩ := key z2 (by omega)
        rw [h7, foldl_take _ _ L ((false, [], 0), (false, [], 0)) (by omega : z2 < L.length), hz4, hz3]
        exact subB_zd rfl (by unfold bPl; dsimp only; omega)
      case m10 => exact subB_int (by rw [wrapI _ (by omega)]; rfl)
      case s4 => omega
      case m11 => show L.length - (z2 + 1) < L.length - z2; omega
      case m12 =>
        rw [decide_eq_false_iff_not] at hb1
        obtain rfl : z2 = L.length := by omega
        rw [List.take_length]
        exact .refl _
    · cases hs
  · cases hs
end

end Go.Proofs.YtjfncepmpabcnaaGreatDoor

namespace Go.Proofs.YtjfncepmpabcnaaGreatDoor
open Go.RowKit
set_option linter.unusedVariables false
set_option maxRecDepth 100000

theorem nil_right : rightQ false [] false [] = false := by decide
theorem takeQ_nil : takeQ false [] false [] = 0 := takeQ_no nil_right
theorem rightQ_canon (r : Rat) : rightQ (zNeg r.num) (digs 1000000000 r.num.natAbs) (zNeg r.den) (digs 1000000000 (r.den : Int).natAbs) = true := by
  unfold rightQ
  have h := r.den_pos
  rw [rightZ_of, rightZ_of, zV_digs, zV_digs, decide_eq_true (by omega), decide_eq_true]
  · rfl
  · unfold gcd2
    have := r.reduced
    rw [Int.natAbs_natCast]
    exact congrArg Int.ofNat this
theorem takeQ_canon (r : Rat) : takeQ (zNeg r.num) (digs 1000000000 r.num.natAbs) (zNeg r.den) (digs 1000000000 (r.den : Int).natAbs) = r := by
  unfold takeQ
  rw [rightQ_canon]
  dsimp only
  rw [zV_digs, zV_digs, Rat.num_divInt_den]
theorem den0 (q : Rat) : (q.den : Int) ≠ 0 := by have := q.den_pos; omega
theorem takeQ_one (n : Bool) (l : List Nat) : takeQ n l (zNeg 1) (digs 1000000000 (Int.natAbs 1)) = (match rightZ n l with | true => ((zV n l : Int) : Rat) | false => 0) := by
  have h1 := rightZ_of 1
  have h2 := zV_digs 1
  unfold takeQ rightQ
  rw [h1, h2]
  have h3 : gcd2 (zV n l) 1 = 1 := by unfold gcd2; simp
  rw [h3]
  cases rightZ n l
  · rfl
  · show Rat.divInt (zV n l) 1 = _
    have := Rat.num_divInt_den ((zV n l : Int) : Rat)
    rw [Rat.num_intCast, Rat.den_intCast] at this
    exact this
/-- An api.Ratio, and an error. -/
def sAddQ (op : Rat → Rat → Rat) (q0 : Rat) (b0 : Nat × Nat) (bn : Nat × Nat → QE → Nat × Nat) : Spec
  | [.f y] => match sliceQ y with
    | some L => some (some ((L.foldl bn b0).1 ≤ 1900 ∧ (L.foldl bn b0).2 ≤ 1900 ∧ L.length ≤ 1000000), .nm Rat (L.foldl (fun a e => op a (ofE e)) q0) fun r => qP r (L.foldl bn b0).1 (L.foldl bn b0).2)
    | none => none
  | _ => none
def sNegQ : Spec
  | [x] => match pvQ x with
    | some (((n, l), k, _), ((n', l'), k', _)) => some (some (k ≤ 1900 ∧ k' ≤ 1900), .nm Rat (-(takeQ n l n' l')) fun r => qP r (k + 3) (k' + 3))
    | none => none
  | _ => none
def sWhole : Spec
  | [x] => match pvR x with
    | some ((n, l), k, _) => some (some (k ≤ 1900), .nm Rat (match rightZ n l with | true => ((zV n l : Int) : Rat) | false => 0) fun r => qP r (k + 3) 6)
    | none => none
  | _ => none
def sCmpQ : Spec
  | [x, y] => match pvQ x, pvQ y with
    | some (((n, l), k, _), ((n', l'), k', _)), some (((m, u), i, _), ((m', u'), i', _)) => some (some (k ≤ 1900 ∧ k' ≤ 1900 ∧ i ≤ 1900 ∧ i' ≤ 1900),
        .one (.f (.v (.int .i64 (cmpI ((takeQ n l n' l').num * (takeQ m u m' u').den) ((takeQ m u m' u').num * (takeQ n l n' l').den))))))
    | _, _ => none
  | _ => none
def sFloor : Spec
  | [x] => match pvQ x with
    | some (((n, l), k, _), ((n', l'), k', _)) => some (some (k ≤ 1900 ∧ k' ≤ 1900), .nm Int (takeQ n l n' l').floor fun z => zP z (k + 4))
    | none => none
  | _ => none
/-- A ratio's text. -/
def textQ (r : Rat) : List UInt8 := if (r.den : Int) = 1 then zText r.num else zText r.num ++ 47 :: zText r.den
def sTextQ : Spec
  | [x] => match pvQ x with
    | some (((n, l), k, _), ((n', l'), k', _)) => some (some (k ≤ 1900 ∧ k' ≤ 1900 ∧ (zText (takeQ n l n' l').num).length ≤ 1000000 ∧ (zText (takeQ n l n' l').den).length ≤ 1000000), .one (.f (.v (.string ⟨(textQ (takeQ n l n' l')).toArray⟩))))
    | none => none
  | _ => none
def sSubQ : Spec
  | [x, y] => match pvQ x, pvQ y with
    | some (((n, l), k, _), ((n', l'), k', _)), some (((m, u), i, _), ((m', u'), i', _)) => some (some (k ≤ 300 ∧ k' ≤ 300 ∧ i ≤ 300 ∧ i' ≤ 300),
        .nm Rat (takeQ n l n' l' - takeQ m u m' u') fun r => qP r (k + 2 * k' + i + 2 * i' + 150) (k' + i' + 100))
    | _, _ => none
  | _ => none
section
variable {E : World → Hp → Prop} (hU : Up E)
include hU
theorem cAddQ : Contract Tryz.prog E 27 (sAddQ (fun a b => a + b) 0 (3, 3) bPl) := by
  refine contract_plain [(73, sOfQ), (79, sFold 80 (fun a b => a + b) bPl)] Tryz.ntmps27 Tryz.func27 (by kernel_rfl) (by kernel_rfl) hU ⟨cOfQ hU, cFoldP hU, trivial⟩ ?_
  intro xs p r hs hp
  unfold sAddQ at hs
  split at hs
  · rename_i y
    split at hs
    · rename_i L hy
      cases hs
      obtain ⟨hk, hj, hL⟩ := hp _ rfl
      refine ⟨[.f (.qs L)], .cons (sub_qs hy) .nil, rfl, ?_⟩
      refine cast_rfl (p := (0 ≤ 8700 ∧ 0 ≤ 8700) ∧ ∀ (z1 : Rat), z1 = takeQ false [] false [] → (z1.num = z1.num ∧ (↑z1.den : Int) = (↑z1.den : Int) ∧ (Rat.divInt z1.num (↑z1.den : Int)).num = z1.num ∧ (↑(Rat.divInt z1.num (↑z1.den : Int)).den : Int) = (↑z1.den : Int) ∧ (List.foldl bPl (0 + 3, 0 + 3) L).fst ≤ 1900 ∧ (List.foldl bPl (0 + 3, 0 + 3) L).snd ≤ 1900 ∧ L.length ≤ 1000000) ∧ ∀ (z2 : Rat), z2 = List.foldl (fun (a : Rat) (e : QE) => a + ofE e) (Rat.divInt z1.num (↑z1.den : Int)) L → true = true ∧ Sub (PV.agg [PV.f (Lf.zn z2.num), PV.f (Lf.zd z2.num (List.foldl bPl (0 + 3, 0 + 3) L).fst), PV.f (Lf.zn (↑z2.den : Int)), PV.f (Lf.zd (↑z2.den : Int) (List.foldl bPl (0 + 3, 0 + 3) L).snd)]) (PV.agg [PV.f (Lf.zn (List.foldl (fun (a : Rat) (e : QE) => a + ofE e) (0 : Rat) L).num), PV.f (Lf.zd (List.foldl (fun (a : Rat) (e : QE) => a + ofE e) (0 : Rat) L).num (List.foldl bPl (3, 3) L).fst), PV.f (Lf.zn (↑(List.foldl (fun (a : Rat) (e : QE) => a + ofE e) (0 : Rat) L).den : Int)), PV.f (Lf.zd (↑(List.foldl (fun (a : Rat) (e : QE) => a + ofE e) (0 : Rat) L).den : Int) (List.foldl bPl (3, 3) L).snd)])) (by kernel_rfl) ?_
      refine ⟨?s0, fun z1 => fun hz1 => ⟨?s1, fun z2 => fun hz2 => ⟨rfl, ?m0⟩⟩⟩
      case s0 => exact ⟨by decide, by decide⟩
      case s1 => exact ⟨rfl, rfl, by rw [Rat.num_divInt_den], by rw [Rat.num_divInt_den], hk, hj, hL⟩
      case m0 =>
        subst hz1 hz2
        rw [Rat.num_divInt_den, takeQ_nil]
        exact .refl _
    · cases hs
  · cases hs
theorem cNegQ : Contract Tryz.prog E 40 sNegQ := by
  refine contract_plain [(73, sOfQ), (91, sNeg)] Tryz.ntmps40 Tryz.func40 (by kernel_rfl) (by kernel_rfl) hU ⟨cOfQ hU, (cNeg hU), trivial⟩ ?_
  intro xs p r hs hp
  unfold sNegQ at hs
  split at hs
  · rename_i x
    split at hs
    · rename_i n l k j n' l' k' j' hx
      cases hs
      obtain ⟨hk, hk'⟩ := hp _ rfl
      refine ⟨[rawQ n l k n' l' k'], .cons (sub_rawQ hx) .nil, rfl, ?_⟩
      refine cast_rfl (p := (k ≤ 8700 ∧ k' ≤ 8700) ∧ ∀ (z1 : Rat), z1 = takeQ n l n' l' → k + 3 ≤ 100000 ∧ ∀ (z2 : Int), z2 = -zV (zNeg z1.num) (digs 1000000000 z1.num.natAbs) → true = true ∧ Sub (PV.agg [PV.f (Lf.zn z2), PV.f (Lf.zd z2 (k + 3)), PV.f (Lf.zn (↑z1.den : Int)), PV.f (Lf.zd (↑z1.den : Int) (k' + 3))]) (PV.agg [PV.f (Lf.zn (-takeQ n l n' l').num), PV.f (Lf.zd (-takeQ n l n' l').num (k + 3)), PV.f (Lf.zn (↑(-takeQ n l n' l').den : Int)), PV.f (Lf.zd (↑(-takeQ n l n' l').den : Int) (k' + 3))])) (by kernel_rfl) ?_
      refine ⟨?s0, fun z1 => fun hz1 => ⟨?s1, fun z2 => fun hz2 => ⟨rfl, ?m0⟩⟩⟩
      case s0 => omega
      case s1 => omega
      case m0 =>
        subst hz1 hz2
        rw [zV_digs]
        exact Subl.agg (.zd (by rw [Rat.neg_num]) (by omega) (.zd (by rw [Rat.neg_den]) (by omega) .nil))
    · cases hs
  · cases hs
theorem cWhole : Contract Tryz.prog E 28 sWhole := by
  refine contract_plain [(73, sOfQ), (72, sOne)] Tryz.ntmps28 Tryz.func28 (by kernel_rfl) (by kernel_rfl) hU ⟨cOfQ hU, cOne hU, trivial⟩ ?_
  intro xs p r hs hp
  unfold sWhole at hs
  split at hs
  · rename_i x
    split at hs
    · rename_i n l k j hx
      cases hs
      have hk := hp _ rfl
      refine ⟨[rawP n l k], .cons (sub_raw hx) .nil, rfl, ?_⟩
      refine cast_rfl (p := (k ≤ 8700 ∧ 3 ≤ 8700) ∧ ∀ (z1 : Rat), z1 = takeQ n l (zNeg (1 : Int)) (digs 1000000000 (Int.natAbs (1 : Int))) → true = true ∧ Sub (PV.agg [PV.f (Lf.zn z1.num), PV.f (Lf.zd z1.num (k + 3)), PV.f (Lf.zn (↑z1.den : Int)), PV.f (Lf.zd (↑z1.den : Int) 6)]) (PV.agg [PV.f (Lf.zn (match rightZ n l with | true => (↑(zV n l) : Rat) | false => (0 : Rat)).num), PV.f (Lf.zd (match rightZ n l with | true => (↑(zV n l) : Rat) | false => (0 : Rat)).num (k + 3)), PV.f (Lf.zn (↑(match rightZ n l with | true => (↑(zV n l) : Rat) | false => (0 : Rat)).den : Int)), PV.f (Lf.zd (↑(match rightZ n l with | true => (↑(zV n l) : Rat) | false => (0 : Rat)).den : Int) 6)])) (by kernel_rfl) ?_
      refine ⟨?s0, fun z1 => fun hz1 => ⟨rfl, ?m0⟩⟩
      case s0 => omega
      case m0 =>
        subst hz1
        rw [takeQ_one]
        exact .refl _
    · cases hs
  · cases hs
theorem cCmpQ : Contract Tryz.prog E 26 sCmpQ := by
  refine contract_plain [(73, sOfQ), (15, sMul), (70, sCmp)] Tryz.ntmps26 Tryz.func26 (by kernel_rfl) (by kernel_rfl) hU ⟨cOfQ hU, (cMul hU), (cCmp hU), trivial⟩ ?_
  intro xs p r hs hp
  unfold sCmpQ at hs
  split at hs
  · rename_i x y
    split at hs
    · rename_i n l k j n' l' k' j' m u i _ m' u' i' _ hx hy
      cases hs
      obtain ⟨hk, hk', hi, hi'⟩ := hp _ rfl
      refine ⟨[rawQ n l k n' l' k', rawQ m u i m' u' i'], .cons (sub_rawQ hx) (.cons (sub_rawQ hy) .nil), rfl, ?_⟩
      refine cast_rfl (p := (k ≤ 8700 ∧ k' ≤ 8700) ∧ ∀ (z1 : Rat), z1 = takeQ n l n' l' → (i ≤ 8700 ∧ i' ≤ 8700) ∧ ∀ (z2 : Rat), z2 = takeQ m u m' u' → k + 3 + 2 + (i' + 3 + 2 + 0) ≤ 20000 ∧ ∀ (z3 : Int), z3 = (1 : Int) * zV (zNeg z1.num) (digs 1000000000 z1.num.natAbs) * zV (zNeg (↑z2.den : Int)) (digs 1000000000 (↑z2.den : Int).natAbs) → i + 3 + 2 + (k' + 3 + 2 + 0) ≤ 20000 ∧ ∀ (z4 : Int), z4 = (1 : Int) * zV (zNeg z2.num) (digs 1000000000 z2.num.natAbs) * zV (zNeg (↑z1.den : Int)) (digs 1000000000 (↑z1.den : Int).natAbs) → 1 + (k + 3) + (i' + 3) + (1 + (i + 3) + (k' + 3)) ≤ 90000 ∧ true = true ∧ Sub (PV.f (Lf.v (Value.int IntKind.i64 (cmpI (zV (zNeg z3) (digs 1000000000 z3.natAbs)) (zV (zNeg z4) (digs 1000000000 z4.natAbs)))))) (PV.f (Lf.v (Value.int IntKind.i64 (cmpI ((takeQ n l n' l').num * (↑(takeQ m u m' u').den : Int)) ((takeQ m u m' u').num * (↑(takeQ n l n' l').den : Int))))))) (by kernel_rfl) ?_
      refine ⟨?s0, fun z1 => fun hz1 => ⟨?s1, fun z2 => fun hz2 => ⟨?s2, fun z3 => fun hz3 => ⟨?s3, fun z4 => fun hz4 => ⟨?s4, ⟨rfl, ?m0⟩⟩⟩⟩⟩⟩
      all_goals (try simp only [zV_digs, Int.one_mul] at *)
      case s0 => omega
      case s1 => omega
      case s2 => omega
      case s3 => omega
      case s4 => omega
      case m0 =>
        subst hz1 hz2 hz3 hz4
        exact .refl _
    · cases hs
  · cases hs
theorem cFloor : Contract Tryz.prog E 29 sFloor := by
  refine contract_plain [(73, sOfQ), (50, sDiv)] Tryz.ntmps29 Tryz.func29 (by kernel_rfl) (by kernel_rfl) hU ⟨cOfQ hU, (cDiv hU), trivial⟩ ?_
  intro xs p r hs hp
  unfold sFloor at hs
  split at hs
  · rename_i x
    split at hs
    · rename_i n l k j n' l' k' j' hx
      cases hs
      obtain ⟨hk, hk'⟩ := hp _ rfl
      refine ⟨[rawQ n l k n' l' k'], .cons (sub_rawQ hx) .nil, rfl, ?_⟩
      refine cast_rfl (p := (k ≤ 8700 ∧ k' ≤ 8700) ∧ ∀ (z1 : Rat), z1 = takeQ n l n' l' → (k + 3 + 2 * (k' + 3) ≤ 44000 ∧ zV (zNeg (↑z1.den : Int)) (digs 1000000000 (↑z1.den : Int).natAbs) ≠ (0 : Int)) ∧ ∀ (z2 : Int), z2 = (zV (zNeg z1.num) (digs 1000000000 z1.num.natAbs)).fdiv (zV (zNeg (↑z1.den : Int)) (digs 1000000000 (↑z1.den : Int).natAbs)) → ∀ (z3 : Int), z3 = (zV (zNeg z1.num) (digs 1000000000 z1.num.natAbs)).fmod (zV (zNeg (↑z1.den : Int)) (digs 1000000000 (↑z1.den : Int).natAbs)) → true = true ∧ Sub (PV.agg [PV.f (Lf.zn z2), PV.f (Lf.zd z2 (k + 3 + 1))]) (PV.agg [PV.f (Lf.zn (takeQ n l n' l').floor), PV.f (Lf.zd (takeQ n l n' l').floor (k + 4))])) (by kernel_rfl) ?_
      refine ⟨?s0, fun z1 => fun hz1 => ⟨?s1, fun z2 => fun hz2 => fun z3 => fun hz3 => ⟨rfl, ?m0⟩⟩⟩
      case s0 => omega
      case s1 => rw [zV_digs]; exact ⟨by omega, den0 _⟩
      case m0 =>
        subst hz1 hz2
        rw [zV_digs, zV_digs]
        refine Subl.agg (.zd ?_ (by omega) .nil)
        rw [Rat.floor_def, Int.fdiv_eq_ediv_of_nonneg _ (by omega)]
    · cases hs
  · cases hs
theorem cSubQ : Contract Tryz.prog E 30 sSubQ := by
  refine contract_plain [(40, sNegQ), (27, sAddQ (fun a b => a + b) 0 (3, 3) bPl)] Tryz.ntmps30 Tryz.func30 (by kernel_rfl) (by kernel_rfl) hU ⟨cNegQ hU, cAddQ hU, trivial⟩ ?_
  intro xs p r hs hp
  unfold sSubQ at hs
  split at hs
  · rename_i x y
    split at hs
    · rename_i n l k j n' l' k' j' m u i _ m' u' i' _ hx hy
      cases hs
      obtain ⟨hk, hk', hi, hi'⟩ := hp _ rfl
      refine ⟨[rawQ n l k n' l' k', rawQ m u i m' u' i'], .cons (sub_rawQ hx) (.cons (sub_rawQ hy) .nil), rfl, ?_⟩
      refine cast_rfl (p := (i ≤ 1900 ∧ i' ≤ 1900) ∧ ∀ (z1 : Rat), z1 = -takeQ m u m' u' → ((List.foldl bPl (3, 3) [((n, l, k), n', l', k'), ((zNeg z1.num, digs 1000000000 z1.num.natAbs, i + 3), zNeg (↑z1.den : Int), digs 1000000000 (↑z1.den : Int).natAbs, i' + 3)]).fst ≤ 1900 ∧ (List.foldl bPl (3, 3) [((n, l, k), n', l', k'), ((zNeg z1.num, digs 1000000000 z1.num.natAbs, i + 3), zNeg (↑z1.den : Int), digs 1000000000 (↑z1.den : Int).natAbs, i' + 3)]).snd ≤ 1900 ∧ 2 ≤ 1000000) ∧ ∀ (z2 : Rat), z2 = List.foldl (fun (a : Rat) (e : QE) => a + ofE e) (0 : Rat) [((n, l, k), n', l', k'), ((zNeg z1.num, digs 1000000000 z1.num.natAbs, i + 3), zNeg (↑z1.den : Int), digs 1000000000 (↑z1.den : Int).natAbs, i' + 3)] → true = true ∧ Sub (PV.agg [PV.f (Lf.zn z2.num), PV.f (Lf.zd z2.num (List.foldl bPl (3, 3) [((n, l, k), n', l', k'), ((zNeg z1.num, digs 1000000000 z1.num.natAbs, i + 3), zNeg (↑z1.den : Int), digs 1000000000 (↑z1.den : Int).natAbs, i' + 3)]).fst), PV.f (Lf.zn (↑z2.den : Int)), PV.f (Lf.zd (↑z2.den : Int) (List.foldl bPl (3, 3) [((n, l, k), n', l', k'), ((zNeg z1.num, digs 1000000000 z1.num.natAbs, i + 3), zNeg (↑z1.den : Int), digs 1000000000 (↑z1.den : Int).natAbs, i' + 3)]).snd)]) (PV.agg [PV.f (Lf.zn (takeQ n l n' l' - takeQ m u m' u').num), PV.f (Lf.zd (takeQ n l n' l' - takeQ m u m' u').num (k + 2 * k' + i + 2 * i' + 150)), PV.f (Lf.zn (↑(takeQ n l n' l' - takeQ m u m' u').den : Int)), PV.f (Lf.zd (↑(takeQ n l n' l' - takeQ m u m' u').den : Int) (k' + i' + 100))])) (by kernel_rfl) ?_
      refine ⟨?s0, fun z1 => fun hz1 => ⟨?s1, fun z2 => fun hz2 => ⟨rfl, ?m0⟩⟩⟩
      case s0 => omega
      case s1 => simp only [List.foldl_cons, List.foldl_nil, bPl]; omega
      case m0 =>
        subst hz1 hz2
        have e : List.foldl (fun a e => a + ofE e) (0 : Rat) [((n, l, k), n', l', k'), ((zNeg (-takeQ m u m' u').num, digs 1000000000 (-takeQ m u m' u').num.natAbs, i + 3), zNeg ((-takeQ m u m' u').den : Int), digs 1000000000 ((-takeQ m u m' u').den : Int).natAbs, i' + 3)] = takeQ n l n' l' - takeQ m u m' u' := by
          simp only [List.foldl_cons, List.foldl_nil, ofE]
          rw [takeQ_canon, Rat.zero_add, Rat.sub_eq_add_neg]
        rw [e]
        simp only [List.foldl_cons, List.foldl_nil, bPl]
        exact Subl.agg (.zd rfl (by omega) (.zd rfl (by omega) .nil))
    · cases hs
  · cases hs
end
theorem cTextQ : Contract Tryz.prog EZ 32 sTextQ := by
  refine contract_plain [(73, sOfQ), (72, sOne), (70, sCmp), (48, sText)] Tryz.ntmps32 Tryz.func32 (by kernel_rfl) (by kernel_rfl) EZ.up ⟨cOfQ EZ.up, cOne EZ.up, (cCmp EZ.up), cText, trivial⟩ ?_
  intro xs p r hs hp
  unfold sTextQ at hs
  split at hs
  · rename_i x
    split at hs
    · rename_i n l k j n' l' k' j' hx
      cases hs
      obtain ⟨hk, hk', ht, ht'⟩ := hp _ rfl
      refine ⟨[rawQ n l k n' l' k'], .cons (sub_rawQ hx) .nil, rfl, ?_⟩
      refine cast_rfl (p := (k ≤ 8700 ∧ k' ≤ 8700) ∧ ∀ (z1 : Rat), z1 = takeQ n l n' l' → k' + 3 + 3 ≤ 90000 ∧ ifB (cmpI (zV (zNeg (↑z1.den : Int)) (digs 1000000000 (↑z1.den : Int).natAbs)) (zV (zNeg (1 : Int)) (digs 1000000000 (Int.natAbs (1 : Int)))) == (0 : Int)) (k + 3 ≤ 90000 ∧ true = true ∧ Sub (PV.f (Lf.v (Value.string (ByteArray.mk (zText (zV (zNeg z1.num) (digs 1000000000 z1.num.natAbs))).toArray)))) (PV.f (Lf.v (Value.string (ByteArray.mk (textQ (takeQ n l n' l')).toArray))))) (k + 3 ≤ 90000 ∧ (↑((ByteArray.mk (zText (zV (zNeg z1.num) (digs 1000000000 z1.num.natAbs))).toArray).size + 1) : Int) ≤ IntKind.i64.max ∧ k' + 3 ≤ 90000 ∧ (↑((ByteArray.mk (zText (zV (zNeg z1.num) (digs 1000000000 z1.num.natAbs))).toArray ++ ByteArray.mk #[(47 : UInt8)]).size + (ByteArray.mk (zText (zV (zNeg (↑z1.den : Int)) (digs 1000000000 (↑z1.den : Int).natAbs))).toArray).size) : Int) ≤ IntKind.i64.max ∧ true = true ∧ Sub (PV.f (Lf.v (Value.string (ByteArray.mk (zText (zV (zNeg z1.num) (digs 1000000000 z1.num.natAbs))).toArray ++ ByteArray.mk #[(47 : UInt8)] ++ ByteArray.mk (zText (zV (zNeg (↑z1.den : Int)) (digs 1000000000 (↑z1.den : Int).natAbs))).toArray)))) (PV.f (Lf.v (Value.string (ByteArray.mk (textQ (takeQ n l n' l')).toArray)))))) (by kernel_rfl) ?_
      refine ⟨?s0, fun z1 => fun hz1 => ⟨?s1, ifB_iff.2 ⟨fun hb0 => ⟨?s2, ⟨rfl, ?m0⟩⟩, fun hb0 => ⟨?s3, ⟨?s4, ⟨?s5, ⟨?s6, ⟨rfl, ?m1⟩⟩⟩⟩⟩⟩⟩⟩
      all_goals (try simp only [zV_digs, cmpI_eq0, decide_eq_true_eq, decide_eq_false_iff_not] at *)
      case s0 => omega
      case s1 => omega
      case s2 => omega
      case s3 => omega
      case s4 => subst hz1; have : IntKind.i64.max = 9223372036854775807 := by decide
                 rw [this]; simp only [ByteArray.size, Array.size]; simp; omega
      case s5 => omega
      case s6 => subst hz1; have : IntKind.i64.max = 9223372036854775807 := by decide
                 rw [this]; simp only [ByteArray.size_append]; simp only [ByteArray.size, Array.size]; simp; omega
      case m0 =>
        subst hz1
        unfold textQ
        rw [if_pos hb0]
        exact .refl _
      case m1 =>
        subst hz1
        unfold textQ
        rw [if_neg hb0]
        have e : ∀ A B : List UInt8, (⟨A.toArray⟩ ++ ⟨#[47]⟩ ++ ⟨B.toArray⟩ : ByteArray) = ⟨(A ++ 47 :: B).toArray⟩ := by
          intro A B
          apply ByteArray.ext
          simp [ByteArray.data_append]
        rw [e]
        exact .refl _
    · cases hs
  · cases hs

end Go.Proofs.YtjfncepmpabcnaaGreatDoor

namespace Go.Proofs.YtjfncepmpabcnaaGreatDoor
open Go.RowKit
set_option linter.unusedVariables false
set_option maxRecDepth 100000

def ofRat (n : Bool) (l : List Nat) (n' : Bool) (l' : List Nat) : Rat := match rightZ n l && rightZ n' l' with | true => Rat.divInt (zV n l) (zV n' l') | false => 0
def ofErr (n : Bool) (l : List Nat) (n' : Bool) (l' : List Nat) : Int := match rightZ n l && rightZ n' l' with | true => (if zV n' l' = 0 then 9 else 0) | false => 2
def sOfN : Spec
  | [x, y] => match pvR x, pvR y with
    | some ((n, l), k, _), some ((n', l'), k', _) => some (some (k ≤ 8700 ∧ k' ≤ 8700), .nm2 Rat Int (ofRat n l n' l') (ofErr n l n' l') fun r e => .tup [qP r (k + 6) (k' + 6), .f (.v (.int .i64 e))])
    | _, _ => none
  | _ => none
def sDivQ : Spec
  | [x, y] => match pvQ x, pvQ y with
    | some (((n, l), k, _), ((n', l'), k', _)), some (((m, u), i, _), ((m', u'), i', _)) => some (some (k ≤ 1900 ∧ k' ≤ 1900 ∧ i ≤ 1900 ∧ i' ≤ 1900),
        .nm2 Rat Int (takeQ n l n' l' / takeQ m u m' u') (if takeQ m u m' u' = 0 then 9 else 0) fun r e => .tup [qP r (k + i' + 30) (k' + i + 30), .f (.v (.int .i64 e))])
    | _, _ => none
  | _ => none
def sSameQ : Spec
  | [x, y] => match pvQ x, pvQ y with
    | some (((n, l), k, _), ((n', l'), k', _)), some (((m, u), i, _), ((m', u'), i', _)) => some (some (k + k' + i + i' ≤ 800000),
        .one (.f (.v (.bool (((n == m) && eqB l u) && ((n' == m') && eqB l' u'))))))
    | _, _ => none
  | _ => none
def fewE (e : QE) : Bool := decide (e.1.2.1.length ≤ 8) && decide (e.2.2.1.length ≤ 8)
def sFew : Spec
  | [.f y] => match sliceQ y with
    | some L => some (some (L.length ≤ 1000000), .one (.f (.v (.bool (L.all fewE && decide (L.length ≤ 6))))))
    | none => none
  | _ => none
theorem sub_tup2 {l m : List PV} {x : PV} (h : Subl l m) : Sub (.tup [.agg l, x]) (.tup [.agg m, x]) := by
  refine ⟨fun H v hv => ?_⟩
  obtain ⟨vs, rfl, h1⟩ := PRs.of_tup hv
  have h2 := h1.1
  match vs, h2 with
  | [u, t], _ =>
    refine .tup rfl fun i v x hv hx => ?_
    match i with
    | 0 => simp at hv hx; subst hv hx; exact h.agg.out _ _ (h1.2 0 _ _ rfl rfl)
    | 1 => simp at hv hx; subst hv hx; exact h1.2 1 _ _ rfl rfl
    | i + 2 => simp at hv
theorem zV_nil : zV false [] = 0 := rfl
theorem ofRat_canon (a b : Int) : ofRat (zNeg a) (digs 1000000000 a.natAbs) (zNeg b) (digs 1000000000 b.natAbs) = Rat.divInt a b := by
  unfold ofRat; rw [rightZ_of, rightZ_of, zV_digs, zV_digs]; rfl
theorem ofErr_canon (a b : Int) : ofErr (zNeg a) (digs 1000000000 a.natAbs) (zNeg b) (digs 1000000000 b.natAbs) = if b = 0 then 9 else 0 := by
  unfold ofErr; rw [rightZ_of, rightZ_of, zV_digs]; rfl
theorem div_parts (a b : Rat) : a / b = Rat.divInt (a.num * b.den) (a.den * b.num) := by
  rw [Rat.div_def, Rat.inv_def]
  conv => lhs; arg 1; rw [← Rat.num_divInt_den a]
  rw [Rat.divInt_mul_divInt]
theorem num0 (a : Rat) : a.num = 0 ↔ a = 0 := by
  constructor
  · intro h; have := Rat.num_divInt_den a; rw [h, Rat.zero_divInt] at this; exact this.symm
  · intro h; rw [h]; rfl
theorem few_no {L : List QE} {i : Nat} (h : i < L.length) (hf : fewE (L.getD i ((false, [], 0), (false, [], 0))) = false) : L.all fewE = false := by
  rw [List.all_eq_false]
  refine ⟨L[i], List.getElem_mem h, ?_⟩
  rw [List.getD_eq_getElem?_getD, List.getElem?_eq_getElem h, Option.getD_some] at hf
  rw [hf]; decide
theorem few_step {L : List QE} {i : Nat} (h : i < L.length) (h1 : (L.take i).all fewE = true) (hf : fewE (L.getD i ((false, [], 0), (false, [], 0))) = true) : (L.take (i + 1)).all fewE = true := by
  rw [List.getD_eq_getElem?_getD, List.getElem?_eq_getElem h, Option.getD_some] at hf
  rw [List.take_succ_eq_append_getElem h, List.all_append, h1]
  simp [hf]
section
variable {E : World → Hp → Prop} (hU : Up E)
include hU
theorem cOfN : Contract Tryz.prog E 36 sOfN := by
  refine contract_plain [(77, sRight), (73, sOfQ), (70, sCmp), (84, sReduced)] Tryz.ntmps36 Tryz.func36 (by kernel_rfl) (by kernel_rfl) hU ⟨(cRight hU), cOfQ hU, (cCmp hU), cReduced hU, trivial⟩ ?_
  intro xs p r hs hp
  unfold sOfN at hs
  split at hs
  · rename_i x y
    split at hs
    · rename_i n l k j n' l' k' j' hx hy
      cases hs
      obtain ⟨hk, hk'⟩ := hp _ rfl
      refine ⟨[rawP n l k, rawP n' l' k'], .cons (sub_raw hx) (.cons (sub_raw hy) .nil), rfl, ?_⟩
      refine cast_rfl (p := k ≤ 1000000 ∧ ifB (!rightZ n l) ((0 ≤ 8700 ∧ 0 ≤ 8700) ∧ ∀ (z1 : Rat), z1 = takeQ false [] false [] → true = true ∧ Sub (PV.tup [PV.agg [PV.f (Lf.zn z1.num), PV.f (Lf.zd z1.num 3), PV.f (Lf.zn (↑z1.den : Int)), PV.f (Lf.zd (↑z1.den : Int) 3)], PV.f (Lf.v (Value.int IntKind.i64 (2 : Int)))]) (PV.tup [PV.agg [PV.f (Lf.zn (ofRat n l n' l').num), PV.f (Lf.zd (ofRat n l n' l').num (k + 6)), PV.f (Lf.zn (↑(ofRat n l n' l').den : Int)), PV.f (Lf.zd (↑(ofRat n l n' l').den : Int) (k' + 6))], PV.f (Lf.v (Value.int IntKind.i64 (ofErr n l n' l')))])) (k' ≤ 1000000 ∧ ifB (!rightZ n' l') ((0 ≤ 8700 ∧ 0 ≤ 8700) ∧ ∀ (z1 : Rat), z1 = takeQ false [] false [] → true = true ∧ Sub (PV.tup [PV.agg [PV.f (Lf.zn z1.num), PV.f (Lf.zd z1.num 3), PV.f (Lf.zn (↑z1.den : Int)), PV.f (Lf.zd (↑z1.den : Int) 3)], PV.f (Lf.v (Value.int IntKind.i64 (2 : Int)))]) (PV.tup [PV.agg [PV.f (Lf.zn (ofRat n l n' l').num), PV.f (Lf.zd (ofRat n l n' l').num (k + 6)), PV.f (Lf.zn (↑(ofRat n l n' l').den : Int)), PV.f (Lf.zd (↑(ofRat n l n' l').den : Int) (k' + 6))], PV.f (Lf.v (Value.int IntKind.i64 (ofErr n l n' l')))])) (k' + 0 ≤ 90000 ∧ ifB (cmpI (zV n' l') (zV false []) == (0 : Int)) ((0 ≤ 8700 ∧ 0 ≤ 8700) ∧ ∀ (z1 : Rat), z1 = takeQ false [] false [] → true = true ∧ Sub (PV.tup [PV.agg [PV.f (Lf.zn z1.num), PV.f (Lf.zd z1.num 3), PV.f (Lf.zn (↑z1.den : Int)), PV.f (Lf.zd (↑z1.den : Int) 3)], PV.f (Lf.v (Value.int IntKind.i64 (9 : Int)))]) (PV.tup [PV.agg [PV.f (Lf.zn (ofRat n l n' l').num), PV.f (Lf.zd (ofRat n l n' l').num (k + 6)), PV.f (Lf.zn (↑(ofRat n l n' l').den : Int)), PV.f (Lf.zd (↑(ofRat n l n' l').den : Int) (k' + 6))], PV.f (Lf.v (Value.int IntKind.i64 (ofErr n l n' l')))])) ((k ≤ 8700 ∧ k' ≤ 8700 ∧ zV n' l' ≠ (0 : Int)) ∧ ∀ (z1 : Rat), z1 = Rat.divInt (zV n l) (zV n' l') → true = true ∧ Sub (PV.tup [PV.agg [PV.f (Lf.zn z1.num), PV.f (Lf.zd z1.num (k + 2)), PV.f (Lf.zn (↑z1.den : Int)), PV.f (Lf.zd (↑z1.den : Int) (k' + 2))], PV.f (Lf.v (Value.int IntKind.i64 (0 : Int)))]) (PV.tup [PV.agg [PV.f (Lf.zn (ofRat n l n' l').num), PV.f (Lf.zd (ofRat n l n' l').num (k + 6)), PV.f (Lf.zn (↑(ofRat n l n' l').den : Int)), PV.f (Lf.zd (↑(ofRat n l n' l').den : Int) (k' + 6))], PV.f (Lf.v (Value.int IntKind.i64 (ofErr n l n' l')))]))))) (by kernel_rfl) ?_
      refine ⟨?s0, ifB_iff.2 ⟨fun hb0 => ⟨?s1, fun z1 => fun hz1 => ⟨rfl, ?m0⟩⟩, fun hb0 => ⟨?s2, ifB_iff.2 ⟨fun hb1 => ⟨?s3, fun z1 => fun hz1 => ⟨rfl, ?m1⟩⟩, fun hb1 => ⟨?s4, ifB_iff.2 ⟨fun hb2 => ⟨?s5, fun z1 => fun hz1 => ⟨rfl, ?m2⟩⟩, fun hb2 => ⟨?s6, fun z1 => fun hz1 => ⟨rfl, ?m3⟩⟩⟩⟩⟩⟩⟩⟩
      all_goals (try simp only [Bool.not_eq_true', Bool.not_eq_false', cmpI_eq0, zV_nil, decide_eq_true_eq, decide_eq_false_iff_not] at *)
      case s0 => omega
      case s1 => exact ⟨by decide, by decide⟩
      case s2 => omega
      case s3 => exact ⟨by decide, by decide⟩
      case s4 => omega
      case s5 => exact ⟨by decide, by decide⟩
      case s6 => exact ⟨hk, hk', hb2⟩
      case m0 =>
        have e1 : ofRat n l n' l' = 0 := by unfold ofRat; rw [hb0]; rfl
        have e2 : ofErr n l n' l' = 2 := by unfold ofErr; rw [hb0]; rfl
        rw [e1, e2, hz1, takeQ_nil]
        exact sub_tup2 (.zd rfl (by omega) (.zd rfl (by omega) .nil))
      case m1 =>
        have e1 : ofRat n l n' l' = 0 := by unfold ofRat; rw [hb0, hb1]; rfl
        have e2 : ofErr n l n' l' = 2 := by unfold ofErr; rw [hb0, hb1]; rfl
        rw [e1, e2, hz1, takeQ_nil]
        exact sub_tup2 (.zd rfl (by omega) (.zd rfl (by omega) .nil))
      case m2 =>
        have e1 : ofRat n l n' l' = 0 := by unfold ofRat; rw [hb0, hb1, hb2]; exact Rat.divInt_zero _
        have e2 : ofErr n l n' l' = 9 := by unfold ofErr; rw [hb0, hb1]; exact if_pos hb2
        rw [e1, e2, hz1, takeQ_nil]
        exact sub_tup2 (.zd rfl (by omega) (.zd rfl (by omega) .nil))
      case m3 =>
        have e1 : ofRat n l n' l' = Rat.divInt (zV n l) (zV n' l') := by unfold ofRat; rw [hb0, hb1]; rfl
        have e2 : ofErr n l n' l' = 0 := by unfold ofErr; rw [hb0, hb1]; exact if_neg hb2
        rw [e1, e2, hz1]
        exact sub_tup2 (.zd rfl (by omega) (.zd rfl (by omega) .nil))
    · cases hs
  · cases hs
theorem cDivQ : Contract Tryz.prog E 34 sDivQ := by
  refine contract_plain [(73, sOfQ), (15, sMul), (36, sOfN)] Tryz.ntmps34 Tryz.func34 (by kernel_rfl) (by kernel_rfl) hU ⟨cOfQ hU, (cMul hU), cOfN hU, trivial⟩ ?_
  intro xs p r hs hp
  unfold sDivQ at hs
  split at hs
  · rename_i x y
    split at hs
    · rename_i n l k j n' l' k' j' m u i _ m' u' i' _ hx hy
      cases hs
      obtain ⟨hk, hk', hi, hi'⟩ := hp _ rfl
      refine ⟨[rawQ n l k n' l' k', rawQ m u i m' u' i'], .cons (sub_rawQ hx) (.cons (sub_rawQ hy) .nil), rfl, ?_⟩
      refine cast_rfl (p := (k ≤ 8700 ∧ k' ≤ 8700) ∧ ∀ (z1 : Rat), z1 = takeQ n l n' l' → (i ≤ 8700 ∧ i' ≤ 8700) ∧ ∀ (z2 : Rat), z2 = takeQ m u m' u' → k + 3 + 2 + (i' + 3 + 2 + 0) ≤ 20000 ∧ ∀ (z3 : Int), z3 = (1 : Int) * zV (zNeg z1.num) (digs 1000000000 z1.num.natAbs) * zV (zNeg (↑z2.den : Int)) (digs 1000000000 (↑z2.den : Int).natAbs) → k' + 3 + 2 + (i + 3 + 2 + 0) ≤ 20000 ∧ ∀ (z4 : Int), z4 = (1 : Int) * zV (zNeg (↑z1.den : Int)) (digs 1000000000 (↑z1.den : Int).natAbs) * zV (zNeg z2.num) (digs 1000000000 z2.num.natAbs) → (1 + (k + 3) + (i' + 3) ≤ 8700 ∧ 1 + (k' + 3) + (i + 3) ≤ 8700) ∧ ∀ (z5 : Rat), z5 = ofRat (zNeg z3) (digs 1000000000 z3.natAbs) (zNeg z4) (digs 1000000000 z4.natAbs) → ∀ (z6 : Int), z6 = ofErr (zNeg z3) (digs 1000000000 z3.natAbs) (zNeg z4) (digs 1000000000 z4.natAbs) → true = true ∧ Sub (PV.tup [PV.agg [PV.f (Lf.zn z5.num), PV.f (Lf.zd z5.num (1 + (k + 3) + (i' + 3) + 6)), PV.f (Lf.zn (↑z5.den : Int)), PV.f (Lf.zd (↑z5.den : Int) (1 + (k' + 3) + (i + 3) + 6))], PV.f (Lf.v (Value.int IntKind.i64 z6))]) (PV.tup [PV.agg [PV.f (Lf.zn (takeQ n l n' l' / takeQ m u m' u').num), PV.f (Lf.zd (takeQ n l n' l' / takeQ m u m' u').num (k + i' + 30)), PV.f (Lf.zn (↑(takeQ n l n' l' / takeQ m u m' u').den : Int)), PV.f (Lf.zd (↑(takeQ n l n' l' / takeQ m u m' u').den : Int) (k' + i + 30))], PV.f (Lf.v (Value.int IntKind.i64 (if takeQ m u m' u' = (0 : Rat) then (9 : Int) else (0 : Int))))])) (by kernel_rfl) ?_
      refine ⟨?s0, fun z1 => fun hz1 => ⟨?s1, fun z2 => fun hz2 => ⟨?s2, fun z3 => fun hz3 => ⟨?s3, fun z4 => fun hz4 => ⟨?s4, fun z5 => fun hz5 => fun z6 => fun hz6 => ⟨rfl, ?m0⟩⟩⟩⟩⟩⟩
      case s0 => omega
      case s1 => omega
      case s2 => omega
      case s3 => omega
      case s4 => omega
      case m0 =>
        subst hz1 hz2
        rw [ofRat_canon] at hz5
        rw [ofErr_canon] at hz6
        simp only [zV_digs, Int.one_mul] at hz3 hz4
        subst hz3 hz4
        rw [← div_parts] at hz5
        have e : (((takeQ n l n' l').den : Int) * (takeQ m u m' u').num = 0) = (takeQ m u m' u' = 0) := by
          rw [Int.mul_eq_zero, num0]
          exact propext ⟨fun h => h.resolve_left (den0 _), .inr⟩
        simp only [e] at hz6
        rw [hz5, hz6]
        exact sub_tup2 (.zd rfl (by omega) (.zd rfl (by omega) .nil))
    · cases hs
  · cases hs
theorem cSameQ : Contract Tryz.prog E 76 sSameQ := by
  refine contract_plain [(45, sSame)] Tryz.ntmps76 Tryz.func76 (by kernel_rfl) (by kernel_rfl) hU ⟨cSame, trivial⟩ ?_
  intro xs p r hs hp
  unfold sSameQ at hs
  split at hs
  · rename_i x y
    split at hs
    · rename_i n l k j n' l' k' j' m u i _ m' u' i' _ hx hy
      cases hs
      have hk := hp _ rfl
      refine ⟨[rawQ n l k n' l' k', rawQ m u i m' u' i'], .cons (sub_rawQ hx) (.cons (sub_rawQ hy) .nil), rfl, ?_⟩
      refine cast_rfl (p := k + i ≤ 900000 ∧ ifB (n == m && eqB l u) (k' + i' ≤ 900000 ∧ true = true ∧ Sub (PV.f (Lf.v (Value.bool (n' == m' && eqB l' u')))) (PV.f (Lf.v (Value.bool (n == m && eqB l u && (n' == m' && eqB l' u')))))) (true = true ∧ Sub (PV.f (Lf.v (Value.bool false))) (PV.f (Lf.v (Value.bool (n == m && eqB l u && (n' == m' && eqB l' u'))))))) (by kernel_rfl) ?_
      refine ⟨?s0, ifB_iff.2 ⟨fun hb0 => ⟨?s1, ⟨rfl, ?m0⟩⟩, fun hb0 => ⟨rfl, ?m1⟩⟩⟩
      case s0 => omega
      case s1 => omega
      case m0 => rw [hb0]; exact .refl _
      case m1 => rw [hb0]; exact .refl _
    · cases hs
  · cases hs
theorem cSame3 : Contract Tryz.prog E 23 sSameQ := by
  refine contract_plain [(76, sSameQ)] Tryz.ntmps23 Tryz.func23 (by kernel_rfl) (by kernel_rfl) hU ⟨cSameQ hU, trivial⟩ ?_
  intro xs p r hs hp
  unfold sSameQ at hs
  split at hs
  · rename_i x y
    split at hs
    · rename_i n l k j n' l' k' j' m u i _ m' u' i' _ hx hy
      cases hs
      have hk := hp _ rfl
      refine ⟨[rawQ n l k n' l' k', rawQ m u i m' u' i'], .cons (sub_rawQ hx) (.cons (sub_rawQ hy) .nil), rfl, ?_⟩
      refine cast_rfl (p := k + k' + i + i' ≤ 800000 ∧ true = true ∧ Sub (PV.f (Lf.v (Value.bool (n == m && eqB l u && (n' == m' && eqB l' u'))))) (PV.f (Lf.v (Value.bool (n == m && eqB l u && (n' == m' && eqB l' u')))))) (by kernel_rfl) ?_
      refine ⟨?s0, ⟨rfl, ?m0⟩⟩
      case s0 => omega
      case m0 => exact .refl _
    · cases hs
  · cases hs
theorem cFew : Contract Tryz.prog E 24 sFew := by
  refine contract_loops [] Tryz.ntmps24 Tryz.func24 (by kernel_rfl) (by kernel_rfl) hU trivial ?_
  intro xs p r hs hp
  unfold sFew at hs
  split at hs
  · rename_i y
    split at hs
    · rename_i L hy
      cases hs
      have hL := hp _ rfl
      refine ⟨[.f (.qs L)], [(2, .s ⟨Nat, fun i => ⟨[(0, .f (.qs L)), (3, .f (.v (.int .i64 i)))], []⟩, fun i => i ≤ L.length ∧ (L.take i).all fewE = true, fun i => L.length - i⟩)], .cons (sub_qs hy) .nil, rfl, ?_⟩
      refine cast_rfl (p := ∃ (x1 : Nat), (True ∧ SubB (PV.f (Lf.qs L)) (PV.f (Lf.qs L)) ∧ SubB (PV.f (Lf.v (Value.int IntKind.i64 (0 : Int)))) (PV.f (Lf.v (Value.int IntKind.i64 (↑x1 : Int)))) ∧ True) ∧ (x1 ≤ L.length ∧ (List.take x1 L).all fewE = true) ∧ True ∧ ∀ (z2 : Nat), z2 ≤ L.length ∧ (List.take z2 L).all fewE = true → True → ifB (decide ((↑z2 : Int) < (↑L.length : Int))) (((0 : Int) ≤ (↑z2 : Int) ∧ (↑z2 : Int) < (↑L.length : Int)) ∧ ifB (decide ((↑(L.getD (↑z2 : Int).toNat ((false, [], 0), false, [], 0)).fst.snd.fst.length : Int) > (8 : Int))) (true = true ∧ Sub (PV.f (Lf.v (Value.bool false))) (PV.f (Lf.v (Value.bool (L.all fewE && decide (L.length ≤ 6)))))) (((0 : Int) ≤ (↑z2 : Int) ∧ (↑z2 : Int) < (↑L.length : Int)) ∧ ifB (decide ((↑(L.getD (↑z2 : Int).toNat ((false, [], 0), false, [], 0)).snd.snd.fst.length : Int) > (8 : Int))) (true = true ∧ Sub (PV.f (Lf.v (Value.bool false))) (PV.f (Lf.v (Value.bool (L.all fewE && decide (L.length ≤ 6)))))) (∃ (x3 : Nat), (True ∧ SubB (PV.f (Lf.qs L)) (PV.f (Lf.qs L)) ∧ SubB (PV.f (Lf.v (Value.int IntKind.i64 (IntKind.i64.wrap ((↑z2 : Int) + (1 : Int)))))) (PV.f (Lf.v (Value.int IntKind.i64 (↑x3 : Int)))) ∧ True) ∧ (x3 ≤ L.length ∧ (List.take x3 L).all fewE = true) ∧ True ∧ (L.length - x3).succ.le (L.length - z2)))) (true = true ∧ Sub (PV.f (Lf.v (Value.bool (decide ((↑L.length : Int) ≤ (6 : Int)))))) (PV.f (Lf.v (Value.bool (L.all fewE && decide (L.length ≤ 6))))))) (by kernel_rfl) ?_
      refine ⟨?x0, ⟨⟨trivial, ⟨.refl _, ⟨?m0, trivial⟩⟩⟩, ⟨?s0, ⟨trivial, fun z2 => fun hq0 => fun _ => ifB_iff.2 ⟨fun hb1 => ⟨?s1, ifB_iff.2 ⟨fun hb2 => ⟨rfl, ?m1⟩, fun hb2 => ⟨?s2, ifB_iff.2 ⟨fun hb3 => ⟨rfl, ?m2⟩, fun hb3 => ⟨?x1, ⟨⟨trivial, ⟨.refl _, ⟨?m3, trivial⟩⟩⟩, ⟨?s3, ⟨trivial, ?m4⟩⟩⟩⟩⟩⟩⟩⟩, fun hb1 => ⟨rfl, ?m5⟩⟩⟩⟩⟩⟩
      case x0 => exact 0
      case x1 => exact z2 + 1
      all_goals (try simp only [Int.toNat_natCast, decide_eq_true_eq, decide_eq_false_iff_not] at *)
      case m0 => exact subB_int rfl
      case s0 => exact ⟨Nat.zero_le _, rfl⟩
      case s1 => omega
      case s2 => omega
      case m1 => rw [few_no (i := z2) (by omega) (by unfold fewE; rw [Bool.and_eq_false_iff]; exact .inl (decide_eq_false (by omega)))]; exact .refl _
      case m2 => rw [few_no (i := z2) (by omega) (by unfold fewE; rw [Bool.and_eq_false_iff]; exact .inr (decide_eq_false (by omega)))]; exact .refl _
      case m3 => exact subB_int (by rw [wrapI _ (by omega)]; rfl)
      case s3 => exact ⟨by omega, few_step (by omega) hq0.2 (by unfold fewE; rw [decide_eq_true (by omega), decide_eq_true (by omega)]; rfl)⟩
      case m4 => show L.length - (z2 + 1) < L.length - z2; omega
      case m5 =>
        obtain rfl : z2 = L.length := by omega
        rw [List.take_length] at hq0
        rw [hq0.2, Bool.true_and]
        exact sub_bool (decide_eq_decide.2 (by omega))
    · cases hs
  · cases hs
end

end Go.Proofs.YtjfncepmpabcnaaGreatDoor

namespace Go.Proofs.YtjfncepmpabcnaaGreatDoor
open Go.RowKit
set_option linter.unusedVariables false
set_option maxRecDepth 100000

/-- What is told of the program's variables. -/
def EQ (w : World) (H : Hp) : Prop := EZ w H ∧ ∃ m, w.cell? ⟨0, 0, none⟩ = some (.int .i64 m)
theorem EQ.up : Up EQ := fun w H w' H' he ⟨h, m, hm⟩ => ⟨EZ.up w H w' H' he h, m, (he.bel.cell (p := ⟨0, 0, none⟩) (cell_lt hm)).trans hm⟩
theorem Contract.env {P : Program} {E E' : World → Hp → Prop} {f : FuncId} {sp : Spec} (h : Contract P E f sp) (he : ∀ w H, E' w H → E w H) : Contract P E' f sp :=
  fun xs p r hs hp w H vs hf hE hvs => h xs p r hs hp w H vs hf (he w H hE) hvs
def sCut : Spec
  | [.f (.v (.string s)), .f (.v (.string t))] => some (some (s.size ≤ 1000000), .one (.tup [.f (.v (.string ⟨(Lib.cut s.data.toList t.data.toList).1.toArray⟩)), .f (.v (.string ⟨(Lib.cut s.data.toList t.data.toList).2.1.toArray⟩)), .f (.v (.bool (Lib.cut s.data.toList t.data.toList).2.2))]))
  | _ => none
theorem cCut : Contract Tryz.prog EQ 71 sCut := by
  intro xs p r hs hp w H vs hf hE hvs
  unfold sCut at hs
  split at hs
  · rename_i s t
    cases hs
    have hb := hp _ rfl
    obtain ⟨u, v, rfl, hu, hv⟩ := two_args hvs
    have h1 := hu.val
    have h2 := hv.val
    subst h1 h2
    obtain ⟨-, m, hm⟩ := hE
    refine (Tryz.strings_Cut s t m w (by omega) hm).mono ?_
    rintro e w' ⟨rfl, n, rfl⟩
    refine ⟨H, _, rfl, Ext.below hf (belowN (Below.refl _ _) n), .tup rfl fun i v x hv hx => ?_⟩
    match i with
    | 0 => simp at hv hx; subst hv hx; exact .f (.v _ rfl)
    | 1 => simp at hv hx; subst hv hx; exact .f (.v _ rfl)
    | 2 => simp at hv hx; subst hv hx; exact .f (.v _ rfl)
    | i + 3 => simp at hv
  · cases hs
/-- A ratio's text: its parts; is it one; whose. -/
def cutN (l : List UInt8) : Int := parZ (Lib.cut l [47]).1
def cutD (l : List UInt8) : Int := match (Lib.cut l [47]).2.2 with | true => parZ (Lib.cut l [47]).2.1 | false => 1
def cutOk (l : List UInt8) : Bool := okZ (Lib.cut l [47]).1 && (match (Lib.cut l [47]).2.2 with | true => okZ (Lib.cut l [47]).2.1 | false => true)
def okQ (l : List UInt8) : Bool := cutOk l && (decide (0 < cutD l) && decide (gcd2 (cutN l) (cutD l) = 1)) && (textQ (Rat.divInt (cutN l) (cutD l)) == l)
def parQ (l : List UInt8) : Rat := match okQ l with | true => Rat.divInt (cutN l) (cutD l) | false => 0
theorem rightQ_int (a b : Int) : rightQ (zNeg a) (digs 1000000000 a.natAbs) (zNeg b) (digs 1000000000 b.natAbs) = (decide (0 < b) && decide (gcd2 a b = 1)) := by
  unfold rightQ; rw [rightZ_of, rightZ_of, zV_digs, zV_digs]; rfl
theorem takeQ_int {a b : Int} (h : (decide (0 < b) && decide (gcd2 a b = 1)) = true) : takeQ (zNeg a) (digs 1000000000 a.natAbs) (zNeg b) (digs 1000000000 b.natAbs) = Rat.divInt a b ∧ (Rat.divInt a b).num = a ∧ ((Rat.divInt a b).den : Int) = b := by
  rw [← rightQ_int] at h
  have h1 := takeQ_yes h
  rw [zV_digs, zV_digs] at h1
  have h2 : takeQ (zNeg a) (digs 1000000000 a.natAbs) (zNeg b) (digs 1000000000 b.natAbs) = Rat.divInt a b := by
    unfold takeQ; rw [h, zV_digs, zV_digs]
  rw [h2] at h1
  exact ⟨h2, h1.1, h1.2⟩
theorem cut_len (l t : List UInt8) : (Lib.cut l t).1.length ≤ l.length ∧ (Lib.cut l t).2.1.length ≤ l.length := by
  unfold Lib.cut
  split
  · simp; omega
  · simp
theorem bseqB (l : List UInt8) (s : ByteArray) : ((⟨l.toArray⟩ : ByteArray).toList == s.toList) = (l == s.data.toList) := by
  have e : s = ⟨s.data.toList.toArray⟩ := by simp
  conv => lhs; rw [e]
  rw [bseq _ _ _ rfl, Bool.eq_iff_iff]; simp
theorem fail_sub {l : List UInt8} {k j : Nat} {z : Rat} (h : okQ l = false) (hz : z = takeQ false [] false []) (hk : k ≤ 1010) (hj : j ≤ 1010) : Sub (.tup [.agg [.f (.zn z.num), .f (.zd z.num k), .f (.zn z.den), .f (.zd z.den j)], .f (.v (.bool false))]) (.tup [.agg [.f (.zn (parQ l).num), .f (.zd (parQ l).num 1010), .f (.zn (parQ l).den), .f (.zd (parQ l).den 1010)], .f (.v (.bool (okQ l)))]) := by
  have e : parQ l = 0 := by unfold parQ; rw [h]
  rw [e, h, hz, takeQ_nil]
  exact sub_tup2 (.zd rfl hk (.zd rfl hj .nil))
theorem good_sub {l : List UInt8} {k j : Nat} {a b : Int} (h : okQ l = true) (ha : a = cutN l) (hb : b = cutD l) (hk : k ≤ 1010) (hj : j ≤ 1010) : Sub (.tup [.agg [.f (.zn a), .f (.zd a k), .f (.zn b), .f (.zd b j)], .f (.v (.bool true))]) (.tup [.agg [.f (.zn (parQ l).num), .f (.zd (parQ l).num 1010), .f (.zn (parQ l).den), .f (.zd (parQ l).den 1010)], .f (.v (.bool (okQ l)))]) := by
  have e : parQ l = Rat.divInt a b := by unfold parQ; rw [h, ha, hb]
  unfold okQ at h
  simp only [Bool.and_eq_true] at h
  obtain ⟨-, h1, h2⟩ := takeQ_int (a := cutN l) (b := cutD l) (by rw [Bool.and_eq_true]; exact h.1.2)
  rw [show okQ l = true from by unfold okQ; simp only [Bool.and_eq_true]; exact h, e]
  exact sub_tup2 (.zd (by rw [ha, hb, h1]) hk (.zd (by rw [ha, hb, h2]) hj .nil))
theorem okQ_no1 {l : List UInt8} (h : cutOk l = false) : okQ l = false := by unfold okQ; rw [h]; rfl
theorem okQ_no2 {l : List UInt8} (h : (decide (0 < cutD l) && decide (gcd2 (cutN l) (cutD l) = 1)) = false) : okQ l = false := by unfold okQ; rw [h, Bool.and_false]; rfl
theorem okQ_no3 {l : List UInt8} (h : (textQ (Rat.divInt (cutN l) (cutD l)) == l) = false) : okQ l = false := by unfold okQ; rw [h, Bool.and_false]
theorem okQ_yes {l : List UInt8} (h1 : cutOk l = true) (h2 : (decide (0 < cutD l) && decide (gcd2 (cutN l) (cutD l) = 1)) = true) (h3 : (textQ (Rat.divInt (cutN l) (cutD l)) == l) = true) : okQ l = true := by unfold okQ; rw [h1, h2, h3]; rfl
def sParseQ : Spec
  | [.f (.v (.string s))] => some (some (s.size ≤ 1000), .nm2 Rat Bool (parQ s.data.toList) (okQ s.data.toList) fun r b => .tup [qP r 1010 1010, .f (.v (.bool b))])
  | _ => none
theorem cParseQ : Contract Tryz.prog EQ 21 sParseQ := by
  refine contract_plain [(71, sCut), (51, sParse), (72, sOne), (25, sRightQ), (32, sTextQ), (73, sOfQ)] Tryz.ntmps21 Tryz.func21 (by kernel_rfl) (by kernel_rfl) EQ.up ⟨cCut, (cParse EQ.up), cOne EQ.up, cRightQ EQ.up, cTextQ.env (fun _ _ h => h.1), cOfQ EQ.up, trivial⟩ ?_
  intro xs p r hs hp
  unfold sParseQ at hs
  split at hs
  · rename_i s
    cases hs
    have hb := hp _ rfl
    refine ⟨[.f (.v (.string s))], .cons (.refl _) .nil, rfl, ?_⟩
    have hsz : s.data.toList.length ≤ 1000 := by rw [Array.length_toList]; exact hb
    obtain ⟨hc1, hc2⟩ := cut_len s.data.toList [47]
    have hz1' := parZ_zbk (k := 1000) (Nat.le_trans hc1 hsz)
    have hz2' := parZ_zbk (k := 1000) (Nat.le_trans hc2 hsz)
    have ht1 := zText_len hz1'
    have ht2 := zText_len hz2'
    have ht3 := zText_len (z := 1) (k := 1) ZB.one
    refine cast_rfl (p := s.size ≤ 1000000 ∧ (ByteArray.mk (Lib.cut s.data.toList [(47 : UInt8)]).fst.toArray).size ≤ 1000 ∧ ∀ (z1 : Int), z1 = parZ (Lib.cut s.data.toList [(47 : UInt8)]).fst → ifB (Lib.cut s.data.toList [(47 : UInt8)]).snd.snd ((ByteArray.mk (Lib.cut s.data.toList [(47 : UInt8)]).snd.fst.toArray).size ≤ 1000 ∧ ∀ (z2 : Int), z2 = parZ (Lib.cut s.data.toList [(47 : UInt8)]).snd.fst → ifB (!okZ (Lib.cut s.data.toList [(47 : UInt8)]).fst) ((0 ≤ 8700 ∧ 0 ≤ 8700) ∧ ∀ (z3 : Rat), z3 = takeQ false [] false [] → true = true ∧ Sub (PV.tup [PV.agg [PV.f (Lf.zn z3.num), PV.f (Lf.zd z3.num 3), PV.f (Lf.zn (↑z3.den : Int)), PV.f (Lf.zd (↑z3.den : Int) 3)], PV.f (Lf.v (Value.bool false))]) (PV.tup [PV.agg [PV.f (Lf.zn (parQ s.data.toList).num), PV.f (Lf.zd (parQ s.data.toList).num 1010), PV.f (Lf.zn (↑(parQ s.data.toList).den : Int)), PV.f (Lf.zd (↑(parQ s.data.toList).den : Int) 1010)], PV.f (Lf.v (Value.bool (okQ s.data.toList)))])) (ifB (!okZ (Lib.cut s.data.toList [(47 : UInt8)]).snd.fst) ((0 ≤ 8700 ∧ 0 ≤ 8700) ∧ ∀ (z3 : Rat), z3 = takeQ false [] false [] → true = true ∧ Sub (PV.tup [PV.agg [PV.f (Lf.zn z3.num), PV.f (Lf.zd z3.num 3), PV.f (Lf.zn (↑z3.den : Int)), PV.f (Lf.zd (↑z3.den : Int) 3)], PV.f (Lf.v (Value.bool false))]) (PV.tup [PV.agg [PV.f (Lf.zn (parQ s.data.toList).num), PV.f (Lf.zd (parQ s.data.toList).num 1010), PV.f (Lf.zn (↑(parQ s.data.toList).den : Int)), PV.f (Lf.zd (↑(parQ s.data.toList).den : Int) 1010)], PV.f (Lf.v (Value.bool (okQ s.data.toList)))])) ((1000 ≤ 8700 ∧ 1000 ≤ 8700) ∧ ifB (!rightQ (zNeg z1) (digs 1000000000 z1.natAbs) (zNeg z2) (digs 1000000000 z2.natAbs)) ((0 ≤ 8700 ∧ 0 ≤ 8700) ∧ ∀ (z3 : Rat), z3 = takeQ false [] false [] → true = true ∧ Sub (PV.tup [PV.agg [PV.f (Lf.zn z3.num), PV.f (Lf.zd z3.num 3), PV.f (Lf.zn (↑z3.den : Int)), PV.f (Lf.zd (↑z3.den : Int) 3)], PV.f (Lf.v (Value.bool false))]) (PV.tup [PV.agg [PV.f (Lf.zn (parQ s.data.toList).num), PV.f (Lf.zd (parQ s.data.toList).num 1010), PV.f (Lf.zn (↑(parQ s.data.toList).den : Int)), PV.f (Lf.zd (↑(parQ s.data.toList).den : Int) 1010)], PV.f (Lf.v (Value.bool (okQ s.data.toList)))])) ((1000 ≤ 1900 ∧ 1000 ≤ 1900 ∧ (zText (takeQ (zNeg z1) (digs 1000000000 z1.natAbs) (zNeg z2) (digs 1000000000 z2.natAbs)).num).length ≤ 1000000 ∧ (zText (↑(takeQ (zNeg z1) (digs 1000000000 z1.natAbs) (zNeg z2) (digs 1000000000 z2.natAbs)).den : Int)).length ≤ 1000000) ∧ ifB (!(ByteArray.mk (textQ (takeQ (zNeg z1) (digs 1000000000 z1.natAbs) (zNeg z2) (digs 1000000000 z2.natAbs))).toArray).toList == s.toList) ((0 ≤ 8700 ∧ 0 ≤ 8700) ∧ ∀ (z3 : Rat), z3 = takeQ false [] false [] → true = true ∧ Sub (PV.tup [PV.agg [PV.f (Lf.zn z3.num), PV.f (Lf.zd z3.num 3), PV.f (Lf.zn (↑z3.den : Int)), PV.f (Lf.zd (↑z3.den : Int) 3)], PV.f (Lf.v (Value.bool false))]) (PV.tup [PV.agg [PV.f (Lf.zn (parQ s.data.toList).num), PV.f (Lf.zd (parQ s.data.toList).num 1010), PV.f (Lf.zn (↑(parQ s.data.toList).den : Int)), PV.f (Lf.zd (↑(parQ s.data.toList).den : Int) 1010)], PV.f (Lf.v (Value.bool (okQ s.data.toList)))])) (true = true ∧ Sub (PV.tup [PV.agg [PV.f (Lf.zn z1), PV.f (Lf.zd z1 1000), PV.f (Lf.zn z2), PV.f (Lf.zd z2 1000)], PV.f (Lf.v (Value.bool true))]) (PV.tup [PV.agg [PV.f (Lf.zn (parQ s.data.toList).num), PV.f (Lf.zd (parQ s.data.toList).num 1010), PV.f (Lf.zn (↑(parQ s.data.toList).den : Int)), PV.f (Lf.zd (↑(parQ s.data.toList).den : Int) 1010)], PV.f (Lf.v (Value.bool (okQ s.data.toList)))])))))) (ifB (!okZ (Lib.cut s.data.toList [(47 : UInt8)]).fst) ((0 ≤ 8700 ∧ 0 ≤ 8700) ∧ ∀ (z2 : Rat), z2 = takeQ false [] false [] → true = true ∧ Sub (PV.tup [PV.agg [PV.f (Lf.zn z2.num), PV.f (Lf.zd z2.num 3), PV.f (Lf.zn (↑z2.den : Int)), PV.f (Lf.zd (↑z2.den : Int) 3)], PV.f (Lf.v (Value.bool false))]) (PV.tup [PV.agg [PV.f (Lf.zn (parQ s.data.toList).num), PV.f (Lf.zd (parQ s.data.toList).num 1010), PV.f (Lf.zn (↑(parQ s.data.toList).den : Int)), PV.f (Lf.zd (↑(parQ s.data.toList).den : Int) 1010)], PV.f (Lf.v (Value.bool (okQ s.data.toList)))])) ((1000 ≤ 8700 ∧ 3 ≤ 8700) ∧ ifB (!rightQ (zNeg z1) (digs 1000000000 z1.natAbs) (zNeg (1 : Int)) (digs 1000000000 (Int.natAbs (1 : Int)))) ((0 ≤ 8700 ∧ 0 ≤ 8700) ∧ ∀ (z2 : Rat), z2 = takeQ false [] false [] → true = true ∧ Sub (PV.tup [PV.agg [PV.f (Lf.zn z2.num), PV.f (Lf.zd z2.num 3), PV.f (Lf.zn (↑z2.den : Int)), PV.f (Lf.zd (↑z2.den : Int) 3)], PV.f (Lf.v (Value.bool false))]) (PV.tup [PV.agg [PV.f (Lf.zn (parQ s.data.toList).num), PV.f (Lf.zd (parQ s.data.toList).num 1010), PV.f (Lf.zn (↑(parQ s.data.toList).den : Int)), PV.f (Lf.zd (↑(parQ s.data.toList).den : Int) 1010)], PV.f (Lf.v (Value.bool (okQ s.data.toList)))])) ((1000 ≤ 1900 ∧ 3 ≤ 1900 ∧ (zText (takeQ (zNeg z1) (digs 1000000000 z1.natAbs) (zNeg (1 : Int)) (digs 1000000000 (Int.natAbs (1 : Int)))).num).length ≤ 1000000 ∧ (zText (↑(takeQ (zNeg z1) (digs 1000000000 z1.natAbs) (zNeg (1 : Int)) (digs 1000000000 (Int.natAbs (1 : Int)))).den : Int)).length ≤ 1000000) ∧ ifB (!(ByteArray.mk (textQ (takeQ (zNeg z1) (digs 1000000000 z1.natAbs) (zNeg (1 : Int)) (digs 1000000000 (Int.natAbs (1 : Int))))).toArray).toList == s.toList) ((0 ≤ 8700 ∧ 0 ≤ 8700) ∧ ∀ (z2 : Rat), z2 = takeQ false [] false [] → true = true ∧ Sub (PV.tup [PV.agg [PV.f (Lf.zn z2.num), PV.f (Lf.zd z2.num 3), PV.f (Lf.zn (↑z2.den : Int)), PV.f (Lf.zd (↑z2.den : Int) 3)], PV.f (Lf.v (Value.bool false))]) (PV.tup [PV.agg [PV.f (Lf.zn (parQ s.data.toList).num), PV.f (Lf.zd (parQ s.data.toList).num 1010), PV.f (Lf.zn (↑(parQ s.data.toList).den : Int)), PV.f (Lf.zd (↑(parQ s.data.toList).den : Int) 1010)], PV.f (Lf.v (Value.bool (okQ s.data.toList)))])) (true = true ∧ Sub (PV.tup [PV.agg [PV.f (Lf.zn z1), PV.f (Lf.zd z1 1000), PV.f (Lf.zn (1 : Int)), PV.f (Lf.zd (1 : Int) 3)], PV.f (Lf.v (Value.bool true))]) (PV.tup [PV.agg [PV.f (Lf.zn (parQ s.data.toList).num), PV.f (Lf.zd (parQ s.data.toList).num 1010), PV.f (Lf.zn (↑(parQ s.data.toList).den : Int)), PV.f (Lf.zd (↑(parQ s.data.toList).den : Int) 1010)], PV.f (Lf.v (Value.bool (okQ s.data.toList)))])))))) (by kernel_rfl) ?_
    refine ⟨?s0, ⟨?s1, fun z1 => fun hz1 => ifB_iff.2 ⟨fun hb0 => ⟨?s2, fun z2 => fun hz2 => ifB_iff.2 ⟨fun hb1 => ⟨?s3, fun z3 => fun hz3 => ⟨rfl, ?m0⟩⟩, fun hb1 => ifB_iff.2 ⟨fun hb2 => ⟨?s4, fun z3 => fun hz3 => ⟨rfl, ?m1⟩⟩, fun hb2 => ⟨?s5, ifB_iff.2 ⟨fun hb3 => ⟨?s6, fun z3 => fun hz3 => ⟨rfl, ?m2⟩⟩, fun hb3 => ⟨?s7, ifB_iff.2 ⟨fun hb4 => ⟨?s8, fun z3 => fun hz3 => ⟨rfl, ?m3⟩⟩, fun hb4 => ⟨rfl, ?m4⟩⟩⟩⟩⟩⟩⟩⟩, fun hb0 => ifB_iff.2 ⟨fun hb5 => ⟨?s9, fun z2 => fun hz2 => ⟨rfl, ?m5⟩⟩, fun hb5 => ⟨?s10, ifB_iff.2 ⟨fun hb6 => ⟨?s11, fun z2 => fun hz2 => ⟨rfl, ?m6⟩⟩, fun hb6 => ⟨?s12, ifB_iff.2 ⟨fun hb7 => ⟨?s13, fun z2 => fun hz2 => ⟨rfl, ?m7⟩⟩, fun hb7 => ⟨rfl, ?m8⟩⟩⟩⟩⟩⟩⟩⟩⟩
    all_goals (try simp only [Bool.not_eq_true', Bool.not_eq_false', rightQ_int, bseqB] at *)
    case s0 => omega
    case s1 => show (Lib.cut s.data.toList [47]).1.toArray.size ≤ 1000; rw [List.size_toArray]; omega
    case s2 => show (Lib.cut s.data.toList [47]).2.1.toArray.size ≤ 1000; rw [List.size_toArray]; omega
    all_goals (try (exact ⟨by decide, by decide⟩))
    case m0 => exact fail_sub (okQ_no1 (by unfold cutOk; rw [hb1]; rfl)) hz3 (by omega) (by omega)
    case m1 => exact fail_sub (okQ_no1 (by unfold cutOk; rw [hb0, hb2]; exact Bool.and_false _)) hz3 (by omega) (by omega)
    all_goals (have hD : cutD s.data.toList = (match (Lib.cut s.data.toList [47]).2.2 with | true => parZ (Lib.cut s.data.toList [47]).2.1 | false => 1) := rfl)
    all_goals (have hO : cutOk s.data.toList = (okZ (Lib.cut s.data.toList [47]).1 && (match (Lib.cut s.data.toList [47]).2.2 with | true => okZ (Lib.cut s.data.toList [47]).2.1 | false => true)) := rfl)
    all_goals (have hN : cutN s.data.toList = parZ (Lib.cut s.data.toList [47]).1 := rfl)
    all_goals (rw [hb0] at hD hO; dsimp only at hD hO)
    case m2 => exact fail_sub (okQ_no2 (by rw [hN, hD, ← hz1, ← hz2]; exact hb3)) hz3 (by omega) (by omega)
    case s7 =>
      obtain ⟨e1, e2, e3⟩ := takeQ_int hb3
      rw [e1, e2, e3, hz1, hz2]
      exact ⟨by decide, by decide, by omega, by omega⟩
    case m3 =>
      rw [(takeQ_int hb3).1] at hb4
      exact fail_sub (okQ_no3 (by rw [hN, hD, ← hz1, ← hz2]; exact hb4)) hz3 (by omega) (by omega)
    case m4 =>
      rw [(takeQ_int hb3).1] at hb4
      exact good_sub (okQ_yes (by rw [hO, hb1, hb2]; rfl) (by rw [hN, hD, ← hz1, ← hz2]; exact hb3) (by rw [hN, hD, ← hz1, ← hz2]; exact hb4)) (by rw [hN, hz1]) (by rw [hD, hz2]) (by omega) (by omega)
    case m5 => exact fail_sub (okQ_no1 (by rw [hO, hb5]; rfl)) hz2 (by omega) (by omega)
    case m6 => exact fail_sub (okQ_no2 (by rw [hN, hD, ← hz1]; exact hb6)) hz2 (by omega) (by omega)
    case s12 =>
      obtain ⟨e1, e2, e3⟩ := takeQ_int hb6
      rw [e1, e2, e3, hz1]
      exact ⟨by decide, by decide, by omega, by omega⟩
    case m7 =>
      rw [(takeQ_int hb6).1] at hb7
      exact fail_sub (okQ_no3 (by rw [hN, hD, ← hz1]; exact hb7)) hz2 (by omega) (by omega)
    case m8 =>
      rw [(takeQ_int hb6).1] at hb7
      exact good_sub (okQ_yes (by rw [hO, hb5]; rfl) (by rw [hN, hD, ← hz1]; exact hb6) (by rw [hN, hD, ← hz1]; exact hb7)) (by rw [hN, hz1]) (by rw [hD]) (by omega) (by omega)
  · cases hs
def sAwake : Spec
  | [] => some (none, .one (.f (.v (.bool true))))
  | _ => none
theorem cAwake : Contract Tryz.prog EQ 20 sAwake := by
  refine contract_plain [(31, sOf), (36, sOfN), (21, sParseQ), (32, sTextQ), (29, sFloor), (70, sCmp)] Tryz.ntmps20 Tryz.func20 (by kernel_rfl) (by kernel_rfl) EQ.up ⟨(cOf EQ.up), cOfN EQ.up, cParseQ, cTextQ.env (fun _ _ h => h.1), cFloor EQ.up, (cCmp EQ.up), trivial⟩ ?_
  intro xs p r hs hp
  unfold sAwake at hs
  split at hs
  · cases hs
    refine ⟨[], .nil, rfl, ?_⟩
    have hr : Rat.divInt 6 (-4) = Rat.divInt (-3) 2 := by rw [Rat.divInt_eq_divInt_iff (by decide) (by decide)]; decide
    have hq := takeQ_int (a := -3) (b := 2) (by decide)
    have ht : textQ (Rat.divInt (-3) 2) = [45, 51, 47, 50] := by
      unfold textQ
      rw [hq.2.1, hq.2.2, if_neg (by decide)]
      have e1 : zText (-3) = [45, 51] := by rw [zText_neg (by decide)]; exact congrArg (fun l => 45 :: l) (dec_small (n := 3) (by omega))
      have e2 : zText 2 = [50] := by rw [zText_pos (by decide)]; exact dec_small (n := 2) (by omega)
      rw [e1, e2]; rfl
    have hok : okQ [54, 47, 52] = false := by
      have hc : Lib.cut [54, 47, 52] [47] = ([54], [52], true) := by decide
      refine okQ_no2 ?_
      have e1 : cutN [54, 47, 52] = 6 := by
        unfold cutN; rw [hc]
        have := parZ_text 6
        rw [zText_pos (by decide)] at this
        rw [show Lib.decDigits (6 : Int).natAbs = [54] from dec_small (n := 6) (by omega)] at this
        exact this
      have e2 : cutD [54, 47, 52] = 4 := by
        unfold cutD; rw [hc]
        have := parZ_text 4
        rw [zText_pos (by decide)] at this
        rw [show Lib.decDigits (4 : Int).natAbs = [52] from dec_small (n := 4) (by omega)] at this
        exact this
      rw [e1, e2]; decide
    refine cast_rfl (p := ((-9223372036854775808 : Int) ≤ (6 : Int) ∧ (6 : Int) ≤ (9223372036854775807 : Int)) ∧ ∀ (z1 : Int), z1 = (6 : Int) → ((-9223372036854775808 : Int) ≤ (-4 : Int) ∧ (-4 : Int) ≤ (9223372036854775807 : Int)) ∧ ∀ (z2 : Int), z2 = (-4 : Int) → (3 ≤ 8700 ∧ 3 ≤ 8700) ∧ ∀ (z3 : Rat), z3 = ofRat (zNeg z1) (digs 1000000000 z1.natAbs) (zNeg z2) (digs 1000000000 z2.natAbs) → ∀ (z4 : Int), z4 = ofErr (zNeg z1) (digs 1000000000 z1.natAbs) (zNeg z2) (digs 1000000000 z2.natAbs) → 3 ≤ 1000 ∧ ∀ (z5 : Rat), z5 = parQ [(54 : UInt8), (47 : UInt8), (52 : UInt8)] → ∀ (z6 : Bool), z6 = okQ [(54 : UInt8), (47 : UInt8), (52 : UInt8)] → ifB (z4 == (0 : Int)) ((9 ≤ 1900 ∧ 9 ≤ 1900 ∧ (zText (takeQ (zNeg z3.num) (digs 1000000000 z3.num.natAbs) (zNeg (↑z3.den : Int)) (digs 1000000000 (↑z3.den : Int).natAbs)).num).length ≤ 1000000 ∧ (zText (↑(takeQ (zNeg z3.num) (digs 1000000000 z3.num.natAbs) (zNeg (↑z3.den : Int)) (digs 1000000000 (↑z3.den : Int).natAbs)).den : Int)).length ≤ 1000000) ∧ ifB ((ByteArray.mk (textQ (takeQ (zNeg z3.num) (digs 1000000000 z3.num.natAbs) (zNeg (↑z3.den : Int)) (digs 1000000000 (↑z3.den : Int).natAbs))).toArray).toList == (ByteArray.mk #[(45 : UInt8), (51 : UInt8), (47 : UInt8), (50 : UInt8)]).toList) ((9 ≤ 1900 ∧ 9 ≤ 1900) ∧ ∀ (z7 : Int), z7 = (takeQ (zNeg z3.num) (digs 1000000000 z3.num.natAbs) (zNeg (↑z3.den : Int)) (digs 1000000000 (↑z3.den : Int).natAbs)).floor → ((-9223372036854775808 : Int) ≤ (-2 : Int) ∧ (-2 : Int) ≤ (9223372036854775807 : Int)) ∧ ∀ (z8 : Int), z8 = (-2 : Int) → 16 ≤ 90000 ∧ ifB (cmpI (zV (zNeg z7) (digs 1000000000 z7.natAbs)) (zV (zNeg z8) (digs 1000000000 z8.natAbs)) == (0 : Int)) (true = true ∧ Sub (PV.f (Lf.v (Value.bool !z6))) (PV.f (Lf.v (Value.bool true)))) (true = true ∧ Sub (PV.f (Lf.v (Value.bool false))) (PV.f (Lf.v (Value.bool true))))) (true = true ∧ Sub (PV.f (Lf.v (Value.bool false))) (PV.f (Lf.v (Value.bool true))))) (true = true ∧ Sub (PV.f (Lf.v (Value.bool false))) (PV.f (Lf.v (Value.bool true))))) (by kernel_rfl) ?_
    refine ⟨?s0, fun z1 => fun hz1 => ⟨?s1, fun z2 => fun hz2 => ⟨?s2, fun z3 => fun hz3 => fun z4 => fun hz4 => ⟨?s3, fun z5 => fun hz5 => fun z6 => fun hz6 => ifB_iff.2 ⟨fun hb0 => ⟨?s4, ifB_iff.2 ⟨fun hb1 => ⟨?s5, fun z7 => fun hz7 => ⟨?s6, fun z8 => fun hz8 => ⟨?s7, ifB_iff.2 ⟨fun hb2 => ⟨rfl, ?m0⟩, fun hb2 => ⟨rfl, ?m1⟩⟩⟩⟩⟩, fun hb1 => ⟨rfl, ?m2⟩⟩⟩, fun hb0 => ⟨rfl, ?m3⟩⟩⟩⟩⟩⟩
    case s0 => decide
    case s1 => decide
    case s2 => decide
    case s3 => decide
    all_goals (subst hz1 hz2; rw [ofRat_canon, hr] at hz3; rw [ofErr_canon] at hz4; subst hz3 hz4)
    all_goals (try rw [takeQ_canon])
    case s4 =>
      rw [hq.2.1, hq.2.2]
      have e1 := zText_len (z := -3) (k := 1) (by unfold ZB; decide)
      have e2 := zText_len (z := 2) (k := 1) (by unfold ZB; decide)
      exact ⟨by decide, by decide, by omega, by omega⟩
    case s5 => exact ⟨by decide, by decide⟩
    case s6 => decide
    case s7 => decide
    case m0 => rw [hz6, hok]; exact .refl _
    case m1 =>
      rw [takeQ_canon] at hz7
      rw [zV_digs, zV_digs, cmpI_eq0, hz7, hz8] at hb2
      exact absurd hb2 (by rw [Rat.floor_def, hq.2.1, hq.2.2]; decide)
    case m2 =>
      rw [takeQ_canon, ht, bseqB] at hb1
      exact absurd hb1 (by decide)
    case m3 => exact absurd hb0 (by decide)
  · cases hs

end Go.Proofs.YtjfncepmpabcnaaGreatDoor
