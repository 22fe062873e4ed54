/- The layer ratio by the pure run: one, positive, reduced. The layer ratio by the pure run: folds. The layer ratio by the pure run: its functions. The layer ratio by the pure run: Of, Mul, Div; the kit's SameRatio; few. The layer ratio by the pure run: Parse; the examples. -/
import Derived.Test.YtjfncepmpabcnaaGreatDoorPn
namespace Go.Proofs.YtjfncepmpabcnaaGreatDoor
open Go.RowKit
set_option linter.unusedVariables false
set_option maxRecDepth 100000

theorem sub_bool {a b : Bool} (h : a = b) : Sub (.f (.v (.bool a))) (.f (.v (.bool b))) := by subst h; exact .refl _
theorem zd_mono {H : Hp} {v : Value} {z : Int} {k k' : Nat} (h : Rd H v (.zd z k)) (hk : k ≤ k') : Rd H v (.zd z k') := by
  have hz : ZB z k := rd_good h (by simp [Lf.view])
  cases h with
  | sl hv hg hc hm h0 b o val hb hcell hkk hrec => exact .sl (f := .zd z k') hv (hz.mono hk) hc hm h0 b o val hb hcell hkk hrec
/-- Leaves, of some of which less is told. -/
inductive Subl : List PV → List PV → Prop
  | nil : Subl [] []
  | zd {z z' : Int} {k k' : Nat} {l m : List PV} (hz : z = z') (hk : k ≤ k') (h : Subl l m) : Subl (.f (.zn z) :: .f (.zd z k) :: l) (.f (.zn z') :: .f (.zd z' k') :: m)
  | zero {z : Int} {k : Nat} {l m : List PV} (hz : z = 0) (h : Subl l m) : Subl (.f (.v (.bool false)) :: .f (.v (.slice none 0 0)) :: l) (.f (.zn z) :: .f (.zd z k) :: m)
  | same {x : PV} {l m : List PV} (h : Subl l m) : Subl (x :: l) (x :: m)
theorem Subl.prs {H : Hp} : ∀ {vs : List Value} {l m : List PV}, Subl l m → PRs H B0 vs l → PRs H B0 vs m
  | vs, _, _, .nil, h => h
  | [], _, _, .zd .., hv => by have := hv.1; simp at this
  | [_], _, _, .zd .., hv => by have := hv.1; simp at this
  | u :: v :: vs, _, _, .zd hz hk h, hv => by
    subst hz
    have h0 := hv.2 0 _ _ rfl rfl
    have h1 := (hv.2 1 _ _ rfl rfl).rd
    exact .cons h0 (.cons (.f (zd_mono h1 hk)) (h.prs ⟨by have := hv.1; simpa using this, fun i v x hv' hx => hv.2 (i + 2) v x (by simpa using hv') (by simpa using hx)⟩))
  | [], _, _, .zero .., hv => by have := hv.1; simp at this
  | [_], _, _, .zero .., hv => by have := hv.1; simp at this
  | u :: v :: vs, _, _, .zero (k := k) hz h, hv => by
    subst hz
    have h0 := (hv.2 0 _ _ rfl rfl).val
    have h1 := (hv.2 1 _ _ rfl rfl).val
    subst h0 h1
    refine .cons (.f (.zn 0)) (.cons (.f (.slf (fun _ => rfl) (f := .zd 0 k) (k := 1) (n := 0) (get := fun i => [.v (.int .u32 ((digs 1000000000 (0 : Int).natAbs).getD i 0 : Nat))]) (by simp [Lf.view, digs_zero]) (ZB.zero k) (Nat.le_refl _) (by unfold maxLen; omega) (fun _ => rfl) 0 0 (fun _ _ => undef) (fun h => by omega) (fun i h => by omega) (fun i h => by omega) (fun i h => by omega))) (h.prs ⟨by have := hv.1; simpa using this, fun i v x hv' hx => hv.2 (i + 2) v x (by simpa using hv') (by simpa using hx)⟩))
  | [], _, _, .same .., hv => by have := hv.1; simp at this
  | v :: vs, _, _, .same h, hv => .cons (hv.2 0 _ _ rfl rfl) (h.prs ⟨by have := hv.1; simpa using this, fun i v x hv' hx => hv.2 (i + 1) v x (by simpa using hv') (by simpa using hx)⟩)
theorem Subl.agg {l m : List PV} (h : Subl l m) : Sub (.agg l) (.agg m) := ⟨fun H v hv => by
  obtain ⟨vs, rfl, h1⟩ := PRs.of_agg hv
  exact (h.prs h1).agg⟩

theorem cmpI_eq0 (a b : Int) : (cmpI a b == 0) = decide (a = b) := by
  rcases Int.lt_trichotomy a b with h | h | h
  · rw [cmpI_lt h, decide_eq_false (by omega)]; rfl
  · rw [cmpI_eq h, decide_eq_true h]; rfl
  · rw [cmpI_gt h, decide_eq_false (by omega)]; rfl
theorem gcd2_zero (y : Int) : gcd2 0 y = (y.natAbs : Int) := by unfold gcd2; rw [show (0 : Int).natAbs = 0 from rfl, Nat.gcd_zero_left]
theorem gcd2_two (y x : Int) : gcd2 (gcd2 0 y) x = gcd2 y x := by rw [gcd2_zero]; unfold gcd2; rw [Int.natAbs_natCast]
theorem gcd2_pos {y x : Int} (hx : x ≠ 0) : 0 < gcd2 y x := by
  unfold gcd2
  have : 0 < Nat.gcd y.natAbs x.natAbs := Nat.gcd_pos_of_pos_right _ (by omega)
  omega
theorem fdiv_gcd {y x : Int} {a : Int} (ha : (gcd2 y x : Int) ∣ a) : Int.fdiv a (gcd2 y x) = a / gcd2 y x := Int.fdiv_eq_ediv_of_dvd ha
theorem gcd2_dvdl (y x : Int) : gcd2 y x ∣ y := Int.natAbs_dvd_natAbs.1 (by unfold gcd2; rw [Int.natAbs_natCast]; exact Nat.gcd_dvd_left _ _)
theorem gcd2_dvdr (y x : Int) : gcd2 y x ∣ x := Int.natAbs_dvd_natAbs.1 (by unfold gcd2; rw [Int.natAbs_natCast]; exact Nat.gcd_dvd_right _ _)
theorem gcd2_int (y x : Int) : ((x.gcd y : Nat) : Int) = gcd2 y x := by unfold gcd2; rw [Int.gcd_comm]; rfl
/-- Lowest terms. -/
theorem red_num {y x : Int} (hx : 0 < x) : Int.fdiv y (gcd2 y x) = (Rat.divInt y x).num := by
  rw [fdiv_gcd (gcd2_dvdl y x), Rat.num_divInt, gcd2_int, Int.sign_eq_one_of_pos hx, Int.one_mul]
theorem red_den {y x : Int} (hx : 0 < x) : Int.fdiv x (gcd2 y x) = ((Rat.divInt y x).den : Int) := by
  rw [fdiv_gcd (gcd2_dvdr y x), Rat.den_divInt, if_neg (by omega), Int.natCast_ediv, gcd2_int]
  congr 1
  omega
theorem divInt_negs (y x : Int) : Rat.divInt (-y) (-x) = Rat.divInt y x := Rat.neg_divInt_neg y x
def sOne : Spec
  | [] => some (none, .one (zP 1 3))
  | _ => none
def sPositive : Spec
  | [x] => match pvR x with
    | some ((n, l), k, _) => some (some (k ≤ 80000), .one (.f (.v (.bool (decide (0 < zV n l))))))
    | none => none
  | _ => none
/-- THE ratio r, its parts in at most k and j limbs. -/
def qP (r : Rat) (k j : Nat) : PV := .agg [.f (.zn r.num), .f (.zd r.num k), .f (.zn r.den), .f (.zd r.den j)]
def sReduced : Spec
  | [x, y] => match pvR x, pvR y with
    | some ((n, l), k, _), some ((n', l'), k', _) => some (some (k ≤ 10000 ∧ k' ≤ 10000 ∧ zV n' l' ≠ 0), .nm Rat (Rat.divInt (zV n l) (zV n' l')) fun r => qP r (k + 2) (k' + 2))
    | _, _ => none
  | _ => none
/-- An api.Ratio's two numbers, as they came. -/
def pvQ : PV → Option (((Bool × List Nat) × Nat × Nat) × ((Bool × List Nat) × Nat × Nat))
  | .agg [.f a, .f b, .f c, .f d] => match asR a b, asR c d with
    | some x, some y => some (x, y)
    | _, _ => none
  | _ => none
def rawQ (n : Bool) (l : List Nat) (k : Nat) (n' : Bool) (l' : List Nat) (k' : Nat) : PV := .agg [.f (.v (.bool n)), .f (.lr l k), .f (.v (.bool n')), .f (.lr l' k')]
theorem sub_rawQ {x : PV} {n n' : Bool} {l l' : List Nat} {k j k' j' : Nat} (h : pvQ x = some (((n, l), k, j), ((n', l'), k', j'))) : Sub x (rawQ n l k n' l' k') := by
  refine ⟨fun H v hv => ?_⟩
  unfold pvQ at h
  split at h
  · rename_i a b c d
    split at h
    · rename_i x y hx hy
      cases h
      obtain ⟨vs, rfl, h1⟩ := PRs.of_agg hv
      obtain ⟨p, q, r, s, rfl⟩ : ∃ p q r s, vs = [p, q, r, s] := by
        have := h1.1
        match vs, this with
        | [p, q, r, s], _ => exact ⟨p, q, r, s, rfl⟩
      obtain ⟨h3, h4⟩ := rd_raw hx (h1.2 0 _ _ rfl rfl).rd (h1.2 1 _ _ rfl rfl).rd
      obtain ⟨h5, h6⟩ := rd_raw hy (h1.2 2 _ _ rfl rfl).rd (h1.2 3 _ _ rfl rfl).rd
      exact (PRs.cons (.f h3) (.cons (.f h4) (.cons (.f h5) (.cons (.f h6) .nil)))).agg
    · cases h
  · cases h
/-- Is it a right ratio? -/
def rightQ (n : Bool) (l : List Nat) (n' : Bool) (l' : List Nat) : Bool := rightZ n l && (rightZ n' l' && (decide (0 < zV n' l') && decide (gcd2 (zV n l) (zV n' l') = 1)))
/-- A right ratio, or 0 in its place. -/
def takeQ (n : Bool) (l : List Nat) (n' : Bool) (l' : List Nat) : Rat := match rightQ n l n' l' with | true => Rat.divInt (zV n l) (zV n' l') | false => 0
def sRightQ : Spec
  | [x] => match pvQ x with
    | some (((n, l), k, _), ((n', l'), k', _)) => some (some (k ≤ 10000 ∧ k' ≤ 10000), .one (.f (.v (.bool (rightQ n l n' l')))))
    | none => none
  | _ => none
def sOfQ : Spec
  | [x] => match pvQ x with
    | some (((n, l), k, _), ((n', l'), k', _)) => some (some (k ≤ 10000 ∧ k' ≤ 10000), .nm Rat (takeQ n l n' l') fun r => qP r (k + 3) (k' + 3))
    | none => none
  | _ => none
theorem takeQ_yes {n n' : Bool} {l l' : List Nat} (h : rightQ n l n' l' = true) : (takeQ n l n' l').num = zV n l ∧ ((takeQ n l n' l').den : Int) = zV n' l' := by
  unfold takeQ
  rw [h]
  unfold rightQ at h
  simp only [Bool.and_eq_true, decide_eq_true_eq] at h
  obtain ⟨-, -, h1, h2⟩ := h
  rw [← red_num h1, ← red_den h1, h2]
  exact ⟨by rw [Int.fdiv_one], by rw [Int.fdiv_one]⟩
theorem takeQ_no {n n' : Bool} {l l' : List Nat} (h : rightQ n l n' l' = false) : takeQ n l n' l' = 0 := by
  unfold takeQ; rw [h]
section
variable {E : World → Hp → Prop} (hU : Up E)
include hU
theorem cOne : Contract Tryz.prog E 72 sOne := by
  refine contract_plain [(31, sOf)] Tryz.ntmps72 Tryz.func72 (by kernel_rfl) (by kernel_rfl) hU ⟨cOf, trivial⟩ ?_
  intro xs p r hs hp
  unfold sOne at hs
  split at hs
  · cases hs
    refine ⟨[], .nil, rfl, ?_⟩
    refine cast_rfl (p := ((-9223372036854775808 : Int) ≤ (1 : Int) ∧ (1 : Int) ≤ (9223372036854775807 : Int)) ∧ ∀ (z1 : Int), z1 = (1 : Int) → true = true ∧ Sub (PV.agg [PV.f (Lf.zn z1), PV.f (Lf.zd z1 3)]) (PV.agg [PV.f (Lf.zn (1 : Int)), PV.f (Lf.zd (1 : Int) 3)])) (by kernel_rfl) ?_
    refine ⟨?s0, fun z1 => fun hz1 => ⟨rfl, ?m0⟩⟩
    case s0 => decide
    case m0 => subst hz1; exact .refl _
  · cases hs
theorem cPositive : Contract Tryz.prog E 78 sPositive := by
  refine contract_plain [(70, sCmp)] Tryz.ntmps78 Tryz.func78 (by kernel_rfl) (by kernel_rfl) hU ⟨cCmp, trivial⟩ ?_
  intro xs p r hs hp
  unfold sPositive at hs
  split at hs
  · rename_i x
    split at hs
    · rename_i n l k j hx
      cases hs
      have hk := hp _ rfl
      refine ⟨[rawP n l k], .cons (sub_raw hx) .nil, rfl, ?_⟩
      refine cast_rfl (p := k + 0 ≤ 90000 ∧ true = true ∧ Sub (PV.f (Lf.v (Value.bool (decide (cmpI (zV n l) (zV false []) > (0 : Int)))))) (PV.f (Lf.v (Value.bool (decide ((0 : Int) < zV n l)))))) (by kernel_rfl) ?_
      refine ⟨?s0, ⟨rfl, ?m0⟩⟩
      case s0 => omega
      case m0 =>
        refine sub_bool ?_
        have e : zV false [] = 0 := rfl
        rw [e]
        rcases Int.lt_trichotomy (zV n l) 0 with h | h | h
        · rw [cmpI_lt h, decide_eq_false (by decide), decide_eq_false (by omega)]
        · rw [cmpI_eq h, decide_eq_false (by decide), decide_eq_false (by omega)]
        · rw [cmpI_gt h, decide_eq_true (by decide), decide_eq_true (by omega)]
    · cases hs
  · cases hs
theorem cReduced : Contract Tryz.prog E 84 sReduced := by
  refine contract_plain [(78, sPositive), (91, sNeg), (17, sGcd), (50, sDiv)] Tryz.ntmps84 Tryz.func84 (by kernel_rfl) (by kernel_rfl) hU ⟨cPositive hU, cNeg, cGcd, cDiv, trivial⟩ ?_
  intro xs p r hs hp
  unfold sReduced at hs
  split at hs
  · rename_i x y
    split at hs
    · rename_i n l k j n' l' k' j' hx hy
      cases hs
      obtain ⟨hk, hk', h0⟩ := hp _ rfl
      refine ⟨[rawP n l k, rawP n' l' k'], .cons (sub_raw hx) (.cons (sub_raw hy) .nil), rfl, ?_⟩
      refine cast_rfl (p := k' ≤ 80000 ∧ ifB (!decide ((0 : Int) < zV n' l')) (k ≤ 100000 ∧ ∀ (z1 : Int), z1 = -zV n l → k' ≤ 100000 ∧ ∀ (z2 : Int), z2 = -zV n' l' → k + 1 + 2 + (k' + 1 + 2 + 0) ≤ 40000 ∧ ∀ (z3 : Int), z3 = gcd2 (gcd2 (0 : Int) (zV (zNeg z1) (digs 1000000000 z1.natAbs))) (zV (zNeg z2) (digs 1000000000 z2.natAbs)) → (k + 1 + (0 + (k + 1) + 1 + (k' + 1) + 1) ≤ 40000 ∧ zV (zNeg z3) (digs 1000000000 z3.natAbs) ≠ (0 : Int)) ∧ ∀ (z4 : Int), z4 = (zV (zNeg z1) (digs 1000000000 z1.natAbs)).fdiv (zV (zNeg z3) (digs 1000000000 z3.natAbs)) → ∀ (z5 : Int), z5 = (zV (zNeg z1) (digs 1000000000 z1.natAbs)).fmod (zV (zNeg z3) (digs 1000000000 z3.natAbs)) → (k' + 1 + (0 + (k + 1) + 1 + (k' + 1) + 1) ≤ 40000 ∧ zV (zNeg z3) (digs 1000000000 z3.natAbs) ≠ (0 : Int)) ∧ ∀ (z6 : Int), z6 = (zV (zNeg z2) (digs 1000000000 z2.natAbs)).fdiv (zV (zNeg z3) (digs 1000000000 z3.natAbs)) → ∀ (z7 : Int), z7 = (zV (zNeg z2) (digs 1000000000 z2.natAbs)).fmod (zV (zNeg z3) (digs 1000000000 z3.natAbs)) → true = true ∧ Sub (PV.agg [PV.f (Lf.zn z4), PV.f (Lf.zd z4 (k + 1 + 1)), PV.f (Lf.zn z6), PV.f (Lf.zd z6 (k' + 1 + 1))]) (PV.agg [PV.f (Lf.zn (Rat.divInt (zV n l) (zV n' l')).num), PV.f (Lf.zd (Rat.divInt (zV n l) (zV n' l')).num (k + 2)), PV.f (Lf.zn (↑(Rat.divInt (zV n l) (zV n' l')).den : Int)), PV.f (Lf.zd (↑(Rat.divInt (zV n l) (zV n' l')).den : Int) (k' + 2))])) (k + 2 + (k' + 2 + 0) ≤ 40000 ∧ ∀ (z1 : Int), z1 = gcd2 (gcd2 (0 : Int) (zV n l)) (zV n' l') → (k + (0 + (k + 1) + 1 + (k' + 1) + 1) ≤ 40000 ∧ zV (zNeg z1) (digs 1000000000 z1.natAbs) ≠ (0 : Int)) ∧ ∀ (z2 : Int), z2 = (zV n l).fdiv (zV (zNeg z1) (digs 1000000000 z1.natAbs)) → ∀ (z3 : Int), z3 = (zV n l).fmod (zV (zNeg z1) (digs 1000000000 z1.natAbs)) → (k' + (0 + (k + 1) + 1 + (k' + 1) + 1) ≤ 40000 ∧ zV (zNeg z1) (digs 1000000000 z1.natAbs) ≠ (0 : Int)) ∧ ∀ (z4 : Int), z4 = (zV n' l').fdiv (zV (zNeg z1) (digs 1000000000 z1.natAbs)) → ∀ (z5 : Int), z5 = (zV n' l').fmod (zV (zNeg z1) (digs 1000000000 z1.natAbs)) → true = true ∧ Sub (PV.agg [PV.f (Lf.zn z2), PV.f (Lf.zd z2 (k + 1 + 1)), PV.f (Lf.zn z4), PV.f (Lf.zd z4 (k' + 1 + 1))]) (PV.agg [PV.f (Lf.zn (Rat.divInt (zV n l) (zV n' l')).num), PV.f (Lf.zd (Rat.divInt (zV n l) (zV n' l')).num (k + 2)), PV.f (Lf.zn (↑(Rat.divInt (zV n l) (zV n' l')).den : Int)), PV.f (Lf.zd (↑(Rat.divInt (zV n l) (zV n' l')).den : Int) (k' + 2))]))) (by kernel_rfl) ?_
      refine ⟨?s0, ifB_iff.2 ⟨fun hb0 => ⟨?s1, fun z1 => fun hz1 => ⟨?s2, fun z2 => fun hz2 => ⟨?s3, fun z3 => fun hz3 => ⟨?s4, fun z4 => fun hz4 => fun z5 => fun hz5 => ⟨?s5, fun z6 => fun hz6 => fun z7 => fun hz7 => ⟨rfl, ?m0⟩⟩⟩⟩⟩⟩, fun hb0 => ⟨?s6, fun z1 => fun hz1 => ⟨?s7, fun z2 => fun hz2 => fun z3 => fun hz3 => ⟨?s8, fun z4 => fun hz4 => fun z5 => fun hz5 => ⟨rfl, ?m1⟩⟩⟩⟩⟩⟩
      all_goals (try simp only [zV_digs, gcd2_two] at *)
      case s0 => omega
      case s1 => omega
      case s2 => omega
      case s3 => omega
      case s4 =>
        subst hz2
        exact ⟨by omega, by have := gcd2_pos (y := z1) (x := -zV n' l') (by omega); omega⟩
      case s5 =>
        subst hz2
        exact ⟨by omega, by have := gcd2_pos (y := z1) (x := -zV n' l') (by omega); omega⟩
      case m0 =>
        simp at hb0
        have hx0 : 0 < z2 := by omega
        refine Subl.agg (.zd ?_ (by omega) (.zd ?_ (by omega) .nil))
        · rw [hz4, hz3, red_num hx0, hz1, hz2, divInt_negs]
        · rw [hz6, hz3, red_den hx0, hz1, hz2, divInt_negs]
      case s6 => omega
      case s7 => exact ⟨by omega, by have := gcd2_pos (y := zV n l) (x := zV n' l') h0; omega⟩
      case s8 => exact ⟨by omega, by have := gcd2_pos (y := zV n l) (x := zV n' l') h0; omega⟩
      case m1 =>
        simp at hb0
        refine Subl.agg (.zd ?_ (by omega) (.zd ?_ (by omega) .nil))
        · rw [hz2, hz1, red_num hb0]
        · rw [hz4, hz1, red_den hb0]
    · cases hs
  · cases hs

theorem cRightQ : Contract Tryz.prog E 25 sRightQ := by
  refine contract_plain [(77, sRight), (78, sPositive), (17, sGcd), (72, sOne), (70, sCmp)] Tryz.ntmps25 Tryz.func25 (by kernel_rfl) (by kernel_rfl) hU ⟨cRight, cPositive hU, cGcd, cOne hU, cCmp, trivial⟩ ?_
  intro xs p r hs hp
  unfold sRightQ at hs
  split at hs
  · rename_i x
    split at hs
    · rename_i n l k j n' l' k' j' hx
      cases hs
      obtain ⟨hk, hk'⟩ := hp _ rfl
      refine ⟨[rawQ n l k n' l' k'], .cons (sub_rawQ hx) .nil, rfl, ?_⟩
      refine cast_rfl (p := k ≤ 1000000 ∧ ifB (rightZ n l) (k' ≤ 1000000 ∧ ifB (rightZ n' l') (k' ≤ 80000 ∧ ifB (decide ((0 : Int) < zV n' l')) (k + 2 + (k' + 2 + 0) ≤ 40000 ∧ ∀ (z1 : Int), z1 = gcd2 (gcd2 (0 : Int) (zV n l)) (zV n' l') → 0 + (k + 1) + 1 + (k' + 1) + 1 + 3 ≤ 90000 ∧ true = true ∧ Sub (PV.f (Lf.v (Value.bool (cmpI (zV (zNeg z1) (digs 1000000000 z1.natAbs)) (zV (zNeg (1 : Int)) (digs 1000000000 (Int.natAbs (1 : Int)))) == (0 : Int))))) (PV.f (Lf.v (Value.bool (rightQ n l n' l'))))) (true = true ∧ Sub (PV.f (Lf.v (Value.bool false))) (PV.f (Lf.v (Value.bool (rightQ n l n' l')))))) (true = true ∧ Sub (PV.f (Lf.v (Value.bool false))) (PV.f (Lf.v (Value.bool (rightQ n l n' l')))))) (true = true ∧ Sub (PV.f (Lf.v (Value.bool false))) (PV.f (Lf.v (Value.bool (rightQ n l n' l')))))) (by kernel_rfl) ?_
      refine ⟨?s0, ifB_iff.2 ⟨fun hb0 => ⟨?s1, ifB_iff.2 ⟨fun hb1 => ⟨?s2, ifB_iff.2 ⟨fun hb2 => ⟨?s3, fun z1 => fun hz1 => ⟨?s4, ⟨rfl, ?m0⟩⟩⟩, fun hb2 => ⟨rfl, ?m1⟩⟩⟩, fun hb1 => ⟨rfl, ?m2⟩⟩⟩, fun hb0 => ⟨rfl, ?m3⟩⟩⟩
      all_goals (try simp only [zV_digs, gcd2_two] at *)
      all_goals first | omega | skip
      all_goals refine sub_bool ?_
      all_goals unfold rightQ
      case m0 => rw [cmpI_eq0, hb0, hb1, hb2, hz1]; rfl
      case m1 => rw [hb0, hb1, hb2]; rfl
      case m2 => rw [hb0, hb1]; rfl
      case m3 => rw [hb0]; rfl
    · cases hs
  · cases hs
theorem cOfQ : Contract Tryz.prog E 73 sOfQ := by
  refine contract_plain [(25, sRightQ), (72, sOne), (13, sAdd)] Tryz.ntmps73 Tryz.func73 (by kernel_rfl) (by kernel_rfl) hU ⟨cRightQ hU, cOne hU, cAdd, trivial⟩ ?_
  intro xs p r hs hp
  unfold sOfQ at hs
  split at hs
  · rename_i x
    split at hs
    · rename_i n l k j n' l' k' j' hx
      cases hs
      obtain ⟨hk, hk'⟩ := hp _ rfl
      refine ⟨[rawQ n l k n' l' k'], .cons (sub_rawQ hx) .nil, rfl, ?_⟩
      refine cast_rfl (p := (k ≤ 10000 ∧ k' ≤ 10000) ∧ ifB (!rightQ n l n' l') (true = true ∧ Sub (PV.agg [PV.f (Lf.v (Value.bool false)), PV.f (Lf.v (Value.slice none 0 0)), PV.f (Lf.zn (1 : Int)), PV.f (Lf.zd (1 : Int) 3)]) (PV.agg [PV.f (Lf.zn (takeQ n l n' l').num), PV.f (Lf.zd (takeQ n l n' l').num (k + 3)), PV.f (Lf.zn (↑(takeQ n l n' l').den : Int)), PV.f (Lf.zd (↑(takeQ n l n' l').den : Int) (k' + 3))])) (k + 2 + 0 ≤ 40000 ∧ ∀ (z1 : Int), z1 = (0 : Int) + zV n l → k' + 2 + 0 ≤ 40000 ∧ ∀ (z2 : Int), z2 = (0 : Int) + zV n' l' → true = true ∧ Sub (PV.agg [PV.f (Lf.zn z1), PV.f (Lf.zd z1 (0 + (k + 1) + 1)), PV.f (Lf.zn z2), PV.f (Lf.zd z2 (0 + (k' + 1) + 1))]) (PV.agg [PV.f (Lf.zn (takeQ n l n' l').num), PV.f (Lf.zd (takeQ n l n' l').num (k + 3)), PV.f (Lf.zn (↑(takeQ n l n' l').den : Int)), PV.f (Lf.zd (↑(takeQ n l n' l').den : Int) (k' + 3))]))) (by kernel_rfl) ?_
      refine ⟨?s0, ifB_iff.2 ⟨fun hb0 => ⟨rfl, ?m0⟩, fun hb0 => ⟨?s1, fun z1 => fun hz1 => ⟨?s2, fun z2 => fun hz2 => ⟨rfl, ?m1⟩⟩⟩⟩⟩
      all_goals (try simp only [zV_digs, gcd2_two] at *)
      all_goals first | omega | skip
      case m0 =>
        rw [Bool.not_eq_true'] at hb0
        rw [takeQ_no hb0]
        exact Subl.agg (.zero rfl (.zd rfl (by omega) .nil))
      case m1 =>
        rw [Bool.not_eq_false'] at hb0
        obtain ⟨h1, h2⟩ := takeQ_yes hb0
        exact Subl.agg (.zd (by rw [h1, hz1]; omega) (by omega) (.zd (by rw [h2, hz2]; omega) (by omega) .nil))
    · cases hs
  · cases hs
end

end Go.Proofs.YtjfncepmpabcnaaGreatDoor

namespace Go.Proofs.YtjfncepmpabcnaaGreatDoor
open Go.RowKit
set_option linter.unusedVariables false
set_option maxRecDepth 100000

theorem nil_rd {H : Hp} {f : Lf} {k : Nat} {get : Nat → List Lf} (hf : f.view = some (k, 0, get)) (hg : f.good) (hff : ∀ q, f.full q = q := by intro q; rfl) : Rd H (.slice none 0 0) f :=
  .slf hff hf hg (Nat.le_refl _) (by unfold maxLen; omega) (fun _ => rfl) 0 0 (fun _ _ => undef) (fun h => by omega) (fun i h => by omega) (fun i h => by omega) (fun i h => by omega)
theorem wrapI (n : Int) (h : -9223372036854775808 ≤ n ∧ n ≤ 9223372036854775807) : IntKind.i64.wrap n = n := by
  simp only [IntKind.wrap, IntKind.signed, IntKind.bits]
  simp
  omega
theorem subB_int {k : IntKind} {z z' : Int} (h : z = z') : SubB (.f (.v (.int k z))) (.f (.v (.int k z'))) := by subst h; exact .refl _
section
variable {E : World → Hp → Prop} (hU : Up E)
include hU
end

end Go.Proofs.YtjfncepmpabcnaaGreatDoor

namespace Go.Proofs.YtjfncepmpabcnaaGreatDoor
open Go.RowKit
set_option linter.unusedVariables false
set_option maxRecDepth 100000

theorem nil_right : rightQ false [] false [] = false := by decide
theorem takeQ_nil : takeQ false [] false [] = 0 := takeQ_no nil_right
theorem rightQ_canon (r : Rat) : rightQ (zNeg r.num) (digs 1000000000 r.num.natAbs) (zNeg r.den) (digs 1000000000 (r.den : Int).natAbs) = true := by
  unfold rightQ
  have h := r.den_pos
  rw [rightZ_of, rightZ_of, zV_digs, zV_digs, decide_eq_true (by omega), decide_eq_true]
  · rfl
  · unfold gcd2
    have := r.reduced
    rw [Int.natAbs_natCast]
    exact congrArg Int.ofNat this
theorem takeQ_canon (r : Rat) : takeQ (zNeg r.num) (digs 1000000000 r.num.natAbs) (zNeg r.den) (digs 1000000000 (r.den : Int).natAbs) = r := by
  unfold takeQ
  rw [rightQ_canon]
  dsimp only
  rw [zV_digs, zV_digs, Rat.num_divInt_den]
theorem den0 (q : Rat) : (q.den : Int) ≠ 0 := by have := q.den_pos; omega
def sWhole : Spec
  | [x] => match pvR x with
    | some ((n, l), k, _) => some (some (k ≤ 1900), .nm Rat (match rightZ n l with | true => ((zV n l : Int) : Rat) | false => 0) fun r => qP r (k + 3) 6)
    | none => none
  | _ => none
def sFloor : Spec
  | [x] => match pvQ x with
    | some (((n, l), k, _), ((n', l'), k', _)) => some (some (k ≤ 1900 ∧ k' ≤ 1900), .nm Int (takeQ n l n' l').floor fun z => zP z (k + 4))
    | none => none
  | _ => none
/-- A ratio's text. -/
def textQ (r : Rat) : List UInt8 := if (r.den : Int) = 1 then zText r.num else zText r.num ++ 47 :: zText r.den
def sTextQ : Spec
  | [x] => match pvQ x with
    | some (((n, l), k, _), ((n', l'), k', _)) => some (some (k ≤ 1900 ∧ k' ≤ 1900 ∧ (zText (takeQ n l n' l').num).length ≤ 1000000 ∧ (zText (takeQ n l n' l').den).length ≤ 1000000), .one (.f (.v (.string ⟨(textQ (takeQ n l n' l')).toArray⟩))))
    | none => none
  | _ => none
section
variable {E : World → Hp → Prop} (hU : Up E)
include hU
theorem cFloor : Contract Tryz.prog E 29 sFloor := by
  refine contract_plain [(73, sOfQ), (50, sDiv)] Tryz.ntmps29 Tryz.func29 (by kernel_rfl) (by kernel_rfl) hU ⟨cOfQ hU, cDiv, trivial⟩ ?_
  intro xs p r hs hp
  unfold sFloor at hs
  split at hs
  · rename_i x
    split at hs
    · rename_i n l k j n' l' k' j' hx
      cases hs
      obtain ⟨hk, hk'⟩ := hp _ rfl
      refine ⟨[rawQ n l k n' l' k'], .cons (sub_rawQ hx) .nil, rfl, ?_⟩
      refine cast_rfl (p := (k ≤ 10000 ∧ k' ≤ 10000) ∧ ∀ (z1 : Rat), z1 = takeQ n l n' l' → (k + 3 + (k' + 3) ≤ 40000 ∧ zV (zNeg (↑z1.den : Int)) (digs 1000000000 (↑z1.den : Int).natAbs) ≠ (0 : Int)) ∧ ∀ (z2 : Int), z2 = (zV (zNeg z1.num) (digs 1000000000 z1.num.natAbs)).fdiv (zV (zNeg (↑z1.den : Int)) (digs 1000000000 (↑z1.den : Int).natAbs)) → ∀ (z3 : Int), z3 = (zV (zNeg z1.num) (digs 1000000000 z1.num.natAbs)).fmod (zV (zNeg (↑z1.den : Int)) (digs 1000000000 (↑z1.den : Int).natAbs)) → true = true ∧ Sub (PV.agg [PV.f (Lf.zn z2), PV.f (Lf.zd z2 (k + 3 + 1))]) (PV.agg [PV.f (Lf.zn (takeQ n l n' l').floor), PV.f (Lf.zd (takeQ n l n' l').floor (k + 4))])) (by kernel_rfl) ?_
      refine ⟨?s0, fun z1 => fun hz1 => ⟨?s1, fun z2 => fun hz2 => fun z3 => fun hz3 => ⟨rfl, ?m0⟩⟩⟩
      case s0 => omega
      case s1 => rw [zV_digs]; exact ⟨by omega, den0 _⟩
      case m0 =>
        subst hz1 hz2
        rw [zV_digs, zV_digs]
        refine Subl.agg (.zd ?_ (by omega) .nil)
        rw [Rat.floor_def, Int.fdiv_eq_ediv_of_nonneg _ (by omega)]
    · cases hs
  · cases hs
end
theorem cTextQ : Contract Tryz.prog EZ 32 sTextQ := by
  refine contract_plain [(73, sOfQ), (72, sOne), (70, sCmp), (48, sText)] Tryz.ntmps32 Tryz.func32 (by kernel_rfl) (by kernel_rfl) EZ.up ⟨cOfQ EZ.up, cOne EZ.up, cCmp, cText, trivial⟩ ?_
  intro xs p r hs hp
  unfold sTextQ at hs
  split at hs
  · rename_i x
    split at hs
    · rename_i n l k j n' l' k' j' hx
      cases hs
      obtain ⟨hk, hk', ht, ht'⟩ := hp _ rfl
      refine ⟨[rawQ n l k n' l' k'], .cons (sub_rawQ hx) .nil, rfl, ?_⟩
      refine cast_rfl (p := (k ≤ 10000 ∧ k' ≤ 10000) ∧ ∀ (z1 : Rat), z1 = takeQ n l n' l' → k' + 3 + 3 ≤ 90000 ∧ ifB (cmpI (zV (zNeg (↑z1.den : Int)) (digs 1000000000 (↑z1.den : Int).natAbs)) (zV (zNeg (1 : Int)) (digs 1000000000 (Int.natAbs (1 : Int)))) == (0 : Int)) (k + 3 ≤ 90000 ∧ true = true ∧ Sub (PV.f (Lf.v (Value.string (ByteArray.mk (zText (zV (zNeg z1.num) (digs 1000000000 z1.num.natAbs))).toArray)))) (PV.f (Lf.v (Value.string (ByteArray.mk (textQ (takeQ n l n' l')).toArray))))) (k + 3 ≤ 90000 ∧ (↑((ByteArray.mk (zText (zV (zNeg z1.num) (digs 1000000000 z1.num.natAbs))).toArray).size + 1) : Int) ≤ IntKind.i64.max ∧ k' + 3 ≤ 90000 ∧ (↑((ByteArray.mk (zText (zV (zNeg z1.num) (digs 1000000000 z1.num.natAbs))).toArray ++ ByteArray.mk #[(47 : UInt8)]).size + (ByteArray.mk (zText (zV (zNeg (↑z1.den : Int)) (digs 1000000000 (↑z1.den : Int).natAbs))).toArray).size) : Int) ≤ IntKind.i64.max ∧ true = true ∧ Sub (PV.f (Lf.v (Value.string (ByteArray.mk (zText (zV (zNeg z1.num) (digs 1000000000 z1.num.natAbs))).toArray ++ ByteArray.mk #[(47 : UInt8)] ++ ByteArray.mk (zText (zV (zNeg (↑z1.den : Int)) (digs 1000000000 (↑z1.den : Int).natAbs))).toArray)))) (PV.f (Lf.v (Value.string (ByteArray.mk (textQ (takeQ n l n' l')).toArray)))))) (by kernel_rfl) ?_
      refine ⟨?s0, fun z1 => fun hz1 => ⟨?s1, ifB_iff.2 ⟨fun hb0 => ⟨?s2, ⟨rfl, ?m0⟩⟩, fun hb0 => ⟨?s3, ⟨?s4, ⟨?s5, ⟨?s6, ⟨rfl, ?m1⟩⟩⟩⟩⟩⟩⟩⟩
      all_goals (try simp only [zV_digs, cmpI_eq0, decide_eq_true_eq, decide_eq_false_iff_not] at *)
      case s0 => omega
      case s1 => omega
      case s2 => omega
      case s3 => omega
      case s4 => subst hz1; have : IntKind.i64.max = 9223372036854775807 := by decide
                 rw [this]; simp only [ByteArray.size, Array.size]; simp; omega
      case s5 => omega
      case s6 => subst hz1; have : IntKind.i64.max = 9223372036854775807 := by decide
                 rw [this]; simp only [ByteArray.size_append]; simp only [ByteArray.size, Array.size]; simp; omega
      case m0 =>
        subst hz1
        unfold textQ
        rw [if_pos hb0]
        exact .refl _
      case m1 =>
        subst hz1
        unfold textQ
        rw [if_neg hb0]
        have e : ∀ A B : List UInt8, (⟨A.toArray⟩ ++ ⟨#[47]⟩ ++ ⟨B.toArray⟩ : ByteArray) = ⟨(A ++ 47 :: B).toArray⟩ := by
          intro A B
          apply ByteArray.ext
          simp [ByteArray.data_append]
        rw [e]
        exact .refl _
    · cases hs
  · cases hs

end Go.Proofs.YtjfncepmpabcnaaGreatDoor

namespace Go.Proofs.YtjfncepmpabcnaaGreatDoor
open Go.RowKit
set_option linter.unusedVariables false
set_option maxRecDepth 100000

def ofRat (n : Bool) (l : List Nat) (n' : Bool) (l' : List Nat) : Rat := match rightZ n l && rightZ n' l' with | true => Rat.divInt (zV n l) (zV n' l') | false => 0
def ofErr (n : Bool) (l : List Nat) (n' : Bool) (l' : List Nat) : Int := match rightZ n l && rightZ n' l' with | true => (if zV n' l' = 0 then 9 else 0) | false => 2
def sOfN : Spec
  | [x, y] => match pvR x, pvR y with
    | some ((n, l), k, _), some ((n', l'), k', _) => some (some (k ≤ 10000 ∧ k' ≤ 10000), .nm2 Rat Int (ofRat n l n' l') (ofErr n l n' l') fun r e => .tup [qP r (k + 6) (k' + 6), .f (.v (.int .i64 e))])
    | _, _ => none
  | _ => none
def sSameQ : Spec
  | [x, y] => match pvQ x, pvQ y with
    | some (((n, l), k, _), ((n', l'), k', _)), some (((m, u), i, _), ((m', u'), i', _)) => some (some (k + k' + i + i' ≤ 800000),
        .one (.f (.v (.bool (((n == m) && eqB l u) && ((n' == m') && eqB l' u'))))))
    | _, _ => none
  | _ => none
theorem sub_tup2 {l m : List PV} {x : PV} (h : Subl l m) : Sub (.tup [.agg l, x]) (.tup [.agg m, x]) := by
  refine ⟨fun H v hv => ?_⟩
  obtain ⟨vs, rfl, h1⟩ := PRs.of_tup hv
  have h2 := h1.1
  match vs, h2 with
  | [u, t], _ =>
    refine .tup rfl fun i v x hv hx => ?_
    match i with
    | 0 => simp at hv hx; subst hv hx; exact h.agg.out _ _ (h1.2 0 _ _ rfl rfl)
    | 1 => simp at hv hx; subst hv hx; exact h1.2 1 _ _ rfl rfl
    | i + 2 => simp at hv
theorem zV_nil : zV false [] = 0 := rfl
theorem ofRat_canon (a b : Int) : ofRat (zNeg a) (digs 1000000000 a.natAbs) (zNeg b) (digs 1000000000 b.natAbs) = Rat.divInt a b := by
  unfold ofRat; rw [rightZ_of, rightZ_of, zV_digs, zV_digs]; rfl
theorem ofErr_canon (a b : Int) : ofErr (zNeg a) (digs 1000000000 a.natAbs) (zNeg b) (digs 1000000000 b.natAbs) = if b = 0 then 9 else 0 := by
  unfold ofErr; rw [rightZ_of, rightZ_of, zV_digs]; rfl
section
variable {E : World → Hp → Prop} (hU : Up E)
include hU
theorem cOfN : Contract Tryz.prog E 36 sOfN := by
  refine contract_plain [(77, sRight), (73, sOfQ), (70, sCmp), (84, sReduced)] Tryz.ntmps36 Tryz.func36 (by kernel_rfl) (by kernel_rfl) hU ⟨cRight, cOfQ hU, cCmp, cReduced hU, trivial⟩ ?_
  intro xs p r hs hp
  unfold sOfN at hs
  split at hs
  · rename_i x y
    split at hs
    · rename_i n l k j n' l' k' j' hx hy
      cases hs
      obtain ⟨hk, hk'⟩ := hp _ rfl
      refine ⟨[rawP n l k, rawP n' l' k'], .cons (sub_raw hx) (.cons (sub_raw hy) .nil), rfl, ?_⟩
      refine cast_rfl (p := k ≤ 1000000 ∧ ifB (!rightZ n l) ((0 ≤ 10000 ∧ 0 ≤ 10000) ∧ ∀ (z1 : Rat), z1 = takeQ false [] false [] → true = true ∧ Sub (PV.tup [PV.agg [PV.f (Lf.zn z1.num), PV.f (Lf.zd z1.num 3), PV.f (Lf.zn (↑z1.den : Int)), PV.f (Lf.zd (↑z1.den : Int) 3)], PV.f (Lf.v (Value.int IntKind.i64 (2 : Int)))]) (PV.tup [PV.agg [PV.f (Lf.zn (ofRat n l n' l').num), PV.f (Lf.zd (ofRat n l n' l').num (k + 6)), PV.f (Lf.zn (↑(ofRat n l n' l').den : Int)), PV.f (Lf.zd (↑(ofRat n l n' l').den : Int) (k' + 6))], PV.f (Lf.v (Value.int IntKind.i64 (ofErr n l n' l')))])) (k' ≤ 1000000 ∧ ifB (!rightZ n' l') ((0 ≤ 10000 ∧ 0 ≤ 10000) ∧ ∀ (z1 : Rat), z1 = takeQ false [] false [] → true = true ∧ Sub (PV.tup [PV.agg [PV.f (Lf.zn z1.num), PV.f (Lf.zd z1.num 3), PV.f (Lf.zn (↑z1.den : Int)), PV.f (Lf.zd (↑z1.den : Int) 3)], PV.f (Lf.v (Value.int IntKind.i64 (2 : Int)))]) (PV.tup [PV.agg [PV.f (Lf.zn (ofRat n l n' l').num), PV.f (Lf.zd (ofRat n l n' l').num (k + 6)), PV.f (Lf.zn (↑(ofRat n l n' l').den : Int)), PV.f (Lf.zd (↑(ofRat n l n' l').den : Int) (k' + 6))], PV.f (Lf.v (Value.int IntKind.i64 (ofErr n l n' l')))])) (k' + 0 ≤ 90000 ∧ ifB (cmpI (zV n' l') (zV false []) == (0 : Int)) ((0 ≤ 10000 ∧ 0 ≤ 10000) ∧ ∀ (z1 : Rat), z1 = takeQ false [] false [] → true = true ∧ Sub (PV.tup [PV.agg [PV.f (Lf.zn z1.num), PV.f (Lf.zd z1.num 3), PV.f (Lf.zn (↑z1.den : Int)), PV.f (Lf.zd (↑z1.den : Int) 3)], PV.f (Lf.v (Value.int IntKind.i64 (9 : Int)))]) (PV.tup [PV.agg [PV.f (Lf.zn (ofRat n l n' l').num), PV.f (Lf.zd (ofRat n l n' l').num (k + 6)), PV.f (Lf.zn (↑(ofRat n l n' l').den : Int)), PV.f (Lf.zd (↑(ofRat n l n' l').den : Int) (k' + 6))], PV.f (Lf.v (Value.int IntKind.i64 (ofErr n l n' l')))])) ((k ≤ 10000 ∧ k' ≤ 10000 ∧ zV n' l' ≠ (0 : Int)) ∧ ∀ (z1 : Rat), z1 = Rat.divInt (zV n l) (zV n' l') → true = true ∧ Sub (PV.tup [PV.agg [PV.f (Lf.zn z1.num), PV.f (Lf.zd z1.num (k + 2)), PV.f (Lf.zn (↑z1.den : Int)), PV.f (Lf.zd (↑z1.den : Int) (k' + 2))], PV.f (Lf.v (Value.int IntKind.i64 (0 : Int)))]) (PV.tup [PV.agg [PV.f (Lf.zn (ofRat n l n' l').num), PV.f (Lf.zd (ofRat n l n' l').num (k + 6)), PV.f (Lf.zn (↑(ofRat n l n' l').den : Int)), PV.f (Lf.zd (↑(ofRat n l n' l').den : Int) (k' + 6))], PV.f (Lf.v (Value.int IntKind.i64 (ofErr n l n' l')))]))))) (by kernel_rfl) ?_
      refine ⟨?s0, ifB_iff.2 ⟨fun hb0 => ⟨?s1, fun z1 => fun hz1 => ⟨rfl, ?m0⟩⟩, fun hb0 => ⟨?s2, ifB_iff.2 ⟨fun hb1 => ⟨?s3, fun z1 => fun hz1 => ⟨rfl, ?m1⟩⟩, fun hb1 => ⟨?s4, ifB_iff.2 ⟨fun hb2 => ⟨?s5, fun z1 => fun hz1 => ⟨rfl, ?m2⟩⟩, fun hb2 => ⟨?s6, fun z1 => fun hz1 => ⟨rfl, ?m3⟩⟩⟩⟩⟩⟩⟩⟩
      all_goals (try simp only [Bool.not_eq_true', Bool.not_eq_false', cmpI_eq0, zV_nil, decide_eq_true_eq, decide_eq_false_iff_not] at *)
      case s0 => omega
      case s1 => exact ⟨by decide, by decide⟩
      case s2 => omega
      case s3 => exact ⟨by decide, by decide⟩
      case s4 => omega
      case s5 => exact ⟨by decide, by decide⟩
      case s6 => exact ⟨hk, hk', hb2⟩
      case m0 =>
        have e1 : ofRat n l n' l' = 0 := by unfold ofRat; rw [hb0]; rfl
        have e2 : ofErr n l n' l' = 2 := by unfold ofErr; rw [hb0]; rfl
        rw [e1, e2, hz1, takeQ_nil]
        exact sub_tup2 (.zd rfl (by omega) (.zd rfl (by omega) .nil))
      case m1 =>
        have e1 : ofRat n l n' l' = 0 := by unfold ofRat; rw [hb0, hb1]; rfl
        have e2 : ofErr n l n' l' = 2 := by unfold ofErr; rw [hb0, hb1]; rfl
        rw [e1, e2, hz1, takeQ_nil]
        exact sub_tup2 (.zd rfl (by omega) (.zd rfl (by omega) .nil))
      case m2 =>
        have e1 : ofRat n l n' l' = 0 := by unfold ofRat; rw [hb0, hb1, hb2]; exact Rat.divInt_zero _
        have e2 : ofErr n l n' l' = 9 := by unfold ofErr; rw [hb0, hb1]; exact if_pos hb2
        rw [e1, e2, hz1, takeQ_nil]
        exact sub_tup2 (.zd rfl (by omega) (.zd rfl (by omega) .nil))
      case m3 =>
        have e1 : ofRat n l n' l' = Rat.divInt (zV n l) (zV n' l') := by unfold ofRat; rw [hb0, hb1]; rfl
        have e2 : ofErr n l n' l' = 0 := by unfold ofErr; rw [hb0, hb1]; exact if_neg hb2
        rw [e1, e2, hz1]
        exact sub_tup2 (.zd rfl (by omega) (.zd rfl (by omega) .nil))
    · cases hs
  · cases hs
theorem cSameQ : Contract Tryz.prog E 76 sSameQ := by
  refine contract_plain [(45, sSame)] Tryz.ntmps76 Tryz.func76 (by kernel_rfl) (by kernel_rfl) hU ⟨cSame, trivial⟩ ?_
  intro xs p r hs hp
  unfold sSameQ at hs
  split at hs
  · rename_i x y
    split at hs
    · rename_i n l k j n' l' k' j' m u i _ m' u' i' _ hx hy
      cases hs
      have hk := hp _ rfl
      refine ⟨[rawQ n l k n' l' k', rawQ m u i m' u' i'], .cons (sub_rawQ hx) (.cons (sub_rawQ hy) .nil), rfl, ?_⟩
      refine cast_rfl (p := k + i ≤ 900000 ∧ ifB (n == m && eqB l u) (k' + i' ≤ 900000 ∧ true = true ∧ Sub (PV.f (Lf.v (Value.bool (n' == m' && eqB l' u')))) (PV.f (Lf.v (Value.bool (n == m && eqB l u && (n' == m' && eqB l' u')))))) (true = true ∧ Sub (PV.f (Lf.v (Value.bool false))) (PV.f (Lf.v (Value.bool (n == m && eqB l u && (n' == m' && eqB l' u'))))))) (by kernel_rfl) ?_
      refine ⟨?s0, ifB_iff.2 ⟨fun hb0 => ⟨?s1, ⟨rfl, ?m0⟩⟩, fun hb0 => ⟨rfl, ?m1⟩⟩⟩
      case s0 => omega
      case s1 => omega
      case m0 => rw [hb0]; exact .refl _
      case m1 => rw [hb0]; exact .refl _
    · cases hs
  · cases hs
theorem cSame3 : Contract Tryz.prog E 23 sSameQ := by
  refine contract_plain [(76, sSameQ)] Tryz.ntmps23 Tryz.func23 (by kernel_rfl) (by kernel_rfl) hU ⟨cSameQ hU, trivial⟩ ?_
  intro xs p r hs hp
  unfold sSameQ at hs
  split at hs
  · rename_i x y
    split at hs
    · rename_i n l k j n' l' k' j' m u i _ m' u' i' _ hx hy
      cases hs
      have hk := hp _ rfl
      refine ⟨[rawQ n l k n' l' k', rawQ m u i m' u' i'], .cons (sub_rawQ hx) (.cons (sub_rawQ hy) .nil), rfl, ?_⟩
      refine cast_rfl (p := k + k' + i + i' ≤ 800000 ∧ true = true ∧ Sub (PV.f (Lf.v (Value.bool (n == m && eqB l u && (n' == m' && eqB l' u'))))) (PV.f (Lf.v (Value.bool (n == m && eqB l u && (n' == m' && eqB l' u')))))) (by kernel_rfl) ?_
      refine ⟨?s0, ⟨rfl, ?m0⟩⟩
      case s0 => omega
      case m0 => exact .refl _
    · cases hs
  · cases hs
end

end Go.Proofs.YtjfncepmpabcnaaGreatDoor

namespace Go.Proofs.YtjfncepmpabcnaaGreatDoor
open Go.RowKit
set_option linter.unusedVariables false
set_option maxRecDepth 100000

/-- What is told of the program's variables. -/
def EQ (w : World) (H : Hp) : Prop := EZ w H ∧ ∃ m, w.cell? ⟨0, 0, none⟩ = some (.int .i64 m)
theorem EQ.up : Up EQ := fun w H w' H' he ⟨h, m, hm⟩ => ⟨EZ.up w H w' H' he h, m, (he.bel.cell (p := ⟨0, 0, none⟩) (cell_lt hm)).trans hm⟩
theorem Contract.env {P : Program} {E E' : World → Hp → Prop} {f : FuncId} {sp : Spec} (h : Contract P E f sp) (he : ∀ w H, E' w H → E w H) : Contract P E' f sp :=
  fun xs p r hs hp w H vs hf hE hvs => h xs p r hs hp w H vs hf (he w H hE) hvs
def sCut : Spec
  | [.f (.v (.string s)), .f (.v (.string t))] => some (some (s.size ≤ 1000000), .one (.tup [.f (.v (.string ⟨(Lib.cut s.data.toList t.data.toList).1.toArray⟩)), .f (.v (.string ⟨(Lib.cut s.data.toList t.data.toList).2.1.toArray⟩)), .f (.v (.bool (Lib.cut s.data.toList t.data.toList).2.2))]))
  | _ => none
theorem cCut : Contract Tryz.prog EQ 71 sCut := by
  intro xs p r hs hp w H vs hf hE hvs
  unfold sCut at hs
  split at hs
  · rename_i s t
    cases hs
    have hb := hp _ rfl
    obtain ⟨u, v, rfl, hu, hv⟩ := two_args hvs
    have h1 := hu.val
    have h2 := hv.val
    subst h1 h2
    obtain ⟨-, m, hm⟩ := hE
    refine (Tryz.strings_Cut s t m w (by omega) hm).mono ?_
    rintro e w' ⟨rfl, n, rfl⟩
    refine ⟨H, _, rfl, Ext.below hf (belowN (Below.refl _ _) n), .tup rfl fun i v x hv hx => ?_⟩
    match i with
    | 0 => simp at hv hx; subst hv hx; exact .f (.v _ rfl)
    | 1 => simp at hv hx; subst hv hx; exact .f (.v _ rfl)
    | 2 => simp at hv hx; subst hv hx; exact .f (.v _ rfl)
    | i + 3 => simp at hv
  · cases hs
/-- A ratio's text: its parts; is it one; whose. -/
def cutN (l : List UInt8) : Int := parZ (Lib.cut l [47]).1
def cutD (l : List UInt8) : Int := match (Lib.cut l [47]).2.2 with | true => parZ (Lib.cut l [47]).2.1 | false => 1
def cutOk (l : List UInt8) : Bool := okZ (Lib.cut l [47]).1 && (match (Lib.cut l [47]).2.2 with | true => okZ (Lib.cut l [47]).2.1 | false => true)
def okQ (l : List UInt8) : Bool := cutOk l && (decide (0 < cutD l) && decide (gcd2 (cutN l) (cutD l) = 1)) && (textQ (Rat.divInt (cutN l) (cutD l)) == l)
def parQ (l : List UInt8) : Rat := match okQ l with | true => Rat.divInt (cutN l) (cutD l) | false => 0
theorem rightQ_int (a b : Int) : rightQ (zNeg a) (digs 1000000000 a.natAbs) (zNeg b) (digs 1000000000 b.natAbs) = (decide (0 < b) && decide (gcd2 a b = 1)) := by
  unfold rightQ; rw [rightZ_of, rightZ_of, zV_digs, zV_digs]; rfl
theorem takeQ_int {a b : Int} (h : (decide (0 < b) && decide (gcd2 a b = 1)) = true) : takeQ (zNeg a) (digs 1000000000 a.natAbs) (zNeg b) (digs 1000000000 b.natAbs) = Rat.divInt a b ∧ (Rat.divInt a b).num = a ∧ ((Rat.divInt a b).den : Int) = b := by
  rw [← rightQ_int] at h
  have h1 := takeQ_yes h
  rw [zV_digs, zV_digs] at h1
  have h2 : takeQ (zNeg a) (digs 1000000000 a.natAbs) (zNeg b) (digs 1000000000 b.natAbs) = Rat.divInt a b := by
    unfold takeQ; rw [h, zV_digs, zV_digs]
  rw [h2] at h1
  exact ⟨h2, h1.1, h1.2⟩
theorem cut_len (l t : List UInt8) : (Lib.cut l t).1.length ≤ l.length ∧ (Lib.cut l t).2.1.length ≤ l.length := by
  unfold Lib.cut
  split
  · simp; omega
  · simp
theorem bseqB (l : List UInt8) (s : ByteArray) : ((⟨l.toArray⟩ : ByteArray).toList == s.toList) = (l == s.data.toList) := by
  have e : s = ⟨s.data.toList.toArray⟩ := by simp
  conv => lhs; rw [e]
  rw [bseq _ _ _ rfl, Bool.eq_iff_iff]; simp
theorem fail_sub {l : List UInt8} {k j : Nat} {z : Rat} (h : okQ l = false) (hz : z = takeQ false [] false []) (hk : k ≤ 1010) (hj : j ≤ 1010) : Sub (.tup [.agg [.f (.zn z.num), .f (.zd z.num k), .f (.zn z.den), .f (.zd z.den j)], .f (.v (.bool false))]) (.tup [.agg [.f (.zn (parQ l).num), .f (.zd (parQ l).num 1010), .f (.zn (parQ l).den), .f (.zd (parQ l).den 1010)], .f (.v (.bool (okQ l)))]) := by
  have e : parQ l = 0 := by unfold parQ; rw [h]
  rw [e, h, hz, takeQ_nil]
  exact sub_tup2 (.zd rfl hk (.zd rfl hj .nil))
theorem good_sub {l : List UInt8} {k j : Nat} {a b : Int} (h : okQ l = true) (ha : a = cutN l) (hb : b = cutD l) (hk : k ≤ 1010) (hj : j ≤ 1010) : Sub (.tup [.agg [.f (.zn a), .f (.zd a k), .f (.zn b), .f (.zd b j)], .f (.v (.bool true))]) (.tup [.agg [.f (.zn (parQ l).num), .f (.zd (parQ l).num 1010), .f (.zn (parQ l).den), .f (.zd (parQ l).den 1010)], .f (.v (.bool (okQ l)))]) := by
  have e : parQ l = Rat.divInt a b := by unfold parQ; rw [h, ha, hb]
  unfold okQ at h
  simp only [Bool.and_eq_true] at h
  obtain ⟨-, h1, h2⟩ := takeQ_int (a := cutN l) (b := cutD l) (by rw [Bool.and_eq_true]; exact h.1.2)
  rw [show okQ l = true from by unfold okQ; simp only [Bool.and_eq_true]; exact h, e]
  exact sub_tup2 (.zd (by rw [ha, hb, h1]) hk (.zd (by rw [ha, hb, h2]) hj .nil))
theorem okQ_no1 {l : List UInt8} (h : cutOk l = false) : okQ l = false := by unfold okQ; rw [h]; rfl
theorem okQ_no2 {l : List UInt8} (h : (decide (0 < cutD l) && decide (gcd2 (cutN l) (cutD l) = 1)) = false) : okQ l = false := by unfold okQ; rw [h, Bool.and_false]; rfl
theorem okQ_no3 {l : List UInt8} (h : (textQ (Rat.divInt (cutN l) (cutD l)) == l) = false) : okQ l = false := by unfold okQ; rw [h, Bool.and_false]
theorem okQ_yes {l : List UInt8} (h1 : cutOk l = true) (h2 : (decide (0 < cutD l) && decide (gcd2 (cutN l) (cutD l) = 1)) = true) (h3 : (textQ (Rat.divInt (cutN l) (cutD l)) == l) = true) : okQ l = true := by unfold okQ; rw [h1, h2, h3]; rfl
def sParseQ : Spec
  | [.f (.v (.string s))] => some (some (s.size ≤ 1000), .nm2 Rat Bool (parQ s.data.toList) (okQ s.data.toList) fun r b => .tup [qP r 1010 1010, .f (.v (.bool b))])
  | _ => none
theorem cParseQ : Contract Tryz.prog EQ 21 sParseQ := by
  refine contract_plain [(71, sCut), (51, sParse), (72, sOne), (25, sRightQ), (32, sTextQ), (73, sOfQ)] Tryz.ntmps21 Tryz.func21 (by kernel_rfl) (by kernel_rfl) EQ.up ⟨cCut, cParse, cOne EQ.up, cRightQ EQ.up, cTextQ.env (fun _ _ h => h.1), cOfQ EQ.up, trivial⟩ ?_
  intro xs p r hs hp
  unfold sParseQ at hs
  split at hs
  · rename_i s
    cases hs
    have hb := hp _ rfl
    refine ⟨[.f (.v (.string s))], .cons (.refl _) .nil, rfl, ?_⟩
    have hsz : s.data.toList.length ≤ 1000 := by rw [Array.length_toList]; exact hb
    obtain ⟨hc1, hc2⟩ := cut_len s.data.toList [47]
    have hz1' := parZ_zbk (k := 1000) (Nat.le_trans hc1 hsz)
    have hz2' := parZ_zbk (k := 1000) (Nat.le_trans hc2 hsz)
    have ht1 := zText_len hz1'
    have ht2 := zText_len hz2'
    have ht3 := zText_len (z := 1) (k := 1) ZB.one
    refine cast_rfl (p := s.size ≤ 1000000 ∧ (ByteArray.mk (Lib.cut s.data.toList [(47 : UInt8)]).fst.toArray).size ≤ 1000 ∧ ∀ (z1 : Int), z1 = parZ (Lib.cut s.data.toList [(47 : UInt8)]).fst → ifB (Lib.cut s.data.toList [(47 : UInt8)]).snd.snd ((ByteArray.mk (Lib.cut s.data.toList [(47 : UInt8)]).snd.fst.toArray).size ≤ 1000 ∧ ∀ (z2 : Int), z2 = parZ (Lib.cut s.data.toList [(47 : UInt8)]).snd.fst → ifB (!okZ (Lib.cut s.data.toList [(47 : UInt8)]).fst) ((0 ≤ 10000 ∧ 0 ≤ 10000) ∧ ∀ (z3 : Rat), z3 = takeQ false [] false [] → true = true ∧ Sub (PV.tup [PV.agg [PV.f (Lf.zn z3.num), PV.f (Lf.zd z3.num 3), PV.f (Lf.zn (↑z3.den : Int)), PV.f (Lf.zd (↑z3.den : Int) 3)], PV.f (Lf.v (Value.bool false))]) (PV.tup [PV.agg [PV.f (Lf.zn (parQ s.data.toList).num), PV.f (Lf.zd (parQ s.data.toList).num 1010), PV.f (Lf.zn (↑(parQ s.data.toList).den : Int)), PV.f (Lf.zd (↑(parQ s.data.toList).den : Int) 1010)], PV.f (Lf.v (Value.bool (okQ s.data.toList)))])) (ifB (!okZ (Lib.cut s.data.toList [(47 : UInt8)]).snd.fst) ((0 ≤ 10000 ∧ 0 ≤ 10000) ∧ ∀ (z3 : Rat), z3 = takeQ false [] false [] → true = true ∧ Sub (PV.tup [PV.agg [PV.f (Lf.zn z3.num), PV.f (Lf.zd z3.num 3), PV.f (Lf.zn (↑z3.den : Int)), PV.f (Lf.zd (↑z3.den : Int) 3)], PV.f (Lf.v (Value.bool false))]) (PV.tup [PV.agg [PV.f (Lf.zn (parQ s.data.toList).num), PV.f (Lf.zd (parQ s.data.toList).num 1010), PV.f (Lf.zn (↑(parQ s.data.toList).den : Int)), PV.f (Lf.zd (↑(parQ s.data.toList).den : Int) 1010)], PV.f (Lf.v (Value.bool (okQ s.data.toList)))])) ((1000 ≤ 10000 ∧ 1000 ≤ 10000) ∧ ifB (!rightQ (zNeg z1) (digs 1000000000 z1.natAbs) (zNeg z2) (digs 1000000000 z2.natAbs)) ((0 ≤ 10000 ∧ 0 ≤ 10000) ∧ ∀ (z3 : Rat), z3 = takeQ false [] false [] → true = true ∧ Sub (PV.tup [PV.agg [PV.f (Lf.zn z3.num), PV.f (Lf.zd z3.num 3), PV.f (Lf.zn (↑z3.den : Int)), PV.f (Lf.zd (↑z3.den : Int) 3)], PV.f (Lf.v (Value.bool false))]) (PV.tup [PV.agg [PV.f (Lf.zn (parQ s.data.toList).num), PV.f (Lf.zd (parQ s.data.toList).num 1010), PV.f (Lf.zn (↑(parQ s.data.toList).den : Int)), PV.f (Lf.zd (↑(parQ s.data.toList).den : Int) 1010)], PV.f (Lf.v (Value.bool (okQ s.data.toList)))])) ((1000 ≤ 1900 ∧ 1000 ≤ 1900 ∧ (zText (takeQ (zNeg z1) (digs 1000000000 z1.natAbs) (zNeg z2) (digs 1000000000 z2.natAbs)).num).length ≤ 1000000 ∧ (zText (↑(takeQ (zNeg z1) (digs 1000000000 z1.natAbs) (zNeg z2) (digs 1000000000 z2.natAbs)).den : Int)).length ≤ 1000000) ∧ ifB (!(ByteArray.mk (textQ (takeQ (zNeg z1) (digs 1000000000 z1.natAbs) (zNeg z2) (digs 1000000000 z2.natAbs))).toArray).toList == s.toList) ((0 ≤ 10000 ∧ 0 ≤ 10000) ∧ ∀ (z3 : Rat), z3 = takeQ false [] false [] → true = true ∧ Sub (PV.tup [PV.agg [PV.f (Lf.zn z3.num), PV.f (Lf.zd z3.num 3), PV.f (Lf.zn (↑z3.den : Int)), PV.f (Lf.zd (↑z3.den : Int) 3)], PV.f (Lf.v (Value.bool false))]) (PV.tup [PV.agg [PV.f (Lf.zn (parQ s.data.toList).num), PV.f (Lf.zd (parQ s.data.toList).num 1010), PV.f (Lf.zn (↑(parQ s.data.toList).den : Int)), PV.f (Lf.zd (↑(parQ s.data.toList).den : Int) 1010)], PV.f (Lf.v (Value.bool (okQ s.data.toList)))])) (true = true ∧ Sub (PV.tup [PV.agg [PV.f (Lf.zn z1), PV.f (Lf.zd z1 1000), PV.f (Lf.zn z2), PV.f (Lf.zd z2 1000)], PV.f (Lf.v (Value.bool true))]) (PV.tup [PV.agg [PV.f (Lf.zn (parQ s.data.toList).num), PV.f (Lf.zd (parQ s.data.toList).num 1010), PV.f (Lf.zn (↑(parQ s.data.toList).den : Int)), PV.f (Lf.zd (↑(parQ s.data.toList).den : Int) 1010)], PV.f (Lf.v (Value.bool (okQ s.data.toList)))])))))) (ifB (!okZ (Lib.cut s.data.toList [(47 : UInt8)]).fst) ((0 ≤ 10000 ∧ 0 ≤ 10000) ∧ ∀ (z2 : Rat), z2 = takeQ false [] false [] → true = true ∧ Sub (PV.tup [PV.agg [PV.f (Lf.zn z2.num), PV.f (Lf.zd z2.num 3), PV.f (Lf.zn (↑z2.den : Int)), PV.f (Lf.zd (↑z2.den : Int) 3)], PV.f (Lf.v (Value.bool false))]) (PV.tup [PV.agg [PV.f (Lf.zn (parQ s.data.toList).num), PV.f (Lf.zd (parQ s.data.toList).num 1010), PV.f (Lf.zn (↑(parQ s.data.toList).den : Int)), PV.f (Lf.zd (↑(parQ s.data.toList).den : Int) 1010)], PV.f (Lf.v (Value.bool (okQ s.data.toList)))])) ((1000 ≤ 10000 ∧ 3 ≤ 10000) ∧ ifB (!rightQ (zNeg z1) (digs 1000000000 z1.natAbs) (zNeg (1 : Int)) (digs 1000000000 (Int.natAbs (1 : Int)))) ((0 ≤ 10000 ∧ 0 ≤ 10000) ∧ ∀ (z2 : Rat), z2 = takeQ false [] false [] → true = true ∧ Sub (PV.tup [PV.agg [PV.f (Lf.zn z2.num), PV.f (Lf.zd z2.num 3), PV.f (Lf.zn (↑z2.den : Int)), PV.f (Lf.zd (↑z2.den : Int) 3)], PV.f (Lf.v (Value.bool false))]) (PV.tup [PV.agg [PV.f (Lf.zn (parQ s.data.toList).num), PV.f (Lf.zd (parQ s.data.toList).num 1010), PV.f (Lf.zn (↑(parQ s.data.toList).den : Int)), PV.f (Lf.zd (↑(parQ s.data.toList).den : Int) 1010)], PV.f (Lf.v (Value.bool (okQ s.data.toList)))])) ((1000 ≤ 1900 ∧ 3 ≤ 1900 ∧ (zText (takeQ (zNeg z1) (digs 1000000000 z1.natAbs) (zNeg (1 : Int)) (digs 1000000000 (Int.natAbs (1 : Int)))).num).length ≤ 1000000 ∧ (zText (↑(takeQ (zNeg z1) (digs 1000000000 z1.natAbs) (zNeg (1 : Int)) (digs 1000000000 (Int.natAbs (1 : Int)))).den : Int)).length ≤ 1000000) ∧ ifB (!(ByteArray.mk (textQ (takeQ (zNeg z1) (digs 1000000000 z1.natAbs) (zNeg (1 : Int)) (digs 1000000000 (Int.natAbs (1 : Int))))).toArray).toList == s.toList) ((0 ≤ 10000 ∧ 0 ≤ 10000) ∧ ∀ (z2 : Rat), z2 = takeQ false [] false [] → true = true ∧ Sub (PV.tup [PV.agg [PV.f (Lf.zn z2.num), PV.f (Lf.zd z2.num 3), PV.f (Lf.zn (↑z2.den : Int)), PV.f (Lf.zd (↑z2.den : Int) 3)], PV.f (Lf.v (Value.bool false))]) (PV.tup [PV.agg [PV.f (Lf.zn (parQ s.data.toList).num), PV.f (Lf.zd (parQ s.data.toList).num 1010), PV.f (Lf.zn (↑(parQ s.data.toList).den : Int)), PV.f (Lf.zd (↑(parQ s.data.toList).den : Int) 1010)], PV.f (Lf.v (Value.bool (okQ s.data.toList)))])) (true = true ∧ Sub (PV.tup [PV.agg [PV.f (Lf.zn z1), PV.f (Lf.zd z1 1000), PV.f (Lf.zn (1 : Int)), PV.f (Lf.zd (1 : Int) 3)], PV.f (Lf.v (Value.bool true))]) (PV.tup [PV.agg [PV.f (Lf.zn (parQ s.data.toList).num), PV.f (Lf.zd (parQ s.data.toList).num 1010), PV.f (Lf.zn (↑(parQ s.data.toList).den : Int)), PV.f (Lf.zd (↑(parQ s.data.toList).den : Int) 1010)], PV.f (Lf.v (Value.bool (okQ s.data.toList)))])))))) (by kernel_rfl) ?_
    refine ⟨?s0, ⟨?s1, fun z1 => fun hz1 => ifB_iff.2 ⟨fun hb0 => ⟨?s2, fun z2 => fun hz2 => ifB_iff.2 ⟨fun hb1 => ⟨?s3, fun z3 => fun hz3 => ⟨rfl, ?m0⟩⟩, fun hb1 => ifB_iff.2 ⟨fun hb2 => ⟨?s4, fun z3 => fun hz3 => ⟨rfl, ?m1⟩⟩, fun hb2 => ⟨?s5, ifB_iff.2 ⟨fun hb3 => ⟨?s6, fun z3 => fun hz3 => ⟨rfl, ?m2⟩⟩, fun hb3 => ⟨?s7, ifB_iff.2 ⟨fun hb4 => ⟨?s8, fun z3 => fun hz3 => ⟨rfl, ?m3⟩⟩, fun hb4 => ⟨rfl, ?m4⟩⟩⟩⟩⟩⟩⟩⟩, fun hb0 => ifB_iff.2 ⟨fun hb5 => ⟨?s9, fun z2 => fun hz2 => ⟨rfl, ?m5⟩⟩, fun hb5 => ⟨?s10, ifB_iff.2 ⟨fun hb6 => ⟨?s11, fun z2 => fun hz2 => ⟨rfl, ?m6⟩⟩, fun hb6 => ⟨?s12, ifB_iff.2 ⟨fun hb7 => ⟨?s13, fun z2 => fun hz2 => ⟨rfl, ?m7⟩⟩, fun hb7 => ⟨rfl, ?m8⟩⟩⟩⟩⟩⟩⟩⟩⟩
    all_goals (try simp only [Bool.not_eq_true', Bool.not_eq_false', rightQ_int, bseqB] at *)
    case s0 => omega
    case s1 => show (Lib.cut s.data.toList [47]).1.toArray.size ≤ 1000; rw [List.size_toArray]; omega
    case s2 => show (Lib.cut s.data.toList [47]).2.1.toArray.size ≤ 1000; rw [List.size_toArray]; omega
    all_goals (try (exact ⟨by decide, by decide⟩))
    case m0 => exact fail_sub (okQ_no1 (by unfold cutOk; rw [hb1]; rfl)) hz3 (by omega) (by omega)
    case m1 => exact fail_sub (okQ_no1 (by unfold cutOk; rw [hb0, hb2]; exact Bool.and_false _)) hz3 (by omega) (by omega)
    all_goals (have hD : cutD s.data.toList = (match (Lib.cut s.data.toList [47]).2.2 with | true => parZ (Lib.cut s.data.toList [47]).2.1 | false => 1) := rfl)
    all_goals (have hO : cutOk s.data.toList = (okZ (Lib.cut s.data.toList [47]).1 && (match (Lib.cut s.data.toList [47]).2.2 with | true => okZ (Lib.cut s.data.toList [47]).2.1 | false => true)) := rfl)
    all_goals (have hN : cutN s.data.toList = parZ (Lib.cut s.data.toList [47]).1 := rfl)
    all_goals (rw [hb0] at hD hO; dsimp only at hD hO)
    case m2 => exact fail_sub (okQ_no2 (by rw [hN, hD, ← hz1, ← hz2]; exact hb3)) hz3 (by omega) (by omega)
    case s7 =>
      obtain ⟨e1, e2, e3⟩ := takeQ_int hb3
      rw [e1, e2, e3, hz1, hz2]
      exact ⟨by decide, by decide, by omega, by omega⟩
    case m3 =>
      rw [(takeQ_int hb3).1] at hb4
      exact fail_sub (okQ_no3 (by rw [hN, hD, ← hz1, ← hz2]; exact hb4)) hz3 (by omega) (by omega)
    case m4 =>
      rw [(takeQ_int hb3).1] at hb4
      exact good_sub (okQ_yes (by rw [hO, hb1, hb2]; rfl) (by rw [hN, hD, ← hz1, ← hz2]; exact hb3) (by rw [hN, hD, ← hz1, ← hz2]; exact hb4)) (by rw [hN, hz1]) (by rw [hD, hz2]) (by omega) (by omega)
    case m5 => exact fail_sub (okQ_no1 (by rw [hO, hb5]; rfl)) hz2 (by omega) (by omega)
    case m6 => exact fail_sub (okQ_no2 (by rw [hN, hD, ← hz1]; exact hb6)) hz2 (by omega) (by omega)
    case s12 =>
      obtain ⟨e1, e2, e3⟩ := takeQ_int hb6
      rw [e1, e2, e3, hz1]
      exact ⟨by decide, by decide, by omega, by omega⟩
    case m7 =>
      rw [(takeQ_int hb6).1] at hb7
      exact fail_sub (okQ_no3 (by rw [hN, hD, ← hz1]; exact hb7)) hz2 (by omega) (by omega)
    case m8 =>
      rw [(takeQ_int hb6).1] at hb7
      exact good_sub (okQ_yes (by rw [hO, hb5]; rfl) (by rw [hN, hD, ← hz1]; exact hb6) (by rw [hN, hD, ← hz1]; exact hb7)) (by rw [hN, hz1]) (by rw [hD]) (by omega) (by omega)
  · cases hs
def sAwake : Spec
  | [] => some (none, .one (.f (.v (.bool true))))
  | _ => none
theorem cAwake : Contract Tryz.prog EQ 20 sAwake := by
  refine contract_plain [(31, sOf), (36, sOfN), (21, sParseQ), (32, sTextQ), (29, sFloor), (70, sCmp)] Tryz.ntmps20 Tryz.func20 (by kernel_rfl) (by kernel_rfl) EQ.up ⟨cOf, cOfN EQ.up, cParseQ, cTextQ.env (fun _ _ h => h.1), cFloor EQ.up, cCmp, trivial⟩ ?_
  intro xs p r hs hp
  unfold sAwake at hs
  split at hs
  · cases hs
    refine ⟨[], .nil, rfl, ?_⟩
    have hr : Rat.divInt 6 (-4) = Rat.divInt (-3) 2 := by rw [Rat.divInt_eq_divInt_iff (by decide) (by decide)]; decide
    have hq := takeQ_int (a := -3) (b := 2) (by decide)
    have ht : textQ (Rat.divInt (-3) 2) = [45, 51, 47, 50] := by
      unfold textQ
      rw [hq.2.1, hq.2.2, if_neg (by decide)]
      have e1 : zText (-3) = [45, 51] := by rw [zText_neg (by decide)]; exact congrArg (fun l => 45 :: l) (dec_small (n := 3) (by omega))
      have e2 : zText 2 = [50] := by rw [zText_pos (by decide)]; exact dec_small (n := 2) (by omega)
      rw [e1, e2]; rfl
    have hok : okQ [54, 47, 52] = false := by
      have hc : Lib.cut [54, 47, 52] [47] = ([54], [52], true) := by decide
      refine okQ_no2 ?_
      have e1 : cutN [54, 47, 52] = 6 := by
        unfold cutN; rw [hc]
        have := parZ_text 6
        rw [zText_pos (by decide)] at this
        rw [show Lib.decDigits (6 : Int).natAbs = [54] from dec_small (n := 6) (by omega)] at this
        exact this
      have e2 : cutD [54, 47, 52] = 4 := by
        unfold cutD; rw [hc]
        have := parZ_text 4
        rw [zText_pos (by decide)] at this
        rw [show Lib.decDigits (4 : Int).natAbs = [52] from dec_small (n := 4) (by omega)] at this
        exact this
      rw [e1, e2]; decide
    refine cast_rfl (p := ((-9223372036854775808 : Int) ≤ (6 : Int) ∧ (6 : Int) ≤ (9223372036854775807 : Int)) ∧ ∀ (z1 : Int), z1 = (6 : Int) → ((-9223372036854775808 : Int) ≤ (-4 : Int) ∧ (-4 : Int) ≤ (9223372036854775807 : Int)) ∧ ∀ (z2 : Int), z2 = (-4 : Int) → (3 ≤ 10000 ∧ 3 ≤ 10000) ∧ ∀ (z3 : Rat), z3 = ofRat (zNeg z1) (digs 1000000000 z1.natAbs) (zNeg z2) (digs 1000000000 z2.natAbs) → ∀ (z4 : Int), z4 = ofErr (zNeg z1) (digs 1000000000 z1.natAbs) (zNeg z2) (digs 1000000000 z2.natAbs) → 3 ≤ 1000 ∧ ∀ (z5 : Rat), z5 = parQ [(54 : UInt8), (47 : UInt8), (52 : UInt8)] → ∀ (z6 : Bool), z6 = okQ [(54 : UInt8), (47 : UInt8), (52 : UInt8)] → ifB (z4 == (0 : Int)) ((9 ≤ 1900 ∧ 9 ≤ 1900 ∧ (zText (takeQ (zNeg z3.num) (digs 1000000000 z3.num.natAbs) (zNeg (↑z3.den : Int)) (digs 1000000000 (↑z3.den : Int).natAbs)).num).length ≤ 1000000 ∧ (zText (↑(takeQ (zNeg z3.num) (digs 1000000000 z3.num.natAbs) (zNeg (↑z3.den : Int)) (digs 1000000000 (↑z3.den : Int).natAbs)).den : Int)).length ≤ 1000000) ∧ ifB ((ByteArray.mk (textQ (takeQ (zNeg z3.num) (digs 1000000000 z3.num.natAbs) (zNeg (↑z3.den : Int)) (digs 1000000000 (↑z3.den : Int).natAbs))).toArray).toList == (ByteArray.mk #[(45 : UInt8), (51 : UInt8), (47 : UInt8), (50 : UInt8)]).toList) ((9 ≤ 1900 ∧ 9 ≤ 1900) ∧ ∀ (z7 : Int), z7 = (takeQ (zNeg z3.num) (digs 1000000000 z3.num.natAbs) (zNeg (↑z3.den : Int)) (digs 1000000000 (↑z3.den : Int).natAbs)).floor → ((-9223372036854775808 : Int) ≤ (-2 : Int) ∧ (-2 : Int) ≤ (9223372036854775807 : Int)) ∧ ∀ (z8 : Int), z8 = (-2 : Int) → 16 ≤ 90000 ∧ ifB (cmpI (zV (zNeg z7) (digs 1000000000 z7.natAbs)) (zV (zNeg z8) (digs 1000000000 z8.natAbs)) == (0 : Int)) (true = true ∧ Sub (PV.f (Lf.v (Value.bool !z6))) (PV.f (Lf.v (Value.bool true)))) (true = true ∧ Sub (PV.f (Lf.v (Value.bool false))) (PV.f (Lf.v (Value.bool true))))) (true = true ∧ Sub (PV.f (Lf.v (Value.bool false))) (PV.f (Lf.v (Value.bool true))))) (true = true ∧ Sub (PV.f (Lf.v (Value.bool false))) (PV.f (Lf.v (Value.bool true))))) (by kernel_rfl) ?_
    refine ⟨?s0, fun z1 => fun hz1 => ⟨?s1, fun z2 => fun hz2 => ⟨?s2, fun z3 => fun hz3 => fun z4 => fun hz4 => ⟨?s3, fun z5 => fun hz5 => fun z6 => fun hz6 => ifB_iff.2 ⟨fun hb0 => ⟨?s4, ifB_iff.2 ⟨fun hb1 => ⟨?s5, fun z7 => fun hz7 => ⟨?s6, fun z8 => fun hz8 => ⟨?s7, ifB_iff.2 ⟨fun hb2 => ⟨rfl, ?m0⟩, fun hb2 => ⟨rfl, ?m1⟩⟩⟩⟩⟩, fun hb1 => ⟨rfl, ?m2⟩⟩⟩, fun hb0 => ⟨rfl, ?m3⟩⟩⟩⟩⟩⟩
    case s0 => decide
    case s1 => decide
    case s2 => decide
    case s3 => decide
    all_goals (subst hz1 hz2; rw [ofRat_canon, hr] at hz3; rw [ofErr_canon] at hz4; subst hz3 hz4)
    all_goals (try rw [takeQ_canon])
    case s4 =>
      rw [hq.2.1, hq.2.2]
      have e1 := zText_len (z := -3) (k := 1) (by unfold ZB; decide)
      have e2 := zText_len (z := 2) (k := 1) (by unfold ZB; decide)
      exact ⟨by decide, by decide, by omega, by omega⟩
    case s5 => exact ⟨by decide, by decide⟩
    case s6 => decide
    case s7 => decide
    case m0 => rw [hz6, hok]; exact .refl _
    case m1 =>
      rw [takeQ_canon] at hz7
      rw [zV_digs, zV_digs, cmpI_eq0, hz7, hz8] at hb2
      exact absurd hb2 (by rw [Rat.floor_def, hq.2.1, hq.2.2]; decide)
    case m2 =>
      rw [takeQ_canon, ht, bseqB] at hb1
      exact absurd hb1 (by decide)
    case m3 => exact absurd hb0 (by decide)
  · cases hs

end Go.Proofs.YtjfncepmpabcnaaGreatDoor
