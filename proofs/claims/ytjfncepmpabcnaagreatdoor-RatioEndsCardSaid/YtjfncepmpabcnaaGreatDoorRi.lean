/- The reference of chapter 3 by the pure run: Of, Floor, Div, Add, Sub. -/
import Derived.Test.YtjfncepmpabcnaaGreatDoorRf
namespace Go.Proofs.YtjfncepmpabcnaaGreatDoor
open Go.RowKit
set_option linter.unusedVariables false
set_option maxRecDepth 100000

/-- A canonical text is its number's. -/
theorem numD_snoc (l : List UInt8) (c : UInt8) : numD (l ++ [c]) = numD l * 10 + (c.toNat - 48) := by
  unfold numD numF; rw [List.foldl_append]; rfl
theorem okT_snoc {l : List UInt8} {c : UInt8} (h : okT (l ++ [c]) = true) : isDig c = true ∧ (l ≠ [] → okT l = true ∧ bAt l 0 ≠ 48) := by
  unfold okT at h
  simp only [Bool.not_eq_true', Bool.or_eq_false_iff, Bool.not_eq_false', decB, List.all_append, List.all_cons, List.all_nil, Bool.and_true, Bool.and_eq_true, List.length_append, List.length_cons, List.length_nil] at h
  obtain ⟨⟨-, h1⟩, h2, h3⟩ := h
  refine ⟨h3, fun hne => ?_⟩
  have hl : 0 < l.length := List.length_pos_iff.2 hne
  have hb : bAt (l ++ [c]) 0 = bAt l 0 := by
    cases l with
    | nil => exact absurd rfl hne
    | cons a r => rfl
  rw [hb, decide_eq_true (by omega), Bool.true_and, decide_eq_false_iff_not] at h1
  refine ⟨?_, h1⟩
  unfold okT decB
  rw [h2, decide_eq_false (by omega), decide_eq_false h1, Bool.and_false]; rfl
theorem numD_pos : ∀ {l : List UInt8}, okT l = true → bAt l 0 ≠ 48 → 0 < numD l
  | [], h, _ => by cases h
  | a :: r, h, h0 => by
    have h1 : isDig a = true := by
      unfold okT at h
      simp only [Bool.not_eq_true', Bool.or_eq_false_iff, Bool.not_eq_false', decB, List.all_cons, Bool.and_eq_true] at h
      exact h.2.1
    have h2 : numD (a :: r) = (a.toNat - 48) * 10 ^ r.length + numD r := by
      unfold numD; rw [numF_cons, numF_acc, Nat.zero_mul, Nat.zero_add]; rfl
    unfold isDig at h1
    simp only [Bool.and_eq_true, decide_eq_true_eq] at h1
    have h3 : a.toNat ≠ 48 := h0
    have : 0 < (a.toNat - 48) * 10 ^ r.length := Nat.mul_pos (by omega) (Nat.pow_pos (by omega))
    omega
theorem dec_text (l : List UInt8) : okT l = true → Lib.decDigits (numD l) = l := by
  have key : ∀ (n : Nat) (l : List UInt8), l.length = n → okT l = true → Lib.decDigits (numD l) = l := by
    intro n
    induction n with
    | zero => intro l hl h; rw [List.length_eq_zero_iff.1 hl] at h; cases h
    | succ n ih =>
      intro l hl h
      obtain ⟨m, c, rfl⟩ : ∃ m c, l = m ++ [c] := by
        rcases List.eq_nil_or_concat l with h0 | ⟨m, c, h0⟩
        · rw [h0] at hl; cases hl
        · exact ⟨m, c, by simpa using h0⟩
      obtain ⟨h1, h2⟩ := okT_snoc h
      have hc : 48 ≤ c.toNat ∧ c.toNat ≤ 57 := by
        unfold isDig at h1; simpa using h1
      have hcc : UInt8.ofNat (48 + (c.toNat - 48)) = c := by
        rw [show 48 + (c.toNat - 48) = c.toNat from by omega]; exact UInt8.ofNat_toNat
      rw [numD_snoc]
      by_cases hm : m = []
      · subst hm
        rw [show numD [] = 0 from rfl, Nat.zero_mul, Nat.zero_add, Lib.decDigits, dif_pos (by omega), hcc]; rfl
      · obtain ⟨h3, h4⟩ := h2 hm
        have h5 := numD_pos h3 h4
        rw [Lib.decDigits, dif_neg (by omega), show (numD m * 10 + (c.toNat - 48)) / 10 = numD m from by omega, show (numD m * 10 + (c.toNat - 48)) % 10 = c.toNat - 48 from by omega, hcc]
        rw [ih m (by simpa using hl) h3]
  exact key _ l rfl
theorem zText_parZ {l : List UInt8} (h : okZ l = true) : zText (parZ l) = l := by
  rw [parZ_ok h]
  unfold okZ at h
  simp only [Bool.and_eq_true, Bool.not_eq_true'] at h
  obtain ⟨h1, h2⟩ := h
  have hd := dec_text _ h1
  cases hs : signZ l
  · have : restZ l = l := by unfold restZ Lib.trimPrefix; unfold signZ at hs; rw [hs]; rfl
    rw [this] at hd ⊢
    rw [zText_pos (by rw [zNeg]; exact decide_eq_false (by rw [zOf_false]; omega)), zOf_false, Int.natAbs_natCast, hd]
  · rw [hs, Bool.true_and, ofR_ok h1] at h2
    have h3 : numD (restZ l) ≠ 0 := by
      intro h0
      rw [h0, digs_zero] at h2
      cases h2
    have e : zOf true (numD (restZ l)) = -(numD (restZ l) : Int) := rfl
    rw [e, zText_neg (by rw [zNeg]; exact decide_eq_true (by omega)), Int.natAbs_neg, Int.natAbs_natCast, hd]
    have h4 : [45] <+: l := by simpa [signZ, Lib.hasPrefix, List.isPrefixOf_iff_prefix] using hs
    obtain ⟨t, rfl⟩ := h4
    simp [restZ, Lib.trimPrefix, Lib.hasPrefix]

theorem lr_zd {z : Int} {k j : Nat} {v : Value} {H : Hp} (hv : PR H B0 v (.f (.lr (digs 1000000000 z.natAbs) k))) (hj : k ≤ j) : PR H B0 v (.f (.zd z j)) := by
  have hr := hv.rd
  have hg : (digs 1000000000 z.natAbs).length ≤ k ∧ ∀ x ∈ digs 1000000000 z.natAbs, x < 4294967296 := rd_good hr (by simp [Lf.view])
  have hz : ZB z j := by
    have := zb_of_len (neg := zNeg z) hg.1
    rw [zOf_self] at this
    exact this.mono hj
  cases hr with
  | sl hvw _ hc hm h0 b o val hb hcell hk hrec => exact .f (.sl (f := .zd z j) hvw hz hc hm h0 b o val hb hcell hk hrec)
/-- A right ratio as it came. -/
theorem raw_take {n n' : Bool} {l l' : List Nat} {k k' : Nat} (h : rightQ n l n' l' = true) : Sub (rawQ n l k n' l' k') (qP (takeQ n l n' l') (k + 3) (k' + 3)) := by
  have h1 := takeQ_yes h
  have h2 : rightZ n l = true := by unfold rightQ at h; rw [Bool.and_eq_true] at h; exact h.1
  have h3 : rightZ n' l' = true := by unfold rightQ at h; rw [Bool.and_eq_true, Bool.and_eq_true] at h; exact h.2.1
  obtain ⟨e1, e2⟩ := rightZ_digs h2
  obtain ⟨e3, e4⟩ := rightZ_digs h3
  revert h1
  generalize takeQ n l n' l' = q
  intro h1
  generalize ha : zV n l = a at *
  generalize hb : zV n' l' = b at *
  obtain ⟨h1, h4⟩ := h1
  subst h1 h4 e1 e2 e3 e4
  refine ⟨fun H v hv => ?_⟩
  obtain ⟨vs, rfl, h5⟩ := PRs.of_agg hv
  match vs, h5.1 with
  | [p, q, r, s], _ =>
    have a0 := (h5.2 0 _ _ rfl rfl).val
    have a2 := (h5.2 2 _ _ rfl rfl).val
    subst a0 a2
    have a1 := lr_zd (h5.2 1 _ _ rfl rfl) (j := k + 3) (by omega)
    have a3 := lr_zd (h5.2 3 _ _ rfl rfl) (j := k' + 3) (by omega)
    exact (PRs.cons (.f (.zn _)) (.cons a1 (.cons (.f (.zn _)) (.cons a3 .nil)))).agg
/-- A right whole number as it came. -/
theorem raw_whole {n : Bool} {l : List Nat} {k : Nat} (h : rightZ n l = true) : Sub (.agg [.f (.v (.bool n)), .f (.lr l k), .f (.zn 1), .f (.zd 1 3)]) (qP ((zV n l : Int) : Rat) (k + 3) 6) := by
  obtain ⟨e1, e2⟩ := rightZ_digs h
  generalize ha : zV n l = a at *
  subst e1 e2
  refine ⟨fun H v hv => ?_⟩
  obtain ⟨vs, rfl, h5⟩ := PRs.of_agg hv
  match vs, h5.1 with
  | [p, q, r, s], _ =>
    have a0 := (h5.2 0 _ _ rfl rfl).val
    subst a0
    have a1 := lr_zd (h5.2 1 _ _ rfl rfl) (j := k + 3) (by omega)
    have a3 := (sub_zd (k := 3) (k' := 6) (ZB.one.mono (by omega))).out _ _ (h5.2 3 _ _ rfl rfl)
    exact (PRs.cons (.f (.zn _)) (.cons a1 (.cons (h5.2 2 _ _ rfl rfl) (.cons a3 .nil)))).agg
theorem cmpI_pos {a : Int} (h : decide (cmpI a 0 > 0) = true) : 0 < a := by
  rcases Int.lt_trichotomy a 0 with h1 | h1 | h1
  · rw [cmpI_lt h1] at h; exact absurd h (by decide)
  · rw [cmpI_eq h1] at h; exact absurd h (by decide)
  · exact h1
theorem cmpI_npos {a : Int} (h : decide (cmpI a 0 > 0) = false) : ¬ 0 < a := fun h1 => by
  rw [cmpI_gt h1] at h; exact absurd h (by decide)
def sNought : Spec
  | [] => some (none, .one (.agg [.f (.zn 0), .f (.zd 0 3), .f (.zn 1), .f (.zd 1 3)]))
  | _ => none
def sZero : Spec
  | [] => some (none, .one (zP 0 3))
  | _ => none
def sMul2 : Spec
  | [x, y] => match pvR x, pvR y with
    | some ((n, l), k, j), some ((n', l'), k', j') => some (some (k + k' ≤ 9990), .nm Int (zV n l * zV n' l') fun z => zP z (j + j' + 1))
    | _, _ => none
  | _ => none
def sRightR : Spec
  | [x] => match pvQ x with
    | some (((n, l), k, _), ((n', l'), k', _)) => some (some (k ≤ 9000 ∧ k' ≤ 9000), .one (.f (.v (.bool (rightQ n l n' l')))))
    | none => none
  | _ => none
def sTakeR : Spec
  | [x] => match pvQ x with
    | some (((n, l), k, _), ((n', l'), k', _)) => some (some (k ≤ 9000 ∧ k' ≤ 9000), .nm Rat (takeQ n l n' l') fun r => qP r (k + 3) (k' + 3))
    | none => none
  | _ => none
theorem occ47 (l : List UInt8) (i : Nat) : Lib.occAt l [47] i = true ↔ l[i]? = some 47 := by
  unfold Lib.occAt
  rw [List.isPrefixOf_iff_prefix]
  cases h : l.drop i with
  | nil =>
    have : l.length ≤ i := List.drop_eq_nil_iff.1 h
    simp [List.getElem?_eq_none this]
  | cons a r =>
    have : l[i]? = some a := by
      have h1 : (l.drop i)[0]? = some a := by rw [h]; rfl
      rwa [List.getElem?_drop, Nat.add_zero] at h1
    rw [this, List.cons_prefix_cons]
    simp [eq_comm]
theorem cut_hit {l : List UInt8} {i : Nat} (h : l[i]? = some 47) (hn : ∀ j, j < i → l[j]? ≠ some 47) : Lib.cut l [47] = (l.take i, l.drop (i + 1), true) := by
  have hi : i < l.length := (List.getElem?_eq_some_iff.1 h).1
  have := Lib.index_first (s := l) (sub := [47]) (i := i) (by omega) ((occ47 l i).2 h) fun j hj => Bool.eq_false_iff.2 fun hc => hn j hj ((occ47 l j).1 hc)
  unfold Lib.cut
  rw [this, if_pos (by omega)]
  simp
theorem cut_miss {l : List UInt8} (hn : ∀ j, j < l.length → l[j]? ≠ some 47) : Lib.cut l [47] = (l, [], false) := by
  have := Lib.index_none (s := l) (sub := [47]) fun j _ => Bool.eq_false_iff.2 fun hc => by
    have h1 := (occ47 l j).1 hc
    exact hn j (List.getElem?_eq_some_iff.1 h1).1 h1
  unfold Lib.cut
  rw [this, if_neg (by omega)]
theorem ext_take (s : ByteArray) (z : Nat) : (s.extract (Int.toNat 0) (z : Int).toNat).data.toList = s.data.toList.take z := by
  simp [ByteArray.data_extract]
theorem ext_drop (s : ByteArray) (z : Nat) (h : z < s.size) (hb : s.size ≤ 1000) : (s.extract (IntKind.i64.wrap ((z : Int) + 1)).toNat (s.size : Int).toNat).data.toList = s.data.toList.drop (z + 1) := by
  rw [wrapI _ ⟨by omega, by omega⟩, show ((z : Int) + 1).toNat = z + 1 from by omega, Int.toNat_natCast]
  rw [ByteArray.data_extract, Array.toList_extract, List.extract_eq_take_drop, List.take_of_length_le]
  rw [List.length_drop, Array.length_toList]; exact Nat.le_refl _
theorem fail0 {l : List UInt8} (h : okQ l = false) : Sub (.tup [.agg [.f (.zn 0), .f (.zd 0 3), .f (.zn 1), .f (.zd 1 3)], .f (.v (.bool false))]) (.tup [.agg [.f (.zn (parQ l).num), .f (.zd (parQ l).num 1010), .f (.zn (parQ l).den), .f (.zd (parQ l).den 1010)], .f (.v (.bool (okQ l)))]) := by
  have e : parQ l = 0 := by unfold parQ; rw [h]
  rw [e, h]
  exact sub_tup2 (.zd rfl (by omega) (.zd rfl (by omega) .nil))
section
variable {E : World → Hp → Prop} (hU : Up E)
include hU
theorem cOneR : Contract Tryz.prog E 90 sOne := by
  refine contract_loopsG [(56, sOf)] Tryz.ntmps90 Tryz.func90 (by kernel_rfl) (by kernel_rfl) hU ⟨cOfR, trivial⟩ ?_
  intro xs p r hs hp
  unfold sOne at hs
  split at hs
  · cases hs
    refine ⟨[], [], .nil, rfl, fun hgx hg => ?_⟩
    refine cast_rfl (p := ((-9223372036854775808 : Int) ≤ (1 : Int) ∧ (1 : Int) ≤ (9223372036854775807 : Int)) ∧ ∀ (z1 : Int), z1 = (1 : Int) → true = true ∧ Sub (PV.agg [PV.f (Lf.zn z1), PV.f (Lf.zd z1 3)]) (PV.agg [PV.f (Lf.zn (1 : Int)), PV.f (Lf.zd (1 : Int) 3)])) (by kernel_rfl) ?_
    refine ⟨?s0, fun z1 => fun hz1 => ⟨rfl, ?m0⟩⟩
    case s0 => decide
    case m0 => subst hz1; exact .refl _
  · cases hs
theorem cZeroR : Contract Tryz.prog E 87 sZero := by
  refine contract_loopsG [(56, sOf)] Tryz.ntmps87 Tryz.func87 (by kernel_rfl) (by kernel_rfl) hU ⟨cOfR, trivial⟩ ?_
  intro xs p r hs hp
  unfold sZero at hs
  split at hs
  · cases hs
    refine ⟨[], [], .nil, rfl, fun hgx hg => ?_⟩
    refine cast_rfl (p := ((-9223372036854775808 : Int) ≤ (0 : Int) ∧ (0 : Int) ≤ (9223372036854775807 : Int)) ∧ ∀ (z1 : Int), z1 = (0 : Int) → true = true ∧ Sub (PV.agg [PV.f (Lf.zn z1), PV.f (Lf.zd z1 3)]) (PV.agg [PV.f (Lf.zn (0 : Int)), PV.f (Lf.zd (0 : Int) 3)])) (by kernel_rfl) ?_
    refine ⟨?s0, fun z1 => fun hz1 => ⟨rfl, ?m0⟩⟩
    case s0 => decide
    case m0 => subst hz1; exact .refl _
  · cases hs
theorem cNoughtR : Contract Tryz.prog E 75 sNought := by
  refine contract_loopsG [(90, sOne), (87, sZero)] Tryz.ntmps75 Tryz.func75 (by kernel_rfl) (by kernel_rfl) hU ⟨cOneR hU, cZeroR hU, trivial⟩ ?_
  intro xs p r hs hp
  unfold sNought at hs
  split at hs
  · cases hs
    refine ⟨[], [], .nil, rfl, fun hgx hg => ?_⟩
    refine cast_rfl (p := true = true ∧ Sub (PV.agg [PV.f (Lf.zn (0 : Int)), PV.f (Lf.zd (0 : Int) 3), PV.f (Lf.zn (1 : Int)), PV.f (Lf.zd (1 : Int) 3)]) (PV.agg [PV.f (Lf.zn (0 : Int)), PV.f (Lf.zd (0 : Int) 3), PV.f (Lf.zn (1 : Int)), PV.f (Lf.zd (1 : Int) 3)])) (by kernel_rfl) ?_
    refine ⟨rfl, ?m0⟩
    case m0 => exact .refl _
  · cases hs
theorem cMul2R : Contract Tryz.prog E 83 sMul2 := by
  refine contract_loopsG [(16, sMulR)] Tryz.ntmps83 Tryz.func83 (by kernel_rfl) (by kernel_rfl) hU ⟨cMulZ hU, trivial⟩ ?_
  intro xs p r hs hp
  unfold sMul2 at hs
  split at hs
  · rename_i x y
    split at hs
    · rename_i n l k j n' l' k' j' hx hy
      cases hs
      have hk := hp _ rfl
      refine ⟨[rawP n l k, rawP n' l' k'], [], .cons (sub_raw hx) (.cons (sub_raw hy) .nil), rfl, fun hgx hg => ?_⟩
      obtain ⟨a1, a2, a3⟩ := pvR_good hx hgx.1
      obtain ⟨b1, b2, b3⟩ := pvR_good hy hgx.2.1
      refine cast_rfl (p := k + 2 + (k' + 2 + 0) ≤ 10000 ∧ ∀ (z1 : Int), z1 = (1 : Int) * zV n l * zV n' l' → true = true ∧ Sub (PV.agg [PV.f (Lf.zn z1), PV.f (Lf.zd z1 (1 + (k + 1) + (k' + 1)))]) (PV.agg [PV.f (Lf.zn (zV n l * zV n' l')), PV.f (Lf.zd (zV n l * zV n' l') (j + j' + 1))])) (by kernel_rfl) ?_
      refine ⟨?s0, fun z1 => fun hz1 => ⟨rfl, ?m0⟩⟩
      case s0 => omega
      case m0 =>
        have : z1 = zV n l * zV n' l' := by rw [hz1, Int.one_mul]
        subst this
        exact sub_zP ((a3.mul b3).mono (by omega))
    · cases hs
  · cases hs
theorem cRightR : Contract Tryz.prog E 39 sRightR := by
  refine contract_loopsG [(85, sRight), (87, sZero), (18, sGcdR), (90, sOne), (86, sCmp)] Tryz.ntmps39 Tryz.func39 (by kernel_rfl) (by kernel_rfl) hU ⟨cRightZ hU, cZeroR hU, cGcdZ hU, cOneR hU, cCmpZ hU, trivial⟩ ?_
  intro xs p r hs hp
  unfold sRightR at hs
  split at hs
  · rename_i x
    split at hs
    · rename_i n l k j n' l' k' j' hx
      cases hs
      obtain ⟨hk, hk'⟩ := hp _ rfl
      refine ⟨[rawQ n l k n' l' k'], [], .cons (sub_rawQ hx) .nil, rfl, fun hgx hg => ?_⟩
      refine cast_rfl (p := k ≤ 1000000 ∧ ifB (rightZ n l) (k' ≤ 1000000 ∧ ifB (rightZ n' l') (k' + 3 ≤ 90000 ∧ ifB (decide (cmpI (zV n' l') (zV (zNeg (0 : Int)) (digs 1000000000 (Int.natAbs (0 : Int)))) > (0 : Int))) (k + 2 + (k' + 2 + 0) ≤ 20000 ∧ ∀ (z1 : Int), z1 = gcd2 (gcd2 (0 : Int) (zV n l)) (zV n' l') → 0 + (k + 1) + 1 + (k' + 1) + 1 + 3 ≤ 90000 ∧ true = true ∧ Sub (PV.f (Lf.v (Value.bool (cmpI (zV (zNeg z1) (digs 1000000000 z1.natAbs)) (zV (zNeg (1 : Int)) (digs 1000000000 (Int.natAbs (1 : Int)))) == (0 : Int))))) (PV.f (Lf.v (Value.bool (rightQ n l n' l'))))) (true = true ∧ Sub (PV.f (Lf.v (Value.bool false))) (PV.f (Lf.v (Value.bool (rightQ n l n' l')))))) (true = true ∧ Sub (PV.f (Lf.v (Value.bool false))) (PV.f (Lf.v (Value.bool (rightQ n l n' l')))))) (true = true ∧ Sub (PV.f (Lf.v (Value.bool false))) (PV.f (Lf.v (Value.bool (rightQ n l n' l')))))) (by kernel_rfl) ?_
      refine ⟨?s0, ifB_iff.2 ⟨fun hb0 => ⟨?s1, ifB_iff.2 ⟨fun hb1 => ⟨?s2, ifB_iff.2 ⟨fun hb2 => ⟨?s3, fun z1 => fun hz1 => ⟨?s4, ⟨rfl, ?m0⟩⟩⟩, fun hb2 => ⟨rfl, ?m1⟩⟩⟩, fun hb1 => ⟨rfl, ?m2⟩⟩⟩, fun hb0 => ⟨rfl, ?m3⟩⟩⟩
      all_goals (try simp only [zV_digs, gcd2_two] at *)
      all_goals first | omega | skip
      all_goals refine sub_bool ?_
      all_goals unfold rightQ
      case m0 => rw [cmpI_eq0, hb0, hb1, ← hz1, decide_eq_true (cmpI_pos hb2)]; rfl
      case m1 => rw [hb0, hb1, decide_eq_false (fun h => cmpI_npos hb2 h)]; rfl
      case m2 => rw [hb0, hb1]; rfl
      case m3 => rw [hb0]; rfl
    · cases hs
  · cases hs
theorem cTakeR : Contract Tryz.prog E 82 sTakeR := by
  refine contract_loopsG [(39, sRightR), (75, sNought)] Tryz.ntmps82 Tryz.func82 (by kernel_rfl) (by kernel_rfl) hU ⟨cRightR hU, cNoughtR hU, trivial⟩ ?_
  intro xs p r hs hp
  unfold sTakeR at hs
  split at hs
  · rename_i x
    split at hs
    · rename_i n l k j n' l' k' j' hx
      cases hs
      obtain ⟨hk, hk'⟩ := hp _ rfl
      refine ⟨[rawQ n l k n' l' k'], [], .cons (sub_rawQ hx) .nil, rfl, fun hgx hg => ?_⟩
      refine cast_rfl (p := (k ≤ 9000 ∧ k' ≤ 9000) ∧ ifB (rightQ n l n' l') (true = true ∧ Sub (PV.agg [PV.f (Lf.v (Value.bool n)), PV.f (Lf.lr l k), PV.f (Lf.v (Value.bool n')), PV.f (Lf.lr l' k')]) (PV.agg [PV.f (Lf.zn (takeQ n l n' l').num), PV.f (Lf.zd (takeQ n l n' l').num (k + 3)), PV.f (Lf.zn (↑(takeQ n l n' l').den : Int)), PV.f (Lf.zd (↑(takeQ n l n' l').den : Int) (k' + 3))])) (true = true ∧ Sub (PV.agg [PV.f (Lf.zn (0 : Int)), PV.f (Lf.zd (0 : Int) 3), PV.f (Lf.zn (1 : Int)), PV.f (Lf.zd (1 : Int) 3)]) (PV.agg [PV.f (Lf.zn (takeQ n l n' l').num), PV.f (Lf.zd (takeQ n l n' l').num (k + 3)), PV.f (Lf.zn (↑(takeQ n l n' l').den : Int)), PV.f (Lf.zd (↑(takeQ n l n' l').den : Int) (k' + 3))]))) (by kernel_rfl) ?_
      refine ⟨?s0, ifB_iff.2 ⟨fun hb0 => ⟨rfl, ?m0⟩, fun hb0 => ⟨rfl, ?m1⟩⟩⟩
      case s0 => exact ⟨hk, hk'⟩
      case m0 => exact raw_take hb0
      case m1 =>
        rw [takeQ_no hb0]
        exact Subl.agg (.zd rfl (by omega) (.zd rfl (by omega) .nil))
    · cases hs
  · cases hs
theorem cWholeR : Contract Tryz.prog E 43 sWhole := by
  refine contract_loopsG [(85, sRight), (75, sNought), (90, sOne)] Tryz.ntmps43 Tryz.func43 (by kernel_rfl) (by kernel_rfl) hU ⟨cRightZ hU, cNoughtR hU, cOneR hU, trivial⟩ ?_
  intro xs p r hs hp
  unfold sWhole at hs
  split at hs
  · rename_i x
    split at hs
    · rename_i n l k j hx
      cases hs
      have hk := hp _ rfl
      refine ⟨[rawP n l k], [], .cons (sub_raw hx) .nil, rfl, fun hgx hg => ?_⟩
      refine cast_rfl (p := k ≤ 1000000 ∧ ifB (!rightZ n l) (true = true ∧ Sub (PV.agg [PV.f (Lf.zn (0 : Int)), PV.f (Lf.zd (0 : Int) 3), PV.f (Lf.zn (1 : Int)), PV.f (Lf.zd (1 : Int) 3)]) (PV.agg [PV.f (Lf.zn (match rightZ n l with | true => (↑(zV n l) : Rat) | false => (0 : Rat)).num), PV.f (Lf.zd (match rightZ n l with | true => (↑(zV n l) : Rat) | false => (0 : Rat)).num (k + 3)), PV.f (Lf.zn (↑(match rightZ n l with | true => (↑(zV n l) : Rat) | false => (0 : Rat)).den : Int)), PV.f (Lf.zd (↑(match rightZ n l with | true => (↑(zV n l) : Rat) | false => (0 : Rat)).den : Int) 6)])) (true = true ∧ Sub (PV.agg [PV.f (Lf.v (Value.bool n)), PV.f (Lf.lr l k), PV.f (Lf.zn (1 : Int)), PV.f (Lf.zd (1 : Int) 3)]) (PV.agg [PV.f (Lf.zn (match rightZ n l with | true => (↑(zV n l) : Rat) | false => (0 : Rat)).num), PV.f (Lf.zd (match rightZ n l with | true => (↑(zV n l) : Rat) | false => (0 : Rat)).num (k + 3)), PV.f (Lf.zn (↑(match rightZ n l with | true => (↑(zV n l) : Rat) | false => (0 : Rat)).den : Int)), PV.f (Lf.zd (↑(match rightZ n l with | true => (↑(zV n l) : Rat) | false => (0 : Rat)).den : Int) 6)]))) (by kernel_rfl) ?_
      refine ⟨?s0, ifB_iff.2 ⟨fun hb0 => ⟨rfl, ?m0⟩, fun hb0 => ⟨rfl, ?m1⟩⟩⟩
      case s0 => omega
      case m0 =>
        rw [Bool.not_eq_true'] at hb0
        rw [hb0]
        exact Subl.agg (.zd rfl (by omega) (.zd rfl (by omega) .nil))
      case m1 =>
        rw [Bool.not_eq_false'] at hb0
        have := raw_whole (k := k) hb0
        rw [hb0]
        exact this
    · cases hs
  · cases hs
theorem cCmpR : Contract Tryz.prog E 38 sCmpQ := by
  refine contract_loopsG [(82, sTakeR), (83, sMul2), (86, sCmp)] Tryz.ntmps38 Tryz.func38 (by kernel_rfl) (by kernel_rfl) hU ⟨cTakeR hU, cMul2R hU, cCmpZ hU, trivial⟩ ?_
  intro xs p r hs hp
  unfold sCmpQ at hs
  split at hs
  · rename_i x y
    split at hs
    · rename_i n l k j n' l' k' j' m u i _ m' u' i' _ hx hy
      cases hs
      obtain ⟨hk, hk', hi, hi'⟩ := hp _ rfl
      refine ⟨[rawQ n l k n' l' k', rawQ m u i m' u' i'], [], .cons (sub_rawQ hx) (.cons (sub_rawQ hy) .nil), rfl, fun hgx hg => ?_⟩
      refine cast_rfl (p := (k ≤ 9000 ∧ k' ≤ 9000) ∧ ∀ (z1 : Rat), z1 = takeQ n l n' l' → (i ≤ 9000 ∧ i' ≤ 9000) ∧ ∀ (z2 : Rat), z2 = takeQ m u m' u' → k + 3 + (i' + 3) ≤ 9990 ∧ ∀ (z3 : Int), z3 = zV (zNeg z1.num) (digs 1000000000 z1.num.natAbs) * zV (zNeg (↑z2.den : Int)) (digs 1000000000 (↑z2.den : Int).natAbs) → i + 3 + (k' + 3) ≤ 9990 ∧ ∀ (z4 : Int), z4 = zV (zNeg z2.num) (digs 1000000000 z2.num.natAbs) * zV (zNeg (↑z1.den : Int)) (digs 1000000000 (↑z1.den : Int).natAbs) → k + 3 + (i' + 3) + 1 + (i + 3 + (k' + 3) + 1) ≤ 90000 ∧ true = true ∧ Sub (PV.f (Lf.v (Value.int IntKind.i64 (cmpI (zV (zNeg z3) (digs 1000000000 z3.natAbs)) (zV (zNeg z4) (digs 1000000000 z4.natAbs)))))) (PV.f (Lf.v (Value.int IntKind.i64 (cmpI ((takeQ n l n' l').num * (↑(takeQ m u m' u').den : Int)) ((takeQ m u m' u').num * (↑(takeQ n l n' l').den : Int))))))) (by kernel_rfl) ?_
      refine ⟨?s0, fun z1 => fun hz1 => ⟨?s1, fun z2 => fun hz2 => ⟨?s2, fun z3 => fun hz3 => ⟨?s3, fun z4 => fun hz4 => ⟨?s4, ⟨rfl, ?m0⟩⟩⟩⟩⟩⟩
      all_goals (try simp only [zV_digs] at *)
      case s0 => omega
      case s1 => omega
      case s2 => omega
      case s3 => omega
      case s4 => omega
      case m0 =>
        subst hz1 hz2 hz3 hz4
        exact .refl _
    · cases hs
  · cases hs
theorem cNegR : Contract Tryz.prog E 41 sNegQ := by
  refine contract_loopsG [(82, sTakeR), (88, sNeg)] Tryz.ntmps41 Tryz.func41 (by kernel_rfl) (by kernel_rfl) hU ⟨cTakeR hU, cNegZ hU, trivial⟩ ?_
  intro xs p r hs hp
  unfold sNegQ at hs
  split at hs
  · rename_i x
    split at hs
    · rename_i n l k j n' l' k' j' hx
      cases hs
      obtain ⟨hk, hk'⟩ := hp _ rfl
      refine ⟨[rawQ n l k n' l' k'], [], .cons (sub_rawQ hx) .nil, rfl, fun hgx hg => ?_⟩
      refine cast_rfl (p := (k ≤ 9000 ∧ k' ≤ 9000) ∧ ∀ (z1 : Rat), z1 = takeQ n l n' l' → k + 3 ≤ 100000 ∧ ∀ (z2 : Int), z2 = -zV (zNeg z1.num) (digs 1000000000 z1.num.natAbs) → true = true ∧ Sub (PV.agg [PV.f (Lf.zn z2), PV.f (Lf.zd z2 (k + 3)), PV.f (Lf.zn (↑z1.den : Int)), PV.f (Lf.zd (↑z1.den : Int) (k' + 3))]) (PV.agg [PV.f (Lf.zn (-takeQ n l n' l').num), PV.f (Lf.zd (-takeQ n l n' l').num (k + 3)), PV.f (Lf.zn (↑(-takeQ n l n' l').den : Int)), PV.f (Lf.zd (↑(-takeQ n l n' l').den : Int) (k' + 3))])) (by kernel_rfl) ?_
      refine ⟨?s0, fun z1 => fun hz1 => ⟨?s1, fun z2 => fun hz2 => ⟨rfl, ?m0⟩⟩⟩
      case s0 => omega
      case s1 => omega
      case m0 =>
        subst hz1 hz2
        rw [zV_digs]
        exact Subl.agg (.zd (by rw [Rat.neg_num]) (by omega) (.zd (by rw [Rat.neg_den]) (by omega) .nil))
    · cases hs
  · cases hs
theorem cTextR : Contract Tryz.prog E 44 sTextQ := by
  refine contract_loopsG [(82, sTakeR), (90, sOne), (86, sCmp), (93, sText)] Tryz.ntmps44 Tryz.func44 (by kernel_rfl) (by kernel_rfl) hU ⟨cTakeR hU, cOneR hU, cCmpZ hU, cTextZ hU, trivial⟩ ?_
  intro xs p r hs hp
  unfold sTextQ at hs
  split at hs
  · rename_i x
    split at hs
    · rename_i n l k j n' l' k' j' hx
      cases hs
      obtain ⟨hk, hk', ht, ht'⟩ := hp _ rfl
      refine ⟨[rawQ n l k n' l' k'], [], .cons (sub_rawQ hx) .nil, rfl, fun hgx hg => ?_⟩
      refine cast_rfl (p := (k ≤ 9000 ∧ k' ≤ 9000) ∧ ∀ (z1 : Rat), z1 = takeQ n l n' l' → k + 3 ≤ 90000 ∧ k' + 3 + 3 ≤ 90000 ∧ ifB (cmpI (zV (zNeg (↑z1.den : Int)) (digs 1000000000 (↑z1.den : Int).natAbs)) (zV (zNeg (1 : Int)) (digs 1000000000 (Int.natAbs (1 : Int)))) == (0 : Int)) (true = true ∧ Sub (PV.f (Lf.v (Value.string (ByteArray.mk (zText (zV (zNeg z1.num) (digs 1000000000 z1.num.natAbs))).toArray)))) (PV.f (Lf.v (Value.string (ByteArray.mk (textQ (takeQ n l n' l')).toArray))))) ((↑((ByteArray.mk (zText (zV (zNeg z1.num) (digs 1000000000 z1.num.natAbs))).toArray).size + 1) : Int) ≤ IntKind.i64.max ∧ k' + 3 ≤ 90000 ∧ (↑((ByteArray.mk (zText (zV (zNeg z1.num) (digs 1000000000 z1.num.natAbs))).toArray ++ ByteArray.mk #[(47 : UInt8)]).size + (ByteArray.mk (zText (zV (zNeg (↑z1.den : Int)) (digs 1000000000 (↑z1.den : Int).natAbs))).toArray).size) : Int) ≤ IntKind.i64.max ∧ true = true ∧ Sub (PV.f (Lf.v (Value.string (ByteArray.mk (zText (zV (zNeg z1.num) (digs 1000000000 z1.num.natAbs))).toArray ++ ByteArray.mk #[(47 : UInt8)] ++ ByteArray.mk (zText (zV (zNeg (↑z1.den : Int)) (digs 1000000000 (↑z1.den : Int).natAbs))).toArray)))) (PV.f (Lf.v (Value.string (ByteArray.mk (textQ (takeQ n l n' l')).toArray)))))) (by kernel_rfl) ?_
      refine ⟨?s0, fun z1 => fun hz1 => ⟨?s1, ⟨?s2, ifB_iff.2 ⟨fun hb0 => ⟨rfl, ?m0⟩, fun hb0 => ⟨?s3, ⟨?s4, ⟨?s5, ⟨rfl, ?m1⟩⟩⟩⟩⟩⟩⟩⟩
      all_goals (try simp only [zV_digs, cmpI_eq0, decide_eq_true_eq, decide_eq_false_iff_not] at *)
      case s0 => omega
      case s1 => omega
      case s2 => omega
      case s4 => omega
      case s3 => subst hz1; have : IntKind.i64.max = 9223372036854775807 := by decide
                 rw [this]; simp only [ByteArray.size, Array.size]; simp; omega
      case s5 => subst hz1; have : IntKind.i64.max = 9223372036854775807 := by decide
                 rw [this]; simp only [ByteArray.size_append]; simp only [ByteArray.size, Array.size]; simp; omega
      case m0 =>
        subst hz1
        unfold textQ
        rw [if_pos hb0]
        exact .refl _
      case m1 =>
        subst hz1
        unfold textQ
        rw [if_neg hb0]
        have e : ∀ A B : List UInt8, (⟨A.toArray⟩ ++ ⟨#[47]⟩ ++ ⟨B.toArray⟩ : ByteArray) = ⟨(A ++ 47 :: B).toArray⟩ := by
          intro A B
          apply ByteArray.ext
          simp [ByteArray.data_append]
        rw [e]
        exact .refl _
    · cases hs
  · cases hs
set_option maxHeartbeats 4000000 in
theorem cParseR : Contract Tryz.prog E 22 sParseQ := by
  refine contract_loopsG [(74, sParse), (75, sNought), (43, sWhole), (39, sRightR), (44, sTextQ)] Tryz.ntmps22 Tryz.func22 (by kernel_rfl) (by kernel_rfl) hU ⟨cParseZ, cNoughtR hU, cWholeR hU, cRightR hU, cTextR hU, trivial⟩ ?_
  intro xs p r hs hp
  unfold sParseQ at hs
  split at hs
  · rename_i s
    cases hs
    have hb := hp _ rfl
    refine ⟨[.f (.v (.string s))], [(2, .s ⟨Nat, fun i => ⟨[(0, .f (.v (.string s))), (2, .bp 0 0), (3, .f (.v (.bool false))), (4, .f (.v (.int .i64 (i : Nat))))], [.cells [.f (.v (.bool false)), .f (.v (.slice none 0 0)), .f (.v (.bool false)), .f (.v (.slice none 0 0))]]⟩, fun i => i ≤ s.size ∧ (∀ j, j < i → s.data.toList[j]? ≠ some 47), fun i => s.size - i⟩)], .cons (.refl _) .nil, rfl, fun hgx hg => ?_⟩
    refine cast_rfl (p := ∃ (x1 : Nat), (((SubB (PV.f (Lf.v (Value.bool false))) (PV.f (Lf.v (Value.bool false))) ∧ SubB (PV.f (Lf.v (Value.slice none 0 0))) (PV.f (Lf.v (Value.slice none 0 0))) ∧ SubB (PV.f (Lf.v (Value.bool false))) (PV.f (Lf.v (Value.bool false))) ∧ SubB (PV.f (Lf.v (Value.slice none 0 0))) (PV.f (Lf.v (Value.slice none 0 0))) ∧ True) ∧ True) ∧ SubB (PV.f (Lf.v (Value.string s))) (PV.f (Lf.v (Value.string s))) ∧ SubB (PV.bp 0 0) (PV.bp 0 0) ∧ SubB (PV.f (Lf.v (Value.bool false))) (PV.f (Lf.v (Value.bool false))) ∧ SubB (PV.f (Lf.v (Value.int IntKind.i64 (0 : Int)))) (PV.f (Lf.v (Value.int IntKind.i64 (↑x1 : Int)))) ∧ True) ∧ (x1 ≤ s.size ∧ ∀ (j : Nat), j < x1 → s.data.toList[j]? ≠ some (47 : UInt8)) ∧ True ∧ ∀ (z2 : Nat), (z2 ≤ s.size ∧ ∀ (j : Nat), j < z2 → s.data.toList[j]? ≠ some (47 : UInt8)) → True → ifB (decide ((↑z2 : Int) < (↑s.size : Int))) (((0 : Int) ≤ (↑z2 : Int) ∧ (↑z2 : Int) < (↑s.size : Int)) ∧ ifB ((↑(s.data.toList.getD (↑z2 : Int).toNat (0 : UInt8)).toNat : Int) != (47 : Int)) (∃ (x3 : Nat), (((SubB (PV.f (Lf.v (Value.bool false))) (PV.f (Lf.v (Value.bool false))) ∧ SubB (PV.f (Lf.v (Value.slice none 0 0))) (PV.f (Lf.v (Value.slice none 0 0))) ∧ SubB (PV.f (Lf.v (Value.bool false))) (PV.f (Lf.v (Value.bool false))) ∧ SubB (PV.f (Lf.v (Value.slice none 0 0))) (PV.f (Lf.v (Value.slice none 0 0))) ∧ True) ∧ True) ∧ SubB (PV.f (Lf.v (Value.string s))) (PV.f (Lf.v (Value.string s))) ∧ SubB (PV.bp 0 0) (PV.bp 0 0) ∧ SubB (PV.f (Lf.v (Value.bool false))) (PV.f (Lf.v (Value.bool false))) ∧ SubB (PV.f (Lf.v (Value.int IntKind.i64 (IntKind.i64.wrap ((↑z2 : Int) + (1 : Int)))))) (PV.f (Lf.v (Value.int IntKind.i64 (↑x3 : Int)))) ∧ True) ∧ (x3 ≤ s.size ∧ ∀ (j : Nat), j < x3 → s.data.toList[j]? ≠ some (47 : UInt8)) ∧ True ∧ (s.size - x3).succ.le (s.size - z2)) (((0 : Int) ≤ (0 : Int) ∧ (0 : Int) ≤ (↑z2 : Int) ∧ (↑z2 : Int) ≤ (↑s.size : Int)) ∧ (s.extract (Int.toNat (0 : Int)) (↑z2 : Int).toNat).size ≤ 1000 ∧ ∀ (z3 : Int), z3 = parZ (s.extract (Int.toNat (0 : Int)) (↑z2 : Int).toNat).data.toList → ifB (!okZ (s.extract (Int.toNat (0 : Int)) (↑z2 : Int).toNat).data.toList) (true = true ∧ Sub (PV.tup [PV.agg [PV.f (Lf.zn (0 : Int)), PV.f (Lf.zd (0 : Int) 3), PV.f (Lf.zn (1 : Int)), PV.f (Lf.zd (1 : Int) 3)], PV.f (Lf.v (Value.bool false))]) (PV.tup [PV.agg [PV.f (Lf.zn (parQ s.data.toList).num), PV.f (Lf.zd (parQ s.data.toList).num 1010), PV.f (Lf.zn (↑(parQ s.data.toList).den : Int)), PV.f (Lf.zd (↑(parQ s.data.toList).den : Int) 1010)], PV.f (Lf.v (Value.bool (okQ s.data.toList)))])) (ifB ((↑z2 : Int) == (↑s.size : Int)) (1000 ≤ 1900 ∧ ∀ (z4 : Rat), (z4 = match rightZ (zNeg z3) (digs 1000000000 z3.natAbs) with | true => (↑(zV (zNeg z3) (digs 1000000000 z3.natAbs)) : Rat) | false => (0 : Rat)) → true = true ∧ Sub (PV.tup [PV.agg [PV.f (Lf.zn z4.num), PV.f (Lf.zd z4.num 1003), PV.f (Lf.zn (↑z4.den : Int)), PV.f (Lf.zd (↑z4.den : Int) 6)], PV.f (Lf.v (Value.bool true))]) (PV.tup [PV.agg [PV.f (Lf.zn (parQ s.data.toList).num), PV.f (Lf.zd (parQ s.data.toList).num 1010), PV.f (Lf.zn (↑(parQ s.data.toList).den : Int)), PV.f (Lf.zd (↑(parQ s.data.toList).den : Int) 1010)], PV.f (Lf.v (Value.bool (okQ s.data.toList)))])) (((0 : Int) ≤ IntKind.i64.wrap ((↑z2 : Int) + (1 : Int)) ∧ IntKind.i64.wrap ((↑z2 : Int) + (1 : Int)) ≤ (↑s.size : Int) ∧ (↑s.size : Int) ≤ (↑s.size : Int)) ∧ (s.extract (IntKind.i64.wrap ((↑z2 : Int) + (1 : Int))).toNat (↑s.size : Int).toNat).size ≤ 1000 ∧ ∀ (z4 : Int), z4 = parZ (s.extract (IntKind.i64.wrap ((↑z2 : Int) + (1 : Int))).toNat (↑s.size : Int).toNat).data.toList → ifB (!okZ (s.extract (IntKind.i64.wrap ((↑z2 : Int) + (1 : Int))).toNat (↑s.size : Int).toNat).data.toList) (true = true ∧ Sub (PV.tup [PV.agg [PV.f (Lf.zn (0 : Int)), PV.f (Lf.zd (0 : Int) 3), PV.f (Lf.zn (1 : Int)), PV.f (Lf.zd (1 : Int) 3)], PV.f (Lf.v (Value.bool false))]) (PV.tup [PV.agg [PV.f (Lf.zn (parQ s.data.toList).num), PV.f (Lf.zd (parQ s.data.toList).num 1010), PV.f (Lf.zn (↑(parQ s.data.toList).den : Int)), PV.f (Lf.zd (↑(parQ s.data.toList).den : Int) 1010)], PV.f (Lf.v (Value.bool (okQ s.data.toList)))])) ((1000 ≤ 9000 ∧ 1000 ≤ 9000) ∧ ifB (!rightQ (zNeg z3) (digs 1000000000 z3.natAbs) (zNeg z4) (digs 1000000000 z4.natAbs)) (true = true ∧ Sub (PV.tup [PV.agg [PV.f (Lf.zn (0 : Int)), PV.f (Lf.zd (0 : Int) 3), PV.f (Lf.zn (1 : Int)), PV.f (Lf.zd (1 : Int) 3)], PV.f (Lf.v (Value.bool false))]) (PV.tup [PV.agg [PV.f (Lf.zn (parQ s.data.toList).num), PV.f (Lf.zd (parQ s.data.toList).num 1010), PV.f (Lf.zn (↑(parQ s.data.toList).den : Int)), PV.f (Lf.zd (↑(parQ s.data.toList).den : Int) 1010)], PV.f (Lf.v (Value.bool (okQ s.data.toList)))])) ((1000 ≤ 1900 ∧ 1000 ≤ 1900 ∧ (zText (takeQ (zNeg z3) (digs 1000000000 z3.natAbs) (zNeg z4) (digs 1000000000 z4.natAbs)).num).length ≤ 1000000 ∧ (zText (↑(takeQ (zNeg z3) (digs 1000000000 z3.natAbs) (zNeg z4) (digs 1000000000 z4.natAbs)).den : Int)).length ≤ 1000000) ∧ ifB (!(ByteArray.mk (textQ (takeQ (zNeg z3) (digs 1000000000 z3.natAbs) (zNeg z4) (digs 1000000000 z4.natAbs))).toArray).toList == s.toList) (true = true ∧ Sub (PV.tup [PV.agg [PV.f (Lf.zn (0 : Int)), PV.f (Lf.zd (0 : Int) 3), PV.f (Lf.zn (1 : Int)), PV.f (Lf.zd (1 : Int) 3)], PV.f (Lf.v (Value.bool false))]) (PV.tup [PV.agg [PV.f (Lf.zn (parQ s.data.toList).num), PV.f (Lf.zd (parQ s.data.toList).num 1010), PV.f (Lf.zn (↑(parQ s.data.toList).den : Int)), PV.f (Lf.zd (↑(parQ s.data.toList).den : Int) 1010)], PV.f (Lf.v (Value.bool (okQ s.data.toList)))])) (true = true ∧ Sub (PV.tup [PV.agg [PV.f (Lf.zn z3), PV.f (Lf.zd z3 1000), PV.f (Lf.zn z4), PV.f (Lf.zd z4 1000)], PV.f (Lf.v (Value.bool true))]) (PV.tup [PV.agg [PV.f (Lf.zn (parQ s.data.toList).num), PV.f (Lf.zd (parQ s.data.toList).num 1010), PV.f (Lf.zn (↑(parQ s.data.toList).den : Int)), PV.f (Lf.zd (↑(parQ s.data.toList).den : Int) 1010)], PV.f (Lf.v (Value.bool (okQ s.data.toList)))])))))))) (((0 : Int) ≤ (0 : Int) ∧ (0 : Int) ≤ (↑z2 : Int) ∧ (↑z2 : Int) ≤ (↑s.size : Int)) ∧ (s.extract (Int.toNat (0 : Int)) (↑z2 : Int).toNat).size ≤ 1000 ∧ ∀ (z3 : Int), z3 = parZ (s.extract (Int.toNat (0 : Int)) (↑z2 : Int).toNat).data.toList → ifB (!okZ (s.extract (Int.toNat (0 : Int)) (↑z2 : Int).toNat).data.toList) (true = true ∧ Sub (PV.tup [PV.agg [PV.f (Lf.zn (0 : Int)), PV.f (Lf.zd (0 : Int) 3), PV.f (Lf.zn (1 : Int)), PV.f (Lf.zd (1 : Int) 3)], PV.f (Lf.v (Value.bool false))]) (PV.tup [PV.agg [PV.f (Lf.zn (parQ s.data.toList).num), PV.f (Lf.zd (parQ s.data.toList).num 1010), PV.f (Lf.zn (↑(parQ s.data.toList).den : Int)), PV.f (Lf.zd (↑(parQ s.data.toList).den : Int) 1010)], PV.f (Lf.v (Value.bool (okQ s.data.toList)))])) (ifB ((↑z2 : Int) == (↑s.size : Int)) (1000 ≤ 1900 ∧ ∀ (z4 : Rat), (z4 = match rightZ (zNeg z3) (digs 1000000000 z3.natAbs) with | true => (↑(zV (zNeg z3) (digs 1000000000 z3.natAbs)) : Rat) | false => (0 : Rat)) → true = true ∧ Sub (PV.tup [PV.agg [PV.f (Lf.zn z4.num), PV.f (Lf.zd z4.num 1003), PV.f (Lf.zn (↑z4.den : Int)), PV.f (Lf.zd (↑z4.den : Int) 6)], PV.f (Lf.v (Value.bool true))]) (PV.tup [PV.agg [PV.f (Lf.zn (parQ s.data.toList).num), PV.f (Lf.zd (parQ s.data.toList).num 1010), PV.f (Lf.zn (↑(parQ s.data.toList).den : Int)), PV.f (Lf.zd (↑(parQ s.data.toList).den : Int) 1010)], PV.f (Lf.v (Value.bool (okQ s.data.toList)))])) (((0 : Int) ≤ IntKind.i64.wrap ((↑z2 : Int) + (1 : Int)) ∧ IntKind.i64.wrap ((↑z2 : Int) + (1 : Int)) ≤ (↑s.size : Int) ∧ (↑s.size : Int) ≤ (↑s.size : Int)) ∧ (s.extract (IntKind.i64.wrap ((↑z2 : Int) + (1 : Int))).toNat (↑s.size : Int).toNat).size ≤ 1000 ∧ ∀ (z4 : Int), z4 = parZ (s.extract (IntKind.i64.wrap ((↑z2 : Int) + (1 : Int))).toNat (↑s.size : Int).toNat).data.toList → ifB (!okZ (s.extract (IntKind.i64.wrap ((↑z2 : Int) + (1 : Int))).toNat (↑s.size : Int).toNat).data.toList) (true = true ∧ Sub (PV.tup [PV.agg [PV.f (Lf.zn (0 : Int)), PV.f (Lf.zd (0 : Int) 3), PV.f (Lf.zn (1 : Int)), PV.f (Lf.zd (1 : Int) 3)], PV.f (Lf.v (Value.bool false))]) (PV.tup [PV.agg [PV.f (Lf.zn (parQ s.data.toList).num), PV.f (Lf.zd (parQ s.data.toList).num 1010), PV.f (Lf.zn (↑(parQ s.data.toList).den : Int)), PV.f (Lf.zd (↑(parQ s.data.toList).den : Int) 1010)], PV.f (Lf.v (Value.bool (okQ s.data.toList)))])) ((1000 ≤ 9000 ∧ 1000 ≤ 9000) ∧ ifB (!rightQ (zNeg z3) (digs 1000000000 z3.natAbs) (zNeg z4) (digs 1000000000 z4.natAbs)) (true = true ∧ Sub (PV.tup [PV.agg [PV.f (Lf.zn (0 : Int)), PV.f (Lf.zd (0 : Int) 3), PV.f (Lf.zn (1 : Int)), PV.f (Lf.zd (1 : Int) 3)], PV.f (Lf.v (Value.bool false))]) (PV.tup [PV.agg [PV.f (Lf.zn (parQ s.data.toList).num), PV.f (Lf.zd (parQ s.data.toList).num 1010), PV.f (Lf.zn (↑(parQ s.data.toList).den : Int)), PV.f (Lf.zd (↑(parQ s.data.toList).den : Int) 1010)], PV.f (Lf.v (Value.bool (okQ s.data.toList)))])) ((1000 ≤ 1900 ∧ 1000 ≤ 1900 ∧ (zText (takeQ (zNeg z3) (digs 1000000000 z3.natAbs) (zNeg z4) (digs 1000000000 z4.natAbs)).num).length ≤ 1000000 ∧ (zText (↑(takeQ (zNeg z3) (digs 1000000000 z3.natAbs) (zNeg z4) (digs 1000000000 z4.natAbs)).den : Int)).length ≤ 1000000) ∧ ifB (!(ByteArray.mk (textQ (takeQ (zNeg z3) (digs 1000000000 z3.natAbs) (zNeg z4) (digs 1000000000 z4.natAbs))).toArray).toList == s.toList) (true = true ∧ Sub (PV.tup [PV.agg [PV.f (Lf.zn (0 : Int)), PV.f (Lf.zd (0 : Int) 3), PV.f (Lf.zn (1 : Int)), PV.f (Lf.zd (1 : Int) 3)], PV.f (Lf.v (Value.bool false))]) (PV.tup [PV.agg [PV.f (Lf.zn (parQ s.data.toList).num), PV.f (Lf.zd (parQ s.data.toList).num 1010), PV.f (Lf.zn (↑(parQ s.data.toList).den : Int)), PV.f (Lf.zd (↑(parQ s.data.toList).den : Int) 1010)], PV.f (Lf.v (Value.bool (okQ s.data.toList)))])) (true = true ∧ Sub (PV.tup [PV.agg [PV.f (Lf.zn z3), PV.f (Lf.zd z3 1000), PV.f (Lf.zn z4), PV.f (Lf.zd z4 1000)], PV.f (Lf.v (Value.bool true))]) (PV.tup [PV.agg [PV.f (Lf.zn (parQ s.data.toList).num), PV.f (Lf.zd (parQ s.data.toList).num 1010), PV.f (Lf.zn (↑(parQ s.data.toList).den : Int)), PV.f (Lf.zd (↑(parQ s.data.toList).den : Int) 1010)], PV.f (Lf.v (Value.bool (okQ s.data.toList)))])))))))) (by kernel_rfl) ?_
    refine ⟨?x0, ⟨⟨⟨⟨.refl _, ⟨.refl _, ⟨.refl _, ⟨.refl _, trivial⟩⟩⟩⟩, trivial⟩, ⟨.refl _, ⟨.refl _, ⟨.refl _, ⟨?m0, trivial⟩⟩⟩⟩⟩, ⟨?s0, ⟨trivial, fun z2 => fun hq0 => fun _ => ifB_iff.2 ⟨fun hb1 => ⟨?s1, ifB_iff.2 ⟨fun hb2 => ⟨?x1, ⟨⟨⟨⟨.refl _, ⟨.refl _, ⟨.refl _, ⟨.refl _, trivial⟩⟩⟩⟩, trivial⟩, ⟨.refl _, ⟨.refl _, ⟨.refl _, ⟨?m1, trivial⟩⟩⟩⟩⟩, ⟨?s2, ⟨trivial, ?m2⟩⟩⟩⟩, fun hb2 => ⟨?s3, ⟨?s4, fun z3 => fun hz3 => ifB_iff.2 ⟨fun hb3 => ⟨rfl, ?m3⟩, fun hb3 => ifB_iff.2 ⟨fun hb4 => ⟨?s5, fun z4 => fun hz4 => ⟨rfl, ?m4⟩⟩, fun hb4 => ⟨?s6, ⟨?s7, fun z4 => fun hz4 => ifB_iff.2 ⟨fun hb5 => ⟨rfl, ?m5⟩, fun hb5 => ⟨?s8, ifB_iff.2 ⟨fun hb6 => ⟨rfl, ?m6⟩, fun hb6 => ⟨?s9, ifB_iff.2 ⟨fun hb7 => ⟨rfl, ?m7⟩, fun hb7 => ⟨rfl, ?m8⟩⟩⟩⟩⟩⟩⟩⟩⟩⟩⟩⟩⟩⟩, fun hb1 => ⟨?s10, ⟨?s11, fun z3 => fun hz3 => ifB_iff.2 ⟨fun hb8 => ⟨rfl, ?m9⟩, fun hb8 => ifB_iff.2 ⟨fun hb9 => ⟨?s12, fun z4 => fun hz4 => ⟨rfl, ?m10⟩⟩, fun hb9 => ⟨?s13, ⟨?s14, fun z4 => fun hz4 => ifB_iff.2 ⟨fun hb10 => ⟨rfl, ?m11⟩, fun hb10 => ⟨?s15, ifB_iff.2 ⟨fun hb11 => ⟨rfl, ?m12⟩, fun hb11 => ⟨?s16, ifB_iff.2 ⟨fun hb12 => ⟨rfl, ?m13⟩, fun hb12 => ⟨rfl, ?m14⟩⟩⟩⟩⟩⟩⟩⟩⟩⟩⟩⟩⟩⟩⟩⟩⟩
    case x0 => exact 0
    case x1 => exact z2 + 1
    case m0 => exact subB_int rfl
    case s0 => exact ⟨Nat.zero_le _, fun j h => absurd h (Nat.not_lt_zero _)⟩
    case s10 => exact ⟨by omega, by omega, by omega⟩
    case s3 => exact ⟨by omega, by omega, by omega⟩
    case s4 => rw [ByteArray.size_extract]; omega
    case s11 => rw [ByteArray.size_extract]; omega
    case s5 => omega
    case s12 => omega
    all_goals first | exact ⟨by decide, by decide⟩ | skip
    all_goals (try simp only [Bool.not_eq_true', Bool.not_eq_false', rightQ_int, bseqB, ext_take] at *)
    all_goals obtain ⟨hq, hn⟩ := hq0
    all_goals have hsl : s.data.toList.length = s.size := Array.length_toList
    all_goals try (have hlt : z2 < s.size := by have := of_decide_eq_true hb1; omega)
    all_goals try (have hge : z2 = s.size := by have := of_decide_eq_false hb1; omega)
    case s13 => exact absurd hb9 (by rw [hge]; simp)
    case s14 => exact absurd hb9 (by rw [hge]; simp)
    case s16 => exact absurd hb9 (by rw [hge]; simp)
    case m11 => exact absurd hb9 (by rw [hge]; simp)
    case m12 => exact absurd hb9 (by rw [hge]; simp)
    case m13 => exact absurd hb9 (by rw [hge]; simp)
    case m14 => exact absurd hb9 (by rw [hge]; simp)
    case s1 => exact ⟨by omega, by omega⟩
    case m1 => exact subB_succ (by omega)
    case m2 => show s.size - (z2 + 1) + 1 ≤ s.size - z2; omega
    case s2 =>
      refine ⟨hlt, fun j hj => ?_⟩
      by_cases h : j < z2
      · exact hn j h
      · obtain rfl : j = z2 := by omega
        intro hc
        rw [Int.toNat_natCast, List.getD_eq_getElem?_getD, hc] at hb2
        exact absurd hb2 (by decide)
    case m4 => exact absurd hb4 (by simp; omega)
    case s6 => rw [wrapI _ ⟨by omega, by omega⟩]; exact ⟨by omega, by omega, by omega⟩
    case s7 => rw [ByteArray.size_extract]; omega
    case m9 =>
      rw [hge, ← hsl, List.take_of_length_le (Nat.le_refl _)] at hb8
      have hcut := cut_miss (l := s.data.toList) (fun j hj => hn j (by omega))
      exact fail0 (okQ_no1 (by unfold cutOk; rw [hcut]; dsimp only; rw [hb8]; rfl))
    case m10 =>
      rw [hge, ← hsl, List.take_of_length_le (Nat.le_refl _)] at hb8 hz3
      have hcut := cut_miss (l := s.data.toList) (fun j hj => hn j (by omega))
      have hN : cutN s.data.toList = z3 := by unfold cutN; rw [hcut, hz3]
      have hD : cutD s.data.toList = 1 := by unfold cutD; rw [hcut]
      have hr : Rat.divInt z3 1 = ((z3 : Int) : Rat) := by
        have := Rat.num_divInt_den ((z3 : Int) : Rat)
        rw [Rat.num_intCast, Rat.den_intCast] at this
        exact this
      have hg1 : (decide ((0 : Int) < 1) && decide (gcd2 z3 1 = 1)) = true := by
        unfold gcd2; rw [show (1 : Int).natAbs = 1 from rfl, Nat.gcd_one_right]; rfl
      have hok : okQ s.data.toList = true := okQ_yes (by unfold cutOk; rw [hcut]; dsimp only; rw [hb8]; rfl) (by rw [hN, hD]; exact hg1) (by
        rw [hN, hD, hr]
        unfold textQ
        rw [Rat.den_intCast, Rat.num_intCast, if_pos (by decide), hz3, zText_parZ hb8]
        exact beq_self_eq_true _)
      have hp : parQ s.data.toList = ((z3 : Int) : Rat) := by unfold parQ; rw [hok, hN, hD, hr]
      have hz : z4 = ((z3 : Int) : Rat) := by rw [hz4, rightZ_of, zV_digs]
      rw [hok, hp, hz]
      exact sub_tup2 (.zd rfl (by omega) (.zd rfl (by omega) .nil))
    all_goals have h47 : s.data.toList[z2]? = some 47 := (by
      rw [Int.toNat_natCast, List.getD_eq_getElem?_getD] at hb2
      have hlt' : z2 < s.data.toList.length := by omega
      rw [List.getElem?_eq_getElem hlt'] at hb2 ⊢
      simp only [Option.getD_some, bne_eq_false_iff_eq] at hb2
      congr 1
      exact UInt8.toNat_inj.1 (by have : (47 : UInt8).toNat = 47 := rfl; omega))
    all_goals have hcut := cut_hit h47 hn
    all_goals try (rw [ext_drop s z2 hlt hb] at hb5)
    all_goals try (rw [ext_drop s z2 hlt hb] at hz4)
    all_goals have hN : cutN s.data.toList = parZ (s.data.toList.take z2) := (by unfold cutN; rw [hcut])
    all_goals have hD : cutD s.data.toList = parZ (s.data.toList.drop (z2 + 1)) := (by unfold cutD; rw [hcut])
    all_goals have hO : cutOk s.data.toList = (okZ (s.data.toList.take z2) && okZ (s.data.toList.drop (z2 + 1))) := (by unfold cutOk; rw [hcut])
    case m3 => exact fail0 (okQ_no1 (by rw [hO, hb3]; rfl))
    case m5 => exact fail0 (okQ_no1 (by rw [hO, hb5, Bool.and_false]))
    case m6 => exact fail0 (okQ_no2 (by rw [hN, hD, ← hz3, ← hz4]; exact hb6))
    all_goals obtain ⟨e1, e2, e3⟩ := takeQ_int hb6
    case s9 =>
      have ht1 := zText_len (parZ_zbk (l := s.data.toList.take z2) (k := 1000) (by rw [List.length_take]; omega))
      have ht2 := zText_len (parZ_zbk (l := s.data.toList.drop (z2 + 1)) (k := 1000) (by rw [List.length_drop]; omega))
      rw [e1, e2, e3, hz3, hz4]
      exact ⟨by decide, by decide, by omega, by omega⟩
    case m7 =>
      rw [e1] at hb7
      exact fail0 (okQ_no3 (by rw [hN, hD, ← hz3, ← hz4]; exact hb7))
    case m8 =>
      rw [e1] at hb7
      exact good_sub (okQ_yes (by rw [hO, hb3, hb5]; rfl) (by rw [hN, hD, ← hz3, ← hz4]; exact hb6) (by rw [hN, hD, ← hz3, ← hz4]; exact hb7)) (by rw [hN, hz3]) (by rw [hD, hz4]) (by omega) (by omega)
  · cases hs
end

end Go.Proofs.YtjfncepmpabcnaaGreatDoor

namespace Go.Proofs.YtjfncepmpabcnaaGreatDoor
open Go.RowKit
set_option linter.unusedVariables false
set_option maxRecDepth 100000

def sDivR : Spec
  | [x, y] => match pvR x, pvR y with
    | some ((n, l), k, j), some ((n', l'), k', j') => some (some (k + k' ≤ 4000 ∧ zV n' l' ≠ 0), .nm2 Int Int (Int.fdiv (zV n l) (zV n' l')) (Int.fmod (zV n l) (zV n' l')) fun q r => .tup [zP q (j + 1), zP r j', .f (.v (.int .i64 0))])
    | _, _ => none
  | _ => none
/-- What is left of a number cut towards 0. -/
theorem cut_rest (x y : Int) : zOf (zNeg x != zNeg y) (x.natAbs / y.natAbs) * y + zOf (zNeg x) (x.natAbs % y.natAbs) = x := by
  have h1 : zOf ((zNeg x != zNeg y) != zNeg y) (x.natAbs / y.natAbs * y.natAbs) = zOf (zNeg x != zNeg y) (x.natAbs / y.natAbs) * y := by rw [zOf_mul, zOf_self]
  have h2 : ((zNeg x != zNeg y) != zNeg y) = zNeg x := by cases zNeg x <;> cases zNeg y <;> rfl
  rw [← h1, h2, ← zOf_add, Nat.div_add_mod', zOf_self]
theorem div_other {x y q r : Int} (hb : y ≠ 0) (hx : q * y + r = x) (hm : r.natAbs < y.natAbs) (h0 : r ≠ 0) (hs : (!zNeg r == zNeg y) = true) : q - 1 = Int.fdiv x y ∧ r + y = Int.fmod x y := by
  refine fdm_unique hb (by rw [Int.sub_mul, Int.one_mul]; omega) ?_
  rw [Bool.not_eq_true'] at hs
  have hs : zNeg r ≠ zNeg y := by simpa using hs
  by_cases hy : y < 0
  · have e : zNeg y = true := zNeg_iff.2 hy
    have : ¬ r < 0 := fun h => hs (by rw [e, zNeg_iff.2 h])
    exact .inr ⟨hy, by omega, by omega⟩
  · have : r < 0 := by
      refine Decidable.byContradiction fun h => hs ?_
      rw [Bool.eq_iff_iff, zNeg_iff, zNeg_iff]
      omega
    exact .inl ⟨by omega, by omega, by omega⟩
theorem div_same {x y q r : Int} (hb : y ≠ 0) (hx : q * y + r = x) (hm : r.natAbs < y.natAbs) (hs : r = 0 ∨ (!zNeg r == zNeg y) = false) : q = Int.fdiv x y ∧ r = Int.fmod x y := by
  refine fdm_unique hb hx ?_
  rcases hs with rfl | hs
  · rcases Int.lt_trichotomy y 0 with h | h | h
    · exact .inr ⟨h, h, Int.le_refl _⟩
    · exact absurd h hb
    · exact .inl ⟨h, Int.le_refl _, h⟩
  · rw [Bool.not_eq_false'] at hs
    have hs : zNeg r = zNeg y := by simpa using hs
    rw [Bool.eq_iff_iff, zNeg_iff, zNeg_iff] at hs
    by_cases hy : y < 0
    · exact .inr ⟨hy, by omega, by omega⟩
    · exact .inl ⟨by omega, by omega, by omega⟩
theorem cDivZ {E : World → Hp → Prop} (hU : Up E) : Contract Tryz.prog E 89 sDivR := by
  refine contract_loopsG [(58, sNormZ), (56, sOf), (68, sDivL), (61, sOfB), (16, sMulR), (123, sSubZ), (57, sPlusZ)] Tryz.ntmps89 Tryz.func89 (by kernel_rfl) (by kernel_rfl) hU ⟨cNormZ, cOfR, cDivL hU, cOfB, cMulZ hU, cSubZ hU, cPlusZ hU, trivial⟩ ?_
  intro xs p r hs hp
  unfold sDivR at hs
  split at hs
  · rename_i x y
    split at hs
    · rename_i n l k j n' l' k' j' hx hy
      cases hs
      obtain ⟨hk, h0⟩ := hp _ rfl
      refine ⟨[rawP n l k, rawP n' l' k'], [], .cons (sub_raw hx) (.cons (sub_raw hy) .nil), rfl, fun hgx hg => ?_⟩
      obtain ⟨a1, a2, a3⟩ := pvR_good hx hgx.1
      obtain ⟨b1, b2, b3⟩ := pvR_good hy hgx.2.1
      refine cast_rfl (p := k ≤ 1000000 ∧ ∀ (z1 : Int), z1 = zV n l → k' ≤ 1000000 ∧ ∀ (z2 : Int), z2 = zV n' l' → ifB ((↑(digs 1000000000 z2.natAbs).length : Int) == (0 : Int)) (((-9223372036854775808 : Int) ≤ (0 : Int) ∧ (0 : Int) ≤ (9223372036854775807 : Int)) ∧ ∀ (z3 : Int), z3 = (0 : Int) → ((-9223372036854775808 : Int) ≤ (0 : Int) ∧ (0 : Int) ≤ (9223372036854775807 : Int)) ∧ ∀ (z4 : Int), z4 = (0 : Int) → true = true ∧ Sub (PV.tup [PV.agg [PV.f (Lf.zn z3), PV.f (Lf.zd z3 3)], PV.agg [PV.f (Lf.zn z4), PV.f (Lf.zd z4 3)], PV.f (Lf.v (Value.int IntKind.i64 (9 : Int)))]) (PV.tup [PV.agg [PV.f (Lf.zn ((zV n l).fdiv (zV n' l'))), PV.f (Lf.zd ((zV n l).fdiv (zV n' l')) (j + 1))], PV.agg [PV.f (Lf.zn ((zV n l).fmod (zV n' l'))), PV.f (Lf.zd ((zV n l).fmod (zV n' l')) j')], PV.f (Lf.v (Value.int IntKind.i64 (0 : Int)))])) ((k + 1 ≤ 100000 ∧ k' + 1 ≤ 100000 ∧ vB (digs 1000000000 z2.natAbs) ≠ 0) ∧ ∀ (z3 : Nat), z3 = vB (digs 1000000000 z1.natAbs) / vB (digs 1000000000 z2.natAbs) → ∀ (z4 : Nat), z4 = vB (digs 1000000000 z1.natAbs) % vB (digs 1000000000 z2.natAbs) → k + 1 + 1 ≤ 1000000 ∧ ∀ (z5 : Int), z5 = zV (!zNeg z1 == zNeg z2) (digs 1000000000 (↑z3 : Int).natAbs) → k + 1 + 1 + 1 + 2 + (k' + 1 + 2 + 0) ≤ 10000 ∧ ∀ (z6 : Int), z6 = (1 : Int) * zV (zNeg z5) (digs 1000000000 z5.natAbs) * zV (zNeg z2) (digs 1000000000 z2.natAbs) → k + 1 + (1 + (k + 1 + 1 + 1) + (k' + 1)) ≤ 30000 ∧ ∀ (z7 : Int), z7 = zV (zNeg z1) (digs 1000000000 z1.natAbs) - zV (zNeg z6) (digs 1000000000 z6.natAbs) → ifB (decide ((↑(digs 1000000000 z7.natAbs).length : Int) > (0 : Int))) (ifB (!zNeg z7 == zNeg z2) (((-9223372036854775808 : Int) ≤ (1 : Int) ∧ (1 : Int) ≤ (9223372036854775807 : Int)) ∧ ∀ (z8 : Int), z8 = (1 : Int) → k + 1 + 1 + 1 + 3 ≤ 30000 ∧ ∀ (z9 : Int), z9 = zV (zNeg z5) (digs 1000000000 z5.natAbs) - zV (zNeg z8) (digs 1000000000 z8.natAbs) → k + 1 + (1 + (k + 1 + 1 + 1) + (k' + 1)) + 1 + (k' + 1) ≤ 40000 ∧ ∀ (z10 : Int), z10 = zV (zNeg z7) (digs 1000000000 z7.natAbs) + zV (zNeg z2) (digs 1000000000 z2.natAbs) → ((true = true ∧ Sub (PV.tup [PV.agg [PV.f (Lf.zn z9), PV.f (Lf.zd z9 (k + 1 + 1 + 1 + 3 + 1))], PV.agg [PV.f (Lf.zn z10), PV.f (Lf.zd z10 (k + 1 + (1 + (k + 1 + 1 + 1) + (k' + 1)) + 1 + (k' + 1) + 1))], PV.f (Lf.v (Value.int IntKind.i64 (0 : Int)))]) (PV.tup [PV.agg [PV.f (Lf.zn ((zV n l).fdiv (zV n' l'))), PV.f (Lf.zd ((zV n l).fdiv (zV n' l')) (j + 1))], PV.agg [PV.f (Lf.zn ((zV n l).fmod (zV n' l'))), PV.f (Lf.zd ((zV n l).fmod (zV n' l')) j')], PV.f (Lf.v (Value.int IntKind.i64 (0 : Int)))])) ∧ true = true ∧ Sub (PV.tup [PV.agg [PV.f (Lf.zn z9), PV.f (Lf.zd z9 (k + 1 + 1 + 1 + 3 + 1))], PV.agg [PV.f (Lf.zn z10), PV.f (Lf.zd z10 (k + 1 + (1 + (k + 1 + 1 + 1) + (k' + 1)) + 1 + (k' + 1) + 1))], PV.f (Lf.v (Value.int IntKind.i64 (0 : Int)))]) (PV.tup [PV.agg [PV.f (Lf.zn ((zV n l).fdiv (zV n' l'))), PV.f (Lf.zd ((zV n l).fdiv (zV n' l')) (j + 1))], PV.agg [PV.f (Lf.zn ((zV n l).fmod (zV n' l'))), PV.f (Lf.zd ((zV n l).fmod (zV n' l')) j')], PV.f (Lf.v (Value.int IntKind.i64 (0 : Int)))])) ∧ true = true ∧ Sub (PV.tup [PV.agg [PV.f (Lf.zn z9), PV.f (Lf.zd z9 (k + 1 + 1 + 1 + 3 + 1))], PV.agg [PV.f (Lf.zn z10), PV.f (Lf.zd z10 (k + 1 + (1 + (k + 1 + 1 + 1) + (k' + 1)) + 1 + (k' + 1) + 1))], PV.f (Lf.v (Value.int IntKind.i64 (0 : Int)))]) (PV.tup [PV.agg [PV.f (Lf.zn ((zV n l).fdiv (zV n' l'))), PV.f (Lf.zd ((zV n l).fdiv (zV n' l')) (j + 1))], PV.agg [PV.f (Lf.zn ((zV n l).fmod (zV n' l'))), PV.f (Lf.zd ((zV n l).fmod (zV n' l')) j')], PV.f (Lf.v (Value.int IntKind.i64 (0 : Int)))])) (((true = true ∧ Sub (PV.tup [PV.agg [PV.f (Lf.zn z5), PV.f (Lf.zd z5 (k + 1 + 1 + 1))], PV.agg [PV.f (Lf.zn z7), PV.f (Lf.zd z7 (k + 1 + (1 + (k + 1 + 1 + 1) + (k' + 1)) + 1))], PV.f (Lf.v (Value.int IntKind.i64 (0 : Int)))]) (PV.tup [PV.agg [PV.f (Lf.zn ((zV n l).fdiv (zV n' l'))), PV.f (Lf.zd ((zV n l).fdiv (zV n' l')) (j + 1))], PV.agg [PV.f (Lf.zn ((zV n l).fmod (zV n' l'))), PV.f (Lf.zd ((zV n l).fmod (zV n' l')) j')], PV.f (Lf.v (Value.int IntKind.i64 (0 : Int)))])) ∧ true = true ∧ Sub (PV.tup [PV.agg [PV.f (Lf.zn z5), PV.f (Lf.zd z5 (k + 1 + 1 + 1))], PV.agg [PV.f (Lf.zn z7), PV.f (Lf.zd z7 (k + 1 + (1 + (k + 1 + 1 + 1) + (k' + 1)) + 1))], PV.f (Lf.v (Value.int IntKind.i64 (0 : Int)))]) (PV.tup [PV.agg [PV.f (Lf.zn ((zV n l).fdiv (zV n' l'))), PV.f (Lf.zd ((zV n l).fdiv (zV n' l')) (j + 1))], PV.agg [PV.f (Lf.zn ((zV n l).fmod (zV n' l'))), PV.f (Lf.zd ((zV n l).fmod (zV n' l')) j')], PV.f (Lf.v (Value.int IntKind.i64 (0 : Int)))])) ∧ true = true ∧ Sub (PV.tup [PV.agg [PV.f (Lf.zn z5), PV.f (Lf.zd z5 (k + 1 + 1 + 1))], PV.agg [PV.f (Lf.zn z7), PV.f (Lf.zd z7 (k + 1 + (1 + (k + 1 + 1 + 1) + (k' + 1)) + 1))], PV.f (Lf.v (Value.int IntKind.i64 (0 : Int)))]) (PV.tup [PV.agg [PV.f (Lf.zn ((zV n l).fdiv (zV n' l'))), PV.f (Lf.zd ((zV n l).fdiv (zV n' l')) (j + 1))], PV.agg [PV.f (Lf.zn ((zV n l).fmod (zV n' l'))), PV.f (Lf.zd ((zV n l).fmod (zV n' l')) j')], PV.f (Lf.v (Value.int IntKind.i64 (0 : Int)))]))) (((true = true ∧ Sub (PV.tup [PV.agg [PV.f (Lf.zn z5), PV.f (Lf.zd z5 (k + 1 + 1 + 1))], PV.agg [PV.f (Lf.zn z7), PV.f (Lf.zd z7 (k + 1 + (1 + (k + 1 + 1 + 1) + (k' + 1)) + 1))], PV.f (Lf.v (Value.int IntKind.i64 (0 : Int)))]) (PV.tup [PV.agg [PV.f (Lf.zn ((zV n l).fdiv (zV n' l'))), PV.f (Lf.zd ((zV n l).fdiv (zV n' l')) (j + 1))], PV.agg [PV.f (Lf.zn ((zV n l).fmod (zV n' l'))), PV.f (Lf.zd ((zV n l).fmod (zV n' l')) j')], PV.f (Lf.v (Value.int IntKind.i64 (0 : Int)))])) ∧ true = true ∧ Sub (PV.tup [PV.agg [PV.f (Lf.zn z5), PV.f (Lf.zd z5 (k + 1 + 1 + 1))], PV.agg [PV.f (Lf.zn z7), PV.f (Lf.zd z7 (k + 1 + (1 + (k + 1 + 1 + 1) + (k' + 1)) + 1))], PV.f (Lf.v (Value.int IntKind.i64 (0 : Int)))]) (PV.tup [PV.agg [PV.f (Lf.zn ((zV n l).fdiv (zV n' l'))), PV.f (Lf.zd ((zV n l).fdiv (zV n' l')) (j + 1))], PV.agg [PV.f (Lf.zn ((zV n l).fmod (zV n' l'))), PV.f (Lf.zd ((zV n l).fmod (zV n' l')) j')], PV.f (Lf.v (Value.int IntKind.i64 (0 : Int)))])) ∧ true = true ∧ Sub (PV.tup [PV.agg [PV.f (Lf.zn z5), PV.f (Lf.zd z5 (k + 1 + 1 + 1))], PV.agg [PV.f (Lf.zn z7), PV.f (Lf.zd z7 (k + 1 + (1 + (k + 1 + 1 + 1) + (k' + 1)) + 1))], PV.f (Lf.v (Value.int IntKind.i64 (0 : Int)))]) (PV.tup [PV.agg [PV.f (Lf.zn ((zV n l).fdiv (zV n' l'))), PV.f (Lf.zd ((zV n l).fdiv (zV n' l')) (j + 1))], PV.agg [PV.f (Lf.zn ((zV n l).fmod (zV n' l'))), PV.f (Lf.zd ((zV n l).fmod (zV n' l')) j')], PV.f (Lf.v (Value.int IntKind.i64 (0 : Int)))])))) (by kernel_rfl) ?_
      refine ⟨?s0, fun z1 => fun hz1 => ⟨?s1, fun z2 => fun hz2 => ifB_iff.2 ⟨fun hb0 => ⟨?s2, fun z3 => fun hz3 => ⟨?s3, fun z4 => fun hz4 => ⟨rfl, ?m0⟩⟩⟩, fun hb0 => ⟨?s4, fun z3 => fun hz3 => fun z4 => fun hz4 => ⟨?s5, fun z5 => fun hz5 => ⟨?s6, fun z6 => fun hz6 => ⟨?s7, fun z7 => fun hz7 => ifB_iff.2 ⟨fun hb1 => ifB_iff.2 ⟨fun hb2 => ⟨?s8, fun z8 => fun hz8 => ⟨?s9, fun z9 => fun hz9 => ⟨?s10, fun z10 => fun hz10 => ⟨?s11, ⟨rfl, ?m1⟩⟩⟩⟩⟩, fun hb2 => ⟨?s12, ⟨rfl, ?m2⟩⟩⟩, fun hb1 => ⟨?s13, ⟨rfl, ?m3⟩⟩⟩⟩⟩⟩⟩⟩⟩⟩
      case s0 => omega
      case s1 => omega
      case s2 => decide
      case s3 => decide
      case s8 => decide
      case s5 => omega
      case s6 => omega
      case s7 => omega
      case s9 => omega
      case s10 => omega
      all_goals have hb : z2 ≠ 0 := (by rw [hz2]; exact h0)
      case m0 =>
        have h1 := val_digs 1000000000 (by omega) z2.natAbs
        rw [List.length_eq_zero_iff.1 (show (digs 1000000000 z2.natAbs).length = 0 by simpa using hb0)] at h1
        exact absurd (Int.natAbs_eq_zero.1 h1.symm) hb
      case s4 => rw [vB_dig]; exact ⟨by omega, by omega, by omega⟩
      all_goals simp only [zV_digs, vB_dig] at hz3 hz4 hz6 hz7
      all_goals try simp only [zV_digs] at hz9 hz10
      all_goals have h5 : z5 = zOf (zNeg z1 != zNeg z2) (z1.natAbs / z2.natAbs) := (by rw [hz5, Int.natAbs_natCast, zV_dig, hz3, sgn_bne])
      all_goals have h7 : z7 = zOf (zNeg z1) (z1.natAbs % z2.natAbs) := (by
        have := cut_rest z1 z2
        rw [← h5] at this
        rw [hz7, hz6, Int.one_mul]
        omega)
      all_goals have hm : z7.natAbs < z2.natAbs := (by rw [h7, zOf_abs]; exact Nat.mod_lt _ (by omega))
      all_goals have hx : z5 * z2 + z7 = z1 := (by rw [hz7, hz6, Int.one_mul]; omega)
      all_goals have hZ1 : ZB (Int.fdiv z1 z2) (j + 1) := ZB.fdiv (by rw [hz1]; exact a3) hb
      all_goals have hZ2 : ZB (Int.fmod z1 z2) j' := ZB.fmod (by rw [hz2]; exact b3) hb
      all_goals rw [← hz1, ← hz2]
      case s11 =>
        subst hz8
        obtain ⟨e1, e2⟩ := div_other hb hx hm (fun h => by rw [h] at hb1; exact absurd hb1 (by decide)) hb2
        have hk := sub_div (a := k + 1 + 1 + 1 + 3 + 1) (b := k + 1 + (1 + (k + 1 + 1 + 1) + (k' + 1)) + 1 + (k' + 1) + 1) (hz9.trans e1) (hz10.trans e2) hZ1 hZ2
        exact ⟨⟨rfl, hk⟩, ⟨rfl, hk⟩⟩
      case m1 =>
        subst hz8
        obtain ⟨e1, e2⟩ := div_other hb hx hm (fun h => by rw [h] at hb1; exact absurd hb1 (by decide)) hb2
        exact sub_div (hz9.trans e1) (hz10.trans e2) hZ1 hZ2
      case s12 =>
        obtain ⟨e1, e2⟩ := div_same hb hx hm (.inr hb2)
        have hk := sub_div (a := k + 1 + 1 + 1) (b := k + 1 + (1 + (k + 1 + 1 + 1) + (k' + 1)) + 1) e1 e2 hZ1 hZ2
        exact ⟨⟨rfl, hk⟩, ⟨rfl, hk⟩⟩
      case m2 =>
        obtain ⟨e1, e2⟩ := div_same hb hx hm (.inr hb2)
        exact sub_div e1 e2 hZ1 hZ2
      all_goals have h0' : z7 = 0 := (by
        have h1 := val_digs 1000000000 (by omega) z7.natAbs
        rw [List.length_eq_zero_iff.1 (show (digs 1000000000 z7.natAbs).length = 0 by have := of_decide_eq_false hb1; omega)] at h1
        exact Int.natAbs_eq_zero.1 h1.symm)
      all_goals obtain ⟨e1, e2⟩ := div_same hb hx hm (.inl h0')
      case s13 =>
        have hk := sub_div (a := k + 1 + 1 + 1) (b := k + 1 + (1 + (k + 1 + 1 + 1) + (k' + 1)) + 1) e1 e2 hZ1 hZ2
        exact ⟨⟨rfl, hk⟩, ⟨rfl, hk⟩⟩
      case m3 => exact sub_div e1 e2 hZ1 hZ2
    · cases hs
  · cases hs

end Go.Proofs.YtjfncepmpabcnaaGreatDoor

namespace Go.Proofs.YtjfncepmpabcnaaGreatDoor
open Go.RowKit
set_option linter.unusedVariables false
set_option maxRecDepth 100000

def sOfNR : Spec
  | [x, y] => match pvR x, pvR y with
    | some ((n, l), k, _), some ((n', l'), k', _) => some (some (k ≤ 900 ∧ k' ≤ 900), .nm2 Rat Int (ofRat n l n' l') (ofErr n l n' l') fun r e => .tup [qP r (k + 6) (k' + 6), .f (.v (.int .i64 e))])
    | _, _ => none
  | _ => none
def sFloorR : Spec
  | [x] => match pvQ x with
    | some (((n, l), k, _), ((n', l'), k', _)) => some (some (k ≤ 900 ∧ k' ≤ 900), .nm Int (takeQ n l n' l').floor fun z => zP z (k + 4))
    | none => none
  | _ => none
def sDivQR : Spec
  | [x, y] => match pvQ x, pvQ y with
    | some (((n, l), k, _), ((n', l'), k', _)), some (((m, u), i, _), ((m', u'), i', _)) => some (some (k ≤ 300 ∧ k' ≤ 300 ∧ i ≤ 300 ∧ i' ≤ 300),
        .nm2 Rat Int (takeQ n l n' l' / takeQ m u m' u') (if takeQ m u m' u' = 0 then 9 else 0) fun r e => .tup [qP r (k + i' + 30) (k' + i + 30), .f (.v (.int .i64 e))])
    | _, _ => none
  | _ => none
def sAddQR : Spec
  | [.f y] => match sliceQ y with
    | some L => some (some ((L.foldl bPl (3, 3)).1 ≤ 200 ∧ (L.foldl bPl (3, 3)).2 ≤ 200 ∧ L.length ≤ 1000000), .nm Rat (L.foldl (fun a e => a + ofE e) 0) fun r => qP r (L.foldl bPl (3, 3)).1 (L.foldl bPl (3, 3)).2)
    | none => none
  | _ => none
def sSubQR : Spec
  | [x, y] => match pvQ x, pvQ y with
    | some (((n, l), k, _), ((n', l'), k', _)), some (((m, u), i, _), ((m', u'), i', _)) => some (some (k ≤ 20 ∧ k' ≤ 20 ∧ i ≤ 20 ∧ i' ≤ 20),
        .nm Rat (takeQ n l n' l' - takeQ m u m' u') fun r => qP r (k + 2 * k' + i + 2 * i' + 150) (k' + i' + 100))
    | _, _ => none
  | _ => none
section
variable {E : World → Hp → Prop} (hU : Up E)
include hU
theorem cOfNR : Contract Tryz.prog E 37 sOfNR := by
  refine contract_loopsG [(85, sRight), (75, sNought), (87, sZero), (86, sCmp), (88, sNeg), (18, sGcdR), (89, sDivR)] Tryz.ntmps37 Tryz.func37 (by kernel_rfl) (by kernel_rfl) hU ⟨cRightZ hU, cNoughtR hU, cZeroR hU, cCmpZ hU, cNegZ hU, cGcdZ hU, cDivZ hU, trivial⟩ ?_
  intro xs p r hs hp
  unfold sOfNR at hs
  split at hs
  · rename_i x y
    split at hs
    · rename_i n l k j n' l' k' j' hx hy
      cases hs
      obtain ⟨hk, hk'⟩ := hp _ rfl
      refine ⟨[rawP n l k, rawP n' l' k'], [], .cons (sub_raw hx) (.cons (sub_raw hy) .nil), rfl, fun hgx hg => ?_⟩
      refine cast_rfl (p := k ≤ 1000000 ∧ ifB (!rightZ n l) (true = true ∧ Sub (PV.tup [PV.agg [PV.f (Lf.zn (0 : Int)), PV.f (Lf.zd (0 : Int) 3), PV.f (Lf.zn (1 : Int)), PV.f (Lf.zd (1 : Int) 3)], PV.f (Lf.v (Value.int IntKind.i64 (2 : Int)))]) (PV.tup [PV.agg [PV.f (Lf.zn (ofRat n l n' l').num), PV.f (Lf.zd (ofRat n l n' l').num (k + 6)), PV.f (Lf.zn (↑(ofRat n l n' l').den : Int)), PV.f (Lf.zd (↑(ofRat n l n' l').den : Int) (k' + 6))], PV.f (Lf.v (Value.int IntKind.i64 (ofErr n l n' l')))])) (k' ≤ 1000000 ∧ ifB (!rightZ n' l') (true = true ∧ Sub (PV.tup [PV.agg [PV.f (Lf.zn (0 : Int)), PV.f (Lf.zd (0 : Int) 3), PV.f (Lf.zn (1 : Int)), PV.f (Lf.zd (1 : Int) 3)], PV.f (Lf.v (Value.int IntKind.i64 (2 : Int)))]) (PV.tup [PV.agg [PV.f (Lf.zn (ofRat n l n' l').num), PV.f (Lf.zd (ofRat n l n' l').num (k + 6)), PV.f (Lf.zn (↑(ofRat n l n' l').den : Int)), PV.f (Lf.zd (↑(ofRat n l n' l').den : Int) (k' + 6))], PV.f (Lf.v (Value.int IntKind.i64 (ofErr n l n' l')))])) (k' + 3 ≤ 90000 ∧ ifB (cmpI (zV n' l') (zV (zNeg (0 : Int)) (digs 1000000000 (Int.natAbs (0 : Int)))) == (0 : Int)) (true = true ∧ Sub (PV.tup [PV.agg [PV.f (Lf.zn (0 : Int)), PV.f (Lf.zd (0 : Int) 3), PV.f (Lf.zn (1 : Int)), PV.f (Lf.zd (1 : Int) 3)], PV.f (Lf.v (Value.int IntKind.i64 (9 : Int)))]) (PV.tup [PV.agg [PV.f (Lf.zn (ofRat n l n' l').num), PV.f (Lf.zd (ofRat n l n' l').num (k + 6)), PV.f (Lf.zn (↑(ofRat n l n' l').den : Int)), PV.f (Lf.zd (↑(ofRat n l n' l').den : Int) (k' + 6))], PV.f (Lf.v (Value.int IntKind.i64 (ofErr n l n' l')))])) (k' + 3 ≤ 90000 ∧ ifB (decide (cmpI (zV n' l') (zV (zNeg (0 : Int)) (digs 1000000000 (Int.natAbs (0 : Int)))) < (0 : Int))) (k ≤ 100000 ∧ ∀ (z1 : Int), z1 = -zV n l → k' ≤ 100000 ∧ ∀ (z2 : Int), z2 = -zV n' l' → k + 1 + 2 + (k' + 1 + 2 + 0) ≤ 20000 ∧ ∀ (z3 : Int), z3 = gcd2 (gcd2 (0 : Int) (zV (zNeg z1) (digs 1000000000 z1.natAbs))) (zV (zNeg z2) (digs 1000000000 z2.natAbs)) → (k + 1 + (0 + (k + 1) + 1 + (k' + 1) + 1) ≤ 4000 ∧ zV (zNeg z3) (digs 1000000000 z3.natAbs) ≠ (0 : Int)) ∧ ∀ (z4 : Int), z4 = (zV (zNeg z1) (digs 1000000000 z1.natAbs)).fdiv (zV (zNeg z3) (digs 1000000000 z3.natAbs)) → ∀ (z5 : Int), z5 = (zV (zNeg z1) (digs 1000000000 z1.natAbs)).fmod (zV (zNeg z3) (digs 1000000000 z3.natAbs)) → (k' + 1 + (0 + (k + 1) + 1 + (k' + 1) + 1) ≤ 4000 ∧ zV (zNeg z3) (digs 1000000000 z3.natAbs) ≠ (0 : Int)) ∧ ∀ (z6 : Int), z6 = (zV (zNeg z2) (digs 1000000000 z2.natAbs)).fdiv (zV (zNeg z3) (digs 1000000000 z3.natAbs)) → ∀ (z7 : Int), z7 = (zV (zNeg z2) (digs 1000000000 z2.natAbs)).fmod (zV (zNeg z3) (digs 1000000000 z3.natAbs)) → true = true ∧ Sub (PV.tup [PV.agg [PV.f (Lf.zn z4), PV.f (Lf.zd z4 (k + 1 + 1)), PV.f (Lf.zn z6), PV.f (Lf.zd z6 (k' + 1 + 1))], PV.f (Lf.v (Value.int IntKind.i64 (0 : Int)))]) (PV.tup [PV.agg [PV.f (Lf.zn (ofRat n l n' l').num), PV.f (Lf.zd (ofRat n l n' l').num (k + 6)), PV.f (Lf.zn (↑(ofRat n l n' l').den : Int)), PV.f (Lf.zd (↑(ofRat n l n' l').den : Int) (k' + 6))], PV.f (Lf.v (Value.int IntKind.i64 (ofErr n l n' l')))])) (k + 2 + (k' + 2 + 0) ≤ 20000 ∧ ∀ (z1 : Int), z1 = gcd2 (gcd2 (0 : Int) (zV n l)) (zV n' l') → (k + (0 + (k + 1) + 1 + (k' + 1) + 1) ≤ 4000 ∧ zV (zNeg z1) (digs 1000000000 z1.natAbs) ≠ (0 : Int)) ∧ ∀ (z2 : Int), z2 = (zV n l).fdiv (zV (zNeg z1) (digs 1000000000 z1.natAbs)) → ∀ (z3 : Int), z3 = (zV n l).fmod (zV (zNeg z1) (digs 1000000000 z1.natAbs)) → (k' + (0 + (k + 1) + 1 + (k' + 1) + 1) ≤ 4000 ∧ zV (zNeg z1) (digs 1000000000 z1.natAbs) ≠ (0 : Int)) ∧ ∀ (z4 : Int), z4 = (zV n' l').fdiv (zV (zNeg z1) (digs 1000000000 z1.natAbs)) → ∀ (z5 : Int), z5 = (zV n' l').fmod (zV (zNeg z1) (digs 1000000000 z1.natAbs)) → true = true ∧ Sub (PV.tup [PV.agg [PV.f (Lf.zn z2), PV.f (Lf.zd z2 (k + 1 + 1)), PV.f (Lf.zn z4), PV.f (Lf.zd z4 (k' + 1 + 1))], PV.f (Lf.v (Value.int IntKind.i64 (0 : Int)))]) (PV.tup [PV.agg [PV.f (Lf.zn (ofRat n l n' l').num), PV.f (Lf.zd (ofRat n l n' l').num (k + 6)), PV.f (Lf.zn (↑(ofRat n l n' l').den : Int)), PV.f (Lf.zd (↑(ofRat n l n' l').den : Int) (k' + 6))], PV.f (Lf.v (Value.int IntKind.i64 (ofErr n l n' l')))])))))) (by kernel_rfl) ?_
      refine ⟨?s0, ifB_iff.2 ⟨fun hb0 => ⟨rfl, ?m0⟩, fun hb0 => ⟨?s1, ifB_iff.2 ⟨fun hb1 => ⟨rfl, ?m1⟩, fun hb1 => ⟨?s2, ifB_iff.2 ⟨fun hb2 => ⟨rfl, ?m2⟩, fun hb2 => ⟨?s3, ifB_iff.2 ⟨fun hb3 => ⟨?s4, fun z1 => fun hz1 => ⟨?s5, fun z2 => fun hz2 => ⟨?s6, fun z3 => fun hz3 => ⟨?s7, fun z4 => fun hz4 => fun z5 => fun hz5 => ⟨?s8, fun z6 => fun hz6 => fun z7 => fun hz7 => ⟨rfl, ?m3⟩⟩⟩⟩⟩⟩, fun hb3 => ⟨?s9, fun z1 => fun hz1 => ⟨?s10, fun z2 => fun hz2 => fun z3 => fun hz3 => ⟨?s11, fun z4 => fun hz4 => fun z5 => fun hz5 => ⟨rfl, ?m4⟩⟩⟩⟩⟩⟩⟩⟩⟩⟩⟩⟩
      all_goals (try simp only [Bool.not_eq_true', Bool.not_eq_false', cmpI_eq0, zV_digs, gcd2_two, decide_eq_true_eq, decide_eq_false_iff_not] at *)
      all_goals first | omega | skip
      case m0 =>
        have e1 : ofRat n l n' l' = 0 := by unfold ofRat; rw [hb0]; rfl
        have e2 : ofErr n l n' l' = 2 := by unfold ofErr; rw [hb0]; rfl
        rw [e1, e2]
        exact sub_tup2 (.zd rfl (by omega) (.zd rfl (by omega) .nil))
      case m1 =>
        have e1 : ofRat n l n' l' = 0 := by unfold ofRat; rw [hb0, hb1]; rfl
        have e2 : ofErr n l n' l' = 2 := by unfold ofErr; rw [hb0, hb1]; rfl
        rw [e1, e2]
        exact sub_tup2 (.zd rfl (by omega) (.zd rfl (by omega) .nil))
      case m2 =>
        have e1 : ofRat n l n' l' = 0 := by unfold ofRat; rw [hb0, hb1, hb2]; exact Rat.divInt_zero _
        have e2 : ofErr n l n' l' = 9 := by unfold ofErr; rw [hb0, hb1]; exact if_pos hb2
        rw [e1, e2]
        exact sub_tup2 (.zd rfl (by omega) (.zd rfl (by omega) .nil))
      all_goals have e1 : ofRat n l n' l' = Rat.divInt (zV n l) (zV n' l') := (by unfold ofRat; rw [hb0, hb1]; rfl)
      all_goals have e2 : ofErr n l n' l' = 0 := (by unfold ofErr; rw [hb0, hb1]; exact if_neg hb2)
      case s7 => exact ⟨by omega, by have := gcd2_pos (y := z1) (x := z2) (by omega); omega⟩
      case s8 => exact ⟨by omega, by have := gcd2_pos (y := z1) (x := z2) (by omega); omega⟩
      case s10 => exact ⟨by omega, by have := gcd2_pos (y := zV n l) (x := zV n' l') hb2; omega⟩
      case s11 => exact ⟨by omega, by have := gcd2_pos (y := zV n l) (x := zV n' l') hb2; omega⟩
      all_goals rw [e1, e2]
      case m3 =>
        have hp : zV n' l' < 0 := by
          rcases Int.lt_trichotomy (zV n' l') 0 with h | h | h
          · exact h
          · exact absurd h hb2
          · rw [cmpI_gt h] at hb3; exact absurd hb3 (by decide)
        have hx0 : 0 < z2 := by omega
        refine sub_tup2 (.zd ?_ (by omega) (.zd ?_ (by omega) .nil))
        · rw [hz4, hz3, red_num hx0, hz1, hz2, divInt_negs]
        · rw [hz6, hz3, red_den hx0, hz1, hz2, divInt_negs]
      case m4 =>
        have hp : 0 < zV n' l' := by
          rcases Int.lt_trichotomy (zV n' l') 0 with h | h | h
          · rw [cmpI_lt h] at hb3; exact absurd (by decide) hb3
          · exact absurd h hb2
          · exact h
        refine sub_tup2 (.zd ?_ (by omega) (.zd ?_ (by omega) .nil))
        · rw [hz2, hz1, red_num hp]
        · rw [hz4, hz1, red_den hp]
    · cases hs
  · cases hs
theorem cFloorR : Contract Tryz.prog E 46 sFloorR := by
  refine contract_loopsG [(82, sTakeR), (89, sDivR)] Tryz.ntmps46 Tryz.func46 (by kernel_rfl) (by kernel_rfl) hU ⟨cTakeR hU, cDivZ hU, trivial⟩ ?_
  intro xs p r hs hp
  unfold sFloorR at hs
  split at hs
  · rename_i x
    split at hs
    · rename_i n l k j n' l' k' j' hx
      cases hs
      obtain ⟨hk, hk'⟩ := hp _ rfl
      refine ⟨[rawQ n l k n' l' k'], [], .cons (sub_rawQ hx) .nil, rfl, fun hgx hg => ?_⟩
      refine cast_rfl (p := (k ≤ 9000 ∧ k' ≤ 9000) ∧ ∀ (z1 : Rat), z1 = takeQ n l n' l' → (k + 3 + (k' + 3) ≤ 4000 ∧ zV (zNeg (↑z1.den : Int)) (digs 1000000000 (↑z1.den : Int).natAbs) ≠ (0 : Int)) ∧ ∀ (z2 : Int), z2 = (zV (zNeg z1.num) (digs 1000000000 z1.num.natAbs)).fdiv (zV (zNeg (↑z1.den : Int)) (digs 1000000000 (↑z1.den : Int).natAbs)) → ∀ (z3 : Int), z3 = (zV (zNeg z1.num) (digs 1000000000 z1.num.natAbs)).fmod (zV (zNeg (↑z1.den : Int)) (digs 1000000000 (↑z1.den : Int).natAbs)) → true = true ∧ Sub (PV.agg [PV.f (Lf.zn z2), PV.f (Lf.zd z2 (k + 3 + 1))]) (PV.agg [PV.f (Lf.zn (takeQ n l n' l').floor), PV.f (Lf.zd (takeQ n l n' l').floor (k + 4))])) (by kernel_rfl) ?_
      refine ⟨?s0, fun z1 => fun hz1 => ⟨?s1, fun z2 => fun hz2 => fun z3 => fun hz3 => ⟨rfl, ?m0⟩⟩⟩
      all_goals (try simp only [zV_digs] at *)
      case s0 => omega
      case s1 => exact ⟨by omega, den0 _⟩
      case m0 =>
        subst hz1 hz2
        refine Subl.agg (.zd ?_ (by omega) .nil)
        rw [Rat.floor_def, Int.fdiv_eq_ediv_of_nonneg _ (by omega)]
    · cases hs
  · cases hs
theorem cDivQR : Contract Tryz.prog E 35 sDivQR := by
  refine contract_loopsG [(82, sTakeR), (83, sMul2), (37, sOfNR)] Tryz.ntmps35 Tryz.func35 (by kernel_rfl) (by kernel_rfl) hU ⟨cTakeR hU, cMul2R hU, cOfNR hU, trivial⟩ ?_
  intro xs p r hs hp
  unfold sDivQR at hs
  split at hs
  · rename_i x y
    split at hs
    · rename_i n l k j n' l' k' j' m u i _ m' u' i' _ hx hy
      cases hs
      obtain ⟨hk, hk', hi, hi'⟩ := hp _ rfl
      refine ⟨[rawQ n l k n' l' k', rawQ m u i m' u' i'], [], .cons (sub_rawQ hx) (.cons (sub_rawQ hy) .nil), rfl, fun hgx hg => ?_⟩
      refine cast_rfl (p := (k ≤ 9000 ∧ k' ≤ 9000) ∧ ∀ (z1 : Rat), z1 = takeQ n l n' l' → (i ≤ 9000 ∧ i' ≤ 9000) ∧ ∀ (z2 : Rat), z2 = takeQ m u m' u' → k + 3 + (i' + 3) ≤ 9990 ∧ ∀ (z3 : Int), z3 = zV (zNeg z1.num) (digs 1000000000 z1.num.natAbs) * zV (zNeg (↑z2.den : Int)) (digs 1000000000 (↑z2.den : Int).natAbs) → k' + 3 + (i + 3) ≤ 9990 ∧ ∀ (z4 : Int), z4 = zV (zNeg (↑z1.den : Int)) (digs 1000000000 (↑z1.den : Int).natAbs) * zV (zNeg z2.num) (digs 1000000000 z2.num.natAbs) → (k + 3 + (i' + 3) + 1 ≤ 900 ∧ k' + 3 + (i + 3) + 1 ≤ 900) ∧ ∀ (z5 : Rat), z5 = ofRat (zNeg z3) (digs 1000000000 z3.natAbs) (zNeg z4) (digs 1000000000 z4.natAbs) → ∀ (z6 : Int), z6 = ofErr (zNeg z3) (digs 1000000000 z3.natAbs) (zNeg z4) (digs 1000000000 z4.natAbs) → true = true ∧ Sub (PV.tup [PV.agg [PV.f (Lf.zn z5.num), PV.f (Lf.zd z5.num (k + 3 + (i' + 3) + 1 + 6)), PV.f (Lf.zn (↑z5.den : Int)), PV.f (Lf.zd (↑z5.den : Int) (k' + 3 + (i + 3) + 1 + 6))], PV.f (Lf.v (Value.int IntKind.i64 z6))]) (PV.tup [PV.agg [PV.f (Lf.zn (takeQ n l n' l' / takeQ m u m' u').num), PV.f (Lf.zd (takeQ n l n' l' / takeQ m u m' u').num (k + i' + 30)), PV.f (Lf.zn (↑(takeQ n l n' l' / takeQ m u m' u').den : Int)), PV.f (Lf.zd (↑(takeQ n l n' l' / takeQ m u m' u').den : Int) (k' + i + 30))], PV.f (Lf.v (Value.int IntKind.i64 (if takeQ m u m' u' = (0 : Rat) then (9 : Int) else (0 : Int))))])) (by kernel_rfl) ?_
      refine ⟨?s0, fun z1 => fun hz1 => ⟨?s1, fun z2 => fun hz2 => ⟨?s2, fun z3 => fun hz3 => ⟨?s3, fun z4 => fun hz4 => ⟨?s4, fun z5 => fun hz5 => fun z6 => fun hz6 => ⟨rfl, ?m0⟩⟩⟩⟩⟩⟩
      all_goals first | omega | skip
      case m0 =>
        subst hz1 hz2
        rw [ofRat_canon] at hz5
        rw [ofErr_canon] at hz6
        simp only [zV_digs] at hz3 hz4
        subst hz3 hz4
        rw [← div_parts] at hz5
        have e : (((takeQ n l n' l').den : Int) * (takeQ m u m' u').num = 0) = (takeQ m u m' u' = 0) := by
          rw [Int.mul_eq_zero, num0]
          exact propext ⟨fun h => h.resolve_left (den0 _), .inr⟩
        simp only [e] at hz6
        rw [hz5, hz6]
        exact sub_tup2 (.zd rfl (by omega) (.zd rfl (by omega) .nil))
    · cases hs
  · cases hs
theorem cAddQR : Contract Tryz.prog E 92 sAddQR := by
  refine contract_loopsG [(75, sNought), (82, sTakeR), (83, sMul2), (14, sAddR), (37, sOfNR)] Tryz.ntmps92 Tryz.func92 (by kernel_rfl) (by kernel_rfl) hU ⟨cNoughtR hU, cTakeR hU, cMul2R hU, cAddZ hU, cOfNR hU, trivial⟩ ?_
  intro xs p r hs hp
  unfold sAddQR at hs
  split at hs
  · rename_i y
    split at hs
    · rename_i L hy
      cases hs
      obtain ⟨hk, hj, hL⟩ := hp _ rfl
      refine ⟨[.f (.qs L)], [(3, .s ⟨Nat, fun i => ⟨[(0, .f (.qs L)), (2, .bp 0 0), (3, .bp 1 0), (4, .f (.v (.int .i64 (i : Nat))))],
          [.cells [.f (.v (.bool false)), .f (.v (.slice none 0 0)), .f (.v (.bool false)), .f (.v (.slice none 0 0))], .cells (qL ((L.take i).foldl (fun a e => a + ofE e) 0) ((L.take i).foldl bPl (3, 3)).1 ((L.take i).foldl bPl (3, 3)).2)]⟩, fun i => i ≤ L.length, fun i => L.length - i⟩)], .cons (sub_qs hy) .nil, rfl, fun hgx hg => ?_⟩
      have key : ∀ i, i < L.length → (L.getD i ((false, [], 0), (false, [], 0))).1.2.2 + 3 ≤ 200 ∧ (L.getD i ((false, [], 0), (false, [], 0))).2.2.2 + 3 ≤ 200 ∧ ((L.take i).foldl bPl (3, 3)).1 ≤ 200 ∧ ((L.take i).foldl bPl (3, 3)).2 ≤ 200 ∧
          (L.take (i + 1)).foldl bPl (3, 3) = bPl ((L.take i).foldl bPl (3, 3)) (L.getD i ((false, [], 0), (false, [], 0))) := by
        intro i hi
        have h3 := foldl_take bPl (3, 3) L ((false, [], 0), (false, [], 0)) hi
        have h4 := bPl_mono (L.take (i + 1)) (L.drop (i + 1)) (3, 3)
        rw [List.take_append_drop, h3] at h4
        generalize (L.take i).foldl bPl (3, 3) = B at *
        generalize L.foldl bPl (3, 3) = F at *
        generalize L.getD i ((false, [], 0), (false, [], 0)) = e at *
        unfold bPl at h4
        dsimp only at h4
        exact ⟨by omega, by omega, by omega, by omega, h3⟩
      refine cast_rfl (p := ∃ (x1 : Nat), (((SubB (PV.f (Lf.v (Value.bool false))) (PV.f (Lf.v (Value.bool false))) ∧ SubB (PV.f (Lf.v (Value.slice none 0 0))) (PV.f (Lf.v (Value.slice none 0 0))) ∧ SubB (PV.f (Lf.v (Value.bool false))) (PV.f (Lf.v (Value.bool false))) ∧ SubB (PV.f (Lf.v (Value.slice none 0 0))) (PV.f (Lf.v (Value.slice none 0 0))) ∧ True) ∧ (SubB (PV.f (Lf.zn (0 : Int))) (PV.f (Lf.zn (List.foldl (fun (a : Rat) (e : QE) => a + ofE e) (0 : Rat) (List.take x1 L)).num)) ∧ SubB (PV.f (Lf.zd (0 : Int) 3)) (PV.f (Lf.zd (List.foldl (fun (a : Rat) (e : QE) => a + ofE e) (0 : Rat) (List.take x1 L)).num (List.foldl bPl (3, 3) (List.take x1 L)).fst)) ∧ SubB (PV.f (Lf.zn (1 : Int))) (PV.f (Lf.zn (↑(List.foldl (fun (a : Rat) (e : QE) => a + ofE e) (0 : Rat) (List.take x1 L)).den : Int))) ∧ SubB (PV.f (Lf.zd (1 : Int) 3)) (PV.f (Lf.zd (↑(List.foldl (fun (a : Rat) (e : QE) => a + ofE e) (0 : Rat) (List.take x1 L)).den : Int) (List.foldl bPl (3, 3) (List.take x1 L)).snd)) ∧ True) ∧ True) ∧ SubB (PV.f (Lf.qs L)) (PV.f (Lf.qs L)) ∧ SubB (PV.bp 0 0) (PV.bp 0 0) ∧ SubB (PV.bp 1 0) (PV.bp 1 0) ∧ SubB (PV.f (Lf.v (Value.int IntKind.i64 (0 : Int)))) (PV.f (Lf.v (Value.int IntKind.i64 (↑x1 : Int)))) ∧ True) ∧ x1 ≤ L.length ∧ True ∧ ∀ (z2 : Nat), z2 ≤ L.length → True → ifB (decide ((↑z2 : Int) < (↑L.length : Int))) (((0 : Int) ≤ (↑z2 : Int) ∧ (↑z2 : Int) < (↑L.length : Int)) ∧ ((L.getD (↑z2 : Int).toNat ((false, [], 0), false, [], 0)).fst.snd.snd ≤ 9000 ∧ (L.getD (↑z2 : Int).toNat ((false, [], 0), false, [], 0)).snd.snd.snd ≤ 9000) ∧ ∀ (z3 : Rat), z3 = takeQ (L.getD (↑z2 : Int).toNat ((false, [], 0), false, [], 0)).fst.fst (L.getD (↑z2 : Int).toNat ((false, [], 0), false, [], 0)).fst.snd.fst (L.getD (↑z2 : Int).toNat ((false, [], 0), false, [], 0)).snd.fst (L.getD (↑z2 : Int).toNat ((false, [], 0), false, [], 0)).snd.snd.fst → (List.foldl bPl (3, 3) (List.take z2 L)).fst + ((L.getD (↑z2 : Int).toNat ((false, [], 0), false, [], 0)).snd.snd.snd + 3) ≤ 9990 ∧ ∀ (z4 : Int), z4 = zV (zNeg (List.foldl (fun (a : Rat) (e : QE) => a + ofE e) (0 : Rat) (List.take z2 L)).num) (digs 1000000000 (List.foldl (fun (a : Rat) (e : QE) => a + ofE e) (0 : Rat) (List.take z2 L)).num.natAbs) * zV (zNeg (↑z3.den : Int)) (digs 1000000000 (↑z3.den : Int).natAbs) → (L.getD (↑z2 : Int).toNat ((false, [], 0), false, [], 0)).fst.snd.snd + 3 + (List.foldl bPl (3, 3) (List.take z2 L)).snd ≤ 9990 ∧ ∀ (z5 : Int), z5 = zV (zNeg z3.num) (digs 1000000000 z3.num.natAbs) * zV (zNeg (↑(List.foldl (fun (a : Rat) (e : QE) => a + ofE e) (0 : Rat) (List.take z2 L)).den : Int)) (digs 1000000000 (↑(List.foldl (fun (a : Rat) (e : QE) => a + ofE e) (0 : Rat) (List.take z2 L)).den : Int).natAbs) → (List.foldl bPl (3, 3) (List.take z2 L)).fst + ((L.getD (↑z2 : Int).toNat ((false, [], 0), false, [], 0)).snd.snd.snd + 3) + 1 + 2 + ((L.getD (↑z2 : Int).toNat ((false, [], 0), false, [], 0)).fst.snd.snd + 3 + (List.foldl bPl (3, 3) (List.take z2 L)).snd + 1 + 2 + 0) ≤ 20000 ∧ ∀ (z6 : Int), z6 = (0 : Int) + zV (zNeg z4) (digs 1000000000 z4.natAbs) + zV (zNeg z5) (digs 1000000000 z5.natAbs) → (List.foldl bPl (3, 3) (List.take z2 L)).snd + ((L.getD (↑z2 : Int).toNat ((false, [], 0), false, [], 0)).snd.snd.snd + 3) ≤ 9990 ∧ ∀ (z7 : Int), z7 = zV (zNeg (↑(List.foldl (fun (a : Rat) (e : QE) => a + ofE e) (0 : Rat) (List.take z2 L)).den : Int)) (digs 1000000000 (↑(List.foldl (fun (a : Rat) (e : QE) => a + ofE e) (0 : Rat) (List.take z2 L)).den : Int).natAbs) * zV (zNeg (↑z3.den : Int)) (digs 1000000000 (↑z3.den : Int).natAbs) → (0 + ((List.foldl bPl (3, 3) (List.take z2 L)).fst + ((L.getD (↑z2 : Int).toNat ((false, [], 0), false, [], 0)).snd.snd.snd + 3) + 1) + 1 + ((L.getD (↑z2 : Int).toNat ((false, [], 0), false, [], 0)).fst.snd.snd + 3 + (List.foldl bPl (3, 3) (List.take z2 L)).snd + 1) + 1 ≤ 900 ∧ (List.foldl bPl (3, 3) (List.take z2 L)).snd + ((L.getD (↑z2 : Int).toNat ((false, [], 0), false, [], 0)).snd.snd.snd + 3) + 1 ≤ 900) ∧ ∀ (z8 : Rat), z8 = ofRat (zNeg z6) (digs 1000000000 z6.natAbs) (zNeg z7) (digs 1000000000 z7.natAbs) → ∀ (z9 : Int), z9 = ofErr (zNeg z6) (digs 1000000000 z6.natAbs) (zNeg z7) (digs 1000000000 z7.natAbs) → ∃ (x10 : Nat), (((SubB (PV.f (Lf.v (Value.bool false))) (PV.f (Lf.v (Value.bool false))) ∧ SubB (PV.f (Lf.v (Value.slice none 0 0))) (PV.f (Lf.v (Value.slice none 0 0))) ∧ SubB (PV.f (Lf.v (Value.bool false))) (PV.f (Lf.v (Value.bool false))) ∧ SubB (PV.f (Lf.v (Value.slice none 0 0))) (PV.f (Lf.v (Value.slice none 0 0))) ∧ True) ∧ (SubB (PV.f (Lf.zn z8.num)) (PV.f (Lf.zn (List.foldl (fun (a : Rat) (e : QE) => a + ofE e) (0 : Rat) (List.take x10 L)).num)) ∧ SubB (PV.f (Lf.zd z8.num (0 + ((List.foldl bPl (3, 3) (List.take z2 L)).fst + ((L.getD (↑z2 : Int).toNat ((false, [], 0), false, [], (0 : Nat))).snd.snd.snd + 3) + 1) + 1 + ((L.getD (↑z2 : Int).toNat ((false, [], 0), false, [], (0 : Nat))).fst.snd.snd + 3 + (List.foldl bPl (3, 3) (List.take z2 L)).snd + 1) + 1 + 6))) (PV.f (Lf.zd (List.foldl (fun (a : Rat) (e : QE) => a + ofE e) (0 : Rat) (List.take x10 L)).num (List.foldl bPl (3, 3) (List.take x10 L)).fst)) ∧ SubB (PV.f (Lf.zn (↑z8.den : Int))) (PV.f (Lf.zn (↑(List.foldl (fun (a : Rat) (e : QE) => a + ofE e) (0 : Rat) (List.take x10 L)).den : Int))) ∧ SubB (PV.f (Lf.zd (↑z8.den : Int) ((List.foldl bPl (3, 3) (List.take z2 L)).snd + ((L.getD (↑z2 : Int).toNat ((false, [], 0), false, [], (0 : Nat))).snd.snd.snd + 3) + 1 + 6))) (PV.f (Lf.zd (↑(List.foldl (fun (a : Rat) (e : QE) => a + ofE e) (0 : Rat) (List.take x10 L)).den : Int) (List.foldl bPl (3, 3) (List.take x10 L)).snd)) ∧ True) ∧ True) ∧ SubB (PV.f (Lf.qs L)) (PV.f (Lf.qs L)) ∧ SubB (PV.bp 0 0) (PV.bp 0 0) ∧ SubB (PV.bp 1 0) (PV.bp 1 0) ∧ SubB (PV.f (Lf.v (Value.int IntKind.i64 (IntKind.i64.wrap ((↑z2 : Int) + (1 : Int)))))) (PV.f (Lf.v (Value.int IntKind.i64 (↑x10 : Int)))) ∧ True) ∧ x10 ≤ L.length ∧ True ∧ (L.length - x10).succ.le (L.length - z2)) (true = true ∧ Sub (PV.agg [PV.f (Lf.zn (List.foldl (fun (a : Rat) (e : QE) => a + ofE e) (0 : Rat) (List.take z2 L)).num), PV.f (Lf.zd (List.foldl (fun (a : Rat) (e : QE) => a + ofE e) (0 : Rat) (List.take z2 L)).num (List.foldl bPl (3, 3) (List.take z2 L)).fst), PV.f (Lf.zn (↑(List.foldl (fun (a : Rat) (e : QE) => a + ofE e) (0 : Rat) (List.take z2 L)).den : Int)), PV.f (Lf.zd (↑(List.foldl (fun (a : Rat) (e : QE) => a + ofE e) (0 : Rat) (List.take z2 L)).den : Int) (List.foldl bPl (3, 3) (List.take z2 L)).snd)]) (PV.agg [PV.f (Lf.zn (List.foldl (fun (a : Rat) (e : QE) => a + ofE e) (0 : Rat) L).num), PV.f (Lf.zd (List.foldl (fun (a : Rat) (e : QE) => a + ofE e) (0 : Rat) L).num (List.foldl bPl (3, 3) L).fst), PV.f (Lf.zn (↑(List.foldl (fun (a : Rat) (e : QE) => a + ofE e) (0 : Rat) L).den : Int)), PV.f (Lf.zd (↑(List.foldl (fun (a : Rat) (e : QE) => a + ofE e) (0 : Rat) L).den : Int) (List.foldl bPl (3, 3) L).snd)]))) (by kernel_rfl) ?_
      refine ⟨?x0, ⟨⟨⟨⟨.refl _, ⟨.refl _, ⟨.refl _, ⟨.refl _, trivial⟩⟩⟩⟩, ⟨⟨?m0, ⟨?m1, ⟨?m2, ⟨?m3, trivial⟩⟩⟩⟩, trivial⟩⟩, ⟨.refl _, ⟨.refl _, ⟨.refl _, ⟨?m4, trivial⟩⟩⟩⟩⟩, ⟨?s0, ⟨trivial, fun z2 => fun hq0 => fun _ => ifB_iff.2 ⟨fun hb1 => ⟨?s1, ⟨?s2, fun z3 => fun hz3 => ⟨?s3, fun z4 => fun hz4 => ⟨?s4, fun z5 => fun hz5 => ⟨?s5, fun z6 => fun hz6 => ⟨?s6, fun z7 => fun hz7 => ⟨?s7, fun z8 => fun hz8 => fun z9 => fun hz9 => ⟨?x1, ⟨⟨⟨⟨.refl _, ⟨.refl _, ⟨.refl _, ⟨.refl _, trivial⟩⟩⟩⟩, ⟨⟨?m5, ⟨?m6, ⟨?m7, ⟨?m8, trivial⟩⟩⟩⟩, trivial⟩⟩, ⟨.refl _, ⟨.refl _, ⟨.refl _, ⟨?m9, trivial⟩⟩⟩⟩⟩, ⟨?s8, ⟨trivial, ?m10⟩⟩⟩⟩⟩⟩⟩⟩⟩⟩⟩, fun hb1 => ⟨rfl, ?m11⟩⟩⟩⟩⟩⟩
      case x0 => exact 0
      case x1 => exact z2 + 1
      all_goals (try simp only [Int.toNat_natCast] at *)
      case m0 => exact subB_zn rfl
      case m1 => exact subB_zd rfl (Nat.le_refl _)
      case m2 => exact subB_zn rfl
      case m3 => exact subB_zd rfl (Nat.le_refl _)
      case m4 => exact subB_int rfl
      case s0 => omega
      case m11 =>
        have h1 := of_decide_eq_false hb1
        obtain rfl : z2 = L.length := by omega
        rw [List.take_length]
        exact .refl _
      all_goals have h1 := of_decide_eq_true hb1
      all_goals have hz : z2 < L.length := (by omega)
      all_goals obtain ⟨g1, g2, g3, g4, g5⟩ := key z2 hz
      all_goals have g6 := foldl_take (fun a e => a + ofE e) (0 : Rat) L ((false, [], 0), (false, [], 0)) hz
      all_goals generalize hq : (L.take z2).foldl (fun a e => a + ofE e) (0 : Rat) = q at *
      all_goals generalize (L.take z2).foldl bPl (3, 3) = B at *
      all_goals generalize hw : L.getD z2 ((false, [], 0), (false, [], 0)) = e at *
      all_goals (try simp only [zV_digs] at *)
      all_goals first | omega | exact ⟨by omega, by omega⟩ | skip
      case m9 => exact subB_succ (by omega)
      case m10 => show L.length - (z2 + 1) + 1 ≤ L.length - z2; omega
      all_goals have h8 : z8 = q + ofE e := (by
        have e3 : z3 = ofE e := hz3
        rw [hz8, ofRat_canon, hz6, hz7, hz4, hz5, Int.zero_add, ← Rat.divInt_add_divInt _ _ (den0 q) (den0 z3), Rat.num_divInt_den, Rat.num_divInt_den, e3])
      all_goals rw [g6, h8]
      case m5 => exact .refl _
      case m6 => rw [g5]; exact subB_zd rfl (by unfold bPl; dsimp only; omega)
      case m7 => exact .refl _
      case m8 => rw [g5]; exact subB_zd rfl (by unfold bPl; dsimp only; omega)
    · cases hs
  · cases hs
theorem cSubQR : Contract Tryz.prog E 42 sSubQR := by
  refine contract_loopsG [(41, sNegQ), (92, sAddQR)] Tryz.ntmps42 Tryz.func42 (by kernel_rfl) (by kernel_rfl) hU ⟨cNegR hU, cAddQR hU, trivial⟩ ?_
  intro xs p r hs hp
  unfold sSubQR at hs
  split at hs
  · rename_i x y
    split at hs
    · rename_i n l k j n' l' k' j' m u i _ m' u' i' _ hx hy
      cases hs
      obtain ⟨hk, hk', hi, hi'⟩ := hp _ rfl
      refine ⟨[rawQ n l k n' l' k', rawQ m u i m' u' i'], [], .cons (sub_rawQ hx) (.cons (sub_rawQ hy) .nil), rfl, fun hgx hg => ?_⟩
      refine cast_rfl (p := (i ≤ 1900 ∧ i' ≤ 1900) ∧ ∀ (z1 : Rat), z1 = -takeQ m u m' u' → ((List.foldl bPl (3, 3) [((n, l, k), n', l', k'), ((zNeg z1.num, digs 1000000000 z1.num.natAbs, i + 3), zNeg (↑z1.den : Int), digs 1000000000 (↑z1.den : Int).natAbs, i' + 3)]).fst ≤ 200 ∧ (List.foldl bPl (3, 3) [((n, l, k), n', l', k'), ((zNeg z1.num, digs 1000000000 z1.num.natAbs, i + 3), zNeg (↑z1.den : Int), digs 1000000000 (↑z1.den : Int).natAbs, i' + 3)]).snd ≤ 200 ∧ 2 ≤ 1000000) ∧ ∀ (z2 : Rat), z2 = List.foldl (fun (a : Rat) (e : QE) => a + ofE e) (0 : Rat) [((n, l, k), n', l', k'), ((zNeg z1.num, digs 1000000000 z1.num.natAbs, i + 3), zNeg (↑z1.den : Int), digs 1000000000 (↑z1.den : Int).natAbs, i' + 3)] → true = true ∧ Sub (PV.agg [PV.f (Lf.zn z2.num), PV.f (Lf.zd z2.num (List.foldl bPl (3, 3) [((n, l, k), n', l', k'), ((zNeg z1.num, digs 1000000000 z1.num.natAbs, i + 3), zNeg (↑z1.den : Int), digs 1000000000 (↑z1.den : Int).natAbs, i' + 3)]).fst), PV.f (Lf.zn (↑z2.den : Int)), PV.f (Lf.zd (↑z2.den : Int) (List.foldl bPl (3, 3) [((n, l, k), n', l', k'), ((zNeg z1.num, digs 1000000000 z1.num.natAbs, i + 3), zNeg (↑z1.den : Int), digs 1000000000 (↑z1.den : Int).natAbs, i' + 3)]).snd)]) (PV.agg [PV.f (Lf.zn (takeQ n l n' l' - takeQ m u m' u').num), PV.f (Lf.zd (takeQ n l n' l' - takeQ m u m' u').num (k + 2 * k' + i + 2 * i' + 150)), PV.f (Lf.zn (↑(takeQ n l n' l' - takeQ m u m' u').den : Int)), PV.f (Lf.zd (↑(takeQ n l n' l' - takeQ m u m' u').den : Int) (k' + i' + 100))])) (by kernel_rfl) ?_
      refine ⟨?s0, fun z1 => fun hz1 => ⟨?s1, fun z2 => fun hz2 => ⟨rfl, ?m0⟩⟩⟩
      case s0 => omega
      case s1 => simp only [List.foldl_cons, List.foldl_nil, bPl]; omega
      case m0 =>
        subst hz1 hz2
        have e : List.foldl (fun a e => a + ofE e) (0 : Rat) [((n, l, k), n', l', k'), ((zNeg (-takeQ m u m' u').num, digs 1000000000 (-takeQ m u m' u').num.natAbs, i + 3), zNeg ((-takeQ m u m' u').den : Int), digs 1000000000 ((-takeQ m u m' u').den : Int).natAbs, i' + 3)] = takeQ n l n' l' - takeQ m u m' u' := by
          simp only [List.foldl_cons, List.foldl_nil, ofE]
          rw [takeQ_canon, Rat.zero_add, Rat.sub_eq_add_neg]
        rw [e]
        simp only [List.foldl_cons, List.foldl_nil, bPl]
        exact Subl.agg (.zd rfl (by omega) (.zd rfl (by omega) .nil))
    · cases hs
  · cases hs
end

end Go.Proofs.YtjfncepmpabcnaaGreatDoor
