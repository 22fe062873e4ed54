/- The law RatioTexts, by the pure run. -/
import Derived.Test.YtjfncepmpabcnaaGreatDoorRf
namespace Go.Proofs.YtjfncepmpabcnaaGreatDoor
open Go.RowKit
set_option linter.unusedVariables false
set_option maxRecDepth 100000

/-- A canonical text is its number's. -/
theorem numD_snoc (l : List UInt8) (c : UInt8) : numD (l ++ [c]) = numD l * 10 + (c.toNat - 48) := by
  unfold numD numF; rw [List.foldl_append]; rfl
theorem okT_snoc {l : List UInt8} {c : UInt8} (h : okT (l ++ [c]) = true) : isDig c = true ∧ (l ≠ [] → okT l = true ∧ bAt l 0 ≠ 48) := by
  unfold okT at h
  simp only [Bool.not_eq_true', Bool.or_eq_false_iff, Bool.not_eq_false', decB, List.all_append, List.all_cons, List.all_nil, Bool.and_true, Bool.and_eq_true, List.length_append, List.length_cons, List.length_nil] at h
  obtain ⟨⟨-, h1⟩, h2, h3⟩ := h
  refine ⟨h3, fun hne => ?_⟩
  have hl : 0 < l.length := List.length_pos_iff.2 hne
  have hb : bAt (l ++ [c]) 0 = bAt l 0 := by
    cases l with
    | nil => exact absurd rfl hne
    | cons a r => rfl
  rw [hb, decide_eq_true (by omega), Bool.true_and, decide_eq_false_iff_not] at h1
  refine ⟨?_, h1⟩
  unfold okT decB
  rw [h2, decide_eq_false (by omega), decide_eq_false h1, Bool.and_false]; rfl
theorem numD_pos : ∀ {l : List UInt8}, okT l = true → bAt l 0 ≠ 48 → 0 < numD l
  | [], h, _ => by cases h
  | a :: r, h, h0 => by
    have h1 : isDig a = true := by
      unfold okT at h
      simp only [Bool.not_eq_true', Bool.or_eq_false_iff, Bool.not_eq_false', decB, List.all_cons, Bool.and_eq_true] at h
      exact h.2.1
    have h2 : numD (a :: r) = (a.toNat - 48) * 10 ^ r.length + numD r := by
      unfold numD; rw [numF_cons, numF_acc, Nat.zero_mul, Nat.zero_add]; rfl
    unfold isDig at h1
    simp only [Bool.and_eq_true, decide_eq_true_eq] at h1
    have h3 : a.toNat ≠ 48 := h0
    have : 0 < (a.toNat - 48) * 10 ^ r.length := Nat.mul_pos (by omega) (Nat.pow_pos (by omega))
    omega
theorem dec_text (l : List UInt8) : okT l = true → Lib.decDigits (numD l) = l := by
  have key : ∀ (n : Nat) (l : List UInt8), l.length = n → okT l = true → Lib.decDigits (numD l) = l := by
    intro n
    induction n with
    | zero => intro l hl h; rw [List.length_eq_zero_iff.1 hl] at h; cases h
    | succ n ih =>
      intro l hl h
      obtain ⟨m, c, rfl⟩ : ∃ m c, l = m ++ [c] := by
        rcases List.eq_nil_or_concat l with h0 | ⟨m, c, h0⟩
        · rw [h0] at hl; cases hl
        · exact ⟨m, c, by simpa using h0⟩
      obtain ⟨h1, h2⟩ := okT_snoc h
      have hc : 48 ≤ c.toNat ∧ c.toNat ≤ 57 := by
        unfold isDig at h1; simpa using h1
      have hcc : UInt8.ofNat (48 + (c.toNat - 48)) = c := by
        rw [show 48 + (c.toNat - 48) = c.toNat from by omega]; exact UInt8.ofNat_toNat
      rw [numD_snoc]
      by_cases hm : m = []
      · subst hm
        rw [show numD [] = 0 from rfl, Nat.zero_mul, Nat.zero_add, Lib.decDigits, dif_pos (by omega), hcc]; rfl
      · obtain ⟨h3, h4⟩ := h2 hm
        have h5 := numD_pos h3 h4
        rw [Lib.decDigits, dif_neg (by omega), show (numD m * 10 + (c.toNat - 48)) / 10 = numD m from by omega, show (numD m * 10 + (c.toNat - 48)) % 10 = c.toNat - 48 from by omega, hcc]
        rw [ih m (by simpa using hl) h3]
  exact key _ l rfl
theorem zText_parZ {l : List UInt8} (h : okZ l = true) : zText (parZ l) = l := by
  rw [parZ_ok h]
  unfold okZ at h
  simp only [Bool.and_eq_true, Bool.not_eq_true'] at h
  obtain ⟨h1, h2⟩ := h
  have hd := dec_text _ h1
  cases hs : signZ l
  · have : restZ l = l := by unfold restZ Lib.trimPrefix; unfold signZ at hs; rw [hs]; rfl
    rw [this] at hd ⊢
    rw [zText_pos (by rw [zNeg]; exact decide_eq_false (by rw [zOf_false]; omega)), zOf_false, Int.natAbs_natCast, hd]
  · rw [hs, Bool.true_and, ofR_ok h1] at h2
    have h3 : numD (restZ l) ≠ 0 := by
      intro h0
      rw [h0, digs_zero] at h2
      cases h2
    have e : zOf true (numD (restZ l)) = -(numD (restZ l) : Int) := rfl
    rw [e, zText_neg (by rw [zNeg]; exact decide_eq_true (by omega)), Int.natAbs_neg, Int.natAbs_natCast, hd]
    have h4 : [45] <+: l := by simpa [signZ, Lib.hasPrefix, List.isPrefixOf_iff_prefix] using hs
    obtain ⟨t, rfl⟩ := h4
    simp [restZ, Lib.trimPrefix, Lib.hasPrefix]

theorem lr_zd {z : Int} {k j : Nat} {v : Value} {H : Hp} (hv : PR H B0 v (.f (.lr (digs 1000000000 z.natAbs) k))) (hj : k ≤ j) : PR H B0 v (.f (.zd z j)) := by
  have hr := hv.rd
  have hg : (digs 1000000000 z.natAbs).length ≤ k ∧ ∀ x ∈ digs 1000000000 z.natAbs, x < 4294967296 := rd_good hr (by simp [Lf.view])
  have hz : ZB z j := by
    have := zb_of_len (neg := zNeg z) hg.1
    rw [zOf_self] at this
    exact this.mono hj
  cases hr with
  | sl hvw _ hc hm h0 b o val hb hcell hk hrec => exact .f (.sl (f := .zd z j) hvw hz hc hm h0 b o val hb hcell hk hrec)
/-- A right ratio as it came. -/
theorem raw_take {n n' : Bool} {l l' : List Nat} {k k' : Nat} (h : rightQ n l n' l' = true) : Sub (rawQ n l k n' l' k') (qP (takeQ n l n' l') (k + 3) (k' + 3)) := by
  have h1 := takeQ_yes h
  have h2 : rightZ n l = true := by unfold rightQ at h; rw [Bool.and_eq_true] at h; exact h.1
  have h3 : rightZ n' l' = true := by unfold rightQ at h; rw [Bool.and_eq_true, Bool.and_eq_true] at h; exact h.2.1
  obtain ⟨e1, e2⟩ := rightZ_digs h2
  obtain ⟨e3, e4⟩ := rightZ_digs h3
  revert h1
  generalize takeQ n l n' l' = q
  intro h1
  generalize ha : zV n l = a at *
  generalize hb : zV n' l' = b at *
  obtain ⟨h1, h4⟩ := h1
  subst h1 h4 e1 e2 e3 e4
  refine ⟨fun H v hv => ?_⟩
  obtain ⟨vs, rfl, h5⟩ := PRs.of_agg hv
  match vs, h5.1 with
  | [p, q, r, s], _ =>
    have a0 := (h5.2 0 _ _ rfl rfl).val
    have a2 := (h5.2 2 _ _ rfl rfl).val
    subst a0 a2
    have a1 := lr_zd (h5.2 1 _ _ rfl rfl) (j := k + 3) (by omega)
    have a3 := lr_zd (h5.2 3 _ _ rfl rfl) (j := k' + 3) (by omega)
    exact (PRs.cons (.f (.zn _)) (.cons a1 (.cons (.f (.zn _)) (.cons a3 .nil)))).agg
/-- A right whole number as it came. -/
theorem raw_whole {n : Bool} {l : List Nat} {k : Nat} (h : rightZ n l = true) : Sub (.agg [.f (.v (.bool n)), .f (.lr l k), .f (.zn 1), .f (.zd 1 3)]) (qP ((zV n l : Int) : Rat) (k + 3) 6) := by
  obtain ⟨e1, e2⟩ := rightZ_digs h
  generalize ha : zV n l = a at *
  subst e1 e2
  refine ⟨fun H v hv => ?_⟩
  obtain ⟨vs, rfl, h5⟩ := PRs.of_agg hv
  match vs, h5.1 with
  | [p, q, r, s], _ =>
    have a0 := (h5.2 0 _ _ rfl rfl).val
    subst a0
    have a1 := lr_zd (h5.2 1 _ _ rfl rfl) (j := k + 3) (by omega)
    have a3 := (sub_zd (k := 3) (k' := 6) (ZB.one.mono (by omega))).out _ _ (h5.2 3 _ _ rfl rfl)
    exact (PRs.cons (.f (.zn _)) (.cons a1 (.cons (h5.2 2 _ _ rfl rfl) (.cons a3 .nil)))).agg
theorem cmpI_pos {a : Int} (h : decide (cmpI a 0 > 0) = true) : 0 < a := by
  rcases Int.lt_trichotomy a 0 with h1 | h1 | h1
  · rw [cmpI_lt h1] at h; exact absurd h (by decide)
  · rw [cmpI_eq h1] at h; exact absurd h (by decide)
  · exact h1
theorem cmpI_npos {a : Int} (h : decide (cmpI a 0 > 0) = false) : ¬ 0 < a := fun h1 => by
  rw [cmpI_gt h1] at h; exact absurd h (by decide)
def sNought : Spec
  | [] => some (none, .one (.agg [.f (.zn 0), .f (.zd 0 3), .f (.zn 1), .f (.zd 1 3)]))
  | _ => none
def sZero : Spec
  | [] => some (none, .one (zP 0 3))
  | _ => none
def sRightR : Spec
  | [x] => match pvQ x with
    | some (((n, l), k, _), ((n', l'), k', _)) => some (some (k ≤ 9000 ∧ k' ≤ 9000), .one (.f (.v (.bool (rightQ n l n' l')))))
    | none => none
  | _ => none
def sTakeR : Spec
  | [x] => match pvQ x with
    | some (((n, l), k, _), ((n', l'), k', _)) => some (some (k ≤ 9000 ∧ k' ≤ 9000), .nm Rat (takeQ n l n' l') fun r => qP r (k + 3) (k' + 3))
    | none => none
  | _ => none
theorem occ47 (l : List UInt8) (i : Nat) : Lib.occAt l [47] i = true ↔ l[i]? = some 47 := by
  unfold Lib.occAt
  rw [List.isPrefixOf_iff_prefix]
  cases h : l.drop i with
  | nil =>
    have : l.length ≤ i := List.drop_eq_nil_iff.1 h
    simp [List.getElem?_eq_none this]
  | cons a r =>
    have : l[i]? = some a := by
      have h1 : (l.drop i)[0]? = some a := by rw [h]; rfl
      rwa [List.getElem?_drop, Nat.add_zero] at h1
    rw [this, List.cons_prefix_cons]
    simp [eq_comm]
theorem cut_hit {l : List UInt8} {i : Nat} (h : l[i]? = some 47) (hn : ∀ j, j < i → l[j]? ≠ some 47) : Lib.cut l [47] = (l.take i, l.drop (i + 1), true) := by
  have hi : i < l.length := (List.getElem?_eq_some_iff.1 h).1
  have := Lib.index_first (s := l) (sub := [47]) (i := i) (by omega) ((occ47 l i).2 h) fun j hj => Bool.eq_false_iff.2 fun hc => hn j hj ((occ47 l j).1 hc)
  unfold Lib.cut
  rw [this, if_pos (by omega)]
  simp
theorem cut_miss {l : List UInt8} (hn : ∀ j, j < l.length → l[j]? ≠ some 47) : Lib.cut l [47] = (l, [], false) := by
  have := Lib.index_none (s := l) (sub := [47]) fun j _ => Bool.eq_false_iff.2 fun hc => by
    have h1 := (occ47 l j).1 hc
    exact hn j (List.getElem?_eq_some_iff.1 h1).1 h1
  unfold Lib.cut
  rw [this, if_neg (by omega)]
theorem ext_take (s : ByteArray) (z : Nat) : (s.extract (Int.toNat 0) (z : Int).toNat).data.toList = s.data.toList.take z := by
  simp [ByteArray.data_extract]
theorem ext_drop (s : ByteArray) (z : Nat) (h : z < s.size) (hb : s.size ≤ 1000) : (s.extract (IntKind.i64.wrap ((z : Int) + 1)).toNat (s.size : Int).toNat).data.toList = s.data.toList.drop (z + 1) := by
  rw [wrapI _ ⟨by omega, by omega⟩, show ((z : Int) + 1).toNat = z + 1 from by omega, Int.toNat_natCast]
  rw [ByteArray.data_extract, Array.toList_extract, List.extract_eq_take_drop, List.take_of_length_le]
  rw [List.length_drop, Array.length_toList]; exact Nat.le_refl _
theorem fail0 {l : List UInt8} (h : okQ l = false) : Sub (.tup [.agg [.f (.zn 0), .f (.zd 0 3), .f (.zn 1), .f (.zd 1 3)], .f (.v (.bool false))]) (.tup [.agg [.f (.zn (parQ l).num), .f (.zd (parQ l).num 1010), .f (.zn (parQ l).den), .f (.zd (parQ l).den 1010)], .f (.v (.bool (okQ l)))]) := by
  have e : parQ l = 0 := by unfold parQ; rw [h]
  rw [e, h]
  exact sub_tup2 (.zd rfl (by omega) (.zd rfl (by omega) .nil))
section
variable {E : World → Hp → Prop} (hU : Up E)
include hU
theorem cOneR : Contract Tryz.prog E 90 sOne := by
  refine contract_loopsG [(56, sOf)] Tryz.ntmps90 Tryz.func90 (by kernel_rfl) (by kernel_rfl) hU ⟨cOfR, trivial⟩ ?_
  intro xs p r hs hp
  unfold sOne at hs
  split at hs
  · cases hs
    refine ⟨[], [], .nil, rfl, fun hgx hg => ?_⟩
    refine cast_rfl (p := ((-9223372036854775808 : Int) ≤ (1 : Int) ∧ (1 : Int) ≤ (9223372036854775807 : Int)) ∧ ∀ (z1 : Int), z1 = (1 : Int) → true = true ∧ Sub (PV.agg [PV.f (Lf.zn z1), PV.f (Lf.zd z1 3)]) (PV.agg [PV.f (Lf.zn (1 : Int)), PV.f (Lf.zd (1 : Int) 3)])) (by kernel_rfl) ?_
    refine ⟨?s0, fun z1 => fun hz1 => ⟨rfl, ?m0⟩⟩
    case s0 => decide
    case m0 => subst hz1; exact .refl _
  · cases hs
theorem cZeroR : Contract Tryz.prog E 87 sZero := by
  refine contract_loopsG [(56, sOf)] Tryz.ntmps87 Tryz.func87 (by kernel_rfl) (by kernel_rfl) hU ⟨cOfR, trivial⟩ ?_
  intro xs p r hs hp
  unfold sZero at hs
  split at hs
  · cases hs
    refine ⟨[], [], .nil, rfl, fun hgx hg => ?_⟩
    refine cast_rfl (p := ((-9223372036854775808 : Int) ≤ (0 : Int) ∧ (0 : Int) ≤ (9223372036854775807 : Int)) ∧ ∀ (z1 : Int), z1 = (0 : Int) → true = true ∧ Sub (PV.agg [PV.f (Lf.zn z1), PV.f (Lf.zd z1 3)]) (PV.agg [PV.f (Lf.zn (0 : Int)), PV.f (Lf.zd (0 : Int) 3)])) (by kernel_rfl) ?_
    refine ⟨?s0, fun z1 => fun hz1 => ⟨rfl, ?m0⟩⟩
    case s0 => decide
    case m0 => subst hz1; exact .refl _
  · cases hs
theorem cNoughtR : Contract Tryz.prog E 75 sNought := by
  refine contract_loopsG [(90, sOne), (87, sZero)] Tryz.ntmps75 Tryz.func75 (by kernel_rfl) (by kernel_rfl) hU ⟨cOneR hU, cZeroR hU, trivial⟩ ?_
  intro xs p r hs hp
  unfold sNought at hs
  split at hs
  · cases hs
    refine ⟨[], [], .nil, rfl, fun hgx hg => ?_⟩
    refine cast_rfl (p := true = true ∧ Sub (PV.agg [PV.f (Lf.zn (0 : Int)), PV.f (Lf.zd (0 : Int) 3), PV.f (Lf.zn (1 : Int)), PV.f (Lf.zd (1 : Int) 3)]) (PV.agg [PV.f (Lf.zn (0 : Int)), PV.f (Lf.zd (0 : Int) 3), PV.f (Lf.zn (1 : Int)), PV.f (Lf.zd (1 : Int) 3)])) (by kernel_rfl) ?_
    refine ⟨rfl, ?m0⟩
    case m0 => exact .refl _
  · cases hs
theorem cRightR : Contract Tryz.prog E 39 sRightR := by
  refine contract_loopsG [(85, sRight), (87, sZero), (18, sGcdR), (90, sOne), (86, sCmp)] Tryz.ntmps39 Tryz.func39 (by kernel_rfl) (by kernel_rfl) hU ⟨cRightZ hU, cZeroR hU, cGcdZ hU, cOneR hU, cCmpZ hU, trivial⟩ ?_
  intro xs p r hs hp
  unfold sRightR at hs
  split at hs
  · rename_i x
    split at hs
    · rename_i n l k j n' l' k' j' hx
      cases hs
      obtain ⟨hk, hk'⟩ := hp _ rfl
      refine ⟨[rawQ n l k n' l' k'], [], .cons (sub_rawQ hx) .nil, rfl, fun hgx hg => ?_⟩
      refine cast_rfl (p := k ≤ 1000000 ∧ ifB (rightZ n l) (k' ≤ 1000000 ∧ ifB (rightZ n' l') (k' + 3 ≤ 90000 ∧ ifB (decide (cmpI (zV n' l') (zV (zNeg (0 : Int)) (digs 1000000000 (Int.natAbs (0 : Int)))) > (0 : Int))) (k + 2 + (k' + 2 + 0) ≤ 20000 ∧ ∀ (z1 : Int), z1 = gcd2 (gcd2 (0 : Int) (zV n l)) (zV n' l') → 0 + (k + 1) + 1 + (k' + 1) + 1 + 3 ≤ 90000 ∧ true = true ∧ Sub (PV.f (Lf.v (Value.bool (cmpI (zV (zNeg z1) (digs 1000000000 z1.natAbs)) (zV (zNeg (1 : Int)) (digs 1000000000 (Int.natAbs (1 : Int)))) == (0 : Int))))) (PV.f (Lf.v (Value.bool (rightQ n l n' l'))))) (true = true ∧ Sub (PV.f (Lf.v (Value.bool false))) (PV.f (Lf.v (Value.bool (rightQ n l n' l')))))) (true = true ∧ Sub (PV.f (Lf.v (Value.bool false))) (PV.f (Lf.v (Value.bool (rightQ n l n' l')))))) (true = true ∧ Sub (PV.f (Lf.v (Value.bool false))) (PV.f (Lf.v (Value.bool (rightQ n l n' l')))))) (by kernel_rfl) ?_
      refine ⟨?s0, ifB_iff.2 ⟨fun hb0 => ⟨?s1, ifB_iff.2 ⟨fun hb1 => ⟨?s2, ifB_iff.2 ⟨fun hb2 => ⟨?s3, fun z1 => fun hz1 => ⟨?s4, ⟨rfl, ?m0⟩⟩⟩, fun hb2 => ⟨rfl, ?m1⟩⟩⟩, fun hb1 => ⟨rfl, ?m2⟩⟩⟩, fun hb0 => ⟨rfl, ?m3⟩⟩⟩
      all_goals (try simp only [zV_digs, gcd2_two] at *)
      all_goals first | omega | skip
      all_goals refine sub_bool ?_
      all_goals unfold rightQ
      case m0 => rw [cmpI_eq0, hb0, hb1, ← hz1, decide_eq_true (cmpI_pos hb2)]; rfl
      case m1 => rw [hb0, hb1, decide_eq_false (fun h => cmpI_npos hb2 h)]; rfl
      case m2 => rw [hb0, hb1]; rfl
      case m3 => rw [hb0]; rfl
    · cases hs
  · cases hs
theorem cTakeR : Contract Tryz.prog E 82 sTakeR := by
  refine contract_loopsG [(39, sRightR), (75, sNought)] Tryz.ntmps82 Tryz.func82 (by kernel_rfl) (by kernel_rfl) hU ⟨cRightR hU, cNoughtR hU, trivial⟩ ?_
  intro xs p r hs hp
  unfold sTakeR at hs
  split at hs
  · rename_i x
    split at hs
    · rename_i n l k j n' l' k' j' hx
      cases hs
      obtain ⟨hk, hk'⟩ := hp _ rfl
      refine ⟨[rawQ n l k n' l' k'], [], .cons (sub_rawQ hx) .nil, rfl, fun hgx hg => ?_⟩
      refine cast_rfl (p := (k ≤ 9000 ∧ k' ≤ 9000) ∧ ifB (rightQ n l n' l') (true = true ∧ Sub (PV.agg [PV.f (Lf.v (Value.bool n)), PV.f (Lf.lr l k), PV.f (Lf.v (Value.bool n')), PV.f (Lf.lr l' k')]) (PV.agg [PV.f (Lf.zn (takeQ n l n' l').num), PV.f (Lf.zd (takeQ n l n' l').num (k + 3)), PV.f (Lf.zn (↑(takeQ n l n' l').den : Int)), PV.f (Lf.zd (↑(takeQ n l n' l').den : Int) (k' + 3))])) (true = true ∧ Sub (PV.agg [PV.f (Lf.zn (0 : Int)), PV.f (Lf.zd (0 : Int) 3), PV.f (Lf.zn (1 : Int)), PV.f (Lf.zd (1 : Int) 3)]) (PV.agg [PV.f (Lf.zn (takeQ n l n' l').num), PV.f (Lf.zd (takeQ n l n' l').num (k + 3)), PV.f (Lf.zn (↑(takeQ n l n' l').den : Int)), PV.f (Lf.zd (↑(takeQ n l n' l').den : Int) (k' + 3))]))) (by kernel_rfl) ?_
      refine ⟨?s0, ifB_iff.2 ⟨fun hb0 => ⟨rfl, ?m0⟩, fun hb0 => ⟨rfl, ?m1⟩⟩⟩
      case s0 => exact ⟨hk, hk'⟩
      case m0 => exact raw_take hb0
      case m1 =>
        rw [takeQ_no hb0]
        exact Subl.agg (.zd rfl (by omega) (.zd rfl (by omega) .nil))
    · cases hs
  · cases hs
theorem cWholeR : Contract Tryz.prog E 43 sWhole := by
  refine contract_loopsG [(85, sRight), (75, sNought), (90, sOne)] Tryz.ntmps43 Tryz.func43 (by kernel_rfl) (by kernel_rfl) hU ⟨cRightZ hU, cNoughtR hU, cOneR hU, trivial⟩ ?_
  intro xs p r hs hp
  unfold sWhole at hs
  split at hs
  · rename_i x
    split at hs
    · rename_i n l k j hx
      cases hs
      have hk := hp _ rfl
      refine ⟨[rawP n l k], [], .cons (sub_raw hx) .nil, rfl, fun hgx hg => ?_⟩
      refine cast_rfl (p := k ≤ 1000000 ∧ ifB (!rightZ n l) (true = true ∧ Sub (PV.agg [PV.f (Lf.zn (0 : Int)), PV.f (Lf.zd (0 : Int) 3), PV.f (Lf.zn (1 : Int)), PV.f (Lf.zd (1 : Int) 3)]) (PV.agg [PV.f (Lf.zn (match rightZ n l with | true => (↑(zV n l) : Rat) | false => (0 : Rat)).num), PV.f (Lf.zd (match rightZ n l with | true => (↑(zV n l) : Rat) | false => (0 : Rat)).num (k + 3)), PV.f (Lf.zn (↑(match rightZ n l with | true => (↑(zV n l) : Rat) | false => (0 : Rat)).den : Int)), PV.f (Lf.zd (↑(match rightZ n l with | true => (↑(zV n l) : Rat) | false => (0 : Rat)).den : Int) 6)])) (true = true ∧ Sub (PV.agg [PV.f (Lf.v (Value.bool n)), PV.f (Lf.lr l k), PV.f (Lf.zn (1 : Int)), PV.f (Lf.zd (1 : Int) 3)]) (PV.agg [PV.f (Lf.zn (match rightZ n l with | true => (↑(zV n l) : Rat) | false => (0 : Rat)).num), PV.f (Lf.zd (match rightZ n l with | true => (↑(zV n l) : Rat) | false => (0 : Rat)).num (k + 3)), PV.f (Lf.zn (↑(match rightZ n l with | true => (↑(zV n l) : Rat) | false => (0 : Rat)).den : Int)), PV.f (Lf.zd (↑(match rightZ n l with | true => (↑(zV n l) : Rat) | false => (0 : Rat)).den : Int) 6)]))) (by kernel_rfl) ?_
      refine ⟨?s0, ifB_iff.2 ⟨fun hb0 => ⟨rfl, ?m0⟩, fun hb0 => ⟨rfl, ?m1⟩⟩⟩
      case s0 => omega
      case m0 =>
        rw [Bool.not_eq_true'] at hb0
        rw [hb0]
        exact Subl.agg (.zd rfl (by omega) (.zd rfl (by omega) .nil))
      case m1 =>
        rw [Bool.not_eq_false'] at hb0
        have := raw_whole (k := k) hb0
        rw [hb0]
        exact this
    · cases hs
  · cases hs
theorem cTextR : Contract Tryz.prog E 44 sTextQ := by
  refine contract_loopsG [(82, sTakeR), (90, sOne), (86, sCmp), (93, sText)] Tryz.ntmps44 Tryz.func44 (by kernel_rfl) (by kernel_rfl) hU ⟨cTakeR hU, cOneR hU, cCmpZ hU, cTextZ hU, trivial⟩ ?_
  intro xs p r hs hp
  unfold sTextQ at hs
  split at hs
  · rename_i x
    split at hs
    · rename_i n l k j n' l' k' j' hx
      cases hs
      obtain ⟨hk, hk', ht, ht'⟩ := hp _ rfl
      refine ⟨[rawQ n l k n' l' k'], [], .cons (sub_rawQ hx) .nil, rfl, fun hgx hg => ?_⟩
      refine cast_rfl (p := (k ≤ 9000 ∧ k' ≤ 9000) ∧ ∀ (z1 : Rat), z1 = takeQ n l n' l' → k + 3 ≤ 90000 ∧ k' + 3 + 3 ≤ 90000 ∧ ifB (cmpI (zV (zNeg (↑z1.den : Int)) (digs 1000000000 (↑z1.den : Int).natAbs)) (zV (zNeg (1 : Int)) (digs 1000000000 (Int.natAbs (1 : Int)))) == (0 : Int)) (true = true ∧ Sub (PV.f (Lf.v (Value.string (ByteArray.mk (zText (zV (zNeg z1.num) (digs 1000000000 z1.num.natAbs))).toArray)))) (PV.f (Lf.v (Value.string (ByteArray.mk (textQ (takeQ n l n' l')).toArray))))) ((↑((ByteArray.mk (zText (zV (zNeg z1.num) (digs 1000000000 z1.num.natAbs))).toArray).size + 1) : Int) ≤ IntKind.i64.max ∧ k' + 3 ≤ 90000 ∧ (↑((ByteArray.mk (zText (zV (zNeg z1.num) (digs 1000000000 z1.num.natAbs))).toArray ++ ByteArray.mk #[(47 : UInt8)]).size + (ByteArray.mk (zText (zV (zNeg (↑z1.den : Int)) (digs 1000000000 (↑z1.den : Int).natAbs))).toArray).size) : Int) ≤ IntKind.i64.max ∧ true = true ∧ Sub (PV.f (Lf.v (Value.string (ByteArray.mk (zText (zV (zNeg z1.num) (digs 1000000000 z1.num.natAbs))).toArray ++ ByteArray.mk #[(47 : UInt8)] ++ ByteArray.mk (zText (zV (zNeg (↑z1.den : Int)) (digs 1000000000 (↑z1.den : Int).natAbs))).toArray)))) (PV.f (Lf.v (Value.string (ByteArray.mk (textQ (takeQ n l n' l')).toArray)))))) (by kernel_rfl) ?_
      refine ⟨?s0, fun z1 => fun hz1 => ⟨?s1, ⟨?s2, ifB_iff.2 ⟨fun hb0 => ⟨rfl, ?m0⟩, fun hb0 => ⟨?s3, ⟨?s4, ⟨?s5, ⟨rfl, ?m1⟩⟩⟩⟩⟩⟩⟩⟩
      all_goals (try simp only [zV_digs, cmpI_eq0, decide_eq_true_eq, decide_eq_false_iff_not] at *)
      case s0 => omega
      case s1 => omega
      case s2 => omega
      case s4 => omega
      case s3 => subst hz1; have : IntKind.i64.max = 9223372036854775807 := by decide
                 rw [this]; simp only [ByteArray.size, Array.size]; simp; omega
      case s5 => subst hz1; have : IntKind.i64.max = 9223372036854775807 := by decide
                 rw [this]; simp only [ByteArray.size_append]; simp only [ByteArray.size, Array.size]; simp; omega
      case m0 =>
        subst hz1
        unfold textQ
        rw [if_pos hb0]
        exact .refl _
      case m1 =>
        subst hz1
        unfold textQ
        rw [if_neg hb0]
        have e : ∀ A B : List UInt8, (⟨A.toArray⟩ ++ ⟨#[47]⟩ ++ ⟨B.toArray⟩ : ByteArray) = ⟨(A ++ 47 :: B).toArray⟩ := by
          intro A B
          apply ByteArray.ext
          simp [ByteArray.data_append]
        rw [e]
        exact .refl _
    · cases hs
  · cases hs
set_option maxHeartbeats 4000000 in
theorem cParseR : Contract Tryz.prog E 22 sParseQ := by
  refine contract_loopsG [(74, sParse), (75, sNought), (43, sWhole), (39, sRightR), (44, sTextQ)] Tryz.ntmps22 Tryz.func22 (by kernel_rfl) (by kernel_rfl) hU ⟨cParseZ, cNoughtR hU, cWholeR hU, cRightR hU, cTextR hU, trivial⟩ ?_
  intro xs p r hs hp
  unfold sParseQ at hs
  split at hs
  · rename_i s
    cases hs
    have hb := hp _ rfl
    refine ⟨[.f (.v (.string s))], [(2, .s ⟨Nat, fun i => ⟨[(0, .f (.v (.string s))), (2, .bp 0 0), (3, .f (.v (.bool false))), (4, .f (.v (.int .i64 (i : Nat))))], [.cells [.f (.v (.bool false)), .f (.v (.slice none 0 0)), .f (.v (.bool false)), .f (.v (.slice none 0 0))]]⟩, fun i => i ≤ s.size ∧ (∀ j, j < i → s.data.toList[j]? ≠ some 47), fun i => s.size - i⟩)], .cons (.refl _) .nil, rfl, fun hgx hg => ?_⟩
    refine cast_rfl (p := ∃ (x1 : Nat), (((SubB (PV.f (Lf.v (Value.bool false))) (PV.f (Lf.v (Value.bool false))) ∧ SubB (PV.f (Lf.v (Value.slice none 0 0))) (PV.f (Lf.v (Value.slice none 0 0))) ∧ SubB (PV.f (Lf.v (Value.bool false))) (PV.f (Lf.v (Value.bool false))) ∧ SubB (PV.f (Lf.v (Value.slice none 0 0))) (PV.f (Lf.v (Value.slice none 0 0))) ∧ True) ∧ True) ∧ SubB (PV.f (Lf.v (Value.string s))) (PV.f (Lf.v (Value.string s))) ∧ SubB (PV.bp 0 0) (PV.bp 0 0) ∧ SubB (PV.f (Lf.v (Value.bool false))) (PV.f (Lf.v (Value.bool false))) ∧ SubB (PV.f (Lf.v (Value.int IntKind.i64 (0 : Int)))) (PV.f (Lf.v (Value.int IntKind.i64 (↑x1 : Int)))) ∧ True) ∧ (x1 ≤ s.size ∧ ∀ (j : Nat), j < x1 → s.data.toList[j]? ≠ some (47 : UInt8)) ∧ True ∧ ∀ (z2 : Nat), (z2 ≤ s.size ∧ ∀ (j : Nat), j < z2 → s.data.toList[j]? ≠ some (47 : UInt8)) → True → ifB (decide ((↑z2 : Int) < (↑s.size : Int))) (((0 : Int) ≤ (↑z2 : Int) ∧ (↑z2 : Int) < (↑s.size : Int)) ∧ ifB ((↑(s.data.toList.getD (↑z2 : Int).toNat (0 : UInt8)).toNat : Int) != (47 : Int)) (∃ (x3 : Nat), (((SubB (PV.f (Lf.v (Value.bool false))) (PV.f (Lf.v (Value.bool false))) ∧ SubB (PV.f (Lf.v (Value.slice none 0 0))) (PV.f (Lf.v (Value.slice none 0 0))) ∧ SubB (PV.f (Lf.v (Value.bool false))) (PV.f (Lf.v (Value.bool false))) ∧ SubB (PV.f (Lf.v (Value.slice none 0 0))) (PV.f (Lf.v (Value.slice none 0 0))) ∧ True) ∧ True) ∧ SubB (PV.f (Lf.v (Value.string s))) (PV.f (Lf.v (Value.string s))) ∧ SubB (PV.bp 0 0) (PV.bp 0 0) ∧ SubB (PV.f (Lf.v (Value.bool false))) (PV.f (Lf.v (Value.bool false))) ∧ SubB (PV.f (Lf.v (Value.int IntKind.i64 (IntKind.i64.wrap ((↑z2 : Int) + (1 : Int)))))) (PV.f (Lf.v (Value.int IntKind.i64 (↑x3 : Int)))) ∧ True) ∧ (x3 ≤ s.size ∧ ∀ (j : Nat), j < x3 → s.data.toList[j]? ≠ some (47 : UInt8)) ∧ True ∧ (s.size - x3).succ.le (s.size - z2)) (((0 : Int) ≤ (0 : Int) ∧ (0 : Int) ≤ (↑z2 : Int) ∧ (↑z2 : Int) ≤ (↑s.size : Int)) ∧ (s.extract (Int.toNat (0 : Int)) (↑z2 : Int).toNat).size ≤ 1000 ∧ ∀ (z3 : Int), z3 = parZ (s.extract (Int.toNat (0 : Int)) (↑z2 : Int).toNat).data.toList → ifB (!okZ (s.extract (Int.toNat (0 : Int)) (↑z2 : Int).toNat).data.toList) (true = true ∧ Sub (PV.tup [PV.agg [PV.f (Lf.zn (0 : Int)), PV.f (Lf.zd (0 : Int) 3), PV.f (Lf.zn (1 : Int)), PV.f (Lf.zd (1 : Int) 3)], PV.f (Lf.v (Value.bool false))]) (PV.tup [PV.agg [PV.f (Lf.zn (parQ s.data.toList).num), PV.f (Lf.zd (parQ s.data.toList).num 1010), PV.f (Lf.zn (↑(parQ s.data.toList).den : Int)), PV.f (Lf.zd (↑(parQ s.data.toList).den : Int) 1010)], PV.f (Lf.v (Value.bool (okQ s.data.toList)))])) (ifB ((↑z2 : Int) == (↑s.size : Int)) (1000 ≤ 1900 ∧ ∀ (z4 : Rat), (z4 = match rightZ (zNeg z3) (digs 1000000000 z3.natAbs) with | true => (↑(zV (zNeg z3) (digs 1000000000 z3.natAbs)) : Rat) | false => (0 : Rat)) → true = true ∧ Sub (PV.tup [PV.agg [PV.f (Lf.zn z4.num), PV.f (Lf.zd z4.num 1003), PV.f (Lf.zn (↑z4.den : Int)), PV.f (Lf.zd (↑z4.den : Int) 6)], PV.f (Lf.v (Value.bool true))]) (PV.tup [PV.agg [PV.f (Lf.zn (parQ s.data.toList).num), PV.f (Lf.zd (parQ s.data.toList).num 1010), PV.f (Lf.zn (↑(parQ s.data.toList).den : Int)), PV.f (Lf.zd (↑(parQ s.data.toList).den : Int) 1010)], PV.f (Lf.v (Value.bool (okQ s.data.toList)))])) (((0 : Int) ≤ IntKind.i64.wrap ((↑z2 : Int) + (1 : Int)) ∧ IntKind.i64.wrap ((↑z2 : Int) + (1 : Int)) ≤ (↑s.size : Int) ∧ (↑s.size : Int) ≤ (↑s.size : Int)) ∧ (s.extract (IntKind.i64.wrap ((↑z2 : Int) + (1 : Int))).toNat (↑s.size : Int).toNat).size ≤ 1000 ∧ ∀ (z4 : Int), z4 = parZ (s.extract (IntKind.i64.wrap ((↑z2 : Int) + (1 : Int))).toNat (↑s.size : Int).toNat).data.toList → ifB (!okZ (s.extract (IntKind.i64.wrap ((↑z2 : Int) + (1 : Int))).toNat (↑s.size : Int).toNat).data.toList) (true = true ∧ Sub (PV.tup [PV.agg [PV.f (Lf.zn (0 : Int)), PV.f (Lf.zd (0 : Int) 3), PV.f (Lf.zn (1 : Int)), PV.f (Lf.zd (1 : Int) 3)], PV.f (Lf.v (Value.bool false))]) (PV.tup [PV.agg [PV.f (Lf.zn (parQ s.data.toList).num), PV.f (Lf.zd (parQ s.data.toList).num 1010), PV.f (Lf.zn (↑(parQ s.data.toList).den : Int)), PV.f (Lf.zd (↑(parQ s.data.toList).den : Int) 1010)], PV.f (Lf.v (Value.bool (okQ s.data.toList)))])) ((1000 ≤ 9000 ∧ 1000 ≤ 9000) ∧ ifB (!rightQ (zNeg z3) (digs 1000000000 z3.natAbs) (zNeg z4) (digs 1000000000 z4.natAbs)) (true = true ∧ Sub (PV.tup [PV.agg [PV.f (Lf.zn (0 : Int)), PV.f (Lf.zd (0 : Int) 3), PV.f (Lf.zn (1 : Int)), PV.f (Lf.zd (1 : Int) 3)], PV.f (Lf.v (Value.bool false))]) (PV.tup [PV.agg [PV.f (Lf.zn (parQ s.data.toList).num), PV.f (Lf.zd (parQ s.data.toList).num 1010), PV.f (Lf.zn (↑(parQ s.data.toList).den : Int)), PV.f (Lf.zd (↑(parQ s.data.toList).den : Int) 1010)], PV.f (Lf.v (Value.bool (okQ s.data.toList)))])) ((1000 ≤ 1900 ∧ 1000 ≤ 1900 ∧ (zText (takeQ (zNeg z3) (digs 1000000000 z3.natAbs) (zNeg z4) (digs 1000000000 z4.natAbs)).num).length ≤ 1000000 ∧ (zText (↑(takeQ (zNeg z3) (digs 1000000000 z3.natAbs) (zNeg z4) (digs 1000000000 z4.natAbs)).den : Int)).length ≤ 1000000) ∧ ifB (!(ByteArray.mk (textQ (takeQ (zNeg z3) (digs 1000000000 z3.natAbs) (zNeg z4) (digs 1000000000 z4.natAbs))).toArray).toList == s.toList) (true = true ∧ Sub (PV.tup [PV.agg [PV.f (Lf.zn (0 : Int)), PV.f (Lf.zd (0 : Int) 3), PV.f (Lf.zn (1 : Int)), PV.f (Lf.zd (1 : Int) 3)], PV.f (Lf.v (Value.bool false))]) (PV.tup [PV.agg [PV.f (Lf.zn (parQ s.data.toList).num), PV.f (Lf.zd (parQ s.data.toList).num 1010), PV.f (Lf.zn (↑(parQ s.data.toList).den : Int)), PV.f (Lf.zd (↑(parQ s.data.toList).den : Int) 1010)], PV.f (Lf.v (Value.bool (okQ s.data.toList)))])) (true = true ∧ Sub (PV.tup [PV.agg [PV.f (Lf.zn z3), PV.f (Lf.zd z3 1000), PV.f (Lf.zn z4), PV.f (Lf.zd z4 1000)], PV.f (Lf.v (Value.bool true))]) (PV.tup [PV.agg [PV.f (Lf.zn (parQ s.data.toList).num), PV.f (Lf.zd (parQ s.data.toList).num 1010), PV.f (Lf.zn (↑(parQ s.data.toList).den : Int)), PV.f (Lf.zd (↑(parQ s.data.toList).den : Int) 1010)], PV.f (Lf.v (Value.bool (okQ s.data.toList)))])))))))) (((0 : Int) ≤ (0 : Int) ∧ (0 : Int) ≤ (↑z2 : Int) ∧ (↑z2 : Int) ≤ (↑s.size : Int)) ∧ (s.extract (Int.toNat (0 : Int)) (↑z2 : Int).toNat).size ≤ 1000 ∧ ∀ (z3 : Int), z3 = parZ (s.extract (Int.toNat (0 : Int)) (↑z2 : Int).toNat).data.toList → ifB (!okZ (s.extract (Int.toNat (0 : Int)) (↑z2 : Int).toNat).data.toList) (true = true ∧ Sub (PV.tup [PV.agg [PV.f (Lf.zn (0 : Int)), PV.f (Lf.zd (0 : Int) 3), PV.f (Lf.zn (1 : Int)), PV.f (Lf.zd (1 : Int) 3)], PV.f (Lf.v (Value.bool false))]) (PV.tup [PV.agg [PV.f (Lf.zn (parQ s.data.toList).num), PV.f (Lf.zd (parQ s.data.toList).num 1010), PV.f (Lf.zn (↑(parQ s.data.toList).den : Int)), PV.f (Lf.zd (↑(parQ s.data.toList).den : Int) 1010)], PV.f (Lf.v (Value.bool (okQ s.data.toList)))])) (ifB ((↑z2 : Int) == (↑s.size : Int)) (1000 ≤ 1900 ∧ ∀ (z4 : Rat), (z4 = match rightZ (zNeg z3) (digs 1000000000 z3.natAbs) with | true => (↑(zV (zNeg z3) (digs 1000000000 z3.natAbs)) : Rat) | false => (0 : Rat)) → true = true ∧ Sub (PV.tup [PV.agg [PV.f (Lf.zn z4.num), PV.f (Lf.zd z4.num 1003), PV.f (Lf.zn (↑z4.den : Int)), PV.f (Lf.zd (↑z4.den : Int) 6)], PV.f (Lf.v (Value.bool true))]) (PV.tup [PV.agg [PV.f (Lf.zn (parQ s.data.toList).num), PV.f (Lf.zd (parQ s.data.toList).num 1010), PV.f (Lf.zn (↑(parQ s.data.toList).den : Int)), PV.f (Lf.zd (↑(parQ s.data.toList).den : Int) 1010)], PV.f (Lf.v (Value.bool (okQ s.data.toList)))])) (((0 : Int) ≤ IntKind.i64.wrap ((↑z2 : Int) + (1 : Int)) ∧ IntKind.i64.wrap ((↑z2 : Int) + (1 : Int)) ≤ (↑s.size : Int) ∧ (↑s.size : Int) ≤ (↑s.size : Int)) ∧ (s.extract (IntKind.i64.wrap ((↑z2 : Int) + (1 : Int))).toNat (↑s.size : Int).toNat).size ≤ 1000 ∧ ∀ (z4 : Int), z4 = parZ (s.extract (IntKind.i64.wrap ((↑z2 : Int) + (1 : Int))).toNat (↑s.size : Int).toNat).data.toList → ifB (!okZ (s.extract (IntKind.i64.wrap ((↑z2 : Int) + (1 : Int))).toNat (↑s.size : Int).toNat).data.toList) (true = true ∧ Sub (PV.tup [PV.agg [PV.f (Lf.zn (0 : Int)), PV.f (Lf.zd (0 : Int) 3), PV.f (Lf.zn (1 : Int)), PV.f (Lf.zd (1 : Int) 3)], PV.f (Lf.v (Value.bool false))]) (PV.tup [PV.agg [PV.f (Lf.zn (parQ s.data.toList).num), PV.f (Lf.zd (parQ s.data.toList).num 1010), PV.f (Lf.zn (↑(parQ s.data.toList).den : Int)), PV.f (Lf.zd (↑(parQ s.data.toList).den : Int) 1010)], PV.f (Lf.v (Value.bool (okQ s.data.toList)))])) ((1000 ≤ 9000 ∧ 1000 ≤ 9000) ∧ ifB (!rightQ (zNeg z3) (digs 1000000000 z3.natAbs) (zNeg z4) (digs 1000000000 z4.natAbs)) (true = true ∧ Sub (PV.tup [PV.agg [PV.f (Lf.zn (0 : Int)), PV.f (Lf.zd (0 : Int) 3), PV.f (Lf.zn (1 : Int)), PV.f (Lf.zd (1 : Int) 3)], PV.f (Lf.v (Value.bool false))]) (PV.tup [PV.agg [PV.f (Lf.zn (parQ s.data.toList).num), PV.f (Lf.zd (parQ s.data.toList).num 1010), PV.f (Lf.zn (↑(parQ s.data.toList).den : Int)), PV.f (Lf.zd (↑(parQ s.data.toList).den : Int) 1010)], PV.f (Lf.v (Value.bool (okQ s.data.toList)))])) ((1000 ≤ 1900 ∧ 1000 ≤ 1900 ∧ (zText (takeQ (zNeg z3) (digs 1000000000 z3.natAbs) (zNeg z4) (digs 1000000000 z4.natAbs)).num).length ≤ 1000000 ∧ (zText (↑(takeQ (zNeg z3) (digs 1000000000 z3.natAbs) (zNeg z4) (digs 1000000000 z4.natAbs)).den : Int)).length ≤ 1000000) ∧ ifB (!(ByteArray.mk (textQ (takeQ (zNeg z3) (digs 1000000000 z3.natAbs) (zNeg z4) (digs 1000000000 z4.natAbs))).toArray).toList == s.toList) (true = true ∧ Sub (PV.tup [PV.agg [PV.f (Lf.zn (0 : Int)), PV.f (Lf.zd (0 : Int) 3), PV.f (Lf.zn (1 : Int)), PV.f (Lf.zd (1 : Int) 3)], PV.f (Lf.v (Value.bool false))]) (PV.tup [PV.agg [PV.f (Lf.zn (parQ s.data.toList).num), PV.f (Lf.zd (parQ s.data.toList).num 1010), PV.f (Lf.zn (↑(parQ s.data.toList).den : Int)), PV.f (Lf.zd (↑(parQ s.data.toList).den : Int) 1010)], PV.f (Lf.v (Value.bool (okQ s.data.toList)))])) (true = true ∧ Sub (PV.tup [PV.agg [PV.f (Lf.zn z3), PV.f (Lf.zd z3 1000), PV.f (Lf.zn z4), PV.f (Lf.zd z4 1000)], PV.f (Lf.v (Value.bool true))]) (PV.tup [PV.agg [PV.f (Lf.zn (parQ s.data.toList).num), PV.f (Lf.zd (parQ s.data.toList).num 1010), PV.f (Lf.zn (↑(parQ s.data.toList).den : Int)), PV.f (Lf.zd (↑(parQ s.data.toList).den : Int) 1010)], PV.f (Lf.v (Value.bool (okQ s.data.toList)))])))))))) (by kernel_rfl) ?_
    refine ⟨?x0, ⟨⟨⟨⟨.refl _, ⟨.refl _, ⟨.refl _, ⟨.refl _, trivial⟩⟩⟩⟩, trivial⟩, ⟨.refl _, ⟨.refl _, ⟨.refl _, ⟨?m0, trivial⟩⟩⟩⟩⟩, ⟨?s0, ⟨trivial, fun z2 => fun hq0 => fun _ => ifB_iff.2 ⟨fun hb1 => ⟨?s1, ifB_iff.2 ⟨fun hb2 => ⟨?x1, ⟨⟨⟨⟨.refl _, ⟨.refl _, ⟨.refl _, ⟨.refl _, trivial⟩⟩⟩⟩, trivial⟩, ⟨.refl _, ⟨.refl _, ⟨.refl _, ⟨?m1, trivial⟩⟩⟩⟩⟩, ⟨?s2, ⟨trivial, ?m2⟩⟩⟩⟩, fun hb2 => ⟨?s3, ⟨?s4, fun z3 => fun hz3 => ifB_iff.2 ⟨fun hb3 => ⟨rfl, ?m3⟩, fun hb3 => ifB_iff.2 ⟨fun hb4 => ⟨?s5, fun z4 => fun hz4 => ⟨rfl, ?m4⟩⟩, fun hb4 => ⟨?s6, ⟨?s7, fun z4 => fun hz4 => ifB_iff.2 ⟨fun hb5 => ⟨rfl, ?m5⟩, fun hb5 => ⟨?s8, ifB_iff.2 ⟨fun hb6 => ⟨rfl, ?m6⟩, fun hb6 => ⟨?s9, ifB_iff.2 ⟨fun hb7 => ⟨rfl, ?m7⟩, fun hb7 => ⟨rfl, ?m8⟩⟩⟩⟩⟩⟩⟩⟩⟩⟩⟩⟩⟩⟩, fun hb1 => ⟨?s10, ⟨?s11, fun z3 => fun hz3 => ifB_iff.2 ⟨fun hb8 => ⟨rfl, ?m9⟩, fun hb8 => ifB_iff.2 ⟨fun hb9 => ⟨?s12, fun z4 => fun hz4 => ⟨rfl, ?m10⟩⟩, fun hb9 => ⟨?s13, ⟨?s14, fun z4 => fun hz4 => ifB_iff.2 ⟨fun hb10 => ⟨rfl, ?m11⟩, fun hb10 => ⟨?s15, ifB_iff.2 ⟨fun hb11 => ⟨rfl, ?m12⟩, fun hb11 => ⟨?s16, ifB_iff.2 ⟨fun hb12 => ⟨rfl, ?m13⟩, fun hb12 => ⟨rfl, ?m14⟩⟩⟩⟩⟩⟩⟩⟩⟩⟩⟩⟩⟩⟩⟩⟩⟩
    case x0 => exact 0
    case x1 => exact z2 + 1
    case m0 => exact subB_int rfl
    case s0 => exact ⟨Nat.zero_le _, fun j h => absurd h (Nat.not_lt_zero _)⟩
    case s10 => exact ⟨by omega, by omega, by omega⟩
    case s3 => exact ⟨by omega, by omega, by omega⟩
    case s4 => rw [ByteArray.size_extract]; omega
    case s11 => rw [ByteArray.size_extract]; omega
    case s5 => omega
    case s12 => omega
    all_goals first | exact ⟨by decide, by decide⟩ | skip
    all_goals (try simp only [Bool.not_eq_true', Bool.not_eq_false', rightQ_int, bseqB, ext_take] at *)
    all_goals obtain ⟨hq, hn⟩ := hq0
    all_goals have hsl : s.data.toList.length = s.size := Array.length_toList
    all_goals try (have hlt : z2 < s.size := by have := of_decide_eq_true hb1; omega)
    all_goals try (have hge : z2 = s.size := by have := of_decide_eq_false hb1; omega)
    case s13 => exact absurd hb9 (by rw [hge]; simp)
    case s14 => exact absurd hb9 (by rw [hge]; simp)
    case s16 => exact absurd hb9 (by rw [hge]; simp)
    case m11 => exact absurd hb9 (by rw [hge]; simp)
    case m12 => exact absurd hb9 (by rw [hge]; simp)
    case m13 => exact absurd hb9 (by rw [hge]; simp)
    case m14 => exact absurd hb9 (by rw [hge]; simp)
    case s1 => exact ⟨by omega, by omega⟩
    case m1 => exact subB_succ (by omega)
    case m2 => show s.size - (z2 + 1) + 1 ≤ s.size - z2; omega
    case s2 =>
      refine ⟨hlt, fun j hj => ?_⟩
      by_cases h : j < z2
      · exact hn j h
      · obtain rfl : j = z2 := by omega
        intro hc
        rw [Int.toNat_natCast, List.getD_eq_getElem?_getD, hc] at hb2
        exact absurd hb2 (by decide)
    case m4 => exact absurd hb4 (by simp; omega)
    case s6 => rw [wrapI _ ⟨by omega, by omega⟩]; exact ⟨by omega, by omega, by omega⟩
    case s7 => rw [ByteArray.size_extract]; omega
    case m9 =>
      rw [hge, ← hsl, List.take_of_length_le (Nat.le_refl _)] at hb8
      have hcut := cut_miss (l := s.data.toList) (fun j hj => hn j (by omega))
      exact fail0 (okQ_no1 (by unfold cutOk; rw [hcut]; dsimp only; rw [hb8]; rfl))
    case m10 =>
      rw [hge, ← hsl, List.take_of_length_le (Nat.le_refl _)] at hb8 hz3
      have hcut := cut_miss (l := s.data.toList) (fun j hj => hn j (by omega))
      have hN : cutN s.data.toList = z3 := by unfold cutN; rw [hcut, hz3]
      have hD : cutD s.data.toList = 1 := by unfold cutD; rw [hcut]
      have hr : Rat.divInt z3 1 = ((z3 : Int) : Rat) := by
        have := Rat.num_divInt_den ((z3 : Int) : Rat)
        rw [Rat.num_intCast, Rat.den_intCast] at this
        exact this
      have hg1 : (decide ((0 : Int) < 1) && decide (gcd2 z3 1 = 1)) = true := by
        unfold gcd2; rw [show (1 : Int).natAbs = 1 from rfl, Nat.gcd_one_right]; rfl
      have hok : okQ s.data.toList = true := okQ_yes (by unfold cutOk; rw [hcut]; dsimp only; rw [hb8]; rfl) (by rw [hN, hD]; exact hg1) (by
        rw [hN, hD, hr]
        unfold textQ
        rw [Rat.den_intCast, Rat.num_intCast, if_pos (by decide), hz3, zText_parZ hb8]
        exact beq_self_eq_true _)
      have hp : parQ s.data.toList = ((z3 : Int) : Rat) := by unfold parQ; rw [hok, hN, hD, hr]
      have hz : z4 = ((z3 : Int) : Rat) := by rw [hz4, rightZ_of, zV_digs]
      rw [hok, hp, hz]
      exact sub_tup2 (.zd rfl (by omega) (.zd rfl (by omega) .nil))
    all_goals have h47 : s.data.toList[z2]? = some 47 := (by
      rw [Int.toNat_natCast, List.getD_eq_getElem?_getD] at hb2
      have hlt' : z2 < s.data.toList.length := by omega
      rw [List.getElem?_eq_getElem hlt'] at hb2 ⊢
      simp only [Option.getD_some, bne_eq_false_iff_eq] at hb2
      congr 1
      exact UInt8.toNat_inj.1 (by have : (47 : UInt8).toNat = 47 := rfl; omega))
    all_goals have hcut := cut_hit h47 hn
    all_goals try (rw [ext_drop s z2 hlt hb] at hb5)
    all_goals try (rw [ext_drop s z2 hlt hb] at hz4)
    all_goals have hN : cutN s.data.toList = parZ (s.data.toList.take z2) := (by unfold cutN; rw [hcut])
    all_goals have hD : cutD s.data.toList = parZ (s.data.toList.drop (z2 + 1)) := (by unfold cutD; rw [hcut])
    all_goals have hO : cutOk s.data.toList = (okZ (s.data.toList.take z2) && okZ (s.data.toList.drop (z2 + 1))) := (by unfold cutOk; rw [hcut])
    case m3 => exact fail0 (okQ_no1 (by rw [hO, hb3]; rfl))
    case m5 => exact fail0 (okQ_no1 (by rw [hO, hb5, Bool.and_false]))
    case m6 => exact fail0 (okQ_no2 (by rw [hN, hD, ← hz3, ← hz4]; exact hb6))
    all_goals obtain ⟨e1, e2, e3⟩ := takeQ_int hb6
    case s9 =>
      have ht1 := zText_len (parZ_zbk (l := s.data.toList.take z2) (k := 1000) (by rw [List.length_take]; omega))
      have ht2 := zText_len (parZ_zbk (l := s.data.toList.drop (z2 + 1)) (k := 1000) (by rw [List.length_drop]; omega))
      rw [e1, e2, e3, hz3, hz4]
      exact ⟨by decide, by decide, by omega, by omega⟩
    case m7 =>
      rw [e1] at hb7
      exact fail0 (okQ_no3 (by rw [hN, hD, ← hz3, ← hz4]; exact hb7))
    case m8 =>
      rw [e1] at hb7
      exact good_sub (okQ_yes (by rw [hO, hb3, hb5]; rfl) (by rw [hN, hD, ← hz3, ← hz4]; exact hb6) (by rw [hN, hD, ← hz3, ← hz4]; exact hb7)) (by rw [hN, hz3]) (by rw [hD, hz4]) (by omega) (by omega)
  · cases hs
end

end Go.Proofs.YtjfncepmpabcnaaGreatDoor

namespace Go.Proofs.YtjfncepmpabcnaaGreatDoor
open Go.RowKit
set_option linter.unusedVariables false
set_option maxRecDepth 100000

theorem sameQ_self (r : Rat) : (((zNeg r.num == zNeg r.num) && eqB (digs 1000000000 r.num.natAbs) (digs 1000000000 r.num.natAbs)) && ((zNeg (r.den : Int) == zNeg (r.den : Int)) && eqB (digs 1000000000 (r.den : Int).natAbs) (digs 1000000000 (r.den : Int).natAbs))) = true := by
  rw [sameZ_eq, sameZ_eq, decide_eq_true rfl, decide_eq_true rfl]; rfl
/-- A law of one text. -/
def sLawS : Spec
  | [.f (.v (.string s))] => some (none, .one (.f (.v (.bool true))))
  | _ => none
theorem cTextsLaw : Contract Tryz.prog EQ 4 sLawS := by
  refine contract_loopsG [(20, sAwake), (21, sParseQ), (22, sParseQ), (23, sSameQ)] Tryz.ntmps4 Tryz.func4 (by kernel_rfl) (by kernel_rfl) EQ.up ⟨cAwake, cParseQ, cParseR EQ.up, cSame3 EQ.up, trivial⟩ ?_
  intro xs p r hs hp
  unfold sLawS at hs
  split at hs
  · rename_i s
    cases hs
    refine ⟨[.f (.v (.string s))], [], .cons (.refl _) .nil, rfl, fun hgx hg => ?_⟩
    refine cast_rfl (p := ifB (decide ((↑s.size : Int) > (100 : Int))) (true = true ∧ Sub (PV.f (Lf.v (Value.bool true))) (PV.f (Lf.v (Value.bool true)))) (s.size ≤ 1000 ∧ ∀ (z1 : Rat), z1 = parQ s.data.toList → ∀ (z2 : Bool), z2 = okQ s.data.toList → s.size ≤ 1000 ∧ ∀ (z3 : Rat), z3 = parQ s.data.toList → ∀ (z4 : Bool), z4 = okQ s.data.toList → ifB (z2 == z4) (4040 ≤ 800000 ∧ true = true ∧ Sub (PV.f (Lf.v (Value.bool (zNeg z1.num == zNeg z3.num && eqB (digs 1000000000 z1.num.natAbs) (digs 1000000000 z3.num.natAbs) && (zNeg (↑z1.den : Int) == zNeg (↑z3.den : Int) && eqB (digs 1000000000 (↑z1.den : Int).natAbs) (digs 1000000000 (↑z3.den : Int).natAbs)))))) (PV.f (Lf.v (Value.bool true)))) (true = true ∧ Sub (PV.f (Lf.v (Value.bool false))) (PV.f (Lf.v (Value.bool true)))))) (by kernel_rfl) ?_
    refine ifB_iff.2 ⟨fun hb0 => ⟨rfl, ?m0⟩, fun hb0 => ⟨?s0, fun z1 => fun hz1 => fun z2 => fun hz2 => ⟨?s1, fun z3 => fun hz3 => fun z4 => fun hz4 => ifB_iff.2 ⟨fun hb1 => ⟨?s2, ⟨rfl, ?m1⟩⟩, fun hb1 => ⟨rfl, ?m2⟩⟩⟩⟩⟩
    case m0 => exact .refl _
    case s0 => have := of_decide_eq_false hb0; omega
    case s1 => have := of_decide_eq_false hb0; omega
    case s2 => omega
    case m1 =>
      subst hz1 hz3
      rw [sameQ_self]
      exact .refl _
    case m2 =>
      subst hz2 hz4
      rw [beq_self_eq_true] at hb1
      cases hb1
  · cases hs

end Go.Proofs.YtjfncepmpabcnaaGreatDoor
