/- The reference of chapter 2 by the pure run. -/
import Derived.Test.YtjfncepmpabcnaaGreatDoorRd
namespace Go.Proofs.YtjfncepmpabcnaaGreatDoor
open Go.RowKit
set_option linter.unusedVariables false
set_option maxRecDepth 100000

theorem vB_digs (n : Nat) : vB (digs 1000000000 n) = n := val_digs _ (by omega) n
theorem zV_vB (neg : Bool) (l : List Nat) : zV neg l = zOf neg (vB l) := rfl
theorem zV_self (z : Int) : zV (zNeg z) (digs 1000000000 z.natAbs) = z := by rw [zV_dig, zOf_self]
def sNormZ : Spec
  | [x] => match pvR x with
    | some ((n, l), k, j) => some (some (k ≤ 1000000), .nm Int (zV n l) fun z => zP z j)
    | none => none
  | _ => none
def sOfB : Spec
  | [.f (.v (.bool neg)), .f x] => match limL x with
    | some (l, k) => some (some (k ≤ 1000000), .nm Int (zV neg l) fun z => zP z (k + 1))
    | none => none
  | _ => none
section
variable {E : World → Hp → Prop}
theorem cNormZ : Contract Tryz.prog E 58 sNormZ := by
  intro xs p r hs hp w H vs hf hE hvs
  unfold sNormZ at hs
  split at hs
  · rename_i x
    split at hs
    · rename_i n l k j hx
      cases hs
      have hb := hp _ rfl
      obtain ⟨v, rfl, hv⟩ := one_arg hvs
      obtain ⟨h1, h2, h3⟩ := pvR_iz hx hv hf
      refine (refNorm_any v _ k w (h1.iz h2) hb).mono ?_
      rintro e w' ⟨u, rfl, hio, hbl⟩
      exact ⟨_, u, rfl, ext_all hf hbl, io_pr hio h3⟩
    · cases hs
  · cases hs
theorem cOfB : Contract Tryz.prog E 61 sOfB := by
  intro xs p r hs hp w H vs hf hE hvs
  unfold sOfB at hs
  split at hs
  · rename_i neg x
    split at hs
    · rename_i l k hx
      cases hs
      have hb := hp _ rfl
      obtain ⟨u, v, rfl, hu, hv⟩ := two_args hvs
      have := hu.val
      subst this
      obtain ⟨h1, h2, h3⟩ := limL_rd hx hv.rd hf
      refine (refofR_any neg v l w h1 (by omega) h3).mono ?_
      rintro e w' ⟨u, rfl, hio, hbl⟩
      exact ⟨_, u, rfl, ext_all hf hbl, io_pr hio ((zV_zb neg l h3).mono (by omega))⟩
    · cases hs
  · cases hs
theorem cOfR : Contract Tryz.prog E 56 sOf := by
  intro xs p r hs hp w H vs hf hE hvs
  unfold sOf at hs
  split at hs
  · rename_i n
    cases hs
    obtain ⟨h1, h2⟩ := hp _ rfl
    obtain ⟨v, rfl, hv⟩ := one_arg hvs
    have := hv.val
    subst this
    refine (refOfZ_any n w h1 h2).mono ?_
    rintro e w' ⟨u, rfl, hio, hbl⟩
    refine ⟨_, u, rfl, ext_all hf hbl, io_pr hio ?_⟩
    show n.natAbs < 1000000000 ^ 3
    have : (1000000000 : Nat) ^ 3 = 1000000000000000000000000000 := by decide
    omega
  · cases hs
end
def sRightL : Spec
  | [.f x] => match limL x with
    | some (l, k) => some (some (k ≤ 1000000), .one (.f (.v (.bool (rgtB l)))))
    | none => none
  | _ => none
theorem rgt_last {l : List Nat} (h : 0 < l.length) : (l.getLast? != some 0) = (l.getD (l.length - 1) 0 != 0) := by
  rw [List.getLast?_eq_getElem?, List.getD_eq_getElem?_getD, List.getElem?_eq_getElem (show l.length - 1 < l.length by omega)]
  simp [bne]
theorem cRightL {E : World → Hp → Prop} (hU : Up E) : Contract Tryz.prog E 121 sRightL := by
  refine contract_loopsG [] Tryz.ntmps121 Tryz.func121 (by kernel_rfl) (by kernel_rfl) hU trivial ?_
  intro xs p r hs hp
  unfold sRightL at hs
  split at hs
  · rename_i x
    split at hs
    · rename_i l k hx
      cases hs
      have hk := hp _ rfl
      refine ⟨[.f (.lr l k)], [(2, .s ⟨Nat, fun i => ⟨[(0, .f (.lr l k)), (3, .f (.v (.int .i64 (i : Nat))))], []⟩, fun i => i ≤ l.length ∧ ∀ j, j < i → dg l j < 1000000000, fun i => l.length - i⟩)], .cons (limL_sub hx) .nil, rfl, fun hgx hg => ?_⟩
      obtain ⟨a1, a2⟩ := hg.1.1
      refine cast_rfl (p := ∃ (x1 : Nat), (True ∧ SubB (PV.f (Lf.lr l k)) (PV.f (Lf.lr l k)) ∧ SubB (PV.f (Lf.v (Value.int IntKind.i64 (0 : Int)))) (PV.f (Lf.v (Value.int IntKind.i64 (↑x1 : Int)))) ∧ True) ∧ (x1 ≤ l.length ∧ ∀ (j : Nat), j < x1 → dg l j < 1000000000) ∧ True ∧ ∀ (z2 : Nat), (z2 ≤ l.length ∧ ∀ (j : Nat), j < z2 → dg l j < 1000000000) → True → ifB (decide ((↑z2 : Int) < (↑l.length : Int))) (((0 : Int) ≤ (↑z2 : Int) ∧ (↑z2 : Int) < (↑l.length : Int)) ∧ ifB (decide ((↑(l.getD (↑z2 : Int).toNat 0) : Int) ≥ (1000000000 : Int))) (true = true ∧ Sub (PV.f (Lf.v (Value.bool false))) (PV.f (Lf.v (Value.bool (rgtB l))))) (∃ (x3 : Nat), (True ∧ SubB (PV.f (Lf.lr l k)) (PV.f (Lf.lr l k)) ∧ SubB (PV.f (Lf.v (Value.int IntKind.i64 (IntKind.i64.wrap ((↑z2 : Int) + (1 : Int)))))) (PV.f (Lf.v (Value.int IntKind.i64 (↑x3 : Int)))) ∧ True) ∧ (x3 ≤ l.length ∧ ∀ (j : Nat), j < x3 → dg l j < 1000000000) ∧ True ∧ (l.length - x3).succ.le (l.length - z2))) (ifB ((↑l.length : Int) == (0 : Int)) (true = true ∧ Sub (PV.f (Lf.v (Value.bool true))) (PV.f (Lf.v (Value.bool (rgtB l))))) (((0 : Int) ≤ IntKind.i64.wrap ((↑l.length : Int) - (1 : Int)) ∧ IntKind.i64.wrap ((↑l.length : Int) - (1 : Int)) < (↑l.length : Int)) ∧ true = true ∧ Sub (PV.f (Lf.v (Value.bool ((↑(l.getD (IntKind.i64.wrap ((↑l.length : Int) - (1 : Int))).toNat 0) : Int) != (0 : Int))))) (PV.f (Lf.v (Value.bool (rgtB l))))))) (by kernel_rfl) ?_
      refine ⟨?x0, ⟨⟨trivial, ⟨.refl _, ⟨?m0, trivial⟩⟩⟩, ⟨?s0, ⟨trivial, fun z2 => fun hq0 => fun _ => ifB_iff.2 ⟨fun hb1 => ⟨?s1, ifB_iff.2 ⟨fun hb2 => ⟨rfl, ?m1⟩, fun hb2 => ⟨?x1, ⟨⟨trivial, ⟨.refl _, ⟨?m2, trivial⟩⟩⟩, ⟨?s2, ⟨trivial, ?m3⟩⟩⟩⟩⟩⟩, fun hb1 => ifB_iff.2 ⟨fun hb3 => ⟨rfl, ?m4⟩, fun hb3 => ⟨?s3, ⟨rfl, ?m5⟩⟩⟩⟩⟩⟩⟩⟩
      case x0 => exact 0
      case x1 => exact z2 + 1
      case m0 => exact .refl _
      case s0 => exact ⟨Nat.zero_le _, fun j hj => absurd hj (Nat.not_lt_zero j)⟩
      case s1 => exact ⟨by omega, of_decide_eq_true hb1⟩
      case m1 =>
        have h1 := of_decide_eq_true hb1
        have h2 := of_decide_eq_true hb2
        rw [Int.toNat_natCast] at h2
        rw [rgtB_out (k := z2) (by omega) (by unfold dg; omega)]; exact .refl _
      case m2 => exact subB_succ (by have := of_decide_eq_true hb1; omega)
      case s2 =>
        have h1 := of_decide_eq_true hb1
        have h2 := of_decide_eq_false hb2
        rw [Int.toNat_natCast] at h2
        refine ⟨by omega, fun j hj => ?_⟩
        rcases Nat.lt_or_ge j z2 with h | h
        · exact hq0.2 j h
        · obtain rfl : j = z2 := by omega
          unfold dg; omega
      case m3 => have := of_decide_eq_true hb1; show l.length - (z2 + 1) + 1 ≤ l.length - z2; omega
      case m4 =>
        have h1 := eq_of_beq hb3
        have : l = [] := List.length_eq_zero_iff.1 (by omega)
        subst this; exact .refl _
      all_goals have h0 : 0 < l.length := (by
        rcases Nat.eq_zero_or_pos l.length with h | h
        · rw [h] at hb3; cases hb3
        · exact h)
      case s3 => rw [wI _ (by omega) (by omega)]; exact ⟨by omega, by omega⟩
      case m5 =>
        have h1 := of_decide_eq_false hb1
        have hw : (IntKind.i64.wrap ((l.length : Int) - 1)).toNat = l.length - 1 := by rw [wI _ (by omega) (by omega)]; omega
        have hall : l.all (fun x => decide (x < 1000000000)) = true := by
          rw [List.all_eq_true]
          intro x hx
          obtain ⟨j, hj, rfl⟩ := List.getElem_of_mem hx
          have h2 := hq0.2 j (by omega)
          rw [dg_eq _ _ hj] at h2
          exact decide_eq_true h2
        have hr : rgtB l = (l.getD (l.length - 1) 0 != 0) := by unfold rgtB; rw [hall, Bool.true_and, rgt_last h0]
        rw [hw, hr]
        refine sub_bool ?_
        rw [Bool.eq_iff_iff, bne_iff_ne, bne_iff_ne]
        omega
    · cases hs
  · cases hs
/-- The decimals' signs. -/
theorem dec_digs : ∀ n : Nat, 0 < n → Lib.decDigits n = ((digs 10 n).map (fun d => UInt8.ofNat (48 + d))).reverse := by
  intro n
  induction n using Nat.strongRecOn with
  | _ n ih =>
    intro h0
    rw [digs_cons 10 (by omega) n (by omega)]
    by_cases h : n < 10
    · rw [Lib.decDigits_one h, Nat.div_eq_of_lt h, digs_zero, Nat.mod_eq_of_lt h]; rfl
    · rw [Lib.decDigits, dif_neg h, ih (n / 10) (by omega) (by omega)]
      simp
theorem nums_str (l : List Nat) : strOfNums (iN l) = ⟨(l.map (fun d => UInt8.ofNat d)).toArray⟩ := by
  unfold strOfNums iN
  simp [List.map_map, Function.comp_def]
theorem drop_set_last {l : List Nat} {j x : Nat} (h : j < l.length) : (l.set j x).drop j = x :: l.drop (j + 1) := by
  rw [drop_dg _ j (by simpa using h), dg_set1 _ _ _ _ h, if_pos rfl, List.drop_set_of_lt (by omega)]
theorem take_snocN {l : List Nat} {i : Nat} (h : i < l.length) : l.take (i + 1) = l.take i ++ [dg l i] := by
  rw [List.take_add_one, List.getElem?_eq_getElem h, dg_eq _ _ h]; rfl
theorem cTextL {E : World → Hp → Prop} (hU : Up E) : Contract Tryz.prog E 124 sTextL := by
  refine contract_loopsG [(110, sReadL)] Tryz.ntmps124 Tryz.func124 (by kernel_rfl) (by kernel_rfl) hU ⟨cReadL hU, trivial⟩ ?_
  intro xs p r hs hp
  unfold sTextL at hs
  split at hs
  · rename_i x
    split at hs
    · rename_i l k hx
      cases hs
      have hk := hp _ rfl
      refine ⟨[.f (.lr l k)], [(6, .s ⟨Nat × List Nat, fun x => ⟨[(3, .f (.is .u8 (iN (digs 10 (vB l))))), (4, .wr 0), (5, .f (.v (.int .i64 (x.1 : Nat))))], [.own 5 (.is .u8 (iN x.2))]⟩,
        fun x => x.2.length = (digs 10 (vB l)).length ∧ x.1 ≤ x.2.length ∧ x.2.drop (x.2.length - x.1) = (((digs 10 (vB l)).take x.1).map (48 + ·)).reverse, fun x => (digs 10 (vB l)).length - x.1⟩)], .cons (limL_sub hx) .nil, rfl, fun hgx hg => ?_⟩
      obtain ⟨a1, a2⟩ := hg.1.1
      have hlen := lim_len a2 a1
      refine cast_rfl (p := k ≤ 1000000 ∧ ∀ (z1 : Nat), z1 = vB l → ifB ((↑(iN (digs 10 z1)).length : Int) == (0 : Int)) (true = true ∧ Sub (PV.f (Lf.v (Value.string (ByteArray.mk #[(48 : UInt8)])))) (PV.f (Lf.v (Value.string (ByteArray.mk (Lib.decDigits (vB l)).toArray))))) (((0 : Int) ≤ (↑(iN (digs 10 z1)).length : Int) ∧ (↑(iN (digs 10 z1)).length : Int) ≤ (↑(iN (digs 10 z1)).length : Int) ∧ (↑(iN (digs 10 z1)).length : Int) * (↑1 : Int) ≤ (140737488355328 : Int) ∧ (↑(iN (digs 10 z1)).length : Int) ≤ (↑9223372036854775807 : Int)) ∧ ∃ (x2 : Nat × List Nat), (((5 = 5 ∧ Lf.is IntKind.u8 (iN x2.snd) = Lf.is IntKind.u8 (List.replicate (↑(iN (digs 10 z1)).length : Int).toNat (0 : Int))) ∧ True) ∧ SubB (PV.f (Lf.is IntKind.u8 (iN (digs 10 z1)))) (PV.f (Lf.is IntKind.u8 (iN (digs 10 (vB l))))) ∧ SubB (PV.wr 0) (PV.wr 0) ∧ SubB (PV.f (Lf.v (Value.int IntKind.i64 (0 : Int)))) (PV.f (Lf.v (Value.int IntKind.i64 (↑x2.fst : Int)))) ∧ True) ∧ (x2.snd.length = (digs 10 (vB l)).length ∧ x2.fst ≤ x2.snd.length ∧ List.drop (x2.snd.length - x2.fst) x2.snd = (List.map (fun (x : Nat) => 48 + x) (List.take x2.fst (digs 10 (vB l)))).reverse) ∧ True ∧ ∀ (z3 : Nat × List Nat), z3.snd.length = (digs 10 (vB l)).length ∧ z3.fst ≤ z3.snd.length ∧ List.drop (z3.snd.length - z3.fst) z3.snd = (List.map (fun (x : Nat) => 48 + x) (List.take z3.fst (digs 10 (vB l)))).reverse → True → ifB (decide ((↑z3.fst : Int) < (↑(iN (digs 10 (vB l))).length : Int))) (((0 : Int) ≤ (↑z3.fst : Int) ∧ (↑z3.fst : Int) < (↑(iN (digs 10 (vB l))).length : Int)) ∧ ((0 : Int) ≤ IntKind.i64.wrap (IntKind.i64.wrap ((↑(iN (digs 10 (vB l))).length : Int) - (1 : Int)) - (↑z3.fst : Int)) ∧ IntKind.i64.wrap (IntKind.i64.wrap ((↑(iN (digs 10 (vB l))).length : Int) - (1 : Int)) - (↑z3.fst : Int)) < (↑(iN z3.snd).length : Int)) ∧ ∃ (x4 : Nat × List Nat), (((5 = 5 ∧ Lf.is IntKind.u8 (iN x4.snd) = Lf.is IntKind.u8 ((iN z3.snd).set (IntKind.i64.wrap (IntKind.i64.wrap ((↑(iN (digs 10 (vB l))).length : Int) - (1 : Int)) - (↑z3.fst : Int))).toNat (IntKind.u8.wrap ((48 : Int) + (iN (digs 10 (vB l))).getD (↑z3.fst : Int).toNat (0 : Int))))) ∧ True) ∧ SubB (PV.f (Lf.is IntKind.u8 (iN (digs 10 (vB l))))) (PV.f (Lf.is IntKind.u8 (iN (digs 10 (vB l))))) ∧ SubB (PV.wr 0) (PV.wr 0) ∧ SubB (PV.f (Lf.v (Value.int IntKind.i64 (IntKind.i64.wrap ((↑z3.fst : Int) + (1 : Int)))))) (PV.f (Lf.v (Value.int IntKind.i64 (↑x4.fst : Int)))) ∧ True) ∧ (x4.snd.length = (digs 10 (vB l)).length ∧ x4.fst ≤ x4.snd.length ∧ List.drop (x4.snd.length - x4.fst) x4.snd = (List.map (fun (x : Nat) => 48 + x) (List.take x4.fst (digs 10 (vB l)))).reverse) ∧ True ∧ ((digs 10 (vB l)).length - x4.fst).succ.le ((digs 10 (vB l)).length - z3.fst)) (true = true ∧ Sub (PV.f (Lf.v (Value.string (strOfNums (iN z3.snd))))) (PV.f (Lf.v (Value.string (ByteArray.mk (Lib.decDigits (vB l)).toArray))))))) (by kernel_rfl) ?_
      refine ⟨?s0, fun z1 => fun hz1 => ifB_iff.2 ⟨fun hb0 => ⟨rfl, ?m0⟩, fun hb0 => ⟨?s1, ⟨?x0, ⟨?s2, ⟨?s3, ⟨trivial, fun z3 => fun hq1 => fun _ => ifB_iff.2 ⟨fun hb2 => ⟨?s4, ⟨?s5, ⟨?x1, ⟨?s6, ⟨?s7, ⟨trivial, ?m1⟩⟩⟩⟩⟩⟩, fun hb2 => ⟨rfl, ?m2⟩⟩⟩⟩⟩⟩⟩⟩⟩
      case s0 => exact hk
      case x0 => exact (0, List.replicate (digs 10 (vB l)).length 0)
      case x1 => exact (z3.1 + 1, z3.2.set (z3.2.length - 1 - z3.1) (48 + dg (digs 10 (vB l)) z3.1))
      all_goals subst hz1
      case m0 =>
        have h1 := eq_of_beq hb0
        rw [iN_len] at h1
        have h2 : digs 10 (vB l) = [] := List.length_eq_zero_iff.1 (by omega)
        have h3 := val_digs 10 (by omega) (vB l)
        rw [h2] at h3
        rw [show vB l = 0 from h3.symm, Lib.decDigits_one (by omega)]; exact .refl _
      all_goals have hn0 : 0 < vB l := (by
        rcases Nat.eq_zero_or_pos (vB l) with h | h
        · rw [h] at hb0; cases hb0
        · exact h)
      case s1 => rw [iN_len]; exact ⟨by omega, by omega, by omega, by omega⟩
      case s2 => exact ⟨⟨⟨rfl, by rw [iN_len, Int.toNat_natCast, iN_rep]⟩, trivial⟩, .refl _, .refl _, .refl _, trivial⟩
      case s3 => exact ⟨by simp, Nat.zero_le _, by simp⟩
      all_goals obtain ⟨b1, b2, b3⟩ := hq1
      all_goals rw [iN_len] at hb2
      case s4 => rw [iN_len]; exact ⟨by omega, of_decide_eq_true hb2⟩
      case m2 =>
        have h1 := of_decide_eq_false hb2
        have h2 : z3.1 = z3.2.length := by omega
        rw [h2, Nat.sub_self, List.drop_zero, List.take_of_length_le (by omega)] at b3
        rw [nums_str, b3, dec_digs _ hn0, List.map_reverse, List.map_map]
        exact .refl _
      all_goals have h1 := of_decide_eq_true hb2
      all_goals have h1' : z3.1 < (digs 10 (vB l)).length := (by omega)
      all_goals have hd := dg_lt (digs_lt 10 (by omega) (vB l)) (by omega) z3.1
      all_goals have hw : IntKind.i64.wrap (IntKind.i64.wrap (((iN (digs 10 (vB l))).length : Int) - 1) - (z3.1 : Int)) = ((z3.2.length - 1 - z3.1 : Nat) : Int) := (by rw [iN_len, wI (((digs 10 (vB l)).length : Int) - 1) (by omega) (by omega), wI _ (by omega) (by omega)]; omega)
      case s5 => rw [hw, iN_len]; exact ⟨by omega, by omega⟩
      case s6 => exact ⟨⟨⟨rfl, by rw [hw, Int.toNat_natCast, Int.toNat_natCast, iN_at, wrap8 _ (by omega), iN_set]; congr 2⟩, trivial⟩, .refl _, .refl _, subB_succ (by omega), trivial⟩
      case s7 =>
        refine ⟨by simp [b1], by simp; omega, ?_⟩
        dsimp only
        rw [List.length_set, show z3.2.length - (z3.1 + 1) = z3.2.length - 1 - z3.1 by omega, drop_set_last (by omega), show z3.2.length - 1 - z3.1 + 1 = z3.2.length - z3.1 by omega, b3, take_snocN h1']
        simp
      case m1 => show (digs 10 (vB l)).length - (z3.1 + 1) + 1 ≤ (digs 10 (vB l)).length - z3.1; omega
    · cases hs
  · cases hs
def sPlusZ : Spec
  | [x, y] => match pvR x, pvR y with
    | some ((n, l), k, j), some ((n', l'), k', j') => some (some (k + k' ≤ 40000), .nm Int (zV n l + zV n' l') fun z => zP z (j + j' + 1))
    | _, _ => none
  | _ => none
theorem cPlusZ {E : World → Hp → Prop} (hU : Up E) : Contract Tryz.prog E 57 sPlusZ := by
  refine contract_loopsG [(61, sOfB), (106, sAddL), (107, sSubL)] Tryz.ntmps57 Tryz.func57 (by kernel_rfl) (by kernel_rfl) hU ⟨cOfB, cAddL, cSubL hU, trivial⟩ ?_
  intro xs p r hs hp
  unfold sPlusZ at hs
  split at hs
  · rename_i x y
    split at hs
    · rename_i n l k j n' l' k' j' hx hy
      cases hs
      have hk := hp _ rfl
      refine ⟨[rawP n l k, rawP n' l' k'], [], .cons (sub_raw hx) (.cons (sub_raw hy) .nil), rfl, fun hgx hg => ?_⟩
      obtain ⟨a1, a2, a3⟩ := pvR_good hx hgx.1
      obtain ⟨b1, b2, b3⟩ := pvR_good hy hgx.2.1
      have hzb := a3.add b3
      refine cast_rfl (p := ifB (n == n') (sizeL [(l, k), (l', k')] ≤ 100000 ∧ ∀ (z1 : Nat), z1 = sumL' [(l, k), (l', k')] 0 → sizeL [(l, k), (l', k')] ≤ 1000000 ∧ ∀ (z2 : Int), z2 = zV n (digs 1000000000 (↑z1 : Int).natAbs) → true = true ∧ Sub (PV.agg [PV.f (Lf.zn z2), PV.f (Lf.zd z2 (sizeL [(l, k), (l', k')] + 1))]) (PV.agg [PV.f (Lf.zn (zV n l + zV n' l')), PV.f (Lf.zd (zV n l + zV n' l') (j + j' + 1))])) ((k ≤ 100000 ∧ k' ≤ 100000) ∧ ∀ (z1 : Nat), z1 = vB l - vB l' → ifB (decide (vB l' ≤ vB l)) (k + 1 ≤ 1000000 ∧ ∀ (z2 : Int), z2 = zV n (digs 1000000000 (↑z1 : Int).natAbs) → true = true ∧ Sub (PV.agg [PV.f (Lf.zn z2), PV.f (Lf.zd z2 (k + 1 + 1))]) (PV.agg [PV.f (Lf.zn (zV n l + zV n' l')), PV.f (Lf.zd (zV n l + zV n' l') (j + j' + 1))])) ((k' ≤ 100000 ∧ k ≤ 100000) ∧ ∀ (z2 : Nat), z2 = vB l' - vB l → k' + 1 ≤ 1000000 ∧ ∀ (z3 : Int), z3 = zV n' (digs 1000000000 (↑z2 : Int).natAbs) → true = true ∧ Sub (PV.agg [PV.f (Lf.zn z3), PV.f (Lf.zd z3 (k' + 1 + 1))]) (PV.agg [PV.f (Lf.zn (zV n l + zV n' l')), PV.f (Lf.zd (zV n l + zV n' l') (j + j' + 1))])))) (by kernel_rfl) ?_
      refine ifB_iff.2 ⟨fun hb0 => ⟨?s0, fun z1 => fun hz1 => ⟨?s1, fun z2 => fun hz2 => ⟨rfl, ?m0⟩⟩⟩, fun hb0 => ⟨?s2, fun z1 => fun hz1 => ifB_iff.2 ⟨fun hb1 => ⟨?s3, fun z2 => fun hz2 => ⟨rfl, ?m1⟩⟩, fun hb1 => ⟨?s4, fun z2 => fun hz2 => ⟨?s5, fun z3 => fun hz3 => ⟨rfl, ?m2⟩⟩⟩⟩⟩⟩
      case s0 => simp only [sizeL]; omega
      case s1 => simp only [sizeL]; omega
      case s2 => omega
      case m0 =>
        have hn := eq_of_beq hb0
        subst hn
        have e1 : z2 = zV n l + zV n l' := by
          rw [hz2, Int.natAbs_natCast, zV_dig, hz1]
          simp only [sumL', Nat.zero_add]
          rw [zOf_add]; rfl
        subst e1
        exact sub_zP hzb
      all_goals have hn : n = !n' := (by cases n <;> cases n' <;> first | rfl | cases hb0)
      case s3 => omega
      case s4 => omega
      case s5 => omega
      case m1 =>
        have hle := of_decide_eq_true hb1
        have e1 : z2 = zV n l + zV n' l' := by
          rw [hz2, Int.natAbs_natCast, zV_dig, hz1, zOf_sub _ hle, zV_vB n l, zV_vB n' l']
          subst hn
          rw [zOf_not, zOf_not]; omega
        subst e1
        exact sub_zP hzb
      case m2 =>
        have hle := of_decide_eq_false hb1
        have e1 : z3 = zV n l + zV n' l' := by
          rw [hz3, Int.natAbs_natCast, zV_dig, hz2, zOf_sub _ (by omega), zV_vB n l, zV_vB n' l']
          subst hn
          rw [zOf_not]; omega
        subst e1
        exact sub_zP hzb
    · cases hs
  · cases hs
def sAddR : Spec
  | [.f y] => match sliceR y with
    | some l => some (some (sizeR l ≤ 20000), .nm Int (sumR l 0) fun z => zP z (bndS l 0))
    | none => none
  | _ => none
def sMulR : Spec
  | [.f y] => match sliceR y with
    | some l => some (some (sizeR l ≤ 10000), .nm Int (prodR l 1) fun z => zP z (bndP l 1))
    | none => none
  | _ => none
def sGcdR : Spec
  | [.f y] => match sliceR y with
    | some l => some (some (sizeR l ≤ 20000), .nm Int (gcdR l 0) fun z => zP z (bndS l 0))
    | none => none
  | _ => none
theorem cAddZ {E : World → Hp → Prop} (hU : Up E) : Contract Tryz.prog E 14 sAddR := by
  refine contract_loopsG [(56, sOf), (58, sNormZ), (57, sPlusZ)] Tryz.ntmps14 Tryz.func14 (by kernel_rfl) (by kernel_rfl) hU ⟨cOfR, cNormZ, cPlusZ hU, trivial⟩ ?_
  intro xs p r hs hp
  unfold sAddR at hs
  split at hs
  · rename_i y
    split at hs
    · rename_i l hl
      cases hs
      have hk := hp _ rfl
      have hsub := sub_zs hl
      have hL : (zsOf l).length = l.length := by simp [zsOf]
      refine ⟨[.f (.zs (zsOf l))], [(3, .s ⟨Nat × Int, fun x => ⟨[(0, .f (.zs (zsOf l))), (2, .bp 0 0), (3, .bp 1 0), (4, .f (.v (.int .i64 (x.1 : Nat))))], [.cells [.f (.v (.bool false)), .f (.v (.slice none 0 0))], .cells [.f (.zn x.2), .f (.zd x.2 (bndS l 0))]]⟩,
        fun x => x.1 ≤ l.length ∧ x.2 = sumR (l.take x.1) 0, fun x => l.length - x.1⟩)], .cons hsub .nil, rfl, fun hgx hg => ?_⟩
      have hgood := sliceR_good hl hgx.1.2
      have hbnd : ∀ i, ZB (sumR (l.take i) 0) (bndS l 0) := fun i => (sumR_zb _ 0 0 (ZB.zero 0) fun x hx => (hgood x (List.mem_of_mem_take hx)).2.2).mono (bndS_take l 0 i)
      have hall := hbnd l.length
      rw [List.take_of_length_le (Nat.le_refl _)] at hall
      have hbl := bndS_size l 0 (sliceR_j hl)
      have hll := sizeR_len l
      refine cast_rfl (p := ((-9223372036854775808 : Int) ≤ (0 : Int) ∧ (0 : Int) ≤ (9223372036854775807 : Int)) ∧ ∀ (z1 : Int), z1 = (0 : Int) → ∃ (x2 : Nat × Int), (((SubB (PV.f (Lf.v (Value.bool false))) (PV.f (Lf.v (Value.bool false))) ∧ SubB (PV.f (Lf.v (Value.slice none 0 0))) (PV.f (Lf.v (Value.slice none 0 0))) ∧ True) ∧ (SubB (PV.f (Lf.zn z1)) (PV.f (Lf.zn x2.snd)) ∧ SubB (PV.f (Lf.zd z1 3)) (PV.f (Lf.zd x2.snd (bndS l 0))) ∧ True) ∧ True) ∧ SubB (PV.f (Lf.zs (zsOf l))) (PV.f (Lf.zs (zsOf l))) ∧ SubB (PV.bp 0 0) (PV.bp 0 0) ∧ SubB (PV.bp 1 0) (PV.bp 1 0) ∧ SubB (PV.f (Lf.v (Value.int IntKind.i64 (0 : Int)))) (PV.f (Lf.v (Value.int IntKind.i64 (↑x2.fst : Int)))) ∧ True) ∧ (x2.fst ≤ l.length ∧ x2.snd = sumR (List.take x2.fst l) (0 : Int)) ∧ True ∧ ∀ (z3 : Nat × Int), z3.fst ≤ l.length ∧ z3.snd = sumR (List.take z3.fst l) (0 : Int) → True → ifB (decide ((↑z3.fst : Int) < (↑(zsOf l).length : Int))) (((0 : Int) ≤ (↑z3.fst : Int) ∧ (↑z3.fst : Int) < (↑(zsOf l).length : Int)) ∧ ((zsOf l).getD (↑z3.fst : Int).toNat (false, [], 0)).snd.snd ≤ 1000000 ∧ ∀ (z4 : Int), z4 = zV ((zsOf l).getD (↑z3.fst : Int).toNat (false, [], 0)).fst ((zsOf l).getD (↑z3.fst : Int).toNat (false, [], 0)).snd.fst → bndS l 0 + (((zsOf l).getD (↑z3.fst : Int).toNat (false, [], 0)).snd.snd + 1) ≤ 40000 ∧ ∀ (z5 : Int), z5 = zV (zNeg z3.snd) (digs 1000000000 z3.snd.natAbs) + zV (zNeg z4) (digs 1000000000 z4.natAbs) → ∃ (x6 : Nat × Int), (((SubB (PV.f (Lf.v (Value.bool false))) (PV.f (Lf.v (Value.bool false))) ∧ SubB (PV.f (Lf.v (Value.slice none 0 0))) (PV.f (Lf.v (Value.slice none 0 0))) ∧ True) ∧ (SubB (PV.f (Lf.zn z5)) (PV.f (Lf.zn x6.snd)) ∧ SubB (PV.f (Lf.zd z5 (bndS l 0 + (((zsOf l).getD (↑z3.fst : Int).toNat (false, [], 0)).snd.snd + 1) + 1))) (PV.f (Lf.zd x6.snd (bndS l 0))) ∧ True) ∧ True) ∧ SubB (PV.f (Lf.zs (zsOf l))) (PV.f (Lf.zs (zsOf l))) ∧ SubB (PV.bp 0 0) (PV.bp 0 0) ∧ SubB (PV.bp 1 0) (PV.bp 1 0) ∧ SubB (PV.f (Lf.v (Value.int IntKind.i64 (IntKind.i64.wrap ((↑z3.fst : Int) + (1 : Int)))))) (PV.f (Lf.v (Value.int IntKind.i64 (↑x6.fst : Int)))) ∧ True) ∧ (x6.fst ≤ l.length ∧ x6.snd = sumR (List.take x6.fst l) (0 : Int)) ∧ True ∧ (l.length - x6.fst).succ.le (l.length - z3.fst)) (true = true ∧ Sub (PV.agg [PV.f (Lf.zn z3.snd), PV.f (Lf.zd z3.snd (bndS l 0))]) (PV.agg [PV.f (Lf.zn (sumR l (0 : Int))), PV.f (Lf.zd (sumR l (0 : Int)) (bndS l 0))]))) (by kernel_rfl) ?_
      refine ⟨?s0, fun z1 => fun hz1 => ⟨?x0, ⟨⟨⟨⟨.refl _, ⟨.refl _, trivial⟩⟩, ⟨⟨?m0, ⟨?m1, trivial⟩⟩, trivial⟩⟩, ⟨.refl _, ⟨.refl _, ⟨.refl _, ⟨?m2, trivial⟩⟩⟩⟩⟩, ⟨?s1, ⟨trivial, fun z3 => fun hq0 => fun _ => ifB_iff.2 ⟨fun hb1 => ⟨?s2, ⟨?s3, fun z4 => fun hz4 => ⟨?s4, fun z5 => fun hz5 => ⟨?x1, ⟨⟨⟨⟨.refl _, ⟨.refl _, trivial⟩⟩, ⟨⟨?m3, ⟨?m4, trivial⟩⟩, trivial⟩⟩, ⟨.refl _, ⟨.refl _, ⟨.refl _, ⟨?m5, trivial⟩⟩⟩⟩⟩, ⟨?s5, ⟨trivial, ?m6⟩⟩⟩⟩⟩⟩⟩, fun hb1 => ⟨rfl, ?m7⟩⟩⟩⟩⟩⟩⟩
      case x0 => exact (0, 0)
      case x1 => exact (z3.1 + 1, z5)
      case s0 => omega
      case m0 => exact subB_zn hz1
      case m1 => exact subB_zdB hz1 (ZB.zero _)
      case m2 => exact .refl _
      case s1 => exact ⟨Nat.zero_le _, rfl⟩
      case m7 =>
        have h1 := of_decide_eq_false hb1
        have h2 : z3.1 = l.length := by omega
        have h3 := hq0.2
        rw [h2, List.take_of_length_le (Nat.le_refl _)] at h3
        rw [h3]; exact .refl _
      all_goals have h1 := of_decide_eq_true hb1
      all_goals have hil : z3.1 < l.length := (by omega)
      all_goals have hat := zsOf_at hil
      all_goals have hmem := List.getElem_mem hil
      all_goals have hsz := sizeR_mem _ hmem
      all_goals simp only [Int.toNat_natCast, hat] at *
      case s2 => exact ⟨by omega, by omega⟩
      case s3 => omega
      case s4 => omega
      all_goals have hz : z5 = sumR (l.take (z3.1 + 1)) 0 := (by rw [hz5, zV_self, zV_self, hz4, sumR_snoc l z3.1 hil, ← hq0.2])
      case m3 => exact .refl _
      case m4 => exact subB_zdB rfl (by rw [hz]; exact hbnd _)
      case m5 => exact subB_succ (by omega)
      case s5 => exact ⟨hil, hz⟩
      case m6 => show l.length - (z3.1 + 1) + 1 ≤ l.length - z3.1; omega
    · cases hs
  · cases hs

end Go.Proofs.YtjfncepmpabcnaaGreatDoor
