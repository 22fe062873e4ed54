/- The contracts of the layer num. -/
import Derived.Test.YtjfncepmpabcnaaGreatDoorPl
namespace Go.Proofs.YtjfncepmpabcnaaGreatDoor
open Go.RowKit
set_option linter.unusedVariables false
set_option maxRecDepth 100000

def sCmpN : Spec
  | [.f x, .f y] => match limL x, limL y with
    | some (l, k), some (m, j) => some (some (k ≤ 1000000 ∧ j ≤ 1000000), .one (.f (.v (.int .i64 (cmpI (vB l : Nat) (vB m : Nat))))))
    | _, _ => none
  | _ => none
theorem sizeL_len : ∀ l : List (List Nat × Nat), l.length ≤ sizeL l
  | [] => Nat.le_refl _
  | x :: l => by have := sizeL_len l; simp only [List.length_cons, sizeL]; omega
section
variable {E : World → Hp → Prop}
theorem cTrimN : Contract Tryz.prog E 115 sTrimL := by
  intro xs p r hs hp w H vs hf hE hvs
  unfold sTrimL at hs
  split at hs
  · rename_i x
    split at hs
    · rename_i l k hx
      cases hs
      have hk := hp _ rfl
      obtain ⟨v, rfl, hv⟩ := one_arg hvs
      obtain ⟨h1, h2, h3⟩ := limL_rd hx hv.rd hf
      refine (natTrim_any v l w h1 (by omega) h3).mono ?_
      rintro e w' ⟨u, rfl, ho, hbl⟩
      exact ⟨_, u, rfl, ext_all hf hbl, own_lP ho (zb_vB h3 h2)⟩
    · cases hs
  · cases hs
theorem cAddN : Contract Tryz.prog E 103 sAddL := by
  intro xs p r hs hp w H vs hf hE hvs
  unfold sAddL at hs
  split at hs
  · rename_i R
    split at hs
    · rename_i l hl
      cases hs
      have hk := hp _ rfl
      obtain ⟨v, rfl, hv⟩ := one_arg hvs
      obtain ⟨h1, h2, h3⟩ := rowsL_rd hl hv.rd hf
      have hw2 := sizeL_wgt h2
      have hll := sizeL_len l
      refine (natAdd_any v _ w h1 (by omega) (fun a ha x hx => ?_) (by rw [List.length_map]; omega)).mono ?_
      · obtain ⟨y, hy, rfl⟩ := List.mem_map.1 ha
        exact h3 y hy x hx
      · rintro e w' ⟨u, rfl, ho, hbl⟩
        refine ⟨_, u, rfl, ext_all hf hbl, ?_⟩
        unfold sumV at ho
        rw [sumL_eq] at ho
        have := sumL_zb l 0 0 (by unfold ZB; decide) fun x hx => zb_vB (h3 x hx) (h2 x hx)
        rw [Nat.zero_add] at this
        exact own_lP ho this
    · cases hs
  · cases hs
theorem cMulN : Contract Tryz.prog E 108 sMulL := by
  intro xs p r hs hp w H vs hf hE hvs
  unfold sMulL at hs
  split at hs
  · rename_i R
    split at hs
    · rename_i l hl
      cases hs
      have hk := hp _ rfl
      obtain ⟨v, rfl, hv⟩ := one_arg hvs
      obtain ⟨h1, h2, h3⟩ := rowsL_rd hl hv.rd hf
      have hw2 := sizeL_wgt h2
      have hll := sizeL_len l
      refine (natMul_any v _ w h1 (by omega) (fun a ha x hx => ?_) (by rw [List.length_map]; omega)).mono ?_
      · obtain ⟨y, hy, rfl⟩ := List.mem_map.1 ha
        exact h3 y hy x hx
      · rintro e w' ⟨u, rfl, ho, hbl⟩
        refine ⟨_, u, rfl, ext_all hf hbl, ?_⟩
        unfold prodV at ho
        rw [prodL_eq] at ho
        have := prodL_zb l 1 1 (by unfold ZB; decide) fun x hx => zb_vB (h3 x hx) (h2 x hx)
        rw [Nat.add_comm] at this
        exact own_lP ho this
    · cases hs
  · cases hs
theorem cCmpN : Contract Tryz.prog E 137 sCmpN := by
  intro xs p r hs hp w H vs hf hE hvs
  unfold sCmpN at hs
  split at hs
  · rename_i x y
    split at hs
    · rename_i l k m j hx hy
      cases hs
      obtain ⟨hk, hj⟩ := hp _ rfl
      obtain ⟨u, v, rfl, hu, hv⟩ := two_args hvs
      obtain ⟨h1, h2, h3⟩ := limL_rd hx hu.rd hf
      obtain ⟨h4, h5, h6⟩ := limL_rd hy hv.rd hf
      refine (natCmp_any u v l m w h1 h4 (by omega) h3 (by omega) h6).mono ?_
      rintro e w' ⟨rfl, hbl⟩
      exact ⟨_, _, rfl, ext_all hf hbl, .f (.v _ rfl)⟩
    · cases hs
  · cases hs
theorem cSubN : Contract Tryz.prog E 105 sSubL := by
  intro xs p r hs hp w H vs hf hE hvs
  unfold sSubL at hs
  split at hs
  · rename_i x y
    split at hs
    · rename_i l k m j hx hy
      cases hs
      obtain ⟨hk, hj⟩ := hp _ rfl
      obtain ⟨u, v, rfl, hu, hv⟩ := two_args hvs
      obtain ⟨h1, h2, h3⟩ := limL_rd hx hu.rd hf
      obtain ⟨h4, h5, h6⟩ := limL_rd hy hv.rd hf
      refine (natSub_any u v l m w h1 h4 (by omega) h3 (by omega) h6).mono ?_
      rintro e w' ⟨u', rfl, ho, hbl⟩
      refine ⟨_, _, rfl, ext_all hf hbl, .tup rfl fun i v x hv hx => ?_⟩
      match i with
      | 0 => simp at hv hx; subst hv hx; exact own_lP ho ((zb_vB h3 h2).leN (Nat.sub_le _ _))
      | 1 => simp at hv hx; subst hv hx; exact .f (.v _ rfl)
      | i + 2 => simp at hv
    · cases hs
  · cases hs
theorem cDivN : Contract Tryz.prog E 65 sDivL := by
  intro xs p r hs hp w H vs hf hE hvs
  unfold sDivL at hs
  split at hs
  · rename_i x y
    split at hs
    · rename_i l k m j hx hy
      cases hs
      obtain ⟨hk, hj, h0⟩ := hp _ rfl
      obtain ⟨u, v, rfl, hu, hv⟩ := two_args hvs
      obtain ⟨h1, h2, h3⟩ := limL_rd hx hu.rd hf
      obtain ⟨h4, h5, h6⟩ := limL_rd hy hv.rd hf
      refine (natDivMod_pos u v l m w h1 h4 (by omega) h3 (by omega) h6 (Nat.pos_of_ne_zero h0)).mono ?_
      rintro e w' ⟨q, s, rfl, ho, ho2, hbl⟩
      refine ⟨_, _, rfl, ext_all hf hbl, .tup rfl fun i v x hv hx => ?_⟩
      match i with
      | 0 => simp at hv hx; subst hv hx; exact own_lP ho ((zb_vB h3 h2).leN (Nat.div_le_self _ _))
      | 1 => simp at hv hx; subst hv hx; exact own_lP ho2 ((zb_vB h6 h5).leN (Nat.le_of_lt (Nat.mod_lt _ (Nat.pos_of_ne_zero h0))))
      | 2 => simp at hv hx; subst hv hx; exact .f (.v _ rfl)
      | i + 3 => simp at hv
    · cases hs
  · cases hs
end

end Go.Proofs.YtjfncepmpabcnaaGreatDoor

namespace Go.Proofs.YtjfncepmpabcnaaGreatDoor
open Go.RowKit
set_option linter.unusedVariables false
set_option maxRecDepth 100000

/-- A number at work: its limbs, is it below 0? -/
def nP (z : Int) (k : Nat) : PV := .agg [.f (.zd z k), .f (.zn z)]
def sZeroN : Spec
  | [.agg [.f x]] => match limL x with
    | some (l, k) => some (none, .one (.f (.v (.bool (((l.length : Nat) : Int) == 0)))))
    | none => none
  | _ => none
def sMade : Spec
  | [.f x, .f (.v (.bool n))] => match limL x with
    | some (l, k) => some (some (k ≤ 1000000), .nm Int (zV n l) fun z => nP z (k + 1))
    | none => none
  | _ => none
def sOfN2 : Spec
  | [x] => match pvR x with
    | some ((n, l), k, j) => some (some (k ≤ 1000000), .nm Int (zV n l) fun z => nP z (k + 1))
    | none => none
  | _ => none
theorem sub_zda {a b : Int} {k : Nat} (h : a.natAbs = b.natAbs) : Sub (.f (.zd a k)) (.f (.zd b k)) := ⟨fun H v hv => by
  have hr := hv.rd
  have hg : ZB a k := hr.good'
  refine .f ?_
  cases hr with
  | sl hv2 hgd hc hm h0 bb o val hb hcell hkk hrec => exact .sl (f := .zd b k) (by rw [← hv2]; simp only [Lf.view, h]) (show ZB b k by unfold ZB at hg ⊢; rw [← h]; exact hg) hc hm h0 bb o val hb hcell hkk hrec⟩
theorem nP_sub {a z : Int} {b : Bool} {k : Nat} (hz : a.natAbs = z.natAbs) (hb : b = zNeg z) : Sub (.agg [.f (.zd a k), .f (.v (.bool b))]) (.agg [.f (.zd z k), .f (.zn z)]) := by
  subst hb
  refine ⟨fun H v hv => ?_⟩
  obtain ⟨vs, rfl, h1⟩ := PRs.of_agg hv
  match vs, h1.1 with
  | [p, q], _ =>
    have a1 := (h1.2 1 _ _ rfl rfl).val
    subst a1
    exact (PRs.cons ((sub_zda hz).out _ _ (h1.2 0 _ _ rfl rfl)) (.cons (.f (.zn _)) .nil)).agg
theorem len_zero (n : Nat) : (((digs 1000000000 n).length : Int) == 0) = decide (n = 0) := by
  rw [Bool.eq_iff_iff, beq_iff_eq, decide_eq_true_eq]
  constructor
  · intro h
    have h1 := val_digs 1000000000 (by omega) n
    rw [List.length_eq_zero_iff.1 (show (digs 1000000000 n).length = 0 by omega)] at h1
    exact h1.symm
  · intro h; subst h; rw [digs_zero]; rfl
def sTurned : Spec
  | [.agg [.f (.zd z k), .f (.zn z')]] => some (some (z = z'), .nm Int (-z) fun y => nP y k)
  | _ => none
def sOutN : Spec
  | [.agg [.f (.zd z k), .f (.zn z')]] => some (some (z = z'), .one (zP z k))
  | _ => none
def sCmpS : Spec
  | [.agg [.f (.zd z k)], .agg [.f (.zd z' k')]] => some (some (k ≤ 100000 ∧ k' ≤ 100000), .one (.f (.v (.int .i64 (cmpI (z.natAbs : Nat) (z'.natAbs : Nat))))))
  | _ => none
def sPlusN (Q : Int → Int → Prop) : Spec
  | [.agg [.f (.zd a k), .f (.zn z)], .agg [.f (.zd a' k'), .f (.zn z')]] => some (some (a = z ∧ a' = z' ∧ k + k' ≤ 45000 ∧ Q z z'), .nm Int (z + z') fun y => nP y (k + k' + 1))
  | _ => none
theorem cPlusNo {E : World → Hp → Prop} : Contract Tryz.prog E 55 (sPlusN (fun _ _ => False)) := by
  intro xs p r hs hp
  unfold sPlusN at hs
  split at hs
  · cases hs
    exact (hp _ rfl).2.2.2.elim
  · cases hs
theorem vB_dgs (n : Nat) : vB (digs 1000000000 n) = n := val_digs 1000000000 (by omega) n
theorem zV_dgs (neg : Bool) (n : Nat) : zV neg (digs 1000000000 n) = zOf neg n := by unfold zV; rw [val_digs _ (by omega)]
theorem nP_less {z : Int} {k k' : Nat} (h : ZB z k') : Sub (nP z k) (nP z k') := by
  refine ⟨fun H v hv => ?_⟩
  obtain ⟨vs, rfl, h1⟩ := PRs.of_agg hv
  match vs, h1.1 with
  | [p, q], _ => exact (PRs.cons ((sub_zd h).out _ _ (h1.2 0 _ _ rfl rfl)) (.cons (h1.2 1 _ _ rfl rfl) .nil)).agg
section
variable {E : World → Hp → Prop} (hU : Up E)
include hU
theorem cZeroN : Contract Tryz.prog E 64 sZeroN := by
  refine contract_loopsG [] Tryz.ntmps64 Tryz.func64 (by kernel_rfl) (by kernel_rfl) hU trivial ?_
  intro xs p r hs hp
  unfold sZeroN at hs
  split at hs
  · rename_i x
    split at hs
    · rename_i l k hx
      cases hs
      refine ⟨[.agg [.f (.lr l k)]], [], .cons ⟨fun H v hv => by
        obtain ⟨vs, rfl, h1⟩ := PRs.of_agg hv
        match vs, h1.1 with
        | [p], _ => exact (PRs.cons ((limL_sub hx).out _ _ (h1.2 0 _ _ rfl rfl)) .nil).agg⟩ .nil, rfl, fun hgx hg => ?_⟩
      refine cast_rfl (p := true = true ∧ Sub (PV.f (Lf.v (Value.bool ((↑l.length : Int) == (0 : Int))))) (PV.f (Lf.v (Value.bool ((↑l.length : Int) == (0 : Int)))))) (by kernel_rfl) ?_
      refine ⟨rfl, ?m0⟩
      case m0 => exact .refl _
    · cases hs
  · cases hs
theorem cMade : Contract Tryz.prog E 66 sMade := by
  refine contract_loopsG [(115, sTrimL), (64, sZeroN)] Tryz.ntmps66 Tryz.func66 (by kernel_rfl) (by kernel_rfl) hU ⟨cTrimN, cZeroN hU, trivial⟩ ?_
  intro xs p r hs hp
  unfold sMade at hs
  split at hs
  · rename_i x n
    split at hs
    · rename_i l k hx
      cases hs
      have hk := hp _ rfl
      refine ⟨[.f (.lr l k), .f (.v (.bool n))], [], .cons (limL_sub hx) (.cons (.refl _) .nil), rfl, fun hgx hg => ?_⟩
      refine cast_rfl (p := k ≤ 1000000 ∧ ∀ (z1 : Nat), z1 = vB l → ifB n (true = true ∧ Sub (PV.agg [PV.f (Lf.zd (↑z1 : Int) (k + 1)), PV.f (Lf.v (Value.bool !(↑(digs 1000000000 (↑z1 : Int).natAbs).length : Int) == (0 : Int)))]) (PV.agg [PV.f (Lf.zd (zV n l) (k + 1)), PV.f (Lf.zn (zV n l))])) (true = true ∧ Sub (PV.agg [PV.f (Lf.zd (↑z1 : Int) (k + 1)), PV.f (Lf.v (Value.bool false))]) (PV.agg [PV.f (Lf.zd (zV n l) (k + 1)), PV.f (Lf.zn (zV n l))]))) (by kernel_rfl) ?_
      refine ⟨?s0, fun z1 => fun hz1 => ifB_iff.2 ⟨fun hb0 => ⟨rfl, ?m0⟩, fun hb0 => ⟨rfl, ?m1⟩⟩⟩
      case s0 => exact hk
      case m0 =>
        subst hb0
        rw [show zV true l = zOf true (vB l) from rfl, ← hz1, zOf_true]
        refine nP_sub (by rw [Int.natAbs_neg]) ?_
        rw [Int.natAbs_natCast, len_zero]
        unfold zNeg
        rw [Bool.eq_iff_iff, Bool.not_eq_true', decide_eq_false_iff_not, decide_eq_true_eq]
        omega
      case m1 =>
        subst hb0
        rw [show zV false l = zOf false (vB l) from rfl, ← hz1, zOf_false]
        exact nP_sub rfl (by unfold zNeg; rw [decide_eq_false (by omega)])
    · cases hs
  · cases hs
theorem cOfN2 : Contract Tryz.prog E 95 sOfN2 := by
  refine contract_loopsG [(66, sMade)] Tryz.ntmps95 Tryz.func95 (by kernel_rfl) (by kernel_rfl) hU ⟨cMade hU, trivial⟩ ?_
  intro xs p r hs hp
  unfold sOfN2 at hs
  split at hs
  · rename_i x
    split at hs
    · rename_i n l k j hx
      cases hs
      have hk := hp _ rfl
      refine ⟨[rawP n l k], [], .cons (sub_raw hx) .nil, rfl, fun hgx hg => ?_⟩
      refine cast_rfl (p := k ≤ 1000000 ∧ ∀ (z1 : Int), z1 = zV n l → true = true ∧ Sub (PV.agg [PV.f (Lf.zd z1 (k + 1)), PV.f (Lf.zn z1)]) (PV.agg [PV.f (Lf.zd (zV n l) (k + 1)), PV.f (Lf.zn (zV n l))])) (by kernel_rfl) ?_
      refine ⟨?s0, fun z1 => fun hz1 => ⟨rfl, ?m0⟩⟩
      case s0 => exact hk
      case m0 => subst hz1; exact .refl _
    · cases hs
  · cases hs
theorem cTurned : Contract Tryz.prog E 98 sTurned := by
  refine contract_loopsG [(64, sZeroN)] Tryz.ntmps98 Tryz.func98 (by kernel_rfl) (by kernel_rfl) hU ⟨cZeroN hU, trivial⟩ ?_
  intro xs p r hs hp
  unfold sTurned at hs
  split at hs
  · rename_i z k z'
    cases hs
    obtain rfl := hp _ rfl
    refine ⟨[nP z k], [], .cons (.refl _) .nil, rfl, fun hgx hg => ?_⟩
    refine cast_rfl (p := ifB (!zNeg z) (true = true ∧ Sub (PV.agg [PV.f (Lf.zd z k), PV.f (Lf.v (Value.bool !(↑(digs 1000000000 z.natAbs).length : Int) == (0 : Int)))]) (PV.agg [PV.f (Lf.zd (-z) k), PV.f (Lf.zn (-z))])) (true = true ∧ Sub (PV.agg [PV.f (Lf.zd z k), PV.f (Lf.v (Value.bool false))]) (PV.agg [PV.f (Lf.zd (-z) k), PV.f (Lf.zn (-z))]))) (by kernel_rfl) ?_
    refine ifB_iff.2 ⟨fun hb0 => ⟨rfl, ?m0⟩, fun hb0 => ⟨rfl, ?m1⟩⟩
    case m0 =>
      refine nP_sub (by rw [Int.natAbs_neg]) ?_
      have h1 : zNeg z = false := by simpa using hb0
      rw [len_zero]
      unfold zNeg at h1 ⊢
      rw [decide_eq_false_iff_not] at h1
      rw [Bool.eq_iff_iff, Bool.not_eq_true', decide_eq_false_iff_not, decide_eq_true_eq]
      omega
    case m1 =>
      refine nP_sub (by rw [Int.natAbs_neg]) ?_
      have h1 : zNeg z = true := by simpa using hb0
      rw [zNeg_iff] at h1
      unfold zNeg
      rw [decide_eq_false (by omega)]
  · cases hs
theorem cOutN : Contract Tryz.prog E 81 sOutN := by
  refine contract_loopsG [] Tryz.ntmps81 Tryz.func81 (by kernel_rfl) (by kernel_rfl) hU trivial ?_
  intro xs p r hs hp
  unfold sOutN at hs
  split at hs
  · rename_i z k z'
    cases hs
    obtain rfl := hp _ rfl
    refine ⟨[nP z k], [], .cons (.refl _) .nil, rfl, fun hgx hg => ?_⟩
    refine cast_rfl (p := true = true ∧ Sub (PV.agg [PV.f (Lf.v (Value.bool (zNeg z))), PV.f (Lf.zd z k)]) (PV.agg [PV.f (Lf.zn z), PV.f (Lf.zd z k)])) (by kernel_rfl) ?_
    refine ⟨rfl, ?m0⟩
    case m0 =>
      refine ⟨fun H v hv => ?_⟩
      obtain ⟨vs, rfl, h1⟩ := PRs.of_agg hv
      match vs, h1.1 with
      | [p, q], _ =>
        have a0 := (h1.2 0 _ _ rfl rfl).val
        subst a0
        exact (PRs.cons (.f (.zn _)) (.cons (h1.2 1 _ _ rfl rfl) .nil)).agg
  · cases hs
theorem cCmpS : Contract Tryz.prog E 104 sCmpS := by
  refine contract_loopsG [(137, sCmpN)] Tryz.ntmps104 Tryz.func104 (by kernel_rfl) (by kernel_rfl) hU ⟨cCmpN, trivial⟩ ?_
  intro xs p r hs hp
  unfold sCmpS at hs
  split at hs
  · rename_i z k z' k'
    cases hs
    obtain ⟨h1, h2⟩ := hp _ rfl
    refine ⟨[.agg [.f (.zd z k)], .agg [.f (.zd z' k')]], [], .cons (.refl _) (.cons (.refl _) .nil), rfl, fun hgx hg => ?_⟩
    refine cast_rfl (p := (k ≤ 1000000 ∧ k' ≤ 1000000) ∧ true = true ∧ Sub (PV.f (Lf.v (Value.int IntKind.i64 (cmpI (↑(vB (digs 1000000000 z.natAbs)) : Int) (↑(vB (digs 1000000000 z'.natAbs)) : Int))))) (PV.f (Lf.v (Value.int IntKind.i64 (cmpI (↑z.natAbs : Int) (↑z'.natAbs : Int)))))) (by kernel_rfl) ?_
    refine ⟨?s0, ⟨rfl, ?m0⟩⟩
    case s0 => exact ⟨by omega, by omega⟩
    case m0 => rw [vB_dgs, vB_dgs]; exact .refl _
  · cases hs
theorem cPlusGe : Contract Tryz.prog E 55 (sPlusN (fun z z' => zNeg z = zNeg z' ∨ z'.natAbs ≤ z.natAbs)) := by
  refine contract_loopsG [(103, sAddL), (66, sMade), (104, sCmpS), (105, sSubL), (55, sPlusN (fun _ _ => False))] Tryz.ntmps55 Tryz.func55 (by kernel_rfl) (by kernel_rfl) hU ⟨cAddN, cMade hU, cCmpS hU, cSubN, cPlusNo, trivial⟩ ?_
  intro xs p r hs hp
  unfold sPlusN at hs
  split at hs
  · rename_i a k z a' k' z'
    cases hs
    obtain ⟨rfl, rfl, hk, hq⟩ := hp _ rfl
    refine ⟨[nP a k, nP a' k'], [], .cons (.refl _) (.cons (.refl _) .nil), rfl, fun hgx hg => ?_⟩
    refine cast_rfl (p := ifB (zNeg a == zNeg a') (sizeL [(digs 1000000000 a.natAbs, k), (digs 1000000000 a'.natAbs, k')] ≤ 100000 ∧ ∀ (z1 : Nat), z1 = sumL' [(digs 1000000000 a.natAbs, k), (digs 1000000000 a'.natAbs, k')] 0 → sizeL [(digs 1000000000 a.natAbs, k), (digs 1000000000 a'.natAbs, k')] ≤ 1000000 ∧ ∀ (z2 : Int), z2 = zV (zNeg a) (digs 1000000000 (↑z1 : Int).natAbs) → true = true ∧ Sub (PV.agg [PV.f (Lf.zd z2 (sizeL [(digs 1000000000 a.natAbs, k), (digs 1000000000 a'.natAbs, k')] + 1)), PV.f (Lf.zn z2)]) (PV.agg [PV.f (Lf.zd (a + a') (k + k' + 1)), PV.f (Lf.zn (a + a'))])) ((k ≤ 100000 ∧ k' ≤ 100000) ∧ ifB (decide (cmpI (↑a.natAbs : Int) (↑a'.natAbs : Int) < (0 : Int))) ((a' = a' ∧ a = a ∧ k' + k ≤ 45000 ∧ False) ∧ ∀ (z1 : Int), z1 = a' + a → true = true ∧ Sub (PV.agg [PV.f (Lf.zd z1 (k' + k + 1)), PV.f (Lf.zn z1)]) (PV.agg [PV.f (Lf.zd (a + a') (k + k' + 1)), PV.f (Lf.zn (a + a'))])) ((k ≤ 100000 ∧ k' ≤ 100000) ∧ ∀ (z1 : Nat), z1 = vB (digs 1000000000 a.natAbs) - vB (digs 1000000000 a'.natAbs) → k + 1 ≤ 1000000 ∧ ∀ (z2 : Int), z2 = zV (zNeg a) (digs 1000000000 (↑z1 : Int).natAbs) → true = true ∧ Sub (PV.agg [PV.f (Lf.zd z2 (k + 1 + 1)), PV.f (Lf.zn z2)]) (PV.agg [PV.f (Lf.zd (a + a') (k + k' + 1)), PV.f (Lf.zn (a + a'))])))) (by kernel_rfl) ?_
    refine ifB_iff.2 ⟨fun hb0 => ⟨?s0, fun z1 => fun hz1 => ⟨?s1, fun z2 => fun hz2 => ⟨rfl, ?m0⟩⟩⟩, fun hb0 => ⟨?s2, ifB_iff.2 ⟨fun hb1 => ⟨?s3, fun z1 => fun hz1 => ⟨rfl, ?m1⟩⟩, fun hb1 => ⟨?s4, fun z1 => fun hz1 => ⟨?s5, fun z2 => fun hz2 => ⟨rfl, ?m2⟩⟩⟩⟩⟩⟩
    all_goals have hA : ZB a k := hgx.1.1.1
    all_goals have hB : ZB a' k' := hgx.2.1.1.1
    all_goals (try simp only [sizeL, sumL', vB_dgs, Nat.zero_add] at *)
    all_goals first | omega | exact ⟨by omega, by omega⟩ | skip
    case m0 =>
      have h1 : zNeg a = zNeg a' := by simpa using hb0
      have : z2 = a + a' := by
        rw [hz2, Int.natAbs_natCast, zV_dgs, hz1, zOf_add, zOf_self, h1, zOf_self]
      subst this
      exact nP_less (hA.add hB)
    case s3 =>
      rcases hq with h | h
      · rw [h] at hb0; simp at hb0
      · exact absurd (of_decide_eq_true hb1) (fun hc => by
          rcases Int.lt_trichotomy (a.natAbs : Int) (a'.natAbs : Int) with h2 | h2 | h2
          · omega
          · rw [cmpI_eq h2] at hc; exact absurd hc (by decide)
          · rw [cmpI_gt h2] at hc; exact absurd hc (by decide))
    case m1 =>
      have : z1 = a + a' := by omega
      subst this
      exact nP_less (hA.add hB)
    case m2 =>
      have h1 : zNeg a ≠ zNeg a' := by simpa using hb0
      have hl : a'.natAbs ≤ a.natAbs := by
        rcases hq with h | h
        · exact absurd h h1
        · exact h
      have : z2 = a + a' := by
        rw [hz2, Int.natAbs_natCast, zV_dgs, hz1, plus_other h1 hl]
      subst this
      exact nP_less (hA.add hB)
  · cases hs
theorem cPlusN : Contract Tryz.prog E 55 (sPlusN (fun _ _ => True)) := by
  refine contract_loopsG [(103, sAddL), (66, sMade), (104, sCmpS), (105, sSubL), (55, sPlusN (fun z z' => zNeg z = zNeg z' ∨ z'.natAbs ≤ z.natAbs))] Tryz.ntmps55 Tryz.func55 (by kernel_rfl) (by kernel_rfl) hU ⟨cAddN, cMade hU, cCmpS hU, cSubN, cPlusGe hU, trivial⟩ ?_
  intro xs p r hs hp
  unfold sPlusN at hs
  split at hs
  · rename_i a k z a' k' z'
    cases hs
    obtain ⟨rfl, rfl, hk, hq⟩ := hp _ rfl
    refine ⟨[nP a k, nP a' k'], [], .cons (.refl _) (.cons (.refl _) .nil), rfl, fun hgx hg => ?_⟩
    refine cast_rfl (p := ifB (zNeg a == zNeg a') (sizeL [(digs 1000000000 a.natAbs, k), (digs 1000000000 a'.natAbs, k')] ≤ 100000 ∧ ∀ (z1 : Nat), z1 = sumL' [(digs 1000000000 a.natAbs, k), (digs 1000000000 a'.natAbs, k')] 0 → sizeL [(digs 1000000000 a.natAbs, k), (digs 1000000000 a'.natAbs, k')] ≤ 1000000 ∧ ∀ (z2 : Int), z2 = zV (zNeg a) (digs 1000000000 (↑z1 : Int).natAbs) → true = true ∧ Sub (PV.agg [PV.f (Lf.zd z2 (sizeL [(digs 1000000000 a.natAbs, k), (digs 1000000000 a'.natAbs, k')] + 1)), PV.f (Lf.zn z2)]) (PV.agg [PV.f (Lf.zd (a + a') (k + k' + 1)), PV.f (Lf.zn (a + a'))])) ((k ≤ 100000 ∧ k' ≤ 100000) ∧ ifB (decide (cmpI (↑a.natAbs : Int) (↑a'.natAbs : Int) < (0 : Int))) ((a' = a' ∧ a = a ∧ k' + k ≤ 45000 ∧ (zNeg a' = zNeg a ∨ a.natAbs ≤ a'.natAbs)) ∧ ∀ (z1 : Int), z1 = a' + a → true = true ∧ Sub (PV.agg [PV.f (Lf.zd z1 (k' + k + 1)), PV.f (Lf.zn z1)]) (PV.agg [PV.f (Lf.zd (a + a') (k + k' + 1)), PV.f (Lf.zn (a + a'))])) ((k ≤ 100000 ∧ k' ≤ 100000) ∧ ∀ (z1 : Nat), z1 = vB (digs 1000000000 a.natAbs) - vB (digs 1000000000 a'.natAbs) → k + 1 ≤ 1000000 ∧ ∀ (z2 : Int), z2 = zV (zNeg a) (digs 1000000000 (↑z1 : Int).natAbs) → true = true ∧ Sub (PV.agg [PV.f (Lf.zd z2 (k + 1 + 1)), PV.f (Lf.zn z2)]) (PV.agg [PV.f (Lf.zd (a + a') (k + k' + 1)), PV.f (Lf.zn (a + a'))])))) (by kernel_rfl) ?_
    refine ifB_iff.2 ⟨fun hb0 => ⟨?s0, fun z1 => fun hz1 => ⟨?s1, fun z2 => fun hz2 => ⟨rfl, ?m0⟩⟩⟩, fun hb0 => ⟨?s2, ifB_iff.2 ⟨fun hb1 => ⟨?s3, fun z1 => fun hz1 => ⟨rfl, ?m1⟩⟩, fun hb1 => ⟨?s4, fun z1 => fun hz1 => ⟨?s5, fun z2 => fun hz2 => ⟨rfl, ?m2⟩⟩⟩⟩⟩⟩
    all_goals have hA : ZB a k := hgx.1.1.1
    all_goals have hB : ZB a' k' := hgx.2.1.1.1
    all_goals (try simp only [sizeL, sumL', vB_dgs, Nat.zero_add] at *)
    all_goals first | omega | exact ⟨by omega, by omega⟩ | skip
    case m0 =>
      have h1 : zNeg a = zNeg a' := by simpa using hb0
      have : z2 = a + a' := by
        rw [hz2, Int.natAbs_natCast, zV_dgs, hz1, zOf_add, zOf_self, h1, zOf_self]
      subst this
      exact nP_less (hA.add hB)
    case s3 =>
      refine ⟨trivial, trivial, by omega, .inr ?_⟩
      rcases Int.lt_trichotomy (a.natAbs : Int) (a'.natAbs : Int) with h2 | h2 | h2
      · omega
      · omega
      · have hc := of_decide_eq_true hb1
        rw [cmpI_gt h2] at hc; exact absurd hc (by decide)
    case m1 =>
      have : z1 = a + a' := by omega
      subst this
      exact nP_less (hA.add hB)
    case m2 =>
      have h1 : zNeg a ≠ zNeg a' := by simpa using hb0
      have hl : a'.natAbs ≤ a.natAbs := by
        rcases Int.lt_trichotomy (a.natAbs : Int) (a'.natAbs : Int) with h2 | h2 | h2
        · have hc := of_decide_eq_false hb1
          rw [cmpI_lt h2] at hc; exact absurd (by decide) hc
        · omega
        · omega
      have : z2 = a + a' := by
        rw [hz2, Int.natAbs_natCast, zV_dgs, hz1, plus_other h1 hl]
      subst this
      exact nP_less (hA.add hB)
  · cases hs
end

end Go.Proofs.YtjfncepmpabcnaaGreatDoor

namespace Go.Proofs.YtjfncepmpabcnaaGreatDoor
open Go.RowKit
set_option linter.unusedVariables false
set_option maxRecDepth 100000

def sSmall : Spec
  | [.f (.v (.int .u64 N)), .f (.v (.bool b))] => some (some (0 ≤ N ∧ N < 18446744073709551616), .nm Int (zOf b N.toNat) fun z => nP z 3)
  | _ => none
theorem wU64 (n : Int) (h0 : 0 ≤ n) (h1 : n < 18446744073709551616) : IntKind.u64.wrap n = n := by simp [IntKind.wrap, IntKind.bits, IntKind.signed]; omega
section
variable {E : World → Hp → Prop} (hU : Up E)
include hU
theorem cSmall : Contract Tryz.prog E 59 sSmall := by
  refine contract_loopsG [(66, lentS sMade)] Tryz.ntmps59 Tryz.func59 (by kernel_rfl) (by kernel_rfl) hU ⟨(cMade hU).lent, trivial⟩ ?_
  intro xs p r hs hp
  unfold sSmall at hs
  split at hs
  · rename_i N b
    cases hs
    obtain ⟨h0, h1⟩ := hp _ rfl
    refine ⟨[.f (.v (.int .u64 N)), .f (.v (.bool b))], [(2, .s ⟨List Nat × Nat, fun x => ⟨[(0, .f (.v (.int .u64 (x.2 : Nat)))), (1, .f (.v (.bool b))), (4, .bp 0 0), (5, .tl 1 (.is .u32 (iN x.1)))], [.cells [.f (.v (.slice none 0 0)), .f (.v (.bool false))], .tail 103 1]⟩,
      fun x => N.toNat = val 1000000000 x.1 + 1000000000 ^ x.1.length * x.2 ∧ (∀ y ∈ x.1, y < 1000000000) ∧ x.1.length ≤ 64 ∧ x.2 < 18446744073709551616 ∧ (0 < x.2 → 1000000000 ^ x.1.length ≤ N.toNat), fun x => x.2⟩)], .cons (.refl _) (.cons (.refl _) .nil), rfl, fun hgx hg => ?_⟩
    refine cast_rfl (p := ∃ (x1 : List Nat × Nat), (((SubB (PV.f (Lf.v (Value.slice none 0 0))) (PV.f (Lf.v (Value.slice none 0 0))) ∧ SubB (PV.f (Lf.v (Value.bool false))) (PV.f (Lf.v (Value.bool false))) ∧ True) ∧ True) ∧ SubB (PV.f (Lf.v (Value.int IntKind.u64 N))) (PV.f (Lf.v (Value.int IntKind.u64 (↑x1.snd : Int)))) ∧ SubB (PV.f (Lf.v (Value.bool b))) (PV.f (Lf.v (Value.bool b))) ∧ SubB (PV.bp 0 0) (PV.bp 0 0) ∧ emptyT (PV.tl 1 (Lf.is IntKind.u32 (iN x1.fst))) ∧ True) ∧ (N.toNat = val 1000000000 x1.fst + 1000000000 ^ x1.fst.length * x1.snd ∧ (∀ (y : Nat), y ∈ x1.fst → y < 1000000000) ∧ x1.fst.length ≤ 64 ∧ x1.snd < 18446744073709551616 ∧ (0 < x1.snd → 1000000000 ^ x1.fst.length ≤ N.toNat)) ∧ True ∧ ∀ (z2 : List Nat × Nat), N.toNat = val 1000000000 z2.fst + 1000000000 ^ z2.fst.length * z2.snd ∧ (∀ (y : Nat), y ∈ z2.fst → y < 1000000000) ∧ z2.fst.length ≤ 64 ∧ z2.snd < 18446744073709551616 ∧ (0 < z2.snd → 1000000000 ^ z2.fst.length ≤ N.toNat) → True → ifB (decide ((↑z2.snd : Int) > (0 : Int))) (((iN z2.fst).length + 1 ≤ 9223372036854775807 ∧ ((iN z2.fst).length + 1) * 4 ≤ 140737488355328) ∧ ∃ (x3 : List Nat × Nat), (((SubB (PV.f (Lf.v (Value.slice none 0 0))) (PV.f (Lf.v (Value.slice none 0 0))) ∧ SubB (PV.f (Lf.v (Value.bool false))) (PV.f (Lf.v (Value.bool false))) ∧ True) ∧ (103 = 103 ∧ 1 = 1) ∧ True) ∧ SubB (PV.f (Lf.v (Value.int IntKind.u64 (IntKind.u64.wrap ((↑z2.snd : Int).tdiv (1000000000 : Int)))))) (PV.f (Lf.v (Value.int IntKind.u64 (↑x3.snd : Int)))) ∧ SubB (PV.f (Lf.v (Value.bool b))) (PV.f (Lf.v (Value.bool b))) ∧ SubB (PV.bp 0 0) (PV.bp 0 0) ∧ SubB (PV.tl 1 (Lf.is IntKind.u32 (iN z2.fst ++ [IntKind.u32.wrap ((↑z2.snd : Int).tmod (1000000000 : Int))]))) (PV.tl 1 (Lf.is IntKind.u32 (iN x3.fst))) ∧ True) ∧ (N.toNat = val 1000000000 x3.fst + 1000000000 ^ x3.fst.length * x3.snd ∧ (∀ (y : Nat), y ∈ x3.fst → y < 1000000000) ∧ x3.fst.length ≤ 64 ∧ x3.snd < 18446744073709551616 ∧ (0 < x3.snd → 1000000000 ^ x3.fst.length ≤ N.toNat)) ∧ True ∧ x3.snd.succ.le z2.snd) ((((∀ (x : Int), x ∈ iN z2.fst → (0 : Int) ≤ x ∧ x < (4294967296 : Int)) ∧ True ∧ True) ∧ (iN z2.fst).length ≤ 1000000) ∧ ∀ (z3 : Int), z3 = zV b (List.map Int.toNat (iN z2.fst)) → true = true ∧ Sub (PV.agg [PV.f (Lf.zd z3 ((iN z2.fst).length + 1)), PV.f (Lf.zn z3)]) (PV.agg [PV.f (Lf.zd (zOf b N.toNat) 3), PV.f (Lf.zn (zOf b N.toNat))]))) (by kernel_rfl) ?_
    refine ⟨?x0, ⟨?s0, ⟨?s1, ⟨trivial, fun z2 => fun hq0 => fun _ => ifB_iff.2 ⟨fun hb1 => ⟨?s2, ⟨?x1, ⟨⟨⟨⟨.refl _, ⟨.refl _, trivial⟩⟩, ⟨⟨rfl, rfl⟩, trivial⟩⟩, ⟨?m0, ⟨.refl _, ⟨.refl _, ⟨?m1, trivial⟩⟩⟩⟩⟩, ⟨?s3, ⟨trivial, ?m2⟩⟩⟩⟩⟩, fun hb1 => ⟨?s4, fun z3 => fun hz3 => ⟨rfl, ?m3⟩⟩⟩⟩⟩⟩⟩
    case x0 => exact ([], N.toNat)
    case x1 => exact (z2.1 ++ [z2.2 % 1000000000], z2.2 / 1000000000)
    case s0 => exact ⟨⟨⟨.refl _, .refl _, trivial⟩, trivial⟩, subB_int (by show N = (N.toNat : Int); omega), .refl _, .refl _, rfl, trivial⟩
    case s1 => exact ⟨by simp [val], by simp, by simp, by omega, fun h => by simp at h ⊢; omega⟩
    all_goals obtain ⟨q1, q2, q3, q4, q5⟩ := hq0
    case s2 => rw [iN_len]; exact ⟨by omega, by omega⟩
    case m0 =>
      refine subB_int ?_
      rw [show ((z2.2 : Nat) : Int).tdiv 1000000000 = ((z2.2 / 1000000000 : Nat) : Int) from rfl]
      exact wU64 _ (by omega) (by omega)
    case m1 =>
      refine subB_tl ?_
      rw [show ((z2.2 : Nat) : Int).tmod 1000000000 = ((z2.2 % 1000000000 : Nat) : Int) from rfl, wU _ (by omega) (by omega)]
      simp [iN]
    case s3 =>
      have h1 := of_decide_eq_true hb1
      have h2 := q5 (by omega)
      have h3 : z2.1.length ≤ 2 := by
        refine Decidable.byContradiction fun hc => ?_
        have := Nat.pow_le_pow_right (n := 1000000000) (by omega) (show 3 ≤ z2.1.length by omega)
        omega
      have h4 : z2.2 = z2.2 % 1000000000 + 1000000000 * (z2.2 / 1000000000) := by omega
      have h5 : N.toNat = val 1000000000 (z2.1 ++ [z2.2 % 1000000000]) + 1000000000 ^ (z2.1 ++ [z2.2 % 1000000000]).length * (z2.2 / 1000000000) := by
        rw [val_append, List.length_append, List.length_singleton, Nat.pow_succ, q1]
        conv => lhs; rw [h4]
        simp only [val, Nat.mul_zero, Nat.add_zero]
        rw [Nat.mul_add, Nat.mul_assoc]
        omega
      refine ⟨h5, fun y hy => ?_, by simp; omega, by show z2.2 / 1000000000 < _; omega, fun h6 => ?_⟩
      · rcases List.mem_append.1 hy with hy | hy
        · exact q2 y hy
        · simp at hy; omega
      · have h7 : 1000000000 ^ (z2.1 ++ [z2.2 % 1000000000]).length * 1 ≤ 1000000000 ^ (z2.1 ++ [z2.2 % 1000000000]).length * (z2.2 / 1000000000) := Nat.mul_le_mul_left _ h6
        show 1000000000 ^ (z2.1 ++ [z2.2 % 1000000000]).length ≤ _
        omega
    case m2 => have h1 := of_decide_eq_true hb1; show z2.2 / 1000000000 + 1 ≤ z2.2; omega
    case s4 =>
      refine ⟨⟨fun x hx => ?_, trivial, trivial⟩, by rw [iN_len]; omega⟩
      obtain ⟨y, hy, rfl⟩ := List.mem_map.1 hx
      have := q2 y hy
      have e : Int.ofNat y = (y : Int) := rfl
      exact ⟨by omega, by omega⟩
    case m3 =>
      have h1 := of_decide_eq_false hb1
      have h2 : z2.2 = 0 := by omega
      rw [h2, Nat.mul_zero, Nat.add_zero] at q1
      have h3 : z3 = zOf b N.toNat := by rw [hz3, show List.map Int.toNat (iN z2.1) = z2.1 from map_back z2.1, q1]; rfl
      subst h3
      exact nP_less (by unfold ZB; rw [zOf_abs]; omega)
  · cases hs
theorem cDivN2 : Contract Tryz.prog E 50 sDiv := by
  refine contract_loopsG [(95, sOfN2), (65, sDivL), (66, sMade), (64, sZeroN), (59, sSmall), (55, sPlusN (fun _ _ => True)), (98, sTurned), (81, sOutN)] Tryz.ntmps50 Tryz.func50 (by kernel_rfl) (by kernel_rfl) hU ⟨cOfN2 hU, cDivN, cMade hU, cZeroN hU, cSmall hU, cPlusN hU, cTurned hU, cOutN hU, trivial⟩ ?_
  intro xs p r hs hp
  unfold sDiv at hs
  split at hs
  · rename_i x y
    split at hs
    · rename_i n l k j n' l' k' j' hx hy
      cases hs
      obtain ⟨hk, h0⟩ := hp _ rfl
      refine ⟨[rawP n l k, rawP n' l' k'], [], .cons (sub_raw hx) (.cons (sub_raw hy) .nil), rfl, fun hgx hg => ?_⟩
      obtain ⟨a1, a2, a3⟩ := pvR_good hx hgx.1
      obtain ⟨b1, b2, b3⟩ := pvR_good hy hgx.2.1
      refine cast_rfl (p := k ≤ 1000000 ∧ ∀ (z1 : Int), z1 = zV n l → k' ≤ 1000000 ∧ ∀ (z2 : Int), z2 = zV n' l' → (k + 1 ≤ 100000 ∧ k' + 1 ≤ 100000 ∧ vB (digs 1000000000 z2.natAbs) ≠ 0) ∧ ∀ (z3 : Nat), z3 = vB (digs 1000000000 z1.natAbs) / vB (digs 1000000000 z2.natAbs) → ∀ (z4 : Nat), z4 = vB (digs 1000000000 z1.natAbs) % vB (digs 1000000000 z2.natAbs) → k + 1 + 1 ≤ 1000000 ∧ ∀ (z5 : Int), z5 = zV (!zNeg z1 == zNeg z2) (digs 1000000000 (↑z3 : Int).natAbs) → k' + 1 + 1 ≤ 1000000 ∧ ∀ (z6 : Int), z6 = zV (zNeg z2) (digs 1000000000 (↑z4 : Int).natAbs) → ifB (!zNeg z1 == zNeg z2) (ifB (!(↑(digs 1000000000 z6.natAbs).length : Int) == (0 : Int)) (((0 : Int) ≤ (1 : Int) ∧ (1 : Int) < (18446744073709551616 : Int)) ∧ ∀ (z7 : Int), z7 = zOf true (Int.toNat (1 : Int)) → (z5 = z5 ∧ z7 = z7 ∧ k + 1 + 1 + 1 + 3 ≤ 45000 ∧ True) ∧ ∀ (z8 : Int), z8 = z5 + z7 → z6 = z6 ∧ ∀ (z9 : Int), z9 = -z6 → (z2 = z2 ∧ z9 = z9 ∧ k' + 1 + (k' + 1 + 1 + 1) ≤ 45000 ∧ True) ∧ ∀ (z10 : Int), z10 = z2 + z9 → z8 = z8 ∧ z10 = z10 ∧ true = true ∧ Sub (PV.tup [PV.agg [PV.f (Lf.zn z8), PV.f (Lf.zd z8 (k + 1 + 1 + 1 + 3 + 1))], PV.agg [PV.f (Lf.zn z10), PV.f (Lf.zd z10 (k' + 1 + (k' + 1 + 1 + 1) + 1))], PV.f (Lf.v (Value.int IntKind.i64 (0 : Int)))]) (PV.tup [PV.agg [PV.f (Lf.zn ((zV n l).fdiv (zV n' l'))), PV.f (Lf.zd ((zV n l).fdiv (zV n' l')) (j + 1))], PV.agg [PV.f (Lf.zn ((zV n l).fmod (zV n' l'))), PV.f (Lf.zd ((zV n l).fmod (zV n' l')) j')], PV.f (Lf.v (Value.int IntKind.i64 (0 : Int)))])) (z5 = z5 ∧ z6 = z6 ∧ true = true ∧ Sub (PV.tup [PV.agg [PV.f (Lf.zn z5), PV.f (Lf.zd z5 (k + 1 + 1 + 1))], PV.agg [PV.f (Lf.zn z6), PV.f (Lf.zd z6 (k' + 1 + 1 + 1))], PV.f (Lf.v (Value.int IntKind.i64 (0 : Int)))]) (PV.tup [PV.agg [PV.f (Lf.zn ((zV n l).fdiv (zV n' l'))), PV.f (Lf.zd ((zV n l).fdiv (zV n' l')) (j + 1))], PV.agg [PV.f (Lf.zn ((zV n l).fmod (zV n' l'))), PV.f (Lf.zd ((zV n l).fmod (zV n' l')) j')], PV.f (Lf.v (Value.int IntKind.i64 (0 : Int)))]))) (z5 = z5 ∧ z6 = z6 ∧ true = true ∧ Sub (PV.tup [PV.agg [PV.f (Lf.zn z5), PV.f (Lf.zd z5 (k + 1 + 1 + 1))], PV.agg [PV.f (Lf.zn z6), PV.f (Lf.zd z6 (k' + 1 + 1 + 1))], PV.f (Lf.v (Value.int IntKind.i64 (0 : Int)))]) (PV.tup [PV.agg [PV.f (Lf.zn ((zV n l).fdiv (zV n' l'))), PV.f (Lf.zd ((zV n l).fdiv (zV n' l')) (j + 1))], PV.agg [PV.f (Lf.zn ((zV n l).fmod (zV n' l'))), PV.f (Lf.zd ((zV n l).fmod (zV n' l')) j')], PV.f (Lf.v (Value.int IntKind.i64 (0 : Int)))]))) (by kernel_rfl) ?_
      refine ⟨?s0, fun z1 => fun hz1 => ⟨?s1, fun z2 => fun hz2 => ⟨?s2, fun z3 => fun hz3 => fun z4 => fun hz4 => ⟨?s3, fun z5 => fun hz5 => ⟨?s4, fun z6 => fun hz6 => ifB_iff.2 ⟨fun hb0 => ifB_iff.2 ⟨fun hb1 => ⟨?s5, fun z7 => fun hz7 => ⟨?s6, fun z8 => fun hz8 => ⟨rfl, fun z9 => fun hz9 => ⟨?s7, fun z10 => fun hz10 => ⟨rfl, ⟨rfl, ⟨rfl, ?m0⟩⟩⟩⟩⟩⟩⟩, fun hb1 => ⟨rfl, ⟨rfl, ⟨rfl, ?m1⟩⟩⟩⟩, fun hb0 => ⟨rfl, ⟨rfl, ⟨rfl, ?m2⟩⟩⟩⟩⟩⟩⟩⟩⟩
      case s0 => omega
      case s1 => omega
      all_goals have hb : z2 ≠ 0 := (by rw [hz2]; exact h0)
      case s2 => rw [vB_dgs]; exact ⟨by omega, by omega, by omega⟩
      case s3 => omega
      case s4 => omega
      case s5 => exact ⟨by omega, by omega⟩
      case s6 => exact ⟨rfl, rfl, by omega, trivial⟩
      case s7 => exact ⟨rfl, rfl, by omega, trivial⟩
      all_goals simp only [vB_dgs] at hz3 hz4
      all_goals have h5 : z5 = zOf (zNeg z1 != zNeg z2) (z1.natAbs / z2.natAbs) := (by rw [hz5, Int.natAbs_natCast, zV_dgs, hz3, sgn_bne])
      all_goals have h6 : z6 = zOf (zNeg z2) (z1.natAbs % z2.natAbs) := (by rw [hz6, Int.natAbs_natCast, zV_dgs, hz4])
      all_goals have hZ1 : ZB (Int.fdiv z1 z2) (j + 1) := ZB.fdiv (by rw [hz1]; exact a3) hb
      all_goals have hZ2 : ZB (Int.fmod z1 z2) j' := ZB.fmod (by rw [hz2]; exact b3) hb
      all_goals rw [← hz1, ← hz2]
      case m0 =>
        have hs : zNeg z1 ≠ zNeg z2 := by simpa using hb0
        rw [len_zero, h6, zOf_abs] at hb1
        have hp : 0 < z1.natAbs % z2.natAbs := by simp at hb1; omega
        obtain ⟨e1, e2⟩ := fdm_other hb hs hp
        have e7 : z7 = -1 := hz7
        exact sub_div (by rw [hz8, h5, e7]; exact e1) (by rw [hz10, hz9, h6]; exact e2) hZ1 hZ2
      case m1 =>
        rw [len_zero, h6, zOf_abs] at hb1
        obtain ⟨e1, e2⟩ := fdm_other0 hb (show z1.natAbs % z2.natAbs = 0 by simpa using hb1)
        exact sub_div (h5.trans e1) (h6.trans e2) hZ1 hZ2
      case m2 =>
        obtain ⟨e1, e2⟩ := fdm_same hb (show zNeg z1 = zNeg z2 by simpa using hb0)
        exact sub_div (h5.trans e1) (h6.trans e2) hZ1 hZ2
    · cases hs
  · cases hs
end

end Go.Proofs.YtjfncepmpabcnaaGreatDoor

namespace Go.Proofs.YtjfncepmpabcnaaGreatDoor
open Go.RowKit
set_option linter.unusedVariables false
set_option maxRecDepth 100000

def sTimesN : Spec
  | [.agg [.f (.zd a k), .f (.zn z)], .agg [.f (.zd a' k'), .f (.zn z')]] => some (some (a = z ∧ a' = z' ∧ k + k' ≤ 45000), .nm Int (z * z') fun y => nP y (k + k' + 1))
  | _ => none
def sRightNat : Spec
  | [.f x] => match limL x with
    | some (l, k) => some (some (k ≤ 1000000), .one (.f (.v (.bool (rgtB l)))))
    | none => none
  | _ => none
theorem cRightNat {E : World → Hp → Prop} : Contract Tryz.prog E 120 sRightNat := by
  intro xs p r hs hp w H vs hf hE hvs
  unfold sRightNat at hs
  split at hs
  · rename_i x
    split at hs
    · rename_i l k hx
      cases hs
      have hk := hp _ rfl
      obtain ⟨v, rfl, hv⟩ := one_arg hvs
      obtain ⟨h1, h2, h3⟩ := limL_rd hx hv.rd hf
      refine (natRight_any v l w h1 (by omega)).mono ?_
      rintro e w' ⟨rfl, rfl⟩
      exact ⟨_, _, rfl, Ext.refl hf, .f (.v _ rfl)⟩
    · cases hs
  · cases hs
section
variable {E : World → Hp → Prop} (hU : Up E)
include hU
theorem cNegN : Contract Tryz.prog E 91 sNeg := by
  refine contract_loopsG [(95, sOfN2), (98, sTurned), (81, sOutN)] Tryz.ntmps91 Tryz.func91 (by kernel_rfl) (by kernel_rfl) hU ⟨cOfN2 hU, cTurned hU, cOutN hU, trivial⟩ ?_
  intro xs p r hs hp
  unfold sNeg at hs
  split at hs
  · rename_i x
    split at hs
    · rename_i n l k j hx
      cases hs
      have hk := hp _ rfl
      refine ⟨[rawP n l k], [], .cons (sub_raw hx) .nil, rfl, fun hgx hg => ?_⟩
      obtain ⟨a1, a2, a3⟩ := pvR_good hx hgx.1
      refine cast_rfl (p := k ≤ 1000000 ∧ ∀ (z1 : Int), z1 = zV n l → z1 = z1 ∧ ∀ (z2 : Int), z2 = -z1 → z2 = z2 ∧ true = true ∧ Sub (PV.agg [PV.f (Lf.zn z2), PV.f (Lf.zd z2 (k + 1))]) (PV.agg [PV.f (Lf.zn (-zV n l)), PV.f (Lf.zd (-zV n l) j)])) (by kernel_rfl) ?_
      refine ⟨?s0, fun z1 => fun hz1 => ⟨rfl, fun z2 => fun hz2 => ⟨rfl, ⟨rfl, ?m0⟩⟩⟩⟩
      case s0 => omega
      case m0 =>
        subst hz1 hz2
        exact sub_zP a3.neg
    · cases hs
  · cases hs
theorem cOfNN : Contract Tryz.prog E 31 sOf := by
  refine contract_loopsG [(59, sSmall), (81, sOutN)] Tryz.ntmps31 Tryz.func31 (by kernel_rfl) (by kernel_rfl) hU ⟨cSmall hU, cOutN hU, trivial⟩ ?_
  intro xs p r hs hp
  unfold sOf at hs
  split at hs
  · rename_i n
    cases hs
    have hk := hp _ rfl
    refine ⟨[.f (.v (.int .i64 n))], [], .cons (.refl _) .nil, rfl, fun hgx hg => ?_⟩
    refine cast_rfl (p := ifB (decide (n < (0 : Int))) (((0 : Int) ≤ IntKind.u64.wrap ((0 : Int) - IntKind.u64.wrap n) ∧ IntKind.u64.wrap ((0 : Int) - IntKind.u64.wrap n) < (18446744073709551616 : Int)) ∧ ∀ (z1 : Int), z1 = zOf true (IntKind.u64.wrap ((0 : Int) - IntKind.u64.wrap n)).toNat → z1 = z1 ∧ true = true ∧ Sub (PV.agg [PV.f (Lf.zn z1), PV.f (Lf.zd z1 3)]) (PV.agg [PV.f (Lf.zn n), PV.f (Lf.zd n 3)])) (((0 : Int) ≤ IntKind.u64.wrap n ∧ IntKind.u64.wrap n < (18446744073709551616 : Int)) ∧ ∀ (z1 : Int), z1 = zOf false (IntKind.u64.wrap n).toNat → z1 = z1 ∧ true = true ∧ Sub (PV.agg [PV.f (Lf.zn z1), PV.f (Lf.zd z1 3)]) (PV.agg [PV.f (Lf.zn n), PV.f (Lf.zd n 3)]))) (by kernel_rfl) ?_
    refine ifB_iff.2 ⟨fun hb0 => ⟨?s0, fun z1 => fun hz1 => ⟨rfl, ⟨rfl, ?m0⟩⟩⟩, fun hb0 => ⟨?s1, fun z1 => fun hz1 => ⟨rfl, ⟨rfl, ?m1⟩⟩⟩⟩
    case s0 => simp [IntKind.wrap, IntKind.bits, IntKind.signed]; omega
    case s1 => simp [IntKind.wrap, IntKind.bits, IntKind.signed]; omega
    case m0 =>
      have h1 := of_decide_eq_true hb0
      have e : z1 = n := by
        rw [hz1, zOf_true]
        simp [IntKind.wrap, IntKind.bits, IntKind.signed]
        omega
      subst e
      exact .refl _
    case m1 =>
      have h1 := of_decide_eq_false hb0
      have e : z1 = n := by
        rw [hz1, zOf_false]
        simp [IntKind.wrap, IntKind.bits, IntKind.signed]
        omega
      subst e
      exact .refl _
  · cases hs
theorem cCmpNN : Contract Tryz.prog E 70 sCmp := by
  refine contract_loopsG [(95, sOfN2), (104, sCmpS), (98, sTurned), (55, sPlusN (fun _ _ => True)), (64, sZeroN)] Tryz.ntmps70 Tryz.func70 (by kernel_rfl) (by kernel_rfl) hU ⟨cOfN2 hU, cCmpS hU, cTurned hU, cPlusN hU, cZeroN hU, trivial⟩ ?_
  intro xs p r hs hp
  unfold sCmp at hs
  split at hs
  · rename_i x y
    split at hs
    · rename_i n l k j n' l' k' j' hx hy
      cases hs
      have hk := hp _ rfl
      refine ⟨[rawP n l k, rawP n' l' k'], [], .cons (sub_raw hx) (.cons (sub_raw hy) .nil), rfl, fun hgx hg => ?_⟩
      refine cast_rfl (p := k ≤ 1000000 ∧ ∀ (z1 : Int), z1 = zV n l → k' ≤ 1000000 ∧ ∀ (z2 : Int), z2 = zV n' l' → ifB (!zNeg z1 == zNeg z2) (ifB (zNeg z1) (true = true ∧ Sub (PV.f (Lf.v (Value.int IntKind.i64 (-1 : Int)))) (PV.f (Lf.v (Value.int IntKind.i64 (cmpI (zV n l) (zV n' l')))))) (ifB (!zNeg z1 == zNeg z2) (true = true ∧ Sub (PV.f (Lf.v (Value.int IntKind.i64 (1 : Int)))) (PV.f (Lf.v (Value.int IntKind.i64 (cmpI (zV n l) (zV n' l')))))) (ifB (zNeg z1) ((k' + 1 ≤ 100000 ∧ k + 1 ≤ 100000) ∧ true = true ∧ Sub (PV.f (Lf.v (Value.int IntKind.i64 (cmpI (↑z2.natAbs : Int) (↑z1.natAbs : Int))))) (PV.f (Lf.v (Value.int IntKind.i64 (cmpI (zV n l) (zV n' l')))))) ((k + 1 ≤ 100000 ∧ k' + 1 ≤ 100000) ∧ true = true ∧ Sub (PV.f (Lf.v (Value.int IntKind.i64 (cmpI (↑z1.natAbs : Int) (↑z2.natAbs : Int))))) (PV.f (Lf.v (Value.int IntKind.i64 (cmpI (zV n l) (zV n' l'))))))))) (ifB (!zNeg z1 == zNeg z2) (true = true ∧ Sub (PV.f (Lf.v (Value.int IntKind.i64 (1 : Int)))) (PV.f (Lf.v (Value.int IntKind.i64 (cmpI (zV n l) (zV n' l')))))) (ifB (zNeg z1) ((k' + 1 ≤ 100000 ∧ k + 1 ≤ 100000) ∧ true = true ∧ Sub (PV.f (Lf.v (Value.int IntKind.i64 (cmpI (↑z2.natAbs : Int) (↑z1.natAbs : Int))))) (PV.f (Lf.v (Value.int IntKind.i64 (cmpI (zV n l) (zV n' l')))))) ((k + 1 ≤ 100000 ∧ k' + 1 ≤ 100000) ∧ true = true ∧ Sub (PV.f (Lf.v (Value.int IntKind.i64 (cmpI (↑z1.natAbs : Int) (↑z2.natAbs : Int))))) (PV.f (Lf.v (Value.int IntKind.i64 (cmpI (zV n l) (zV n' l'))))))))) (by kernel_rfl) ?_
      refine ⟨?s0, fun z1 => fun hz1 => ⟨?s1, fun z2 => fun hz2 => ifB_iff.2 ⟨fun hb0 => ifB_iff.2 ⟨fun hb1 => ⟨rfl, ?m0⟩, fun hb1 => ifB_iff.2 ⟨fun hb2 => ⟨rfl, ?m1⟩, fun hb2 => ifB_iff.2 ⟨fun hb3 => ⟨?s2, ⟨rfl, ?m2⟩⟩, fun hb3 => ⟨?s3, ⟨rfl, ?m3⟩⟩⟩⟩⟩, fun hb0 => ifB_iff.2 ⟨fun hb4 => ⟨rfl, ?m4⟩, fun hb4 => ifB_iff.2 ⟨fun hb5 => ⟨?s4, ⟨rfl, ?m5⟩⟩, fun hb5 => ⟨?s5, ⟨rfl, ?m6⟩⟩⟩⟩⟩⟩⟩
      case s0 => omega
      case s1 => omega
      all_goals try rw [← hz1, ← hz2]
      all_goals simp only [zNeg, Bool.not_eq_true', decide_eq_true_eq, decide_eq_false_iff_not, Bool.not_eq_false', beq_eq_false_iff_ne, ne_eq, beq_iff_eq, decide_eq_decide] at *
      all_goals first
        | exact ⟨by omega, by omega⟩
        | (refine sub_int ?_
           unfold cmpI
           repeat' split
           all_goals omega)
    · cases hs
  · cases hs
theorem cTimesN : Contract Tryz.prog E 60 sTimesN := by
  refine contract_loopsG [(108, sMulL), (66, sMade)] Tryz.ntmps60 Tryz.func60 (by kernel_rfl) (by kernel_rfl) hU ⟨cMulN, cMade hU, trivial⟩ ?_
  intro xs p r hs hp
  unfold sTimesN at hs
  split at hs
  · rename_i a k z a' k' z'
    cases hs
    obtain ⟨rfl, rfl, hk⟩ := hp _ rfl
    refine ⟨[nP a k, nP a' k'], [], .cons (.refl _) (.cons (.refl _) .nil), rfl, fun hgx hg => ?_⟩
    refine cast_rfl (p := sizeL [(digs 1000000000 a.natAbs, k), (digs 1000000000 a'.natAbs, k')] ≤ 100000 ∧ ∀ (z1 : Nat), z1 = prodL' [(digs 1000000000 a.natAbs, k), (digs 1000000000 a'.natAbs, k')] 1 → sizeL [(digs 1000000000 a.natAbs, k), (digs 1000000000 a'.natAbs, k')] + 1 ≤ 1000000 ∧ ∀ (z2 : Int), z2 = zV (!zNeg a == zNeg a') (digs 1000000000 (↑z1 : Int).natAbs) → true = true ∧ Sub (PV.agg [PV.f (Lf.zd z2 (sizeL [(digs 1000000000 a.natAbs, k), (digs 1000000000 a'.natAbs, k')] + 1 + 1)), PV.f (Lf.zn z2)]) (PV.agg [PV.f (Lf.zd (a * a') (k + k' + 1)), PV.f (Lf.zn (a * a'))])) (by kernel_rfl) ?_
    refine ⟨?s0, fun z1 => fun hz1 => ⟨?s1, fun z2 => fun hz2 => ⟨rfl, ?m0⟩⟩⟩
    all_goals have hA : ZB a k := hgx.1.1.1
    all_goals have hB : ZB a' k' := hgx.2.1.1.1
    all_goals (try simp only [sizeL, prodL', vB_dgs, Nat.one_mul] at *)
    all_goals first | omega | skip
    case m0 =>
      have : z2 = a * a' := by
        rw [hz2, Int.natAbs_natCast, zV_dgs, hz1, sgn_bne, times_z]
      subst this
      exact nP_less ((hA.mul hB).mono (by omega))
  · cases hs
theorem cRightN : Contract Tryz.prog E 77 sRight := by
  refine contract_loopsG [(120, sRightNat)] Tryz.ntmps77 Tryz.func77 (by kernel_rfl) (by kernel_rfl) hU ⟨cRightNat, trivial⟩ ?_
  intro xs p r hs hp
  unfold sRight at hs
  split at hs
  · rename_i x
    split at hs
    · rename_i n l k j hx
      cases hs
      have hk := hp _ rfl
      refine ⟨[rawP n l k], [], .cons (sub_raw hx) .nil, rfl, fun hgx hg => ?_⟩
      refine cast_rfl (p := k ≤ 1000000 ∧ ifB (rgtB l) (ifB (!n) (true = true ∧ Sub (PV.f (Lf.v (Value.bool true))) (PV.f (Lf.v (Value.bool (rightZ n l))))) (true = true ∧ Sub (PV.f (Lf.v (Value.bool (decide ((↑l.length : Int) > (0 : Int)))))) (PV.f (Lf.v (Value.bool (rightZ n l)))))) (true = true ∧ Sub (PV.f (Lf.v (Value.bool false))) (PV.f (Lf.v (Value.bool (rightZ n l)))))) (by kernel_rfl) ?_
      refine ⟨?s0, ifB_iff.2 ⟨fun hb0 => ifB_iff.2 ⟨fun hb1 => ⟨rfl, ?m0⟩, fun hb1 => ⟨rfl, ?m1⟩⟩, fun hb0 => ⟨rfl, ?m2⟩⟩⟩
      case s0 => exact hk
      case m0 =>
        refine sub_bool ?_
        unfold rightZ
        rw [hb0, hb1]; rfl
      case m1 =>
        refine sub_bool ?_
        unfold rightZ
        rw [hb0, hb1, Bool.true_and, Bool.false_or, Bool.eq_iff_iff, decide_eq_true_eq, decide_eq_true_eq]
        omega
      case m2 =>
        refine sub_bool ?_
        unfold rightZ
        rw [hb0]; rfl
    · cases hs
  · cases hs
end
theorem cTextNat : Contract Tryz.prog EZ 96 sTextL := by
  intro xs p r hs hp w H vs hf hE hvs
  unfold sTextL at hs
  split at hs
  · rename_i x
    split at hs
    · rename_i l k hx
      cases hs
      have hk := hp _ rfl
      obtain ⟨v, rfl, hv⟩ := one_arg hvs
      obtain ⟨h1, h2, h3⟩ := limL_rd hx hv.rd hf
      refine (natText_any v l w h1 (by omega) h3 hE).mono ?_
      rintro e w' ⟨rfl, hbl⟩
      exact ⟨_, _, rfl, ext_all hf hbl, .f (.v _ rfl)⟩
    · cases hs
  · cases hs
theorem cTextNN : Contract Tryz.prog EZ 48 sText := by
  refine contract_loopsG [(95, sOfN2), (96, sTextL)] Tryz.ntmps48 Tryz.func48 (by kernel_rfl) (by kernel_rfl) EZ.up ⟨cOfN2 EZ.up, cTextNat, trivial⟩ ?_
  intro xs p r hs hp
  unfold sText at hs
  split at hs
  · rename_i x
    split at hs
    · rename_i n l k j hx
      cases hs
      have hk := hp _ rfl
      refine ⟨[rawP n l k], [], .cons (sub_raw hx) .nil, rfl, fun hgx hg => ?_⟩
      refine cast_rfl (p := k ≤ 1000000 ∧ ∀ (z1 : Int), z1 = zV n l → ifB (zNeg z1) (k + 1 ≤ 1000000 ∧ (↑(1 + (ByteArray.mk (Lib.decDigits (vB (digs 1000000000 z1.natAbs))).toArray).size) : Int) ≤ IntKind.i64.max ∧ true = true ∧ Sub (PV.f (Lf.v (Value.string (ByteArray.mk #[(45 : UInt8)] ++ ByteArray.mk (Lib.decDigits (vB (digs 1000000000 z1.natAbs))).toArray)))) (PV.f (Lf.v (Value.string (ByteArray.mk (zText (zV n l)).toArray))))) (k + 1 ≤ 1000000 ∧ true = true ∧ Sub (PV.f (Lf.v (Value.string (ByteArray.mk (Lib.decDigits (vB (digs 1000000000 z1.natAbs))).toArray)))) (PV.f (Lf.v (Value.string (ByteArray.mk (zText (zV n l)).toArray)))))) (by kernel_rfl) ?_
      refine ⟨?s0, fun z1 => fun hz1 => ifB_iff.2 ⟨fun hb0 => ⟨?s1, ⟨?s2, ⟨rfl, ?m0⟩⟩⟩, fun hb0 => ⟨?s3, ⟨rfl, ?m1⟩⟩⟩⟩
      case s0 => omega
      case s1 => omega
      case s3 => omega
      all_goals try rw [← hz1]
      all_goals try rw [vB_dgs]
      case s2 =>
        have h1 : (Lib.decDigits z1.natAbs).length ≤ 9 * (k + 1) + 1 := dec_len (k := k + 1) (by
          rw [hz1]
          exact (pvR_good hx hgx.1).2.2.mono (pvR_j hx))
        have h2 : IntKind.i64.max = 9223372036854775807 := by decide
        rw [h2]
        simp [ByteArray.size]
        omega
      case m0 => rw [zText_neg hb0]; exact .refl _
      case m1 => rw [zText_pos hb0]; exact .refl _
    · cases hs
  · cases hs

end Go.Proofs.YtjfncepmpabcnaaGreatDoor

namespace Go.Proofs.YtjfncepmpabcnaaGreatDoor
open Go.RowKit
set_option linter.unusedVariables false
set_option maxRecDepth 100000

def sGcdF : Spec
  | [.agg [.f (.zd a k), .f (.zn z)], .agg [.f (.zd a' k'), .f (.zn z')]] => some (some (a = z ∧ a' = z' ∧ k + k' ≤ 45000), .nm Int (gcd2 z z') fun y => nP y (k + k' + 1))
  | _ => none
theorem nP_nil : Sub (.agg [.f (.v (.slice none 0 0)), .f (.v (.bool false))]) (nP 0 0) := ⟨fun H v hv => by
  obtain ⟨vs, rfl, h1⟩ := PRs.of_agg hv
  match vs, h1.1 with
  | [p, q], _ =>
    have a1 := (h1.2 1 _ _ rfl rfl).val
    subst a1
    exact (PRs.cons ((sub_nil0 0).out _ _ (h1.2 0 _ _ rfl rfl)) (.cons (.f (.zn 0)) .nil)).agg⟩
def zsB (l : List ((Bool × List Nat) × Nat × Nat)) : List ((Bool × List Nat) × Nat × Nat) := (zsOf l).map fun e => ((e.1, e.2.1), e.2.2, e.2.2 + 1)
theorem zsB_cons (x : (Bool × List Nat) × Nat × Nat) (l : List ((Bool × List Nat) × Nat × Nat)) : zsB (x :: l) = ((x.1.1, x.1.2), x.2.1, x.2.1 + 1) :: zsB l := rfl
theorem zsB_sum : ∀ (l : List ((Bool × List Nat) × Nat × Nat)) (a : Int), sumR (zsB l) a = sumR l a
  | [], _ => rfl
  | x :: l, a => by rw [zsB_cons, sumR, sumR, zsB_sum l]
theorem zsB_prod : ∀ (l : List ((Bool × List Nat) × Nat × Nat)) (a : Int), prodR (zsB l) a = prodR l a
  | [], _ => rfl
  | x :: l, a => by rw [zsB_cons, prodR, prodR, zsB_prod l]
theorem zsB_gcd : ∀ (l : List ((Bool × List Nat) × Nat × Nat)) (a : Int), gcdR (zsB l) a = gcdR l a
  | [], _ => rfl
  | x :: l, a => by rw [zsB_cons, gcdR, gcdR, zsB_gcd l]
theorem zsB_size : ∀ (l : List ((Bool × List Nat) × Nat × Nat)), sizeR (zsB l) = sizeR l
  | [] => rfl
  | x :: l => by rw [zsB_cons, sizeR, sizeR, zsB_size l]
def sCutP : Spec
  | [.f (.v (.string s)), .f (.v (.string t))] => some (some (t = ⟨#[45]⟩), .one (.tup [.f (.v (.string ⟨(restZ s.data.toList).toArray⟩)), .f (.v (.bool (signZ s.data.toList)))]))
  | _ => none
theorem cCutP {E : World → Hp → Prop} : Contract Tryz.prog E 99 sCutP := by
  intro xs p r hs hp w H vs hf hE hvs
  unfold sCutP at hs
  split at hs
  · rename_i s t
    cases hs
    obtain rfl := hp _ rfl
    obtain ⟨u, v, rfl, hu, hv⟩ := two_args hvs
    have := hu.val
    subst this
    have := hv.val
    subst this
    refine (strings_CutP s w).mono ?_
    rintro e w' ⟨rfl, rfl⟩
    refine ⟨_, _, rfl, Ext.refl hf, .tup rfl fun i v x hv hx => ?_⟩
    match i with
    | 0 => simp at hv hx; subst hv hx; exact .f (.v _ rfl)
    | 1 => simp at hv hx; subst hv hx; exact .f (.v _ rfl)
    | i + 2 => simp at hv
  · cases hs
def ofN (l : List UInt8) : Nat := if okT l then numD l else 0
theorem ofN_digs (l : List UInt8) : ofR l = digs 1000000000 (ofN l) := by
  unfold ofN
  cases h : okT l with
  | false => rw [ofR_no h, if_neg (by decide), digs_zero]
  | true => rw [ofR_ok h, if_pos rfl]
theorem restZ_len {s : ByteArray} {k : Nat} (h : s.size ≤ k) : (⟨(restZ s.data.toList).toArray⟩ : ByteArray).size ≤ k := by
  have : (restZ s.data.toList).length ≤ s.data.toList.length := by
    unfold restZ Lib.trimPrefix
    split
    · simp
    · exact Nat.le_refl _
  have e1 : (⟨(restZ s.data.toList).toArray⟩ : ByteArray).size = (restZ s.data.toList).length := by simp [ByteArray.size]
  have e2 : s.data.toList.length = s.size := by rw [Array.length_toList]; rfl
  omega
def sOfT : Spec
  | [.f (.v (.string s))] => some (some (s.size ≤ 1000), .nm Nat (ofN s.data.toList) fun n => .tup [.f (.zd ((n : Nat) : Int) 1000), .f (.v (.bool (okT s.data.toList)))])
  | _ => none
theorem cOfT {E : World → Hp → Prop} : Contract Tryz.prog E 100 sOfT := by
  intro xs p r hs hp w H vs hf hE hvs
  unfold sOfT at hs
  split at hs
  · rename_i s
    cases hs
    have hsz := hp _ rfl
    obtain ⟨v, rfl, hv⟩ := one_arg hvs
    have := hv.val
    subst this
    refine (natOf_any s w (by omega)).mono ?_
    rintro e w' ⟨u, rfl, ho, hbl⟩
    refine ⟨_, _, rfl, ext_all hf hbl, .tup rfl fun i v x hv hx => ?_⟩
    match i with
    | 0 =>
      simp at hv hx; subst hv hx
      rw [ofN_digs] at ho
      refine own_lP ho ?_
      unfold ofN
      cases h : okT s.data.toList with
      | false => exact ZB.zero _
      | true =>
        refine zb_of_len (neg := false) (n := numD s.data.toList) ?_
        rw [← ofR_ok h]
        exact ofR_lenk h (by show s.data.toList.toArray.size ≤ 1000; rw [Array.toArray_toList]; exact hsz)
    | 1 => simp at hv hx; subst hv hx; exact .f (.v _ rfl)
    | i + 2 => simp at hv
  · cases hs
def sTogA : Spec
  | [u, .f (.v (.func (.func g) x y)), .f L] => match sliceR L, Nat.beq g 55, x.size, y.size with
    | some l, true, 0, 0 => some (some (Sub u (nP 0 0) ∧ sizeR l ≤ 20000), .nm Int (sumR l 0) fun r => zP r (bndS l 0))
    | _, _, _, _ => none
  | _ => none

def sTogM : Spec
  | [u, .f (.v (.func (.func g) x y)), .f L] => match sliceR L, Nat.beq g 60, x.size, y.size with
    | some l, true, 0, 0 => some (some (Sub u (nP 1 3) ∧ sizeR l ≤ 20000), .nm Int (prodR l 1) fun r => zP r (bndP l 1))
    | _, _, _, _ => none
  | _ => none

def sTogG : Spec
  | [u, .f (.v (.func (.func g) x y)), .f L] => match sliceR L, Nat.beq g 63, x.size, y.size with
    | some l, true, 0, 0 => some (some (Sub u (nP 0 0) ∧ sizeR l ≤ 20000), .nm Int (gcdR l 0) fun r => zP r (bndS l 0))
    | _, _, _, _ => none
  | _ => none

section
variable {E : World → Hp → Prop} (hU : Up E)
include hU
theorem cGcdF : Contract Tryz.prog E 63 sGcdF := by
  refine contract_loopsG [(64, sZeroN), (65, sDivL), (66, sMade)] Tryz.ntmps63 Tryz.func63 (by kernel_rfl) (by kernel_rfl) hU ⟨cZeroN hU, cDivN, cMade hU, trivial⟩ ?_
  intro xs p r hs hp
  unfold sGcdF at hs
  split at hs
  · rename_i a k z a' k' z'
    cases hs
    obtain ⟨rfl, rfl, hk⟩ := hp _ rfl
    refine ⟨[nP a k, nP a' k'], [(1, .s ⟨Int × Int, fun x => ⟨[(2, .bp 0 0), (3, .bp 1 0), (4, .bp 2 0)], [.cells [.f (.zd x.1 (k + k')), .f (.zn x.1)], .cells [.f (.zd x.2 (k + k')), .f (.zn x.2)], .cells [.f (.v (.slice none 0 0)), .f (.v (.bool false))]]⟩,
        fun x => ZB x.1 (k + k') ∧ ZB x.2 (k + k') ∧ gcd2 x.1 x.2 = gcd2 a a', fun x => x.2.natAbs⟩)], .cons (.refl _) (.cons (.refl _) .nil), rfl, fun hgx hg => ?_⟩
    have hA : ZB a k := hgx.1.1.1
    have hB : ZB a' k' := hgx.2.1.1.1
    refine cast_rfl (p := ∃ (x1 : Int × Int), (((SubB (PV.f (Lf.zd a k)) (PV.f (Lf.zd x1.fst (k + k'))) ∧ SubB (PV.f (Lf.zn a)) (PV.f (Lf.zn x1.fst)) ∧ True) ∧ (SubB (PV.f (Lf.zd a' k')) (PV.f (Lf.zd x1.snd (k + k'))) ∧ SubB (PV.f (Lf.zn a')) (PV.f (Lf.zn x1.snd)) ∧ True) ∧ (SubB (PV.f (Lf.v (Value.slice none 0 0))) (PV.f (Lf.v (Value.slice none 0 0))) ∧ SubB (PV.f (Lf.v (Value.bool false))) (PV.f (Lf.v (Value.bool false))) ∧ True) ∧ True) ∧ SubB (PV.bp 0 0) (PV.bp 0 0) ∧ SubB (PV.bp 1 0) (PV.bp 1 0) ∧ SubB (PV.bp 2 0) (PV.bp 2 0) ∧ True) ∧ (ZB x1.fst (k + k') ∧ ZB x1.snd (k + k') ∧ gcd2 x1.fst x1.snd = gcd2 a a') ∧ True ∧ ∀ (z2 : Int × Int), ZB z2.fst (k + k') ∧ ZB z2.snd (k + k') ∧ gcd2 z2.fst z2.snd = gcd2 a a' → True → ifB (!(↑(digs 1000000000 z2.snd.natAbs).length : Int) == (0 : Int)) ((k + k' ≤ 100000 ∧ k + k' ≤ 100000 ∧ vB (digs 1000000000 z2.snd.natAbs) ≠ 0) ∧ ∀ (z3 : Nat), z3 = vB (digs 1000000000 z2.fst.natAbs) / vB (digs 1000000000 z2.snd.natAbs) → ∀ (z4 : Nat), z4 = vB (digs 1000000000 z2.fst.natAbs) % vB (digs 1000000000 z2.snd.natAbs) → k + k' + 1 ≤ 1000000 ∧ ∀ (z5 : Int), z5 = zV false (digs 1000000000 (↑z4 : Int).natAbs) → ∃ (x6 : Int × Int), (((SubB (PV.f (Lf.zd z2.snd (k + k'))) (PV.f (Lf.zd x6.fst (k + k'))) ∧ SubB (PV.f (Lf.zn z2.snd)) (PV.f (Lf.zn x6.fst)) ∧ True) ∧ (SubB (PV.f (Lf.zd z5 (k + k' + 1 + 1))) (PV.f (Lf.zd x6.snd (k + k'))) ∧ SubB (PV.f (Lf.zn z5)) (PV.f (Lf.zn x6.snd)) ∧ True) ∧ (SubB (PV.f (Lf.v (Value.slice none 0 0))) (PV.f (Lf.v (Value.slice none 0 0))) ∧ SubB (PV.f (Lf.v (Value.bool false))) (PV.f (Lf.v (Value.bool false))) ∧ True) ∧ True) ∧ SubB (PV.bp 0 0) (PV.bp 0 0) ∧ SubB (PV.bp 1 0) (PV.bp 1 0) ∧ SubB (PV.bp 2 0) (PV.bp 2 0) ∧ True) ∧ (ZB x6.fst (k + k') ∧ ZB x6.snd (k + k') ∧ gcd2 x6.fst x6.snd = gcd2 a a') ∧ True ∧ x6.snd.natAbs.succ.le z2.snd.natAbs) (k + k' ≤ 1000000 ∧ ∀ (z3 : Int), z3 = zV false (digs 1000000000 z2.fst.natAbs) → true = true ∧ Sub (PV.agg [PV.f (Lf.zd z3 (k + k' + 1)), PV.f (Lf.zn z3)]) (PV.agg [PV.f (Lf.zd (gcd2 a a') (k + k' + 1)), PV.f (Lf.zn (gcd2 a a'))]))) (by kernel_rfl) ?_
    refine ⟨?x0, ⟨⟨⟨⟨?m0, ⟨?m1, trivial⟩⟩, ⟨⟨?m2, ⟨?m3, trivial⟩⟩, ⟨⟨.refl _, ⟨.refl _, trivial⟩⟩, trivial⟩⟩⟩, ⟨.refl _, ⟨.refl _, ⟨.refl _, trivial⟩⟩⟩⟩, ⟨?s0, ⟨trivial, fun z2 => fun hq0 => fun _ => ifB_iff.2 ⟨fun hb1 => ⟨?s1, fun z3 => fun hz3 => fun z4 => fun hz4 => ⟨?s2, fun z5 => fun hz5 => ⟨?x1, ⟨⟨⟨⟨?m4, ⟨?m5, trivial⟩⟩, ⟨⟨?m6, ⟨?m7, trivial⟩⟩, ⟨⟨.refl _, ⟨.refl _, trivial⟩⟩, trivial⟩⟩⟩, ⟨.refl _, ⟨.refl _, ⟨.refl _, trivial⟩⟩⟩⟩, ⟨?s3, ⟨trivial, ?m8⟩⟩⟩⟩⟩⟩, fun hb1 => ⟨?s4, fun z3 => fun hz3 => ⟨rfl, ?m9⟩⟩⟩⟩⟩⟩⟩
    case x0 => exact (a, a')
    case x1 => exact (z2.2, z5)
    case m0 => exact subB_zdB rfl (hA.mono (by omega))
    case m1 => exact .refl _
    case m2 => exact subB_zdB rfl (hB.mono (by omega))
    case m3 => exact .refl _
    case s0 => exact ⟨hA.mono (by omega), hB.mono (by omega), rfl⟩
    case m4 => exact subB_zdB rfl hq0.2.1
    case m5 => exact .refl _
    case m7 => exact .refl _
    case s2 => omega
    case s4 => omega
    all_goals obtain ⟨q1, q2, q3⟩ := hq0
    all_goals rw [len_zero] at hb1
    case s1 => rw [vB_dgs]; exact ⟨by omega, by omega, by simpa using hb1⟩
    case m9 =>
      have h0 : z2.2.natAbs = 0 := by simpa using hb1
      have : z3 = gcd2 a a' := by
        rw [hz3, zV_dgs, zOf_false, ← q3]
        unfold gcd2
        rw [h0, Nat.gcd_zero_right]
      subst this
      exact .refl _
    all_goals have hne : z2.2.natAbs ≠ 0 := (by simpa using hb1)
    all_goals have hlt : z5.natAbs < z2.2.natAbs := (by
      rw [hz5, Int.natAbs_natCast, zV_dgs, zOf_false, Int.natAbs_natCast, hz4, vB_dgs, vB_dgs]
      exact Nat.mod_lt _ (Nat.pos_of_ne_zero hne))
    all_goals have hZ : ZB z5 (k + k') := (by unfold ZB at q2 ⊢; omega)
    case m6 => exact subB_zdB rfl hZ
    case s3 =>
      refine ⟨q2, hZ, ?_⟩
      have e : z5.natAbs = z2.1.natAbs % z2.2.natAbs := by rw [hz5, Int.natAbs_natCast, zV_dgs, zOf_false, Int.natAbs_natCast, hz4, vB_dgs, vB_dgs]
      rw [← q3]
      unfold gcd2
      rw [e]
      exact congrArg Int.ofNat ((Nat.gcd_comm _ _).trans ((Nat.gcd_rec _ _).symm.trans (Nat.gcd_comm _ _)))
    case m8 => exact hlt
  · cases hs

theorem cTogA : Contract Tryz.prog E 54 sTogA := by
  refine contract_loopsG [(95, sOfN2), (55, sPlusN (fun _ _ => True)), (81, sOutN)] Tryz.ntmps54 Tryz.func54 (by kernel_rfl) (by kernel_rfl) hU ⟨cOfN2 hU, cPlusN hU, cOutN hU, trivial⟩ ?_
  intro xs p r hs hp
  unfold sTogA at hs
  split at hs
  · rename_i u g x y L
    split at hs
    · rename_i l hl hg hx hy
      cases hs
      obtain ⟨hu, hk⟩ := hp _ rfl
      obtain rfl : x = #[] := Array.eq_empty_of_size_eq_zero hx
      obtain rfl : y = #[] := Array.eq_empty_of_size_eq_zero hy
      obtain rfl := Nat.eq_of_beq_eq_true hg
      have hsub := sub_zs hl
      have hL : (zsOf l).length = l.length := by simp [zsOf]
      refine ⟨[nP 0 0, .f (.v (.func (.func 55) #[] #[])), .f (.zs (zsOf l))], [(2, .s ⟨Nat × Int, fun x => ⟨[(1, .f (.v (.func (.func 55) #[] #[]))), (3, .bp 0 0), (6, .bp 1 0), (9, .f (.zs (zsOf l))), (10, .f (.v (.int .i64 l.length))), (11, .f (.v (.int .i64 (x.1 : Nat))))], [.cells [.f (.zd x.2 (bndS l 0)), .f (.zn x.2)], .cells [.f (.v (.bool false)), .f (.v (.slice none 0 0))]]⟩,
        fun x => x.1 ≤ l.length ∧ x.2 = sumR (l.take x.1) 0, fun x => l.length - x.1⟩)], (.cons hu (.cons (.refl _) (.cons hsub .nil))), rfl, fun hgx hg => ?_⟩
      have hgood := sliceR_good hl hgx.2.2.1.2
      have hbnd : ∀ i, ZB (sumR (l.take i) 0) (bndS l 0) := fun i => (sumR_zb _ 0 0 (ZB.zero 0) fun x hx => (hgood x (List.mem_of_mem_take hx)).2.2).mono (bndS_take l 0 i)
      have hbl := bndS_size l 0 (sliceR_j hl)
      have hll := sizeR_len l
      refine cast_rfl (p := ∃ (x1 : Nat × Int), (((SubB (PV.f (Lf.zd (0 : Int) 0)) (PV.f (Lf.zd x1.snd (bndS l 0))) ∧ SubB (PV.f (Lf.zn (0 : Int))) (PV.f (Lf.zn x1.snd)) ∧ True) ∧ (SubB (PV.f (Lf.v (Value.bool false))) (PV.f (Lf.v (Value.bool false))) ∧ SubB (PV.f (Lf.v (Value.slice none 0 0))) (PV.f (Lf.v (Value.slice none 0 0))) ∧ True) ∧ True) ∧ SubB (PV.f (Lf.v (Value.func (Fn.func 55) #[] #[]))) (PV.f (Lf.v (Value.func (Fn.func 55) #[] #[]))) ∧ SubB (PV.bp 0 0) (PV.bp 0 0) ∧ SubB (PV.bp 1 0) (PV.bp 1 0) ∧ SubB (PV.f (Lf.zs (zsOf l))) (PV.f (Lf.zs (zsOf l))) ∧ SubB (PV.f (Lf.v (Value.int IntKind.i64 (↑(zsOf l).length : Int)))) (PV.f (Lf.v (Value.int IntKind.i64 (↑l.length : Int)))) ∧ SubB (PV.f (Lf.v (Value.int IntKind.i64 (0 : Int)))) (PV.f (Lf.v (Value.int IntKind.i64 (↑x1.fst : Int)))) ∧ True) ∧ (x1.fst ≤ l.length ∧ x1.snd = sumR (List.take x1.fst l) (0 : Int)) ∧ True ∧ ∀ (z2 : Nat × Int), z2.fst ≤ l.length ∧ z2.snd = sumR (List.take z2.fst l) (0 : Int) → True → ifB (decide ((↑z2.fst : Int) < (↑l.length : Int))) (((0 : Int) ≤ (↑z2.fst : Int) ∧ (↑z2.fst : Int) < (↑(zsOf l).length : Int)) ∧ ((zsOf l).getD (↑z2.fst : Int).toNat (false, [], 0)).snd.snd ≤ 1000000 ∧ ∀ (z3 : Int), z3 = zV ((zsOf l).getD (↑z2.fst : Int).toNat (false, [], 0)).fst ((zsOf l).getD (↑z2.fst : Int).toNat (false, [], 0)).snd.fst → (z2.snd = z2.snd ∧ z3 = z3 ∧ bndS l 0 + (((zsOf l).getD (↑z2.fst : Int).toNat (false, [], 0)).snd.snd + 1) ≤ 45000 ∧ True) ∧ ∀ (z4 : Int), z4 = z2.snd + z3 → ∃ (x5 : Nat × Int), (((SubB (PV.f (Lf.zd z4 (bndS l 0 + (((zsOf l).getD (↑z2.fst : Int).toNat (false, [], 0)).snd.snd + 1) + 1))) (PV.f (Lf.zd x5.snd (bndS l 0))) ∧ SubB (PV.f (Lf.zn z4)) (PV.f (Lf.zn x5.snd)) ∧ True) ∧ (SubB (PV.f (Lf.v (Value.bool false))) (PV.f (Lf.v (Value.bool false))) ∧ SubB (PV.f (Lf.v (Value.slice none 0 0))) (PV.f (Lf.v (Value.slice none 0 0))) ∧ True) ∧ True) ∧ SubB (PV.f (Lf.v (Value.func (Fn.func 55) #[] #[]))) (PV.f (Lf.v (Value.func (Fn.func 55) #[] #[]))) ∧ SubB (PV.bp 0 0) (PV.bp 0 0) ∧ SubB (PV.bp 1 0) (PV.bp 1 0) ∧ SubB (PV.f (Lf.zs (zsOf l))) (PV.f (Lf.zs (zsOf l))) ∧ SubB (PV.f (Lf.v (Value.int IntKind.i64 (↑l.length : Int)))) (PV.f (Lf.v (Value.int IntKind.i64 (↑l.length : Int)))) ∧ SubB (PV.f (Lf.v (Value.int IntKind.i64 (IntKind.i64.wrap ((↑z2.fst : Int) + (1 : Int)))))) (PV.f (Lf.v (Value.int IntKind.i64 (↑x5.fst : Int)))) ∧ True) ∧ (x5.fst ≤ l.length ∧ x5.snd = sumR (List.take x5.fst l) (0 : Int)) ∧ True ∧ (l.length - x5.fst).succ.le (l.length - z2.fst)) (z2.snd = z2.snd ∧ true = true ∧ Sub (PV.agg [PV.f (Lf.zn z2.snd), PV.f (Lf.zd z2.snd (bndS l 0))]) (PV.agg [PV.f (Lf.zn (sumR l (0 : Int))), PV.f (Lf.zd (sumR l (0 : Int)) (bndS l 0))]))) (by kernel_rfl) ?_
      refine ⟨?x0, ⟨⟨⟨⟨?m0, ⟨?m1, trivial⟩⟩, ⟨⟨.refl _, ⟨.refl _, trivial⟩⟩, trivial⟩⟩, ⟨.refl _, ⟨.refl _, ⟨.refl _, ⟨.refl _, ⟨?m2, ⟨?m3, trivial⟩⟩⟩⟩⟩⟩⟩, ⟨?s0, ⟨trivial, fun z2 => fun hq0 => fun _ => ifB_iff.2 ⟨fun hb1 => ⟨?s1, ⟨?s2, fun z3 => fun hz3 => ⟨?s3, fun z4 => fun hz4 => ⟨?x1, ⟨⟨⟨⟨?m4, ⟨?m5, trivial⟩⟩, ⟨⟨.refl _, ⟨.refl _, trivial⟩⟩, trivial⟩⟩, ⟨.refl _, ⟨.refl _, ⟨.refl _, ⟨.refl _, ⟨.refl _, ⟨?m6, trivial⟩⟩⟩⟩⟩⟩⟩, ⟨?s4, ⟨trivial, ?m7⟩⟩⟩⟩⟩⟩⟩, fun hb1 => ⟨rfl, ⟨rfl, ?m8⟩⟩⟩⟩⟩⟩⟩
      case x0 => exact (0, 0)
      case x1 => exact (z2.1 + 1, z4)
      case m0 => exact subB_zdB rfl (ZB.zero _)
      case m1 => exact .refl _
      case m2 => rw [hL]; exact .refl _
      case m3 => exact .refl _
      case s0 => exact ⟨Nat.zero_le _, rfl⟩
      case m8 =>
        have h1 := of_decide_eq_false hb1
        have h2 : z2.1 = l.length := by omega
        have h3 := hq0.2
        rw [h2, List.take_of_length_le (Nat.le_refl _)] at h3
        rw [h3]; exact .refl _
      all_goals have h1 := of_decide_eq_true hb1
      all_goals have hil : z2.1 < l.length := (by omega)
      all_goals have hat := zsOf_at hil
      all_goals have hmem := List.getElem_mem hil
      all_goals have hsz := sizeR_mem _ hmem
      all_goals simp only [Int.toNat_natCast, hat] at *
      case s1 => exact ⟨by omega, by omega⟩
      case s2 => omega
      case s3 => exact ⟨by trivial, by trivial, by omega, trivial⟩
      all_goals have hz : z4 = sumR (l.take (z2.1 + 1)) 0 := (by rw [hz4, hz3, sumR_snoc l z2.1 hil, ← hq0.2])
      case m4 => exact subB_zdB rfl (by rw [hz]; exact hbnd _)
      case m5 => exact .refl _
      case m6 => exact subB_succ (by omega)
      case s4 => exact ⟨hil, hz⟩
      case m7 => show l.length - (z2.1 + 1) + 1 ≤ l.length - z2.1; omega
    · cases hs
  · cases hs

theorem cTogM : Contract Tryz.prog E 54 sTogM := by
  refine contract_loopsG [(95, sOfN2), (60, sTimesN), (81, sOutN)] Tryz.ntmps54 Tryz.func54 (by kernel_rfl) (by kernel_rfl) hU ⟨cOfN2 hU, cTimesN hU, cOutN hU, trivial⟩ ?_
  intro xs p r hs hp
  unfold sTogM at hs
  split at hs
  · rename_i u g x y L
    split at hs
    · rename_i l hl hg hx hy
      cases hs
      obtain ⟨hu, hk⟩ := hp _ rfl
      obtain rfl : x = #[] := Array.eq_empty_of_size_eq_zero hx
      obtain rfl : y = #[] := Array.eq_empty_of_size_eq_zero hy
      obtain rfl := Nat.eq_of_beq_eq_true hg
      have hsub := sub_zs hl
      have hL : (zsOf l).length = l.length := by simp [zsOf]
      refine ⟨[nP 1 3, .f (.v (.func (.func 60) #[] #[])), .f (.zs (zsOf l))], [(2, .s ⟨Nat × Int, fun x => ⟨[(1, .f (.v (.func (.func 60) #[] #[]))), (3, .bp 0 0), (6, .bp 1 0), (9, .f (.zs (zsOf l))), (10, .f (.v (.int .i64 l.length))), (11, .f (.v (.int .i64 (x.1 : Nat))))], [.cells [.f (.zd x.2 (bndP l 1)), .f (.zn x.2)], .cells [.f (.v (.bool false)), .f (.v (.slice none 0 0))]]⟩,
        fun x => x.1 ≤ l.length ∧ x.2 = prodR (l.take x.1) 1, fun x => l.length - x.1⟩)], (.cons hu (.cons (.refl _) (.cons hsub .nil))), rfl, fun hgx hg => ?_⟩
      have hgood := sliceR_good hl hgx.2.2.1.2
      have hbnd : ∀ i, ZB (prodR (l.take i) 1) (bndP l 1) := fun i => (prodR_zb _ 1 1 ZB.one fun x hx => (hgood x (List.mem_of_mem_take hx)).2.2).mono (bndP_take l 1 i)
      have hbl := bndP_size l 1 (sliceR_j hl)
      have hll := sizeR_len l
      refine cast_rfl (p := ∃ (x1 : Nat × Int), (((SubB (PV.f (Lf.zd (1 : Int) 3)) (PV.f (Lf.zd x1.snd (bndP l 1))) ∧ SubB (PV.f (Lf.zn (1 : Int))) (PV.f (Lf.zn x1.snd)) ∧ True) ∧ (SubB (PV.f (Lf.v (Value.bool false))) (PV.f (Lf.v (Value.bool false))) ∧ SubB (PV.f (Lf.v (Value.slice none 0 0))) (PV.f (Lf.v (Value.slice none 0 0))) ∧ True) ∧ True) ∧ SubB (PV.f (Lf.v (Value.func (Fn.func 60) #[] #[]))) (PV.f (Lf.v (Value.func (Fn.func 60) #[] #[]))) ∧ SubB (PV.bp 0 0) (PV.bp 0 0) ∧ SubB (PV.bp 1 0) (PV.bp 1 0) ∧ SubB (PV.f (Lf.zs (zsOf l))) (PV.f (Lf.zs (zsOf l))) ∧ SubB (PV.f (Lf.v (Value.int IntKind.i64 (↑(zsOf l).length : Int)))) (PV.f (Lf.v (Value.int IntKind.i64 (↑l.length : Int)))) ∧ SubB (PV.f (Lf.v (Value.int IntKind.i64 (0 : Int)))) (PV.f (Lf.v (Value.int IntKind.i64 (↑x1.fst : Int)))) ∧ True) ∧ (x1.fst ≤ l.length ∧ x1.snd = prodR (List.take x1.fst l) (1 : Int)) ∧ True ∧ ∀ (z2 : Nat × Int), z2.fst ≤ l.length ∧ z2.snd = prodR (List.take z2.fst l) (1 : Int) → True → ifB (decide ((↑z2.fst : Int) < (↑l.length : Int))) (((0 : Int) ≤ (↑z2.fst : Int) ∧ (↑z2.fst : Int) < (↑(zsOf l).length : Int)) ∧ ((zsOf l).getD (↑z2.fst : Int).toNat (false, [], 0)).snd.snd ≤ 1000000 ∧ ∀ (z3 : Int), z3 = zV ((zsOf l).getD (↑z2.fst : Int).toNat (false, [], 0)).fst ((zsOf l).getD (↑z2.fst : Int).toNat (false, [], 0)).snd.fst → (z2.snd = z2.snd ∧ z3 = z3 ∧ bndP l 1 + (((zsOf l).getD (↑z2.fst : Int).toNat (false, [], 0)).snd.snd + 1) ≤ 45000) ∧ ∀ (z4 : Int), z4 = z2.snd * z3 → ∃ (x5 : Nat × Int), (((SubB (PV.f (Lf.zd z4 (bndP l 1 + (((zsOf l).getD (↑z2.fst : Int).toNat (false, [], 0)).snd.snd + 1) + 1))) (PV.f (Lf.zd x5.snd (bndP l 1))) ∧ SubB (PV.f (Lf.zn z4)) (PV.f (Lf.zn x5.snd)) ∧ True) ∧ (SubB (PV.f (Lf.v (Value.bool false))) (PV.f (Lf.v (Value.bool false))) ∧ SubB (PV.f (Lf.v (Value.slice none 0 0))) (PV.f (Lf.v (Value.slice none 0 0))) ∧ True) ∧ True) ∧ SubB (PV.f (Lf.v (Value.func (Fn.func 60) #[] #[]))) (PV.f (Lf.v (Value.func (Fn.func 60) #[] #[]))) ∧ SubB (PV.bp 0 0) (PV.bp 0 0) ∧ SubB (PV.bp 1 0) (PV.bp 1 0) ∧ SubB (PV.f (Lf.zs (zsOf l))) (PV.f (Lf.zs (zsOf l))) ∧ SubB (PV.f (Lf.v (Value.int IntKind.i64 (↑l.length : Int)))) (PV.f (Lf.v (Value.int IntKind.i64 (↑l.length : Int)))) ∧ SubB (PV.f (Lf.v (Value.int IntKind.i64 (IntKind.i64.wrap ((↑z2.fst : Int) + (1 : Int)))))) (PV.f (Lf.v (Value.int IntKind.i64 (↑x5.fst : Int)))) ∧ True) ∧ (x5.fst ≤ l.length ∧ x5.snd = prodR (List.take x5.fst l) (1 : Int)) ∧ True ∧ (l.length - x5.fst).succ.le (l.length - z2.fst)) (z2.snd = z2.snd ∧ true = true ∧ Sub (PV.agg [PV.f (Lf.zn z2.snd), PV.f (Lf.zd z2.snd (bndP l 1))]) (PV.agg [PV.f (Lf.zn (prodR l (1 : Int))), PV.f (Lf.zd (prodR l (1 : Int)) (bndP l 1))]))) (by kernel_rfl) ?_
      refine ⟨?x0, ⟨⟨⟨⟨?m0, ⟨?m1, trivial⟩⟩, ⟨⟨.refl _, ⟨.refl _, trivial⟩⟩, trivial⟩⟩, ⟨.refl _, ⟨.refl _, ⟨.refl _, ⟨.refl _, ⟨?m2, ⟨?m3, trivial⟩⟩⟩⟩⟩⟩⟩, ⟨?s0, ⟨trivial, fun z2 => fun hq0 => fun _ => ifB_iff.2 ⟨fun hb1 => ⟨?s1, ⟨?s2, fun z3 => fun hz3 => ⟨?s3, fun z4 => fun hz4 => ⟨?x1, ⟨⟨⟨⟨?m4, ⟨?m5, trivial⟩⟩, ⟨⟨.refl _, ⟨.refl _, trivial⟩⟩, trivial⟩⟩, ⟨.refl _, ⟨.refl _, ⟨.refl _, ⟨.refl _, ⟨.refl _, ⟨?m6, trivial⟩⟩⟩⟩⟩⟩⟩, ⟨?s4, ⟨trivial, ?m7⟩⟩⟩⟩⟩⟩⟩, fun hb1 => ⟨rfl, ⟨rfl, ?m8⟩⟩⟩⟩⟩⟩⟩
      case x0 => exact (0, 1)
      case x1 => exact (z2.1 + 1, z4)
      case m0 => exact subB_zdB rfl (ZB.one.mono (bndP_ge l 1))
      case m1 => exact .refl _
      case m2 => rw [hL]; exact .refl _
      case m3 => exact .refl _
      case s0 => exact ⟨Nat.zero_le _, rfl⟩
      case m8 =>
        have h1 := of_decide_eq_false hb1
        have h2 : z2.1 = l.length := by omega
        have h3 := hq0.2
        rw [h2, List.take_of_length_le (Nat.le_refl _)] at h3
        rw [h3]; exact .refl _
      all_goals have h1 := of_decide_eq_true hb1
      all_goals have hil : z2.1 < l.length := (by omega)
      all_goals have hat := zsOf_at hil
      all_goals have hmem := List.getElem_mem hil
      all_goals have hsz := sizeR_mem _ hmem
      all_goals simp only [Int.toNat_natCast, hat] at *
      case s1 => exact ⟨by omega, by omega⟩
      case s2 => omega
      case s3 => exact ⟨by trivial, by trivial, by omega⟩
      all_goals have hz : z4 = prodR (l.take (z2.1 + 1)) 1 := (by rw [hz4, hz3, prodR_snoc l z2.1 hil, ← hq0.2])
      case m4 => exact subB_zdB rfl (by rw [hz]; exact hbnd _)
      case m5 => exact .refl _
      case m6 => exact subB_succ (by omega)
      case s4 => exact ⟨hil, hz⟩
      case m7 => show l.length - (z2.1 + 1) + 1 ≤ l.length - z2.1; omega
    · cases hs
  · cases hs

theorem cTogG : Contract Tryz.prog E 54 sTogG := by
  refine contract_loopsG [(95, sOfN2), (63, sGcdF), (81, sOutN)] Tryz.ntmps54 Tryz.func54 (by kernel_rfl) (by kernel_rfl) hU ⟨cOfN2 hU, cGcdF hU, cOutN hU, trivial⟩ ?_
  intro xs p r hs hp
  unfold sTogG at hs
  split at hs
  · rename_i u g x y L
    split at hs
    · rename_i l hl hg hx hy
      cases hs
      obtain ⟨hu, hk⟩ := hp _ rfl
      obtain rfl : x = #[] := Array.eq_empty_of_size_eq_zero hx
      obtain rfl : y = #[] := Array.eq_empty_of_size_eq_zero hy
      obtain rfl := Nat.eq_of_beq_eq_true hg
      have hsub := sub_zs hl
      have hL : (zsOf l).length = l.length := by simp [zsOf]
      refine ⟨[nP 0 0, .f (.v (.func (.func 63) #[] #[])), .f (.zs (zsOf l))], [(2, .s ⟨Nat × Int, fun x => ⟨[(1, .f (.v (.func (.func 63) #[] #[]))), (3, .bp 0 0), (6, .bp 1 0), (9, .f (.zs (zsOf l))), (10, .f (.v (.int .i64 l.length))), (11, .f (.v (.int .i64 (x.1 : Nat))))], [.cells [.f (.zd x.2 (bndS l 0)), .f (.zn x.2)], .cells [.f (.v (.bool false)), .f (.v (.slice none 0 0))]]⟩,
        fun x => x.1 ≤ l.length ∧ x.2 = gcdR (l.take x.1) 0, fun x => l.length - x.1⟩)], (.cons hu (.cons (.refl _) (.cons hsub .nil))), rfl, fun hgx hg => ?_⟩
      have hgood := sliceR_good hl hgx.2.2.1.2
      have hbnd : ∀ i, ZB (gcdR (l.take i) 0) (bndS l 0) := fun i => (gcdR_zb _ 0 0 (ZB.zero 0) fun x hx => (hgood x (List.mem_of_mem_take hx)).2.2).mono (bndS_take l 0 i)
      have hbl := bndS_size l 0 (sliceR_j hl)
      have hll := sizeR_len l
      refine cast_rfl (p := ∃ (x1 : Nat × Int), (((SubB (PV.f (Lf.zd (0 : Int) 0)) (PV.f (Lf.zd x1.snd (bndS l 0))) ∧ SubB (PV.f (Lf.zn (0 : Int))) (PV.f (Lf.zn x1.snd)) ∧ True) ∧ (SubB (PV.f (Lf.v (Value.bool false))) (PV.f (Lf.v (Value.bool false))) ∧ SubB (PV.f (Lf.v (Value.slice none 0 0))) (PV.f (Lf.v (Value.slice none 0 0))) ∧ True) ∧ True) ∧ SubB (PV.f (Lf.v (Value.func (Fn.func 63) #[] #[]))) (PV.f (Lf.v (Value.func (Fn.func 63) #[] #[]))) ∧ SubB (PV.bp 0 0) (PV.bp 0 0) ∧ SubB (PV.bp 1 0) (PV.bp 1 0) ∧ SubB (PV.f (Lf.zs (zsOf l))) (PV.f (Lf.zs (zsOf l))) ∧ SubB (PV.f (Lf.v (Value.int IntKind.i64 (↑(zsOf l).length : Int)))) (PV.f (Lf.v (Value.int IntKind.i64 (↑l.length : Int)))) ∧ SubB (PV.f (Lf.v (Value.int IntKind.i64 (0 : Int)))) (PV.f (Lf.v (Value.int IntKind.i64 (↑x1.fst : Int)))) ∧ True) ∧ (x1.fst ≤ l.length ∧ x1.snd = gcdR (List.take x1.fst l) (0 : Int)) ∧ True ∧ ∀ (z2 : Nat × Int), z2.fst ≤ l.length ∧ z2.snd = gcdR (List.take z2.fst l) (0 : Int) → True → ifB (decide ((↑z2.fst : Int) < (↑l.length : Int))) (((0 : Int) ≤ (↑z2.fst : Int) ∧ (↑z2.fst : Int) < (↑(zsOf l).length : Int)) ∧ ((zsOf l).getD (↑z2.fst : Int).toNat (false, [], 0)).snd.snd ≤ 1000000 ∧ ∀ (z3 : Int), z3 = zV ((zsOf l).getD (↑z2.fst : Int).toNat (false, [], 0)).fst ((zsOf l).getD (↑z2.fst : Int).toNat (false, [], 0)).snd.fst → (z2.snd = z2.snd ∧ z3 = z3 ∧ bndS l 0 + (((zsOf l).getD (↑z2.fst : Int).toNat (false, [], 0)).snd.snd + 1) ≤ 45000) ∧ ∀ (z4 : Int), z4 = gcd2 z2.snd z3 → ∃ (x5 : Nat × Int), (((SubB (PV.f (Lf.zd z4 (bndS l 0 + (((zsOf l).getD (↑z2.fst : Int).toNat (false, [], 0)).snd.snd + 1) + 1))) (PV.f (Lf.zd x5.snd (bndS l 0))) ∧ SubB (PV.f (Lf.zn z4)) (PV.f (Lf.zn x5.snd)) ∧ True) ∧ (SubB (PV.f (Lf.v (Value.bool false))) (PV.f (Lf.v (Value.bool false))) ∧ SubB (PV.f (Lf.v (Value.slice none 0 0))) (PV.f (Lf.v (Value.slice none 0 0))) ∧ True) ∧ True) ∧ SubB (PV.f (Lf.v (Value.func (Fn.func 63) #[] #[]))) (PV.f (Lf.v (Value.func (Fn.func 63) #[] #[]))) ∧ SubB (PV.bp 0 0) (PV.bp 0 0) ∧ SubB (PV.bp 1 0) (PV.bp 1 0) ∧ SubB (PV.f (Lf.zs (zsOf l))) (PV.f (Lf.zs (zsOf l))) ∧ SubB (PV.f (Lf.v (Value.int IntKind.i64 (↑l.length : Int)))) (PV.f (Lf.v (Value.int IntKind.i64 (↑l.length : Int)))) ∧ SubB (PV.f (Lf.v (Value.int IntKind.i64 (IntKind.i64.wrap ((↑z2.fst : Int) + (1 : Int)))))) (PV.f (Lf.v (Value.int IntKind.i64 (↑x5.fst : Int)))) ∧ True) ∧ (x5.fst ≤ l.length ∧ x5.snd = gcdR (List.take x5.fst l) (0 : Int)) ∧ True ∧ (l.length - x5.fst).succ.le (l.length - z2.fst)) (z2.snd = z2.snd ∧ true = true ∧ Sub (PV.agg [PV.f (Lf.zn z2.snd), PV.f (Lf.zd z2.snd (bndS l 0))]) (PV.agg [PV.f (Lf.zn (gcdR l (0 : Int))), PV.f (Lf.zd (gcdR l (0 : Int)) (bndS l 0))]))) (by kernel_rfl) ?_
      refine ⟨?x0, ⟨⟨⟨⟨?m0, ⟨?m1, trivial⟩⟩, ⟨⟨.refl _, ⟨.refl _, trivial⟩⟩, trivial⟩⟩, ⟨.refl _, ⟨.refl _, ⟨.refl _, ⟨.refl _, ⟨?m2, ⟨?m3, trivial⟩⟩⟩⟩⟩⟩⟩, ⟨?s0, ⟨trivial, fun z2 => fun hq0 => fun _ => ifB_iff.2 ⟨fun hb1 => ⟨?s1, ⟨?s2, fun z3 => fun hz3 => ⟨?s3, fun z4 => fun hz4 => ⟨?x1, ⟨⟨⟨⟨?m4, ⟨?m5, trivial⟩⟩, ⟨⟨.refl _, ⟨.refl _, trivial⟩⟩, trivial⟩⟩, ⟨.refl _, ⟨.refl _, ⟨.refl _, ⟨.refl _, ⟨.refl _, ⟨?m6, trivial⟩⟩⟩⟩⟩⟩⟩, ⟨?s4, ⟨trivial, ?m7⟩⟩⟩⟩⟩⟩⟩, fun hb1 => ⟨rfl, ⟨rfl, ?m8⟩⟩⟩⟩⟩⟩⟩
      case x0 => exact (0, 0)
      case x1 => exact (z2.1 + 1, z4)
      case m0 => exact subB_zdB rfl (ZB.zero _)
      case m1 => exact .refl _
      case m2 => rw [hL]; exact .refl _
      case m3 => exact .refl _
      case s0 => exact ⟨Nat.zero_le _, rfl⟩
      case m8 =>
        have h1 := of_decide_eq_false hb1
        have h2 : z2.1 = l.length := by omega
        have h3 := hq0.2
        rw [h2, List.take_of_length_le (Nat.le_refl _)] at h3
        rw [h3]; exact .refl _
      all_goals have h1 := of_decide_eq_true hb1
      all_goals have hil : z2.1 < l.length := (by omega)
      all_goals have hat := zsOf_at hil
      all_goals have hmem := List.getElem_mem hil
      all_goals have hsz := sizeR_mem _ hmem
      all_goals simp only [Int.toNat_natCast, hat] at *
      case s1 => exact ⟨by omega, by omega⟩
      case s2 => omega
      case s3 => exact ⟨by trivial, by trivial, by omega⟩
      all_goals have hz : z4 = gcdR (l.take (z2.1 + 1)) 0 := (by rw [hz4, hz3, gcdR_snoc l z2.1 hil, ← hq0.2])
      case m4 => exact subB_zdB rfl (by rw [hz]; exact hbnd _)
      case m5 => exact .refl _
      case m6 => exact subB_succ (by omega)
      case s4 => exact ⟨hil, hz⟩
      case m7 => show l.length - (z2.1 + 1) + 1 ≤ l.length - z2.1; omega
    · cases hs
  · cases hs

theorem cAddNN : Contract Tryz.prog E 13 sAdd := by
  refine contract_loopsG [(54, sTogA)] Tryz.ntmps13 Tryz.func13 (by kernel_rfl) (by kernel_rfl) hU ⟨cTogA hU, trivial⟩ ?_
  intro xs p r hs hp
  unfold sAdd at hs
  split at hs
  · rename_i y
    split at hs
    · rename_i l hl
      cases hs
      have hk := hp _ rfl
      refine ⟨[.f (.zs (zsOf l))], [], .cons (sub_zs hl) .nil, rfl, fun hgx hg => ?_⟩
      have hgood := sliceR_good hl hgx.1.2
      have hall : ZB (sumR l 0) (bndS l 0) := sumR_zb _ 0 0 (ZB.zero 0) fun x hx => (hgood x hx).2.2
      refine cast_rfl (p := (Sub (flat (PV.agg [PV.f (Lf.v (Value.slice none 0 0)), PV.f (Lf.v (Value.bool false))])) (nP (0 : Int) 0) ∧ sizeR (List.map (fun (e : Bool × List Nat × Nat) => ((e.fst, e.snd.fst), e.snd.snd, e.snd.snd + 1)) (zsOf l)) ≤ 20000) ∧ ∀ (z1 : Int), z1 = sumR (List.map (fun (e : Bool × List Nat × Nat) => ((e.fst, e.snd.fst), e.snd.snd, e.snd.snd + 1)) (zsOf l)) (0 : Int) → true = true ∧ Sub (PV.agg [PV.f (Lf.zn z1), PV.f (Lf.zd z1 (bndS (List.map (fun (e : Bool × List Nat × Nat) => ((e.fst, e.snd.fst), e.snd.snd, e.snd.snd + 1)) (zsOf l)) 0))]) (PV.agg [PV.f (Lf.zn (sumR l (0 : Int))), PV.f (Lf.zd (sumR l (0 : Int)) (bndS l 0))])) (by kernel_rfl) ?_
      refine ⟨?s0, fun z1 => fun hz1 => ⟨rfl, ?m0⟩⟩
      case s0 => exact ⟨nP_nil, (zsB_size l).symm ▸ hk⟩
      case m0 =>
        rw [hz1, show List.map _ (zsOf l) = zsB l from rfl, zsB_sum]
        exact sub_zP hall
    · cases hs
  · cases hs

theorem cMulNN : Contract Tryz.prog E 15 sMul := by
  refine contract_loopsG [(59, sSmall), (54, sTogM)] Tryz.ntmps15 Tryz.func15 (by kernel_rfl) (by kernel_rfl) hU ⟨cSmall hU, cTogM hU, trivial⟩ ?_
  intro xs p r hs hp
  unfold sMul at hs
  split at hs
  · rename_i y
    split at hs
    · rename_i l hl
      cases hs
      have hk := hp _ rfl
      refine ⟨[.f (.zs (zsOf l))], [], .cons (sub_zs hl) .nil, rfl, fun hgx hg => ?_⟩
      have hgood := sliceR_good hl hgx.1.2
      have hall : ZB (prodR l 1) (bndP l 1) := prodR_zb _ 1 1 ZB.one fun x hx => (hgood x hx).2.2
      refine cast_rfl (p := ((0 : Int) ≤ (1 : Int) ∧ (1 : Int) < (18446744073709551616 : Int)) ∧ ∀ (z1 : Int), z1 = zOf false (Int.toNat (1 : Int)) → (Sub (flat (nP z1 3)) (nP (1 : Int) 3) ∧ sizeR (List.map (fun (e : Bool × List Nat × Nat) => ((e.fst, e.snd.fst), e.snd.snd, e.snd.snd + 1)) (zsOf l)) ≤ 20000) ∧ ∀ (z2 : Int), z2 = prodR (List.map (fun (e : Bool × List Nat × Nat) => ((e.fst, e.snd.fst), e.snd.snd, e.snd.snd + 1)) (zsOf l)) (1 : Int) → true = true ∧ Sub (PV.agg [PV.f (Lf.zn z2), PV.f (Lf.zd z2 (bndP (List.map (fun (e : Bool × List Nat × Nat) => ((e.fst, e.snd.fst), e.snd.snd, e.snd.snd + 1)) (zsOf l)) 1))]) (PV.agg [PV.f (Lf.zn (prodR l (1 : Int))), PV.f (Lf.zd (prodR l (1 : Int)) (bndP l 1))])) (by kernel_rfl) ?_
      refine ⟨?s0, fun z1 => fun hz1 => ⟨?s1, fun z2 => fun hz2 => ⟨rfl, ?m0⟩⟩⟩
      case s0 => exact ⟨by decide, by decide⟩
      case s1 =>
        refine ⟨?_, (zsB_size l).symm ▸ hk⟩
        have e1 : z1 = 1 := hz1
        subst e1
        exact .refl _
      case m0 =>
        rw [hz2, show List.map _ (zsOf l) = zsB l from rfl, zsB_prod]
        exact sub_zP hall
    · cases hs
  · cases hs

theorem cGcdNN : Contract Tryz.prog E 17 sGcd := by
  refine contract_loopsG [(54, sTogG)] Tryz.ntmps17 Tryz.func17 (by kernel_rfl) (by kernel_rfl) hU ⟨cTogG hU, trivial⟩ ?_
  intro xs p r hs hp
  unfold sGcd at hs
  split at hs
  · rename_i y
    split at hs
    · rename_i l hl
      cases hs
      have hk := hp _ rfl
      refine ⟨[.f (.zs (zsOf l))], [], .cons (sub_zs hl) .nil, rfl, fun hgx hg => ?_⟩
      have hgood := sliceR_good hl hgx.1.2
      have hall : ZB (gcdR l 0) (bndS l 0) := gcdR_zb _ 0 0 (ZB.zero 0) fun x hx => (hgood x hx).2.2
      refine cast_rfl (p := (Sub (flat (PV.agg [PV.f (Lf.v (Value.slice none 0 0)), PV.f (Lf.v (Value.bool false))])) (nP (0 : Int) 0) ∧ sizeR (List.map (fun (e : Bool × List Nat × Nat) => ((e.fst, e.snd.fst), e.snd.snd, e.snd.snd + 1)) (zsOf l)) ≤ 20000) ∧ ∀ (z1 : Int), z1 = gcdR (List.map (fun (e : Bool × List Nat × Nat) => ((e.fst, e.snd.fst), e.snd.snd, e.snd.snd + 1)) (zsOf l)) (0 : Int) → true = true ∧ Sub (PV.agg [PV.f (Lf.zn z1), PV.f (Lf.zd z1 (bndS (List.map (fun (e : Bool × List Nat × Nat) => ((e.fst, e.snd.fst), e.snd.snd, e.snd.snd + 1)) (zsOf l)) 0))]) (PV.agg [PV.f (Lf.zn (gcdR l (0 : Int))), PV.f (Lf.zd (gcdR l (0 : Int)) (bndS l 0))])) (by kernel_rfl) ?_
      refine ⟨?s0, fun z1 => fun hz1 => ⟨rfl, ?m0⟩⟩
      case s0 => exact ⟨nP_nil, (zsB_size l).symm ▸ hk⟩
      case m0 =>
        rw [hz1, show List.map _ (zsOf l) = zsB l from rfl, zsB_gcd]
        exact sub_zP hall
    · cases hs
  · cases hs

theorem cParseNN : Contract Tryz.prog E 51 sParse := by
  refine contract_loopsG [(99, sCutP), (100, sOfT), (66, sMade), (81, sOutN)] Tryz.ntmps51 Tryz.func51 (by kernel_rfl) (by kernel_rfl) hU ⟨cCutP, cOfT, cMade hU, cOutN hU, trivial⟩ ?_
  intro xs p r hs hp
  unfold sParse at hs
  split at hs
  · rename_i s
    cases hs
    have hsz := hp _ rfl
    refine ⟨[.f (.v (.string s))], [], .cons (.refl _) .nil, rfl, fun hgx hg => ?_⟩
    have hz := parZ_zb hsz
    have hno : okZ s.data.toList = false → Sub (.tup [.agg [.f (.v (.bool false)), .f (.v (.slice none 0 0))], .f (.v (.bool false))]) (.tup [zP (parZ s.data.toList) 1000, .f (.v (.bool (okZ s.data.toList)))]) := fun ho => by
      rw [parZ_no ho, ho]
      refine ⟨fun H v hv => ?_⟩
      obtain ⟨vs, rfl, h1⟩ := PRs.of_tup hv
      match vs, h1.1 with
      | [p, q], _ =>
        have a0 := h1.2 0 _ _ rfl rfl
        have a1 := h1.2 1 _ _ rfl rfl
        refine .tup rfl fun i v x hv hx => ?_
        match i with
        | 0 =>
          cases hv; cases hx
          obtain ⟨us, rfl, h2⟩ := PRs.of_agg a0
          match us, h2.1 with
          | [p, q], _ =>
            have b0 := (h2.2 0 _ _ rfl rfl).val
            subst b0
            exact (PRs.cons (.f (.zn 0)) (.cons ((sub_nil0 1000).out _ _ (h2.2 1 _ _ rfl rfl)) .nil)).agg
        | 1 => cases hv; cases hx; exact a1
        | i + 2 => cases hv
    have hyes : ∀ z, z = parZ s.data.toList → okZ s.data.toList = true → Sub (.tup [zP z 1001, .f (.v (.bool true))]) (.tup [zP (parZ s.data.toList) 1000, .f (.v (.bool (okZ s.data.toList)))]) := fun z hz0 ho => by
      subst hz0
      rw [ho]
      refine ⟨fun H v hv => ?_⟩
      obtain ⟨vs, rfl, h1⟩ := PRs.of_tup hv
      match vs, h1.1 with
      | [p, q], _ => exact .tup rfl fun i v x hv hx => (by
          match i with
          | 0 => cases hv; cases hx; exact (sub_zP hz).out _ _ (h1.2 0 _ _ rfl rfl)
          | 1 => cases hv; cases hx; exact h1.2 1 _ _ rfl rfl
          | i + 2 => cases hv)
    refine cast_rfl (p := ByteArray.mk #[(45 : UInt8)] = ByteArray.mk #[(45 : UInt8)] ∧ (ByteArray.mk (restZ s.data.toList).toArray).size ≤ 1000 ∧ ∀ (z1 : Nat), z1 = ofN (restZ s.data.toList) → ifB (!okT (restZ s.data.toList)) (true = true ∧ Sub (PV.tup [PV.agg [PV.f (Lf.v (Value.bool false)), PV.f (Lf.v (Value.slice none 0 0))], PV.f (Lf.v (Value.bool false))]) (PV.tup [PV.agg [PV.f (Lf.zn (parZ s.data.toList)), PV.f (Lf.zd (parZ s.data.toList) 1000)], PV.f (Lf.v (Value.bool (okZ s.data.toList)))])) (ifB (signZ s.data.toList) (ifB ((↑(digs 1000000000 (↑z1 : Int).natAbs).length : Int) == (0 : Int)) (true = true ∧ Sub (PV.tup [PV.agg [PV.f (Lf.v (Value.bool false)), PV.f (Lf.v (Value.slice none 0 0))], PV.f (Lf.v (Value.bool false))]) (PV.tup [PV.agg [PV.f (Lf.zn (parZ s.data.toList)), PV.f (Lf.zd (parZ s.data.toList) 1000)], PV.f (Lf.v (Value.bool (okZ s.data.toList)))])) (1000 ≤ 1000000 ∧ ∀ (z2 : Int), z2 = zV (signZ s.data.toList) (digs 1000000000 (↑z1 : Int).natAbs) → z2 = z2 ∧ true = true ∧ Sub (PV.tup [PV.agg [PV.f (Lf.zn z2), PV.f (Lf.zd z2 1001)], PV.f (Lf.v (Value.bool true))]) (PV.tup [PV.agg [PV.f (Lf.zn (parZ s.data.toList)), PV.f (Lf.zd (parZ s.data.toList) 1000)], PV.f (Lf.v (Value.bool (okZ s.data.toList)))]))) (1000 ≤ 1000000 ∧ ∀ (z2 : Int), z2 = zV (signZ s.data.toList) (digs 1000000000 (↑z1 : Int).natAbs) → z2 = z2 ∧ true = true ∧ Sub (PV.tup [PV.agg [PV.f (Lf.zn z2), PV.f (Lf.zd z2 1001)], PV.f (Lf.v (Value.bool true))]) (PV.tup [PV.agg [PV.f (Lf.zn (parZ s.data.toList)), PV.f (Lf.zd (parZ s.data.toList) 1000)], PV.f (Lf.v (Value.bool (okZ s.data.toList)))])))) (by kernel_rfl) ?_
    refine ⟨rfl, ⟨?s0, fun z1 => fun hz1 => ifB_iff.2 ⟨fun hb0 => ⟨rfl, ?m0⟩, fun hb0 => ifB_iff.2 ⟨fun hb1 => ifB_iff.2 ⟨fun hb2 => ⟨rfl, ?m1⟩, fun hb2 => ⟨?s1, fun z2 => fun hz2 => ⟨rfl, ⟨rfl, ?m2⟩⟩⟩⟩, fun hb1 => ⟨?s2, fun z2 => fun hz2 => ⟨rfl, ⟨rfl, ?m3⟩⟩⟩⟩⟩⟩⟩
    case s0 => exact restZ_len hsz
    case s1 => decide
    case s2 => decide
    case m0 =>
      refine hno ?_
      unfold okZ
      rw [show okT (restZ s.data.toList) = false by simpa using hb0]; rfl
    case m1 =>
      refine hno ?_
      unfold okZ
      rw [ofN_digs, ← hz1, hb1]
      rw [Int.natAbs_natCast] at hb2
      rw [hb2]; simp
    case m2 =>
      have h0 : okT (restZ s.data.toList) = true := by simpa using hb0
      have ho : okZ s.data.toList = true := by
        unfold okZ
        rw [ofN_digs, ← hz1, hb1]
        rw [Int.natAbs_natCast] at hb2
        rw [hb2, h0]; rfl
      refine hyes _ ?_ ho
      rw [hz2, parZ_ok ho, Int.natAbs_natCast, zV_dgs, hz1]
      unfold ofN
      rw [if_pos h0]
    case m3 =>
      have h0 : okT (restZ s.data.toList) = true := by simpa using hb0
      have ho : okZ s.data.toList = true := by
        unfold okZ
        rw [hb1, h0]; rfl
      refine hyes _ ?_ ho
      rw [hz2, parZ_ok ho, Int.natAbs_natCast, zV_dgs, hz1]
      unfold ofN
      rw [if_pos h0]
  · cases hs
end

end Go.Proofs.YtjfncepmpabcnaaGreatDoor

namespace Go.Proofs.YtjfncepmpabcnaaGreatDoor
open Go.RowKit

theorem cAdd {E : World → Hp → Prop} (hU : Up E) : Contract Tryz.prog E 13 sAdd := cAddNN hU
theorem cMul {E : World → Hp → Prop} (hU : Up E) : Contract Tryz.prog E 15 sMul := cMulNN hU
theorem cGcd {E : World → Hp → Prop} (hU : Up E) : Contract Tryz.prog E 17 sGcd := cGcdNN hU
theorem cNeg {E : World → Hp → Prop} (hU : Up E) : Contract Tryz.prog E 91 sNeg := cNegN hU
theorem cCmp {E : World → Hp → Prop} (hU : Up E) : Contract Tryz.prog E 70 sCmp := cCmpNN hU
theorem cOf {E : World → Hp → Prop} (hU : Up E) : Contract Tryz.prog E 31 sOf := cOfNN hU
theorem cRight {E : World → Hp → Prop} (hU : Up E) : Contract Tryz.prog E 77 sRight := cRightN hU
theorem cDiv {E : World → Hp → Prop} (hU : Up E) : Contract Tryz.prog E 50 sDiv := cDivN2 hU
theorem cText : Contract Tryz.prog EZ 48 sText := cTextNN
theorem cParse {E : World → Hp → Prop} (hU : Up E) : Contract Tryz.prog E 51 sParse := cParseNN hU

end Go.Proofs.YtjfncepmpabcnaaGreatDoor
