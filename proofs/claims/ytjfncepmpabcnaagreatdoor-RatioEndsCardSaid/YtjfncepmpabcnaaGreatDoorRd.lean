/- The reference of chapter 1 by the pure run: what is handed out. -/
import Derived.Test.YtjfncepmpabcnaaGreatDoorRc
import Derived.Test.YtjfncepmpabcnaaGreatDoorRefG
import Derived.Test.YtjfncepmpabcnaaGreatDoorRefH
namespace Go.Proofs.YtjfncepmpabcnaaGreatDoor
open Go.RowKit
set_option linter.unusedVariables false
set_option maxRecDepth 100000

theorem rd_isN {H : Hp} {v : Value} {kd : IntKind} {l : List Nat} {w : World} (h : Rd H v (.is kd (iN l))) (hw : Fro H w) : RdI w v kd l := by
  obtain ⟨ao, cap, val, rfl, h1, h2, h3, h4, b, o, h5, h6⟩ := rd_row h rfl
  have hm : cap ≤ maxLen := by
    cases h with
    | sl hv hg hc hm => exact hm
  rw [iN_len] at *
  refine ⟨ao, cap, rfl, h1, hm, h2, fun i hi => ⟨⟨b, o, none⟩, h5 (by omega), ?_⟩⟩
  have h7 := h6 i (by omega)
  rw [flatV_get (by omega)] at h7
  have h8 := (h4 (i / 1) (by rw [Nat.div_one]; exact hi) (i % 1) _ (by rw [Nat.mod_one]; rfl)).val rfl
  rw [h8, Nat.div_one, iN_at] at h7
  rw [at_add]
  exact hw _ _ _ h7
def sWriteD : Spec
  | [.f (.is .u8 l)] => some (some (R10 l 100000000), .nm Nat (vI l) fun n => lP n l.length)
  | _ => none
def sReadL : Spec
  | [.f x] => match limL x with
    | some (l, k) => some (some (k ≤ 1000000), .nm Nat (vB l) dP)
    | none => none
  | _ => none
section
variable {E : World → Hp → Prop}
theorem zb_len10 {n k : Nat} (h : (digs 10 n).length ≤ k) : ZB (n : Int) k := by
  unfold ZB
  rw [Int.natAbs_natCast]
  exact Nat.lt_of_lt_of_le (lt_pow_digs h) (Nat.pow_le_pow_left (by omega) k)
theorem cWriteD : Contract Tryz.prog E 111 sWriteD := by
  intro xs p r hs hp w H vs hf hE hvs
  unfold sWriteD at hs
  split at hs
  · rename_i l
    cases hs
    obtain ⟨h1, n, rfl⟩ := hp _ rfl
    obtain ⟨v, rfl, hv⟩ := one_arg hvs
    rw [iN_len] at h1
    refine (refWrite_any v _ w (rd_isN hv.rd hf) h1 (digs_rgt 10 (by omega) n)).mono ?_
    rintro e w' ⟨u, rfl, ho, hbl⟩
    refine ⟨_, u, rfl, ext_all hf hbl, ?_⟩
    show PR _ _ _ (lP (vI (iN (digs 10 n))) _)
    rw [val_digs 10 (by omega)] at ho
    rw [vI_digs, iN_len]
    exact own_lP ho (zb_len10 (Nat.le_refl _))
  · cases hs
theorem cReadL (hU : Up E) : Contract Tryz.prog E 110 sReadL := by
  refine (cReadD hU).weaken fun xs p r hs hp => ?_
  unfold sReadL at hs
  split at hs
  · rename_i x
    split at hs
    · rename_i l k hx
      cases hs
      exact ⟨_, _, _, .cons (limL_sub hx) .nil, rfl, hp, .refl _⟩
    · cases hs
  · cases hs
theorem cTrimL : Contract Tryz.prog E 67 sTrimL := by
  intro xs p r hs hp w H vs hf hE hvs
  unfold sTrimL at hs
  split at hs
  · rename_i x
    split at hs
    · rename_i l k hx
      cases hs
      have hk := hp _ rfl
      obtain ⟨v, rfl, hv⟩ := one_arg hvs
      obtain ⟨h1, h2, h3⟩ := limL_rd hx hv.rd hf
      refine (refTrimR_any v l w h1 (Nat.le_trans h2 hk) h3).mono ?_
      rintro e w' ⟨u, rfl, ho, hbl⟩
      exact ⟨_, u, rfl, ext_all hf hbl, own_lP ho (zb_vB h3 h2)⟩
    · cases hs
  · cases hs
theorem cAddL : Contract Tryz.prog E 106 sAddL := by
  intro xs p r hs hp w H vs hf hE hvs
  unfold sAddL at hs
  split at hs
  · rename_i R
    split at hs
    · rename_i l hl
      cases hs
      have hk := hp _ rfl
      obtain ⟨v, rfl, hv⟩ := one_arg hvs
      obtain ⟨h1, h2, h3⟩ := rowsL_rd hl hv.rd hf
      have hw2 := sizeL_wgt h2
      refine (refAdd_any v _ w h1 (by omega) (fun a ha x hx => ?_)).mono ?_
      · obtain ⟨y, hy, rfl⟩ := List.mem_map.1 ha
        exact h3 y hy x hx
      · rintro e w' ⟨u, rfl, ho, hbl⟩
        refine ⟨_, u, rfl, ext_all hf hbl, ?_⟩
        unfold sumV at ho
        rw [sumL_eq] at ho
        have := sumL_zb l 0 0 (by unfold ZB; decide) fun x hx => zb_vB (h3 x hx) (h2 x hx)
        rw [Nat.zero_add] at this
        exact own_lP ho this
    · cases hs
  · cases hs
theorem cMulL : Contract Tryz.prog E 62 sMulL := by
  intro xs p r hs hp w H vs hf hE hvs
  unfold sMulL at hs
  split at hs
  · rename_i R
    split at hs
    · rename_i l hl
      cases hs
      have hk := hp _ rfl
      obtain ⟨v, rfl, hv⟩ := one_arg hvs
      obtain ⟨h1, h2, h3⟩ := rowsL_rd hl hv.rd hf
      have hw2 := sizeL_wgt h2
      refine (refMul_any v _ w h1 (by omega) (fun a ha x hx => ?_)).mono ?_
      · obtain ⟨y, hy, rfl⟩ := List.mem_map.1 ha
        exact h3 y hy x hx
      · rintro e w' ⟨u, rfl, ho, hbl⟩
        refine ⟨_, u, rfl, ext_all hf hbl, ?_⟩
        unfold prodV at ho
        rw [prodL_eq] at ho
        have := prodL_zb l 1 1 (by unfold ZB; decide) fun x hx => zb_vB (h3 x hx) (h2 x hx)
        rw [Nat.add_comm] at this
        exact own_lP ho this
    · cases hs
  · cases hs
def sCmpL : Spec
  | [.f x, .f y] => match limL x, limL y with
    | some (l, k), some (m, j) => some (some (k ≤ 1000000 ∧ j ≤ 1000000), .one (.f (.v (.int .i64 (ordN (vB l) (vB m))))))
    | _, _ => none
  | _ => none
theorem lim_len {l : List Nat} {k : Nat} (h : ∀ x ∈ l, x < 4294967296) (hk : l.length ≤ k) : (digs 10 (vB l)).length ≤ 10 * k := Nat.le_trans (digs_val_len h) (Nat.mul_le_mul_left 10 hk)
theorem R10_lim {l : List Nat} {k n : Nat} (h : ∀ x ∈ l, x < 4294967296) (hk : l.length ≤ k) (hn : 10 * k ≤ n) : R10 (iN (digs 10 (vB l))) n := R10_digs (Nat.le_trans (lim_len h hk) hn)
theorem cCmpL (hU : Up E) : Contract Tryz.prog E 122 sCmpL := by
  refine contract_loopsG [(110, sReadL), (141, sOrderD)] Tryz.ntmps122 Tryz.func122 (by kernel_rfl) (by kernel_rfl) hU ⟨cReadL hU, cOrderD hU, trivial⟩ ?_
  intro xs p r hs hp
  unfold sCmpL at hs
  split at hs
  · rename_i x y
    split at hs
    · rename_i l k m j hx hy
      cases hs
      obtain ⟨h1, h2⟩ := hp _ rfl
      refine ⟨[.f (.lr l k), .f (.lr m j)], [], .cons (limL_sub hx) (.cons (limL_sub hy) .nil), rfl, fun hgx hg => ?_⟩
      obtain ⟨a1, a2⟩ := hg.1.1
      obtain ⟨b1, b2⟩ := hg.2.1.1
      refine cast_rfl (p := k ≤ 1000000 ∧ ∀ (z1 : Nat), z1 = vB l → j ≤ 1000000 ∧ ∀ (z2 : Nat), z2 = vB m → (R10 (iN (digs 10 z1)) 1000000000 ∧ R10 (iN (digs 10 z2)) 1000000000) ∧ true = true ∧ Sub (PV.f (Lf.v (Value.int IntKind.i64 (ordN (vI (iN (digs 10 z1))) (vI (iN (digs 10 z2))))))) (PV.f (Lf.v (Value.int IntKind.i64 (ordN (vB l) (vB m)))))) (by kernel_rfl) ?_
      refine ⟨?s0, fun z1 => fun hz1 => ⟨?s1, fun z2 => fun hz2 => ⟨?s2, ⟨rfl, ?m0⟩⟩⟩⟩
      case s0 => exact h1
      case s1 => exact h2
      all_goals subst hz1 hz2
      case s2 => exact ⟨R10_lim a2 a1 (by omega), R10_lim b2 b1 (by omega)⟩
      case m0 => rw [vI_digs, vI_digs]; exact .refl _
    · cases hs
  · cases hs
theorem cSubL (hU : Up E) : Contract Tryz.prog E 107 sSubL := by
  refine contract_loopsG [(110, sReadL), (141, sOrderD), (142, sLessD), (111, sWriteD)] Tryz.ntmps107 Tryz.func107 (by kernel_rfl) (by kernel_rfl) hU ⟨cReadL hU, cOrderD hU, cLessD hU, cWriteD, trivial⟩ ?_
  intro xs p r hs hp
  unfold sSubL at hs
  split at hs
  · rename_i x y
    split at hs
    · rename_i l k m j hx hy
      cases hs
      obtain ⟨h1, h2⟩ := hp _ rfl
      refine ⟨[.f (.lr l k), .f (.lr m j)], [], .cons (limL_sub hx) (.cons (limL_sub hy) .nil), rfl, fun hgx hg => ?_⟩
      obtain ⟨a1, a2⟩ := hg.1.1
      obtain ⟨b1, b2⟩ := hg.2.1.1
      refine cast_rfl (p := k ≤ 1000000 ∧ ∀ (z1 : Nat), z1 = vB l → j ≤ 1000000 ∧ ∀ (z2 : Nat), z2 = vB m → (R10 (iN (digs 10 z1)) 1000000000 ∧ R10 (iN (digs 10 z2)) 1000000000) ∧ ifB (decide (ordN (vI (iN (digs 10 z1))) (vI (iN (digs 10 z2))) < (0 : Int))) (true = true ∧ Sub (PV.tup [PV.f (Lf.v (Value.slice none 0 0)), PV.f (Lf.v (Value.bool false))]) (PV.tup [PV.f (Lf.zd (↑(vB l - vB m) : Int) (k + 1)), PV.f (Lf.v (Value.bool (decide (vB m ≤ vB l))))])) ((R10 (iN (digs 10 z1)) 100000000 ∧ R10 (iN (digs 10 z2)) 100000000 ∧ vI (iN (digs 10 z2)) ≤ vI (iN (digs 10 z1))) ∧ ∀ (z3 : Nat), z3 = vI (iN (digs 10 z1)) - vI (iN (digs 10 z2)) → R10 (iN (digs 10 z3)) 100000000 ∧ ∀ (z4 : Nat), z4 = vI (iN (digs 10 z3)) → true = true ∧ Sub (PV.tup [PV.f (Lf.zd (↑z4 : Int) (iN (digs 10 z3)).length), PV.f (Lf.v (Value.bool true))]) (PV.tup [PV.f (Lf.zd (↑(vB l - vB m) : Int) (k + 1)), PV.f (Lf.v (Value.bool (decide (vB m ≤ vB l))))]))) (by kernel_rfl) ?_
      refine ⟨?s0, fun z1 => fun hz1 => ⟨?s1, fun z2 => fun hz2 => ⟨?s2, ifB_iff.2 ⟨fun hb0 => ⟨rfl, ?m0⟩, fun hb0 => ⟨?s3, fun z3 => fun hz3 => ⟨?s4, fun z4 => fun hz4 => ⟨rfl, ?m1⟩⟩⟩⟩⟩⟩⟩
      case s0 => omega
      case s1 => omega
      all_goals subst hz1 hz2
      case s2 => exact ⟨R10_lim a2 a1 (by omega), R10_lim b2 b1 (by omega)⟩
      all_goals rw [vI_digs, vI_digs] at hb0
      case m0 =>
        have hlt : vB l < vB m := by have := of_decide_eq_true hb0; have h4 := ordN_ge (vB l) (vB m); omega
        rw [show vB l - vB m = 0 by omega, decide_eq_false (show ¬ vB m ≤ vB l by omega)]
        exact tup_sub (.cons (sub_nil0 _) (.cons (.refl _) .nil))
      all_goals have hge : vB m ≤ vB l := (by have := of_decide_eq_false hb0; have h4 := ordN_ge (vB l) (vB m); omega)
      case s3 => exact ⟨R10_lim a2 a1 (by omega), R10_lim b2 b1 (by omega), by rw [vI_digs, vI_digs]; exact hge⟩
      all_goals rw [vI_digs, vI_digs] at hz3
      all_goals subst hz3
      case s4 => exact R10_digs (Nat.le_trans (digs_length_mono 10 (by omega) (Nat.sub_le _ _)) (Nat.le_trans (lim_len a2 a1) (by omega)))
      case m1 =>
        rw [vI_digs] at hz4
        subst hz4
        rw [decide_eq_true hge]
        exact tup_sub (.cons (sub_zd ((zb_vB a2 a1).leN (Nat.sub_le _ _))) (.cons (.refl _) .nil))
    · cases hs
  · cases hs
theorem cDivL (hU : Up E) : Contract Tryz.prog E 68 sDivL := by
  refine contract_loopsG [(110, sReadL), (116, sPartedD), (111, sWriteD)] Tryz.ntmps68 Tryz.func68 (by kernel_rfl) (by kernel_rfl) hU ⟨cReadL hU, cPartedD hU, cWriteD, trivial⟩ ?_
  intro xs p r hs hp
  unfold sDivL at hs
  split at hs
  · rename_i x y
    split at hs
    · rename_i l k m j hx hy
      cases hs
      obtain ⟨h1, h2, h3⟩ := hp _ rfl
      refine ⟨[.f (.lr l k), .f (.lr m j)], [], .cons (limL_sub hx) (.cons (limL_sub hy) .nil), rfl, fun hgx hg => ?_⟩
      obtain ⟨a1, a2⟩ := hg.1.1
      obtain ⟨b1, b2⟩ := hg.2.1.1
      refine cast_rfl (p := j ≤ 1000000 ∧ ∀ (z1 : Nat), z1 = vB m → ifB ((↑(iN (digs 10 z1)).length : Int) == (0 : Int)) (true = true ∧ Sub (PV.tup [PV.f (Lf.v (Value.slice none 0 0)), PV.f (Lf.v (Value.slice none 0 0)), PV.f (Lf.v (Value.bool false))]) (PV.tup [PV.f (Lf.zd (↑(vB l / vB m) : Int) (k + 1)), PV.f (Lf.zd (↑(vB l % vB m) : Int) (j + 1)), PV.f (Lf.v (Value.bool true))])) (k ≤ 1000000 ∧ ∀ (z2 : Nat), z2 = vB l → (R10 (iN (digs 10 z2)) 10000000 ∧ R10 (iN (digs 10 z1)) 10000000 ∧ 0 < vI (iN (digs 10 z1))) ∧ ∀ (z3 : Nat), z3 = vI (iN (digs 10 z2)) / vI (iN (digs 10 z1)) → ∀ (z4 : Nat), z4 = vI (iN (digs 10 z2)) % vI (iN (digs 10 z1)) → R10 (iN (digs 10 z3)) 100000000 ∧ ∀ (z5 : Nat), z5 = vI (iN (digs 10 z3)) → R10 (iN (digs 10 z4)) 100000000 ∧ ∀ (z6 : Nat), z6 = vI (iN (digs 10 z4)) → true = true ∧ Sub (PV.tup [PV.f (Lf.zd (↑z5 : Int) (iN (digs 10 z3)).length), PV.f (Lf.zd (↑z6 : Int) (iN (digs 10 z4)).length), PV.f (Lf.v (Value.bool true))]) (PV.tup [PV.f (Lf.zd (↑(vB l / vB m) : Int) (k + 1)), PV.f (Lf.zd (↑(vB l % vB m) : Int) (j + 1)), PV.f (Lf.v (Value.bool true))]))) (by kernel_rfl) ?_
      refine ⟨?s0, fun z1 => fun hz1 => ifB_iff.2 ⟨fun hb0 => ⟨rfl, ?m0⟩, fun hb0 => ⟨?s1, fun z2 => fun hz2 => ⟨?s2, fun z3 => fun hz3 => fun z4 => fun hz4 => ⟨?s3, fun z5 => fun hz5 => ⟨?s4, fun z6 => fun hz6 => ⟨rfl, ?m1⟩⟩⟩⟩⟩⟩⟩
      case s0 => omega
      all_goals subst hz1
      case m0 =>
        exfalso
        have h4 : digs 10 (vB m) = [] := List.length_eq_zero_iff.1 (by have := eq_of_beq hb0; rw [iN_len] at this; omega)
        have h5 := val_digs 10 (by omega) (vB m)
        rw [h4] at h5
        exact h3 h5.symm
      case s1 => omega
      all_goals subst hz2
      case s2 => exact ⟨R10_lim a2 a1 (by omega), R10_lim b2 b1 (by omega), by rw [vI_digs]; omega⟩
      all_goals rw [vI_digs, vI_digs] at hz3 hz4
      all_goals subst hz3 hz4
      case s3 => exact R10_digs (Nat.le_trans (digs_length_mono 10 (by omega) (Nat.div_le_self _ _)) (Nat.le_trans (lim_len a2 a1) (by omega)))
      case s4 => exact R10_digs (Nat.le_trans (digs_length_mono 10 (by omega) (Nat.le_of_lt (Nat.mod_lt _ (by omega)))) (Nat.le_trans (lim_len b2 b1) (by omega)))
      case m1 =>
        rw [vI_digs] at hz5 hz6
        subst hz5 hz6
        exact tup_sub (.cons (sub_zd ((zb_vB a2 a1).leN (Nat.div_le_self _ _))) (.cons (sub_zd ((zb_vB b2 b1).leN (Nat.le_of_lt (Nat.mod_lt _ (by omega))))) (.cons (.refl _) .nil)))
    · cases hs
  · cases hs
end

end Go.Proofs.YtjfncepmpabcnaaGreatDoor
