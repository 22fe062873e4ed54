/- The reference of chapter 2 by the pure run: the other ones. -/
import Derived.Test.YtjfncepmpabcnaaGreatDoorRe
namespace Go.Proofs.YtjfncepmpabcnaaGreatDoor
open Go.RowKit
set_option linter.unusedVariables false
set_option maxRecDepth 100000

theorem vB_dig (z : Int) : vB (digs 1000000000 z.natAbs) = z.natAbs := vB_digs _
theorem bndS_mem : ∀ (l : List ((Bool × List Nat) × Nat × Nat)) (a : Nat), ∀ x ∈ l, x.2.2 ≤ bndS l a
  | y :: l, a, x, h => by
    simp only [bndS]
    rcases List.mem_cons.1 h with rfl | h
    · exact Nat.le_trans (by omega) (bndS_ge l _)
    · exact bndS_mem l _ x h
theorem cMulZ {E : World → Hp → Prop} (hU : Up E) : Contract Tryz.prog E 16 sMulR := by
  refine contract_loopsG [(56, sOf), (58, sNormZ), (61, sOfB), (62, sMulL)] Tryz.ntmps16 Tryz.func16 (by kernel_rfl) (by kernel_rfl) hU ⟨cOfR, cNormZ, cOfB, cMulL, trivial⟩ ?_
  intro xs p r hs hp
  unfold sMulR at hs
  split at hs
  · rename_i y
    split at hs
    · rename_i l hl
      cases hs
      have hk := hp _ rfl
      have hsub := sub_zs hl
      have hL : (zsOf l).length = l.length := by simp [zsOf]
      refine ⟨[.f (.zs (zsOf l))], [(3, .s ⟨Nat × Int, fun x => ⟨[(0, .f (.zs (zsOf l))), (2, .bp 0 0), (3, .bp 1 0), (4, .f (.v (.int .i64 (x.1 : Nat))))], [.cells [.f (.v (.bool false)), .f (.v (.slice none 0 0))], .cells [.f (.zn x.2), .f (.zd x.2 (bndP l 1))]]⟩,
        fun x => x.1 ≤ l.length ∧ x.2 = prodR (l.take x.1) 1, fun x => l.length - x.1⟩)], .cons hsub .nil, rfl, fun hgx hg => ?_⟩
      have hgood := sliceR_good hl hgx.1.2
      have hbnd : ∀ i, ZB (prodR (l.take i) 1) (bndP l 1) := fun i => (prodR_zb _ 1 1 ZB.one fun x hx => (hgood x (List.mem_of_mem_take hx)).2.2).mono (bndP_take l 1 i)
      have hbl := bndP_size l 1 (sliceR_j hl)
      have hll := sizeR_len l
      refine cast_rfl (p := ((-9223372036854775808 : Int) ≤ (1 : Int) ∧ (1 : Int) ≤ (9223372036854775807 : Int)) ∧ ∀ (z1 : Int), z1 = (1 : Int) → ∃ (x2 : Nat × Int), (((SubB (PV.f (Lf.v (Value.bool false))) (PV.f (Lf.v (Value.bool false))) ∧ SubB (PV.f (Lf.v (Value.slice none 0 0))) (PV.f (Lf.v (Value.slice none 0 0))) ∧ True) ∧ (SubB (PV.f (Lf.zn z1)) (PV.f (Lf.zn x2.snd)) ∧ SubB (PV.f (Lf.zd z1 3)) (PV.f (Lf.zd x2.snd (bndP l 1))) ∧ True) ∧ True) ∧ SubB (PV.f (Lf.zs (zsOf l))) (PV.f (Lf.zs (zsOf l))) ∧ SubB (PV.bp 0 0) (PV.bp 0 0) ∧ SubB (PV.bp 1 0) (PV.bp 1 0) ∧ SubB (PV.f (Lf.v (Value.int IntKind.i64 (0 : Int)))) (PV.f (Lf.v (Value.int IntKind.i64 (↑x2.fst : Int)))) ∧ True) ∧ (x2.fst ≤ l.length ∧ x2.snd = prodR (List.take x2.fst l) (1 : Int)) ∧ True ∧ ∀ (z3 : Nat × Int), z3.fst ≤ l.length ∧ z3.snd = prodR (List.take z3.fst l) (1 : Int) → True → ifB (decide ((↑z3.fst : Int) < (↑(zsOf l).length : Int))) (((0 : Int) ≤ (↑z3.fst : Int) ∧ (↑z3.fst : Int) < (↑(zsOf l).length : Int)) ∧ ((zsOf l).getD (↑z3.fst : Int).toNat (false, [], 0)).snd.snd ≤ 1000000 ∧ ∀ (z4 : Int), z4 = zV ((zsOf l).getD (↑z3.fst : Int).toNat (false, [], 0)).fst ((zsOf l).getD (↑z3.fst : Int).toNat (false, [], 0)).snd.fst → sizeL [(digs 1000000000 z3.snd.natAbs, bndP l 1), (digs 1000000000 z4.natAbs, ((zsOf l).getD (↑z3.fst : Int).toNat (false, [], 0)).snd.snd + 1)] ≤ 100000 ∧ ∀ (z5 : Nat), z5 = prodL' [(digs 1000000000 z3.snd.natAbs, bndP l 1), (digs 1000000000 z4.natAbs, ((zsOf l).getD (↑z3.fst : Int).toNat (false, [], 0)).snd.snd + 1)] 1 → sizeL [(digs 1000000000 z3.snd.natAbs, bndP l 1), (digs 1000000000 z4.natAbs, ((zsOf l).getD (↑z3.fst : Int).toNat (false, [], 0)).snd.snd + 1)] + 1 ≤ 1000000 ∧ ∀ (z6 : Int), z6 = zV (!zNeg z3.snd == zNeg z4) (digs 1000000000 (↑z5 : Int).natAbs) → ∃ (x7 : Nat × Int), (((SubB (PV.f (Lf.v (Value.bool false))) (PV.f (Lf.v (Value.bool false))) ∧ SubB (PV.f (Lf.v (Value.slice none 0 0))) (PV.f (Lf.v (Value.slice none 0 0))) ∧ True) ∧ (SubB (PV.f (Lf.zn z6)) (PV.f (Lf.zn x7.snd)) ∧ SubB (PV.f (Lf.zd z6 (sizeL [(digs 1000000000 z3.snd.natAbs, bndP l 1), (digs 1000000000 z4.natAbs, ((zsOf l).getD (↑z3.fst : Int).toNat (false, [], 0)).snd.snd + 1)] + 1 + 1))) (PV.f (Lf.zd x7.snd (bndP l 1))) ∧ True) ∧ True) ∧ SubB (PV.f (Lf.zs (zsOf l))) (PV.f (Lf.zs (zsOf l))) ∧ SubB (PV.bp 0 0) (PV.bp 0 0) ∧ SubB (PV.bp 1 0) (PV.bp 1 0) ∧ SubB (PV.f (Lf.v (Value.int IntKind.i64 (IntKind.i64.wrap ((↑z3.fst : Int) + (1 : Int)))))) (PV.f (Lf.v (Value.int IntKind.i64 (↑x7.fst : Int)))) ∧ True) ∧ (x7.fst ≤ l.length ∧ x7.snd = prodR (List.take x7.fst l) (1 : Int)) ∧ True ∧ (l.length - x7.fst).succ.le (l.length - z3.fst)) (true = true ∧ Sub (PV.agg [PV.f (Lf.zn z3.snd), PV.f (Lf.zd z3.snd (bndP l 1))]) (PV.agg [PV.f (Lf.zn (prodR l (1 : Int))), PV.f (Lf.zd (prodR l (1 : Int)) (bndP l 1))]))) (by kernel_rfl) ?_
      refine ⟨?s0, fun z1 => fun hz1 => ⟨?x0, ⟨⟨⟨⟨.refl _, ⟨.refl _, trivial⟩⟩, ⟨⟨?m0, ⟨?m1, trivial⟩⟩, trivial⟩⟩, ⟨.refl _, ⟨.refl _, ⟨.refl _, ⟨?m2, trivial⟩⟩⟩⟩⟩, ⟨?s1, ⟨trivial, fun z3 => fun hq0 => fun _ => ifB_iff.2 ⟨fun hb1 => ⟨?s2, ⟨?s3, fun z4 => fun hz4 => ⟨?s4, fun z5 => fun hz5 => ⟨?s5, fun z6 => fun hz6 => ⟨?x1, ⟨⟨⟨⟨.refl _, ⟨.refl _, trivial⟩⟩, ⟨⟨?m3, ⟨?m4, trivial⟩⟩, trivial⟩⟩, ⟨.refl _, ⟨.refl _, ⟨.refl _, ⟨?m5, trivial⟩⟩⟩⟩⟩, ⟨?s6, ⟨trivial, ?m6⟩⟩⟩⟩⟩⟩⟩⟩, fun hb1 => ⟨rfl, ?m7⟩⟩⟩⟩⟩⟩⟩
      case x0 => exact (0, 1)
      case x1 => exact (z3.1 + 1, z6)
      case s0 => omega
      case m0 => exact subB_zn hz1
      case m1 => exact subB_zdB hz1 (ZB.one.mono (bndP_ge l 1))
      case m2 => exact .refl _
      case s1 => exact ⟨Nat.zero_le _, rfl⟩
      case m7 =>
        have h1 := of_decide_eq_false hb1
        have h2 : z3.1 = l.length := by omega
        have h3 := hq0.2
        rw [h2, List.take_of_length_le (Nat.le_refl _)] at h3
        rw [h3]; exact .refl _
      all_goals have h1 := of_decide_eq_true hb1
      all_goals have hil : z3.1 < l.length := (by omega)
      all_goals have hat := zsOf_at hil
      all_goals have hmem := List.getElem_mem hil
      all_goals have hsz := sizeR_mem _ hmem
      all_goals simp only [Int.toNat_natCast, hat] at *
      case s2 => exact ⟨by omega, by omega⟩
      case s3 => omega
      case s4 => simp only [sizeL]; omega
      case s5 => simp only [sizeL]; omega
      all_goals have hz : z6 = prodR (l.take (z3.1 + 1)) 1 := (by
        rw [hz6, zV_dig, hz5]
        simp only [prodL', Nat.one_mul, vB_dig]
        rw [prodR_snoc l z3.1 hil, ← hq0.2, ← hz4, Int.natAbs_natCast, sgn_bne, times_z])
      case m3 => exact .refl _
      case m4 => exact subB_zdB rfl (by rw [hz]; exact hbnd _)
      case m5 => exact subB_succ (by omega)
      case s6 => exact ⟨hil, hz⟩
      case m6 => show l.length - (z3.1 + 1) + 1 ≤ l.length - z3.1; omega
    · cases hs
  · cases hs
theorem cNegZ {E : World → Hp → Prop} (hU : Up E) : Contract Tryz.prog E 88 sNeg := by
  refine contract_loopsG [(58, sNormZ), (61, sOfB)] Tryz.ntmps88 Tryz.func88 (by kernel_rfl) (by kernel_rfl) hU ⟨cNormZ, cOfB, trivial⟩ ?_
  intro xs p r hs hp
  unfold sNeg at hs
  split at hs
  · rename_i x
    split at hs
    · rename_i n l k j hx
      cases hs
      have hk := hp _ rfl
      refine ⟨[rawP n l k], [], .cons (sub_raw hx) .nil, rfl, fun hgx hg => ?_⟩
      obtain ⟨a1, a2, a3⟩ := pvR_good hx hgx.1
      refine cast_rfl (p := k ≤ 1000000 ∧ ∀ (z1 : Int), z1 = zV n l → k + 1 ≤ 1000000 ∧ ∀ (z2 : Int), z2 = zV (!zNeg z1) (digs 1000000000 z1.natAbs) → true = true ∧ Sub (PV.agg [PV.f (Lf.zn z2), PV.f (Lf.zd z2 (k + 1 + 1))]) (PV.agg [PV.f (Lf.zn (-zV n l)), PV.f (Lf.zd (-zV n l) j)])) (by kernel_rfl) ?_
      refine ⟨?s0, fun z1 => fun hz1 => ⟨?s1, fun z2 => fun hz2 => ⟨rfl, ?m0⟩⟩⟩
      case s0 => omega
      case s1 => omega
      case m0 =>
        have : z2 = -zV n l := by rw [hz2, zV_dig, turned, hz1]
        subst this
        exact sub_zP a3.neg
    · cases hs
  · cases hs
def sSubZ : Spec
  | [x, y] => match pvR x, pvR y with
    | some ((n, l), k, j), some ((n', l'), k', j') => some (some (k + k' ≤ 30000), .nm Int (zV n l - zV n' l') fun z => zP z (j + j' + 1))
    | _, _ => none
  | _ => none
theorem cSubZ {E : World → Hp → Prop} (hU : Up E) : Contract Tryz.prog E 123 sSubZ := by
  refine contract_loopsG [(58, sNormZ), (88, sNeg), (57, sPlusZ)] Tryz.ntmps123 Tryz.func123 (by kernel_rfl) (by kernel_rfl) hU ⟨cNormZ, cNegZ hU, cPlusZ hU, trivial⟩ ?_
  intro xs p r hs hp
  unfold sSubZ at hs
  split at hs
  · rename_i x y
    split at hs
    · rename_i n l k j n' l' k' j' hx hy
      cases hs
      have hk := hp _ rfl
      refine ⟨[rawP n l k, rawP n' l' k'], [], .cons (sub_raw hx) (.cons (sub_raw hy) .nil), rfl, fun hgx hg => ?_⟩
      obtain ⟨a1, a2, a3⟩ := pvR_good hx hgx.1
      obtain ⟨b1, b2, b3⟩ := pvR_good hy hgx.2.1
      refine cast_rfl (p := k ≤ 1000000 ∧ ∀ (z1 : Int), z1 = zV n l → k' ≤ 100000 ∧ ∀ (z2 : Int), z2 = -zV n' l' → k + 1 + (k' + 1) ≤ 40000 ∧ ∀ (z3 : Int), z3 = zV (zNeg z1) (digs 1000000000 z1.natAbs) + zV (zNeg z2) (digs 1000000000 z2.natAbs) → true = true ∧ Sub (PV.agg [PV.f (Lf.zn z3), PV.f (Lf.zd z3 (k + 1 + (k' + 1) + 1))]) (PV.agg [PV.f (Lf.zn (zV n l - zV n' l')), PV.f (Lf.zd (zV n l - zV n' l') (j + j' + 1))])) (by kernel_rfl) ?_
      refine ⟨?s0, fun z1 => fun hz1 => ⟨?s1, fun z2 => fun hz2 => ⟨?s2, fun z3 => fun hz3 => ⟨rfl, ?m0⟩⟩⟩⟩
      case s0 => omega
      case s1 => omega
      case s2 => omega
      case m0 =>
        have : z3 = zV n l - zV n' l' := by rw [hz3, zV_self, zV_self, hz1, hz2]; omega
        subst this
        exact sub_zP (a3.sub b3)
    · cases hs
  · cases hs
theorem cCmpZ {E : World → Hp → Prop} (hU : Up E) : Contract Tryz.prog E 86 sCmp := by
  refine contract_loopsG [(58, sNormZ), (122, sCmpL)] Tryz.ntmps86 Tryz.func86 (by kernel_rfl) (by kernel_rfl) hU ⟨cNormZ, cCmpL hU, trivial⟩ ?_
  intro xs p r hs hp
  unfold sCmp at hs
  split at hs
  · rename_i x y
    split at hs
    · rename_i n l k j n' l' k' j' hx hy
      cases hs
      have hk := hp _ rfl
      refine ⟨[rawP n l k, rawP n' l' k'], [], .cons (sub_raw hx) (.cons (sub_raw hy) .nil), rfl, fun hgx hg => ?_⟩
      refine cast_rfl (p := k ≤ 1000000 ∧ ∀ (z1 : Int), z1 = zV n l → k' ≤ 1000000 ∧ ∀ (z2 : Int), z2 = zV n' l' → ifB (zNeg z1) (ifB (!zNeg z2) (true = true ∧ Sub (PV.f (Lf.v (Value.int IntKind.i64 (-1 : Int)))) (PV.f (Lf.v (Value.int IntKind.i64 (cmpI (zV n l) (zV n' l')))))) (ifB (!zNeg z1) (ifB (zNeg z2) (true = true ∧ Sub (PV.f (Lf.v (Value.int IntKind.i64 (1 : Int)))) (PV.f (Lf.v (Value.int IntKind.i64 (cmpI (zV n l) (zV n' l')))))) (ifB (zNeg z1) ((k' + 1 ≤ 1000000 ∧ k + 1 ≤ 1000000) ∧ true = true ∧ Sub (PV.f (Lf.v (Value.int IntKind.i64 (ordN (vB (digs 1000000000 z2.natAbs)) (vB (digs 1000000000 z1.natAbs)))))) (PV.f (Lf.v (Value.int IntKind.i64 (cmpI (zV n l) (zV n' l')))))) ((k + 1 ≤ 1000000 ∧ k' + 1 ≤ 1000000) ∧ true = true ∧ Sub (PV.f (Lf.v (Value.int IntKind.i64 (ordN (vB (digs 1000000000 z1.natAbs)) (vB (digs 1000000000 z2.natAbs)))))) (PV.f (Lf.v (Value.int IntKind.i64 (cmpI (zV n l) (zV n' l')))))))) (ifB (zNeg z1) ((k' + 1 ≤ 1000000 ∧ k + 1 ≤ 1000000) ∧ true = true ∧ Sub (PV.f (Lf.v (Value.int IntKind.i64 (ordN (vB (digs 1000000000 z2.natAbs)) (vB (digs 1000000000 z1.natAbs)))))) (PV.f (Lf.v (Value.int IntKind.i64 (cmpI (zV n l) (zV n' l')))))) ((k + 1 ≤ 1000000 ∧ k' + 1 ≤ 1000000) ∧ true = true ∧ Sub (PV.f (Lf.v (Value.int IntKind.i64 (ordN (vB (digs 1000000000 z1.natAbs)) (vB (digs 1000000000 z2.natAbs)))))) (PV.f (Lf.v (Value.int IntKind.i64 (cmpI (zV n l) (zV n' l'))))))))) (ifB (!zNeg z1) (ifB (zNeg z2) (true = true ∧ Sub (PV.f (Lf.v (Value.int IntKind.i64 (1 : Int)))) (PV.f (Lf.v (Value.int IntKind.i64 (cmpI (zV n l) (zV n' l')))))) (ifB (zNeg z1) ((k' + 1 ≤ 1000000 ∧ k + 1 ≤ 1000000) ∧ true = true ∧ Sub (PV.f (Lf.v (Value.int IntKind.i64 (ordN (vB (digs 1000000000 z2.natAbs)) (vB (digs 1000000000 z1.natAbs)))))) (PV.f (Lf.v (Value.int IntKind.i64 (cmpI (zV n l) (zV n' l')))))) ((k + 1 ≤ 1000000 ∧ k' + 1 ≤ 1000000) ∧ true = true ∧ Sub (PV.f (Lf.v (Value.int IntKind.i64 (ordN (vB (digs 1000000000 z1.natAbs)) (vB (digs 1000000000 z2.natAbs)))))) (PV.f (Lf.v (Value.int IntKind.i64 (cmpI (zV n l) (zV n' l')))))))) (ifB (zNeg z1) ((k' + 1 ≤ 1000000 ∧ k + 1 ≤ 1000000) ∧ true = true ∧ Sub (PV.f (Lf.v (Value.int IntKind.i64 (ordN (vB (digs 1000000000 z2.natAbs)) (vB (digs 1000000000 z1.natAbs)))))) (PV.f (Lf.v (Value.int IntKind.i64 (cmpI (zV n l) (zV n' l')))))) ((k + 1 ≤ 1000000 ∧ k' + 1 ≤ 1000000) ∧ true = true ∧ Sub (PV.f (Lf.v (Value.int IntKind.i64 (ordN (vB (digs 1000000000 z1.natAbs)) (vB (digs 1000000000 z2.natAbs)))))) (PV.f (Lf.v (Value.int IntKind.i64 (cmpI (zV n l) (zV n' l'))))))))) (by kernel_rfl) ?_
      refine ⟨?s0, fun z1 => fun hz1 => ⟨?s1, fun z2 => fun hz2 => ifB_iff.2 ⟨fun hb0 => ifB_iff.2 ⟨fun hb1 => ⟨rfl, ?m0⟩, fun hb1 => ifB_iff.2 ⟨fun hb2 => ifB_iff.2 ⟨fun hb3 => ⟨rfl, ?m1⟩, fun hb3 => ifB_iff.2 ⟨fun hb4 => ⟨?s2, ⟨rfl, ?m2⟩⟩, fun hb4 => ⟨?s3, ⟨rfl, ?m3⟩⟩⟩⟩, fun hb2 => ifB_iff.2 ⟨fun hb5 => ⟨?s4, ⟨rfl, ?m4⟩⟩, fun hb5 => ⟨?s5, ⟨rfl, ?m5⟩⟩⟩⟩⟩, fun hb0 => ifB_iff.2 ⟨fun hb6 => ifB_iff.2 ⟨fun hb7 => ⟨rfl, ?m6⟩, fun hb7 => ifB_iff.2 ⟨fun hb8 => ⟨?s6, ⟨rfl, ?m7⟩⟩, fun hb8 => ⟨?s7, ⟨rfl, ?m8⟩⟩⟩⟩, fun hb6 => ifB_iff.2 ⟨fun hb9 => ⟨?s8, ⟨rfl, ?m9⟩⟩, fun hb9 => ⟨?s9, ⟨rfl, ?m10⟩⟩⟩⟩⟩⟩⟩
      case s0 => omega
      case s1 => omega
      all_goals try rw [← hz1, ← hz2]
      all_goals try rw [vB_dig, vB_dig]
      all_goals simp only [zNeg, Bool.not_eq_true', decide_eq_true_eq, decide_eq_false_iff_not, Bool.not_eq_false'] at *
      all_goals first
        | exact ⟨by omega, by omega⟩
        | (refine sub_int ?_
           unfold cmpI
           try unfold ordN
           repeat' split
           all_goals omega)
    · cases hs
  · cases hs
theorem cRightZ {E : World → Hp → Prop} (hU : Up E) : Contract Tryz.prog E 85 sRight := by
  refine contract_loopsG [(121, sRightL)] Tryz.ntmps85 Tryz.func85 (by kernel_rfl) (by kernel_rfl) hU ⟨cRightL hU, trivial⟩ ?_
  intro xs p r hs hp
  unfold sRight at hs
  split at hs
  · rename_i x
    split at hs
    · rename_i n l k j hx
      cases hs
      have hk := hp _ rfl
      refine ⟨[rawP n l k], [], .cons (sub_raw hx) .nil, rfl, fun hgx hg => ?_⟩
      refine cast_rfl (p := k ≤ 1000000 ∧ ifB (rgtB l) (ifB (!n) (true = true ∧ Sub (PV.f (Lf.v (Value.bool true))) (PV.f (Lf.v (Value.bool (rightZ n l))))) (true = true ∧ Sub (PV.f (Lf.v (Value.bool (decide ((↑l.length : Int) > (0 : Int)))))) (PV.f (Lf.v (Value.bool (rightZ n l)))))) (true = true ∧ Sub (PV.f (Lf.v (Value.bool false))) (PV.f (Lf.v (Value.bool (rightZ n l)))))) (by kernel_rfl) ?_
      refine ⟨?s0, ifB_iff.2 ⟨fun hb0 => ifB_iff.2 ⟨fun hb1 => ⟨rfl, ?m0⟩, fun hb1 => ⟨rfl, ?m1⟩⟩, fun hb0 => ⟨rfl, ?m2⟩⟩⟩
      case s0 => exact hk
      case m0 =>
        refine sub_bool ?_
        unfold rightZ
        rw [hb0, hb1]; rfl
      case m1 =>
        refine sub_bool ?_
        unfold rightZ
        rw [hb0, hb1, Bool.true_and, Bool.false_or, Bool.eq_iff_iff, decide_eq_true_eq, decide_eq_true_eq]
        omega
      case m2 =>
        refine sub_bool ?_
        unfold rightZ
        rw [hb0]; rfl
    · cases hs
  · cases hs
theorem cTextZ {E : World → Hp → Prop} (hU : Up E) : Contract Tryz.prog E 93 sText := by
  refine contract_loopsG [(58, sNormZ), (124, sTextL)] Tryz.ntmps93 Tryz.func93 (by kernel_rfl) (by kernel_rfl) hU ⟨cNormZ, cTextL hU, trivial⟩ ?_
  intro xs p r hs hp
  unfold sText at hs
  split at hs
  · rename_i x
    split at hs
    · rename_i n l k j hx
      cases hs
      have hk := hp _ rfl
      refine ⟨[rawP n l k], [], .cons (sub_raw hx) .nil, rfl, fun hgx hg => ?_⟩
      refine cast_rfl (p := k ≤ 1000000 ∧ ∀ (z1 : Int), z1 = zV n l → k + 1 ≤ 1000000 ∧ ifB (zNeg z1) ((↑(1 + (ByteArray.mk (Lib.decDigits (vB (digs 1000000000 z1.natAbs))).toArray).size) : Int) ≤ IntKind.i64.max ∧ true = true ∧ Sub (PV.f (Lf.v (Value.string (ByteArray.mk #[(45 : UInt8)] ++ ByteArray.mk (Lib.decDigits (vB (digs 1000000000 z1.natAbs))).toArray)))) (PV.f (Lf.v (Value.string (ByteArray.mk (zText (zV n l)).toArray))))) (true = true ∧ Sub (PV.f (Lf.v (Value.string (ByteArray.mk (Lib.decDigits (vB (digs 1000000000 z1.natAbs))).toArray)))) (PV.f (Lf.v (Value.string (ByteArray.mk (zText (zV n l)).toArray)))))) (by kernel_rfl) ?_
      refine ⟨?s0, fun z1 => fun hz1 => ⟨?s1, ifB_iff.2 ⟨fun hb0 => ⟨?s2, ⟨rfl, ?m0⟩⟩, fun hb0 => ⟨rfl, ?m1⟩⟩⟩⟩
      case s0 => omega
      case s1 => omega
      all_goals try rw [← hz1]
      all_goals try rw [vB_dig]
      case s2 =>
        have h1 : (Lib.decDigits z1.natAbs).length ≤ 9 * (k + 1) + 1 := dec_len (k := k + 1) (by
          rw [hz1]
          exact (pvR_good hx hgx.1).2.2.mono (pvR_j hx))
        have h2 : IntKind.i64.max = 9223372036854775807 := by decide
        rw [h2]
        simp [ByteArray.size]
        omega
      case m0 => rw [zText_neg hb0]; exact .refl _
      case m1 => rw [zText_pos hb0]; exact .refl _
    · cases hs
  · cases hs
theorem cParseZ {E : World → Hp → Prop} : Contract Tryz.prog E 74 sParse := by
  intro xs p r hs hp w H vs hf hE hvs
  unfold sParse at hs
  split at hs
  · rename_i s
    cases hs
    have hsz := hp _ rfl
    obtain ⟨v, rfl, hv⟩ := one_arg hvs
    have := hv.val
    subst this
    refine (refParse_any s w (by omega)).mono ?_
    rintro e w' ⟨x, rfl, hio, hbl⟩
    refine ⟨_, _, rfl, ext_all hf hbl, ?_⟩
    exact .tup rfl fun i v x hv hx => by
      match i with
      | 0 => simp at hv hx; subst hv hx; exact io_pr hio (parZ_zb hsz)
      | 1 => simp at hv hx; subst hv hx; exact .f (.v _ rfl)
      | i + 2 => simp at hv
  · cases hs
theorem cGcdZ {E : World → Hp → Prop} (hU : Up E) : Contract Tryz.prog E 18 sGcdR := by
  refine contract_loopsG [(67, sTrimL), (68, sDivL), (61, sOfB)] Tryz.ntmps18 Tryz.func18 (by kernel_rfl) (by kernel_rfl) hU ⟨cTrimL, cDivL hU, cOfB, trivial⟩ ?_
  intro xs p r hs hp
  unfold sGcdR at hs
  split at hs
  · rename_i y
    split at hs
    · rename_i l hl
      cases hs
      have hk := hp _ rfl
      have hsub := sub_zs hl
      have hL : (zsOf l).length = l.length := by simp [zsOf]
      refine ⟨[.f (.zs (zsOf l))], [(3, .s ⟨Nat × Nat, fun x => ⟨[(0, .f (.zs (zsOf l))), (2, .bp 0 0), (3, .f (.zd (x.2 : Int) (bndS l 0))), (4, .f (.v (.int .i64 (x.1 : Nat))))], [.cells [.f (.v (.bool false)), .f (.v (.slice none 0 0))]]⟩,
        fun x => x.1 ≤ l.length ∧ (x.2 : Int) = gcdR (l.take x.1) 0, fun x => l.length - x.1⟩), (6, ⟨Nat × Nat × Nat, fun x => ⟨[(0, .f (.zs (zsOf l))), (2, .bp 0 0), (3, .f (.zd (x.2.1 : Int) (bndS l 0 + 1))), (4, .f (.v (.int .i64 (x.1 : Nat)))), (5, .f (.zd (x.2.2 : Int) (bndS l 0 + 1)))], [.cells [.f (.v (.bool false)), .f (.v (.slice none 0 0))]]⟩,
        fun x => ZB (x.2.1 : Int) (bndS l 0 + 1) ∧ ZB (x.2.2 : Int) (bndS l 0 + 1), fun x => x.2.2, fun x y => x.1 = y.1 ∧ Nat.gcd x.2.1 x.2.2 = Nat.gcd y.2.1 y.2.2⟩)], .cons hsub .nil, rfl, fun hgx hg => ?_⟩
      have hgood := sliceR_good hl hgx.1.2
      have hbnd : ∀ i, ZB (gcdR (l.take i) 0) (bndS l 0) := fun i => (gcdR_zb _ 0 0 (ZB.zero 0) fun x hx => (hgood x (List.mem_of_mem_take hx)).2.2).mono (bndS_take l 0 i)
      have hbl := bndS_size l 0 (sliceR_j hl)
      have hll := sizeR_len l
      have hK : ∀ x ∈ l, x.2.2 ≤ bndS l 0 := bndS_mem l 0
      refine cast_rfl (p := ∃ (x1 : Nat × Nat), (((SubB (PV.f (Lf.v (Value.bool false))) (PV.f (Lf.v (Value.bool false))) ∧ SubB (PV.f (Lf.v (Value.slice none 0 0))) (PV.f (Lf.v (Value.slice none 0 0))) ∧ True) ∧ True) ∧ SubB (PV.f (Lf.zs (zsOf l))) (PV.f (Lf.zs (zsOf l))) ∧ SubB (PV.bp 0 0) (PV.bp 0 0) ∧ SubB (PV.f (Lf.v (Value.slice none 0 0))) (PV.f (Lf.zd (↑x1.snd : Int) (bndS l 0))) ∧ SubB (PV.f (Lf.v (Value.int IntKind.i64 (0 : Int)))) (PV.f (Lf.v (Value.int IntKind.i64 (↑x1.fst : Int)))) ∧ True) ∧ (x1.fst ≤ l.length ∧ (↑x1.snd : Int) = gcdR (List.take x1.fst l) (0 : Int)) ∧ True ∧ ∀ (z2 : Nat × Nat), z2.fst ≤ l.length ∧ (↑z2.snd : Int) = gcdR (List.take z2.fst l) (0 : Int) → True → ifB (decide ((↑z2.fst : Int) < (↑(zsOf l).length : Int))) (((0 : Int) ≤ (↑z2.fst : Int) ∧ (↑z2.fst : Int) < (↑(zsOf l).length : Int)) ∧ ((zsOf l).getD (↑z2.fst : Int).toNat (false, [], 0)).snd.snd ≤ 1000000 ∧ ∀ (z3 : Nat), z3 = vB ((zsOf l).getD (↑z2.fst : Int).toNat (false, [], 0)).snd.fst → ∃ (x4 : Nat × Nat × Nat), (((SubB (PV.f (Lf.v (Value.bool false))) (PV.f (Lf.v (Value.bool false))) ∧ SubB (PV.f (Lf.v (Value.slice none 0 0))) (PV.f (Lf.v (Value.slice none 0 0))) ∧ True) ∧ True) ∧ SubB (PV.f (Lf.zs (zsOf l))) (PV.f (Lf.zs (zsOf l))) ∧ SubB (PV.bp 0 0) (PV.bp 0 0) ∧ SubB (PV.f (Lf.zd (↑z2.snd : Int) (bndS l 0))) (PV.f (Lf.zd (↑x4.snd.fst : Int) (bndS l 0 + 1))) ∧ SubB (PV.f (Lf.v (Value.int IntKind.i64 (↑z2.fst : Int)))) (PV.f (Lf.v (Value.int IntKind.i64 (↑x4.fst : Int)))) ∧ SubB (PV.f (Lf.zd (↑z3 : Int) (((zsOf l).getD (↑z2.fst : Int).toNat (false, [], 0)).snd.snd + 1))) (PV.f (Lf.zd (↑x4.snd.snd : Int) (bndS l 0 + 1))) ∧ True) ∧ (ZB (↑x4.snd.fst : Int) (bndS l 0 + 1) ∧ ZB (↑x4.snd.snd : Int) (bndS l 0 + 1)) ∧ (x4.fst = x4.fst ∧ x4.snd.fst.gcd x4.snd.snd = x4.snd.fst.gcd x4.snd.snd) ∧ ∀ (z5 : Nat × Nat × Nat), ZB (↑z5.snd.fst : Int) (bndS l 0 + 1) ∧ ZB (↑z5.snd.snd : Int) (bndS l 0 + 1) → x4.fst = z5.fst ∧ x4.snd.fst.gcd x4.snd.snd = z5.snd.fst.gcd z5.snd.snd → ifB (decide ((↑(digs 1000000000 (↑z5.snd.snd : Int).natAbs).length : Int) > (0 : Int))) ((bndS l 0 + 1 ≤ 100000 ∧ bndS l 0 + 1 ≤ 100000 ∧ vB (digs 1000000000 (↑z5.snd.snd : Int).natAbs) ≠ 0) ∧ ∀ (z6 : Nat), z6 = vB (digs 1000000000 (↑z5.snd.fst : Int).natAbs) / vB (digs 1000000000 (↑z5.snd.snd : Int).natAbs) → ∀ (z7 : Nat), z7 = vB (digs 1000000000 (↑z5.snd.fst : Int).natAbs) % vB (digs 1000000000 (↑z5.snd.snd : Int).natAbs) → ∃ (x8 : Nat × Nat × Nat), (((SubB (PV.f (Lf.v (Value.bool false))) (PV.f (Lf.v (Value.bool false))) ∧ SubB (PV.f (Lf.v (Value.slice none 0 0))) (PV.f (Lf.v (Value.slice none 0 0))) ∧ True) ∧ True) ∧ SubB (PV.f (Lf.zs (zsOf l))) (PV.f (Lf.zs (zsOf l))) ∧ SubB (PV.bp 0 0) (PV.bp 0 0) ∧ SubB (PV.f (Lf.zd (↑z5.snd.snd : Int) (bndS l 0 + 1))) (PV.f (Lf.zd (↑x8.snd.fst : Int) (bndS l 0 + 1))) ∧ SubB (PV.f (Lf.v (Value.int IntKind.i64 (↑z5.fst : Int)))) (PV.f (Lf.v (Value.int IntKind.i64 (↑x8.fst : Int)))) ∧ SubB (PV.f (Lf.zd (↑z7 : Int) (bndS l 0 + 1 + 1))) (PV.f (Lf.zd (↑x8.snd.snd : Int) (bndS l 0 + 1))) ∧ True) ∧ (ZB (↑x8.snd.fst : Int) (bndS l 0 + 1) ∧ ZB (↑x8.snd.snd : Int) (bndS l 0 + 1)) ∧ (x4.fst = x8.fst ∧ x4.snd.fst.gcd x4.snd.snd = x8.snd.fst.gcd x8.snd.snd) ∧ x8.snd.snd.succ.le z5.snd.snd) (∃ (x6 : Nat × Nat), (((SubB (PV.f (Lf.v (Value.bool false))) (PV.f (Lf.v (Value.bool false))) ∧ SubB (PV.f (Lf.v (Value.slice none 0 0))) (PV.f (Lf.v (Value.slice none 0 0))) ∧ True) ∧ True) ∧ SubB (PV.f (Lf.zs (zsOf l))) (PV.f (Lf.zs (zsOf l))) ∧ SubB (PV.bp 0 0) (PV.bp 0 0) ∧ SubB (PV.f (Lf.zd (↑z5.snd.fst : Int) (bndS l 0 + 1))) (PV.f (Lf.zd (↑x6.snd : Int) (bndS l 0))) ∧ SubB (PV.f (Lf.v (Value.int IntKind.i64 (IntKind.i64.wrap ((↑z5.fst : Int) + (1 : Int)))))) (PV.f (Lf.v (Value.int IntKind.i64 (↑x6.fst : Int)))) ∧ True) ∧ (x6.fst ≤ l.length ∧ (↑x6.snd : Int) = gcdR (List.take x6.fst l) (0 : Int)) ∧ True ∧ (l.length - x6.fst).succ.le (l.length - z2.fst))) (bndS l 0 ≤ 1000000 ∧ ∀ (z3 : Int), z3 = zV false (digs 1000000000 (↑z2.snd : Int).natAbs) → true = true ∧ Sub (PV.agg [PV.f (Lf.zn z3), PV.f (Lf.zd z3 (bndS l 0 + 1))]) (PV.agg [PV.f (Lf.zn (gcdR l (0 : Int))), PV.f (Lf.zd (gcdR l (0 : Int)) (bndS l 0))]))) (by kernel_rfl) ?_
      refine ⟨?x0, ⟨⟨⟨⟨.refl _, ⟨.refl _, trivial⟩⟩, trivial⟩, ⟨.refl _, ⟨.refl _, ⟨?m0, ⟨?m1, trivial⟩⟩⟩⟩⟩, ⟨?s0, ⟨trivial, fun z2 => fun hq0 => fun _ => ifB_iff.2 ⟨fun hb1 => ⟨?s1, ⟨?s2, fun z3 => fun hz3 => ⟨?x1, ⟨⟨⟨⟨.refl _, ⟨.refl _, trivial⟩⟩, trivial⟩, ⟨.refl _, ⟨.refl _, ⟨?m2, ⟨?m3, ⟨?m4, trivial⟩⟩⟩⟩⟩⟩, ⟨?s3, ⟨?s4, fun z5 => fun hq2 => fun hq3 => ifB_iff.2 ⟨fun hb4 => ⟨?s5, fun z6 => fun hz6 => fun z7 => fun hz7 => ⟨?x2, ⟨⟨⟨⟨.refl _, ⟨.refl _, trivial⟩⟩, trivial⟩, ⟨.refl _, ⟨.refl _, ⟨?m5, ⟨?m6, ⟨?m7, trivial⟩⟩⟩⟩⟩⟩, ⟨?s6, ⟨?s7, ?m8⟩⟩⟩⟩⟩, fun hb4 => ⟨?x3, ⟨⟨⟨⟨.refl _, ⟨.refl _, trivial⟩⟩, trivial⟩, ⟨.refl _, ⟨.refl _, ⟨?m9, ⟨?m10, trivial⟩⟩⟩⟩⟩, ⟨?s8, ⟨trivial, ?m11⟩⟩⟩⟩⟩⟩⟩⟩⟩⟩⟩, fun hb1 => ⟨?s9, fun z3 => fun hz3 => ⟨rfl, ?m12⟩⟩⟩⟩⟩⟩⟩
      case x0 => exact (0, 0)
      case x1 => exact (z2.1, z2.2, z3)
      case x2 => exact (z5.1, z5.2.2, z7)
      case x3 => exact (z2.1 + 1, z5.2.1)
      case m0 => exact subB_of (sub_nil0 _)
      case m1 => exact .refl _
      case s0 => exact ⟨Nat.zero_le _, rfl⟩
      case s9 => omega
      case m12 =>
        have h1 := of_decide_eq_false hb1
        have h2 : z2.1 = l.length := by omega
        have h3 := hq0.2
        rw [h2, List.take_of_length_le (Nat.le_refl _)] at h3
        have : z3 = gcdR l 0 := by rw [hz3, Int.natAbs_natCast, zV_dig, zOf_false]; exact h3
        subst this
        have h4 := hbnd l.length
        rw [List.take_of_length_le (Nat.le_refl _)] at h4
        exact sub_zP h4
      all_goals have h1 := of_decide_eq_true hb1
      all_goals have hil : z2.1 < l.length := (by omega)
      all_goals have hat := zsOf_at hil
      all_goals have hmem := List.getElem_mem hil
      all_goals have hsz := sizeR_mem _ hmem
      all_goals simp only [Int.toNat_natCast, hat] at *
      case s1 => exact ⟨by omega, by omega⟩
      case s2 => omega
      all_goals have hg1 : ZB (z2.2 : Int) (bndS l 0 + 1) := (by rw [hq0.2]; exact (hbnd _).mono (by omega))
      all_goals have hz3a : (zV (l[z2.1]).1.1 (l[z2.1]).1.2).natAbs = z3 := (by rw [hz3, zV_vB, zOf_abs])
      all_goals have hz3b : ZB (z3 : Int) (bndS l 0 + 1) := (by
        have h5 := (hgood _ hmem).2.2.mono (hK _ hmem)
        unfold ZB at h5
        rw [hz3a] at h5
        exact ZB.mono (k := bndS l 0 + 1) (j := bndS l 0) (by unfold ZB; rw [Int.natAbs_natCast]; exact h5) (by omega))
      case m2 => exact subB_zdB rfl hg1
      case m3 => exact .refl _
      case m4 => exact subB_zdB rfl hz3b
      case s3 => exact ⟨hg1, hz3b⟩
      case s4 => exact ⟨by trivial, by trivial⟩
      all_goals obtain ⟨c1, c2⟩ := hq2
      all_goals obtain ⟨e1, e2⟩ := hq3
      all_goals have hgc : ((Nat.gcd z2.2 z3 : Nat) : Int) = gcdR (l.take (z2.1 + 1)) 0 := (by
        rw [gcdR_snoc l z2.1 hil, ← hq0.2]
        unfold gcd2
        rw [hz3a, Int.natAbs_natCast])
      all_goals simp only [Int.natAbs_natCast, vB_digs] at *
      case m9 =>
        have h5 : digs 1000000000 z5.2.2 = [] := List.length_eq_zero_iff.1 (by have := of_decide_eq_false hb4; omega)
        have h6 := val_digs 1000000000 (by omega) z5.2.2
        rw [h5] at h6
        have h7 : z5.2.2 = 0 := h6.symm
        rw [h7, Nat.gcd_zero_right] at e2
        exact subB_zdB rfl (by rw [← e2, hgc]; exact hbnd _)
      case m10 => exact subB_int (by rw [← e1]; exact wI _ (by omega) (by omega))
      case s8 =>
        have h5 : digs 1000000000 z5.2.2 = [] := List.length_eq_zero_iff.1 (by have := of_decide_eq_false hb4; omega)
        have h6 := val_digs 1000000000 (by omega) z5.2.2
        rw [h5] at h6
        have h7 : z5.2.2 = 0 := h6.symm
        rw [h7, Nat.gcd_zero_right] at e2
        exact ⟨hil, by rw [← e2]; exact hgc⟩
      case m11 => show l.length - (z2.1 + 1) + 1 ≤ l.length - z2.1; omega
      all_goals have h0 : z5.2.2 ≠ 0 := (by
        intro hc
        rw [hc] at hb4
        cases hb4)
      case s5 => exact ⟨by omega, by omega, h0⟩
      all_goals have hml : z7 < z5.2.2 := (by rw [hz7]; exact Nat.mod_lt _ (by omega))
      case m5 => exact .refl _
      case m6 => exact .refl _
      case m7 => exact subB_zdB rfl (c2.leN (Nat.le_of_lt hml))
      case s6 => exact ⟨c2, c2.leN (Nat.le_of_lt hml)⟩
      case s7 => exact ⟨e1, by rw [e2, hz7, Nat.gcd_comm z5.2.1, Nat.gcd_rec, Nat.gcd_comm]⟩
      case m8 => exact hml
    · cases hs
  · cases hs

end Go.Proofs.YtjfncepmpabcnaaGreatDoor
