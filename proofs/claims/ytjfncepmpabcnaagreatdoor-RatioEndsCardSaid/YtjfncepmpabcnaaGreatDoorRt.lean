/- The law RatioTexts, by the pure run. -/
import Derived.Test.YtjfncepmpabcnaaGreatDoorRi
namespace Go.Proofs.YtjfncepmpabcnaaGreatDoor
open Go.RowKit
set_option linter.unusedVariables false
set_option maxRecDepth 100000

theorem sameQ_self (r : Rat) : (((zNeg r.num == zNeg r.num) && eqB (digs 1000000000 r.num.natAbs) (digs 1000000000 r.num.natAbs)) && ((zNeg (r.den : Int) == zNeg (r.den : Int)) && eqB (digs 1000000000 (r.den : Int).natAbs) (digs 1000000000 (r.den : Int).natAbs))) = true := by
  rw [sameZ_eq, sameZ_eq, decide_eq_true rfl, decide_eq_true rfl]; rfl
/-- A law of one text. -/
def sLawS : Spec
  | [.f (.v (.string s))] => some (none, .one (.f (.v (.bool true))))
  | _ => none
theorem cTextsLaw : Contract Tryz.prog EQ 4 sLawS := by
  refine contract_loopsG [(20, sAwake), (21, sParseQ), (22, sParseQ), (23, sSameQ)] Tryz.ntmps4 Tryz.func4 (by kernel_rfl) (by kernel_rfl) EQ.up ⟨cAwake, cParseQ, cParseR EQ.up, cSame3 EQ.up, trivial⟩ ?_
  intro xs p r hs hp
  unfold sLawS at hs
  split at hs
  · rename_i s
    cases hs
    refine ⟨[.f (.v (.string s))], [], .cons (.refl _) .nil, rfl, fun hgx hg => ?_⟩
    refine cast_rfl (p := ifB (decide ((↑s.size : Int) > (100 : Int))) (true = true ∧ Sub (PV.f (Lf.v (Value.bool true))) (PV.f (Lf.v (Value.bool true)))) (s.size ≤ 1000 ∧ ∀ (z1 : Rat), z1 = parQ s.data.toList → ∀ (z2 : Bool), z2 = okQ s.data.toList → s.size ≤ 1000 ∧ ∀ (z3 : Rat), z3 = parQ s.data.toList → ∀ (z4 : Bool), z4 = okQ s.data.toList → ifB (z2 == z4) (4040 ≤ 800000 ∧ true = true ∧ Sub (PV.f (Lf.v (Value.bool (zNeg z1.num == zNeg z3.num && eqB (digs 1000000000 z1.num.natAbs) (digs 1000000000 z3.num.natAbs) && (zNeg (↑z1.den : Int) == zNeg (↑z3.den : Int) && eqB (digs 1000000000 (↑z1.den : Int).natAbs) (digs 1000000000 (↑z3.den : Int).natAbs)))))) (PV.f (Lf.v (Value.bool true)))) (true = true ∧ Sub (PV.f (Lf.v (Value.bool false))) (PV.f (Lf.v (Value.bool true)))))) (by kernel_rfl) ?_
    refine ifB_iff.2 ⟨fun hb0 => ⟨rfl, ?m0⟩, fun hb0 => ⟨?s0, fun z1 => fun hz1 => fun z2 => fun hz2 => ⟨?s1, fun z3 => fun hz3 => fun z4 => fun hz4 => ifB_iff.2 ⟨fun hb1 => ⟨?s2, ⟨rfl, ?m1⟩⟩, fun hb1 => ⟨rfl, ?m2⟩⟩⟩⟩⟩
    case m0 => exact .refl _
    case s0 => have := of_decide_eq_false hb0; omega
    case s1 => have := of_decide_eq_false hb0; omega
    case s2 => omega
    case m1 =>
      subst hz1 hz3
      rw [sameQ_self]
      exact .refl _
    case m2 =>
      subst hz2 hz4
      rw [beq_self_eq_true] at hb1
      cases hb1
  · cases hs

end Go.Proofs.YtjfncepmpabcnaaGreatDoor
