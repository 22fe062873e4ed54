/- What the kit lends and takes back of ratios; functions of what is lent; the law RatioTells. -/
import Derived.Test.YtjfncepmpabcnaaGreatDoorRi
import Derived.Test.YtjfncepmpabcnaaGreatDoorKa
namespace Go.Proofs.YtjfncepmpabcnaaGreatDoor
open Go.RowKit
set_option linter.unusedVariables false
set_option maxRecDepth 100000

theorem Subs.trans2 {x y z : PV} (h : Sub x y) (h' : Sub y z) : Sub x z := ⟨fun H v hv => h'.out H v (h.out H v hv)⟩
theorem lent_ok {l : List Nat} (h : ∀ x ∈ l, x < 4294967296) : l.length ≤ (allL l).length ∧ ∀ x ∈ (allL l).take l.length, 0 ≤ x ∧ x < 4294967296 := by
  refine ⟨by rw [allL_len]; omega, ?_⟩
  rw [allL_take]
  intro x hx
  obtain ⟨y, hy, rfl⟩ := List.mem_map.1 hx
  have := h y hy
  have e : Int.ofNat y = (y : Int) := rfl
  omega
def sLentQ : Spec
  | [.agg [.f (.v (.bool n)), .f (.lr l k), .f (.v (.bool n')), .f (.lr l' k')]] => some (some (l.length ≤ 1000000 ∧ l'.length ≤ 1000000), .one (.agg [.f (.v (.bool n)), .f (.sp (.is .u32 (allL l)) l.length), .f (.v (.bool n')), .f (.sp (.is .u32 (allL l')) l'.length)]))
  | _ => none
def sKeptQ : Spec
  | [.agg [.f (.v (.bool n)), .f (.sp (.is .u32 M) a), .f (.v (.bool n')), .f (.sp (.is .u32 M') a')], .agg [.f (.v (.bool m)), .f (.lr l k), .f (.v (.bool m')), .f (.lr l' k')]] =>
    some (some ((n = m ∧ M = allL l ∧ a = l.length ∧ l.length ≤ 100000 ∧ k ≤ 100000) ∧ n' = m' ∧ M' = allL l' ∧ a' = l'.length ∧ l'.length ≤ 100000 ∧ k' ≤ 100000), .one (.f (.v (.bool true))))
  | _ => none
section
variable {E : World → Hp → Prop} (hU : Up E)
include hU
theorem cLentQ : Contract Tryz.prog E 33 sLentQ := by
  refine contract_loopsG [(52, sLentI)] Tryz.ntmps33 Tryz.func33 (by kernel_rfl) (by kernel_rfl) hU ⟨cLentI hU, trivial⟩ ?_
  intro xs p r hs hp
  unfold sLentQ at hs
  split at hs
  · rename_i n l k n' l' k'
    cases hs
    obtain ⟨h1, h2⟩ := hp _ rfl
    refine ⟨[rawQ n l k n' l' k'], [], .cons (.refl _) .nil, rfl, fun hgx hg => ?_⟩
    refine cast_rfl (p := l.length ≤ 1000000 ∧ l'.length ≤ 1000000 ∧ true = true ∧ Sub (PV.agg [PV.f (Lf.v (Value.bool n)), PV.f ((Lf.is IntKind.u32 (allL l)).sp l.length), PV.f (Lf.v (Value.bool n')), PV.f ((Lf.is IntKind.u32 (allL l')).sp l'.length)]) (PV.agg [PV.f (Lf.v (Value.bool n)), PV.f ((Lf.is IntKind.u32 (allL l)).sp l.length), PV.f (Lf.v (Value.bool n')), PV.f ((Lf.is IntKind.u32 (allL l')).sp l'.length)])) (by kernel_rfl) ?_
    refine ⟨?s0, ⟨?s1, ⟨rfl, ?m0⟩⟩⟩
    case s0 => exact h1
    case s1 => exact h2
    case m0 => exact .refl _
  · cases hs
theorem cKeptQ : Contract Tryz.prog E 47 sKeptQ := by
  refine contract_loopsG [(76, lentS sSameQ), (69, sKeptI)] Tryz.ntmps47 Tryz.func47 (by kernel_rfl) (by kernel_rfl) hU ⟨(cSameQ hU).lent, cKeptI hU, trivial⟩ ?_
  intro xs p r hs hp
  unfold sKeptQ at hs
  split at hs
  · rename_i n M a n' M' a' m l k m' l' k'
    cases hs
    obtain ⟨⟨rfl, rfl, rfl, hl, hk⟩, rfl, rfl, rfl, hl', hk'⟩ := hp _ rfl
    refine ⟨[.agg [.f (.v (.bool n)), .f (.sp (.is .u32 (allL l)) l.length), .f (.v (.bool n')), .f (.sp (.is .u32 (allL l')) l'.length)], rawQ n l k n' l' k'], [], .cons (.refl _) (.cons (.refl _) .nil), rfl, fun hgx hg => ?_⟩
    have hlt : ∀ x ∈ l, x < 4294967296 := hgx.2.1.2.1.1.2
    have hlt' : ∀ x ∈ l', x < 4294967296 := hgx.2.1.2.2.2.1.1.2
    refine cast_rfl (p := (((True ∧ (l.length ≤ (allL l).length ∧ ∀ (x : Int), x ∈ List.take l.length (allL l) → (0 : Int) ≤ x ∧ x < (4294967296 : Int)) ∧ True ∧ (l'.length ≤ (allL l').length ∧ ∀ (x : Int), x ∈ List.take l'.length (allL l') → (0 : Int) ≤ x ∧ x < (4294967296 : Int)) ∧ True) ∧ (True ∧ True ∧ True ∧ True ∧ True) ∧ True) ∧ l.length + l'.length + k + k' ≤ 800000) ∧ ifB (n == n && eqB (List.map Int.toNat (List.take l.length (allL l))) l && (n' == n' && eqB (List.map Int.toNat (List.take l'.length (allL l'))) l')) ((n = n ∧ allL l = allL l ∧ l.length = l.length ∧ l.length ≤ 100000 ∧ k ≤ 100000) ∧ (n' = n' ∧ allL l' = allL l' ∧ l'.length = l'.length ∧ l'.length ≤ 100000 ∧ k' ≤ 100000) ∧ true = true ∧ Sub (PV.f (Lf.v (Value.bool true))) (PV.f (Lf.v (Value.bool true)))) (true = true ∧ Sub (PV.f (Lf.v (Value.bool false))) (PV.f (Lf.v (Value.bool true))))) (by kernel_rfl) ?_
    refine ⟨?s0, ifB_iff.2 ⟨fun hb0 => ⟨?s1, ⟨?s2, ⟨rfl, ?m0⟩⟩⟩, fun hb0 => ⟨rfl, ?m1⟩⟩⟩
    case s1 => exact ⟨rfl, rfl, rfl, hl, hk⟩
    case s2 => exact ⟨rfl, rfl, rfl, hl', hk'⟩
    case m0 => exact .refl _
    case m1 =>
      rw [allL_take, allL_take, map_back, map_back, eqB_self, eqB_self, beq_self_eq_true, beq_self_eq_true] at hb0
      cases hb0
    case s0 =>
      have e1 := lent_ok hlt
      have e2 := lent_ok hlt'
      exact ⟨⟨⟨trivial, e1, trivial, e2, trivial⟩, ⟨trivial, trivial, trivial, trivial, trivial⟩, trivial⟩, by omega⟩
  · cases hs
end

end Go.Proofs.YtjfncepmpabcnaaGreatDoor
