/- num.Sub. -/
import Derived.Test.YtpjjdngoblfleaaPn
namespace Go.Proofs.Ytpjjdngoblfleaa
open Go.RowKit
set_option linter.unusedVariables false
set_option maxRecDepth 100000

def sSub : Spec
  | [x, y] => match pvR x, pvR y with
    | some ((n, l), k, j), some ((n', l'), k', j') => some (some (k + k' ≤ 40000), .nm Int (zV n l - zV n' l') fun z => zP z (j + j' + 1))
    | _, _ => none
  | _ => none
theorem cSub {E : Env} (hU : Up E) : Contract Try.prog E 18 sSub := by
  refine contract_loopsG [(53, sOfN2), (55, sTurned), (54, sPlusN (fun _ _ => True)), (56, sOutN)] Try.ntmps18 Try.func18 (by kernel_rfl) (by kernel_rfl) hU ⟨cOfN2 hU, cTurned hU, cPlusN hU, cOutN hU, trivial⟩ ?_
  intro xs p r hs hp
  unfold sSub at hs
  split at hs
  · rename_i x y
    split at hs
    · rename_i n l k j n' l' k' j' hx hy
      cases hs
      have hk := hp _ rfl
      refine ⟨[rawP n l k, rawP n' l' k'], [], .cons (sub_raw hx) (.cons (sub_raw hy) .nil), rfl, fun hgx hg => ?_⟩
      obtain ⟨a1, a2, a3⟩ := pvR_good hx hgx.1
      obtain ⟨b1, b2, b3⟩ := pvR_good hy hgx.2.1
      refine cast_rfl (p := k ≤ 1000000 ∧ ∀ (z1 : Int), z1 = zV n l → k' ≤ 1000000 ∧ ∀ (z2 : Int), z2 = zV n' l' → z2 = z2 ∧ ∀ (z3 : Int), z3 = -z2 → (z1 = z1 ∧ z3 = z3 ∧ k + 1 + (k' + 1) ≤ 45000 ∧ True) ∧ ∀ (z4 : Int), z4 = z1 + z3 → z4 = z4 ∧ true = true ∧ Sub (PV.agg [PV.f (Lf.zn z4), PV.f (Lf.zd z4 (k + 1 + (k' + 1) + 1))]) (PV.agg [PV.f (Lf.zn (zV n l - zV n' l')), PV.f (Lf.zd (zV n l - zV n' l') (j + j' + 1))])) ?kr ?_
      case kr => kernel_rfl
      refine ⟨?s0, fun z1 => fun hz1 => ⟨?s1, fun z2 => fun hz2 => ⟨rfl, fun z3 => fun hz3 => ⟨?s2, fun z4 => fun hz4 => ⟨rfl, ⟨rfl, ?m0⟩⟩⟩⟩⟩⟩
      case s0 => omega
      case s1 => omega
      case s2 => exact ⟨rfl, rfl, by omega, trivial⟩
      case m0 =>
        subst hz1 hz2 hz3
        have e : z4 = zV n l - zV n' l' := by omega
        subst e
        exact sub_zP (a3.sub b3)
    · cases hs
  · cases hs
end Go.Proofs.Ytpjjdngoblfleaa
