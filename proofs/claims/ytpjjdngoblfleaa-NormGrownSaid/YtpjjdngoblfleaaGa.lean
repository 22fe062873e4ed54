/- The reference of chapter 4: sorts. -/
import Derived.Test.YtpjjdngoblfleaaFe
namespace Go.Proofs.Ytpjjdngoblfleaa
open Go.RowKit
set_option linter.unusedVariables false
set_option maxRecDepth 100000

def srtP (e : Except Int ByteArray) : PV := .tup [sV (valE ⟨#[]⟩ e), iV (errE e)]
def sKidsR : Spec
  | [.f (.v (.int .u8 k))] => some (none, .nm Int (kidsN k) iV)
  | _ => none
theorem kidsR_fin {k n : Int} (h : kidsN k = n) : Sub (iV n) (iV (kidsN k)) := by rw [h]; exact .refl _
theorem cKidsR {E : Env} (hU : Up E) : Contract Try.prog E 72 sKidsR := by
  refine contract_D [] [] Try.ntmps72 Try.func72 (by kernel_rfl) (by kernel_rfl) hU trivial trivial ?_
  intro xs p r hs hp
  unfold sKidsR at hs
  split at hs
  · rename_i k
    cases hs
    refine ⟨[.f (.v (.int .u8 k))], [], .cons (.refl _) .nil, rfl, fun _ hsh => ?_⟩
    refine cast_rfl (p := ifB (k == (1 : Int)) (true = true ∧ Sub (PV.f (Lf.v (Value.int IntKind.i64 (0 : Int)))) (PV.f (Lf.v (Value.int IntKind.i64 (kidsN k))))) (ifB (k == (2 : Int)) (true = true ∧ Sub (PV.f (Lf.v (Value.int IntKind.i64 (0 : Int)))) (PV.f (Lf.v (Value.int IntKind.i64 (kidsN k))))) (ifB (k == (3 : Int)) (true = true ∧ Sub (PV.f (Lf.v (Value.int IntKind.i64 (0 : Int)))) (PV.f (Lf.v (Value.int IntKind.i64 (kidsN k))))) (ifB (k == (4 : Int)) (true = true ∧ Sub (PV.f (Lf.v (Value.int IntKind.i64 (0 : Int)))) (PV.f (Lf.v (Value.int IntKind.i64 (kidsN k))))) (ifB (k == (6 : Int)) (true = true ∧ Sub (PV.f (Lf.v (Value.int IntKind.i64 (1 : Int)))) (PV.f (Lf.v (Value.int IntKind.i64 (kidsN k))))) (ifB (k == (7 : Int)) (true = true ∧ Sub (PV.f (Lf.v (Value.int IntKind.i64 (1 : Int)))) (PV.f (Lf.v (Value.int IntKind.i64 (kidsN k))))) (ifB (k == (10 : Int)) (true = true ∧ Sub (PV.f (Lf.v (Value.int IntKind.i64 (1 : Int)))) (PV.f (Lf.v (Value.int IntKind.i64 (kidsN k))))) (ifB (k == (8 : Int)) (true = true ∧ Sub (PV.f (Lf.v (Value.int IntKind.i64 (2 : Int)))) (PV.f (Lf.v (Value.int IntKind.i64 (kidsN k))))) (ifB (k == (9 : Int)) (true = true ∧ Sub (PV.f (Lf.v (Value.int IntKind.i64 (2 : Int)))) (PV.f (Lf.v (Value.int IntKind.i64 (kidsN k))))) (ifB (k == (13 : Int)) (true = true ∧ Sub (PV.f (Lf.v (Value.int IntKind.i64 (2 : Int)))) (PV.f (Lf.v (Value.int IntKind.i64 (kidsN k))))) (ifB (k == (5 : Int)) (true = true ∧ Sub (PV.f (Lf.v (Value.int IntKind.i64 (-1 : Int)))) (PV.f (Lf.v (Value.int IntKind.i64 (kidsN k))))) (ifB (k == (11 : Int)) (true = true ∧ Sub (PV.f (Lf.v (Value.int IntKind.i64 (-1 : Int)))) (PV.f (Lf.v (Value.int IntKind.i64 (kidsN k))))) (ifB (k == (12 : Int)) (true = true ∧ Sub (PV.f (Lf.v (Value.int IntKind.i64 (-1 : Int)))) (PV.f (Lf.v (Value.int IntKind.i64 (kidsN k))))) (true = true ∧ Sub (PV.f (Lf.v (Value.int IntKind.i64 (-2 : Int)))) (PV.f (Lf.v (Value.int IntKind.i64 (kidsN k)))))))))))))))))) ?kr ?_
    case kr => kernel_rfl
    refine ifB_iff.2 ⟨fun hb0 => ⟨rfl, ?m0⟩, fun hb0 => ifB_iff.2 ⟨fun hb1 => ⟨rfl, ?m1⟩, fun hb1 => ifB_iff.2 ⟨fun hb2 => ⟨rfl, ?m2⟩, fun hb2 => ifB_iff.2 ⟨fun hb3 => ⟨rfl, ?m3⟩, fun hb3 => ifB_iff.2 ⟨fun hb4 => ⟨rfl, ?m4⟩, fun hb4 => ifB_iff.2 ⟨fun hb5 => ⟨rfl, ?m5⟩, fun hb5 => ifB_iff.2 ⟨fun hb6 => ⟨rfl, ?m6⟩, fun hb6 => ifB_iff.2 ⟨fun hb7 => ⟨rfl, ?m7⟩, fun hb7 => ifB_iff.2 ⟨fun hb8 => ⟨rfl, ?m8⟩, fun hb8 => ifB_iff.2 ⟨fun hb9 => ⟨rfl, ?m9⟩, fun hb9 => ifB_iff.2 ⟨fun hb10 => ⟨rfl, ?m10⟩, fun hb10 => ifB_iff.2 ⟨fun hb11 => ⟨rfl, ?m11⟩, fun hb11 => ifB_iff.2 ⟨fun hb12 => ⟨rfl, ?m12⟩, fun hb12 => ⟨rfl, ?m13⟩⟩⟩⟩⟩⟩⟩⟩⟩⟩⟩⟩⟩⟩
    all_goals simp only [beq_iff_eq, beq_eq_false_iff_ne, ne_eq] at *
    all_goals refine kidsR_fin ?_
    all_goals first
      | (subst_vars; rfl)
      | (unfold kidsN; rw [if_neg (by omega), if_neg (by omega), if_neg (by omega), if_neg (by omega)])
  · cases hs
def toldE (s : ByteArray) (b : Bool) : Except Int ByteArray := match b with
  | true => .ok s
  | false => .error 23
def sTold : Spec
  | [.f (.v (.string s)), .f (.v (.bool b))] => some (none, .nm (Except Int ByteArray) (toldE s b) srtP)
  | _ => none
theorem cTold {E : Env} (hU : Up E) : Contract Try.prog E 116 sTold := by
  refine contract_D [] [] Try.ntmps116 Try.func116 (by kernel_rfl) (by kernel_rfl) hU trivial trivial ?_
  intro xs p r hs hp
  unfold sTold at hs
  split at hs
  · rename_i s b
    cases hs
    refine ⟨[.f (.v (.string s)), .f (.v (.bool b))], [], .cons (.refl _) (.cons (.refl _) .nil), rfl, fun _ hsh => ?_⟩
    refine cast_rfl (p := ifB (!b) (true = true ∧ Sub (PV.tup [PV.f (Lf.v (Value.string (ByteArray.mk #[]))), PV.f (Lf.v (Value.int IntKind.i64 (23 : Int)))]) (PV.tup [PV.f (Lf.v (Value.string (valE (ByteArray.mk #[]) (toldE s b)))), PV.f (Lf.v (Value.int IntKind.i64 (errE (toldE s b))))])) (true = true ∧ Sub (PV.tup [PV.f (Lf.v (Value.string s)), PV.f (Lf.v (Value.int IntKind.i64 (0 : Int)))]) (PV.tup [PV.f (Lf.v (Value.string (valE (ByteArray.mk #[]) (toldE s b)))), PV.f (Lf.v (Value.int IntKind.i64 (errE (toldE s b))))]))) ?kr ?_
    case kr => kernel_rfl
    refine ifB_iff.2 ⟨fun hb0 => ⟨rfl, ?m0⟩, fun hb0 => ⟨rfl, ?m1⟩⟩
    case m0 => rw [not_t hb0]; exact .refl _
    case m1 => rw [not_f hb0]; exact .refl _
  · cases hs
def sDataR : Spec
  | [.f (.dt .dat D), .f (.v (.string s))] => some (none, .nm Bool (dataB D s) bV)
  | _ => none
theorem cDataR {E : Env} (hU : Up E) : Contract Try.prog E 120 sDataR := by
  refine contract_D [] [] Try.ntmps120 Try.func120 (by kernel_rfl) (by kernel_rfl) hU trivial trivial ?_
  intro xs p r hs hp
  unfold sDataR at hs
  split at hs
  · rename_i D s
    cases hs
    refine ⟨[.f (.dt .dat D), sV s], [(2, .s ⟨Nat, fun i => ⟨[(0, .f (.dt .dat D)), (1, sV s), (5, iV i)], []⟩, fun i => i ≤ D.length ∧ ∀ j, j < i → ¬ ((D.getD j Sh.dat.nil).name = s ∧ s ≠ bInt ∧ s ≠ bBool), fun i => D.length - i⟩)], .cons (.refl _) (.cons (.refl _) .nil), rfl, fun _ hsh => ?_⟩
    have hl := short_row hsh.1
    refine cast_rfl (p := ∃ (x1 : Nat), (True ∧ SubB (PV.f (Lf.dt Sh.dat D)) (PV.f (Lf.dt Sh.dat D)) ∧ SubB (PV.f (Lf.v (Value.string s))) (PV.f (Lf.v (Value.string s))) ∧ SubB (PV.f (Lf.v (Value.int IntKind.i64 (0 : Int)))) (PV.f (Lf.v (Value.int IntKind.i64 (↑x1 : Int)))) ∧ True) ∧ (x1 ≤ D.length ∧ ∀ (j : Nat), j < x1 → ¬((D.getD j Sh.dat.nil).name = s ∧ s ≠ bInt ∧ s ≠ bBool)) ∧ True ∧ ∀ (z2 : Nat), (z2 ≤ D.length ∧ ∀ (j : Nat), j < z2 → ¬((D.getD j Sh.dat.nil).name = s ∧ s ≠ bInt ∧ s ≠ bBool)) → True → ifB (decide ((↑z2 : Int) < (↑D.length : Int))) (((0 : Int) ≤ (↑z2 : Int) ∧ (↑z2 : Int) < (↑D.length : Int)) ∧ ifB ((D.getD (↑z2 : Int).toNat Sh.dat.nil).name.toList == s.toList) (ifB (!s.toList == (ByteArray.mk #[(105 : UInt8), (110 : UInt8), (116 : UInt8)]).toList) (ifB (!s.toList == (ByteArray.mk #[(98 : UInt8), (111 : UInt8), (111 : UInt8), (108 : UInt8)]).toList) (true = true ∧ Sub (PV.f (Lf.v (Value.bool true))) (PV.f (Lf.v (Value.bool (dataB D s))))) (∃ (x3 : Nat), (True ∧ SubB (PV.f (Lf.dt Sh.dat D)) (PV.f (Lf.dt Sh.dat D)) ∧ SubB (PV.f (Lf.v (Value.string s))) (PV.f (Lf.v (Value.string s))) ∧ SubB (PV.f (Lf.v (Value.int IntKind.i64 (IntKind.i64.wrap ((↑z2 : Int) + (1 : Int)))))) (PV.f (Lf.v (Value.int IntKind.i64 (↑x3 : Int)))) ∧ True) ∧ (x3 ≤ D.length ∧ ∀ (j : Nat), j < x3 → ¬((D.getD j Sh.dat.nil).name = s ∧ s ≠ bInt ∧ s ≠ bBool)) ∧ True ∧ (D.length - x3).succ.le (D.length - z2))) (∃ (x3 : Nat), (True ∧ SubB (PV.f (Lf.dt Sh.dat D)) (PV.f (Lf.dt Sh.dat D)) ∧ SubB (PV.f (Lf.v (Value.string s))) (PV.f (Lf.v (Value.string s))) ∧ SubB (PV.f (Lf.v (Value.int IntKind.i64 (IntKind.i64.wrap ((↑z2 : Int) + (1 : Int)))))) (PV.f (Lf.v (Value.int IntKind.i64 (↑x3 : Int)))) ∧ True) ∧ (x3 ≤ D.length ∧ ∀ (j : Nat), j < x3 → ¬((D.getD j Sh.dat.nil).name = s ∧ s ≠ bInt ∧ s ≠ bBool)) ∧ True ∧ (D.length - x3).succ.le (D.length - z2))) (∃ (x3 : Nat), (True ∧ SubB (PV.f (Lf.dt Sh.dat D)) (PV.f (Lf.dt Sh.dat D)) ∧ SubB (PV.f (Lf.v (Value.string s))) (PV.f (Lf.v (Value.string s))) ∧ SubB (PV.f (Lf.v (Value.int IntKind.i64 (IntKind.i64.wrap ((↑z2 : Int) + (1 : Int)))))) (PV.f (Lf.v (Value.int IntKind.i64 (↑x3 : Int)))) ∧ True) ∧ (x3 ≤ D.length ∧ ∀ (j : Nat), j < x3 → ¬((D.getD j Sh.dat.nil).name = s ∧ s ≠ bInt ∧ s ≠ bBool)) ∧ True ∧ (D.length - x3).succ.le (D.length - z2))) (true = true ∧ Sub (PV.f (Lf.v (Value.bool false))) (PV.f (Lf.v (Value.bool (dataB D s)))))) ?kr ?_
    case kr => kernel_rfl
    refine ⟨?x0, ⟨⟨trivial, ⟨.refl _, ⟨.refl _, ⟨?m0, trivial⟩⟩⟩⟩, ⟨?s0, ⟨trivial, fun z2 => fun hq0 => fun _ => ifB_iff.2 ⟨fun hb1 => ⟨?s1, ifB_iff.2 ⟨fun hb2 => ifB_iff.2 ⟨fun hb3 => ifB_iff.2 ⟨fun hb4 => ⟨rfl, ?m1⟩, fun hb4 => ⟨?x1, ⟨⟨trivial, ⟨.refl _, ⟨.refl _, ⟨?m2, trivial⟩⟩⟩⟩, ⟨?s2, ⟨trivial, ?m3⟩⟩⟩⟩⟩, fun hb3 => ⟨?x2, ⟨⟨trivial, ⟨.refl _, ⟨.refl _, ⟨?m4, trivial⟩⟩⟩⟩, ⟨?s3, ⟨trivial, ?m5⟩⟩⟩⟩⟩, fun hb2 => ⟨?x3, ⟨⟨trivial, ⟨.refl _, ⟨.refl _, ⟨?m6, trivial⟩⟩⟩⟩, ⟨?s4, ⟨trivial, ?m7⟩⟩⟩⟩⟩⟩, fun hb1 => ⟨rfl, ?m8⟩⟩⟩⟩⟩⟩
    case x0 => exact 0
    case x1 => exact z2 + 1
    case x2 => exact z2 + 1
    case x3 => exact z2 + 1
    all_goals try simp only [bs_l, Bool.not_eq_true', Bool.not_eq_false', decide_eq_true_eq, decide_eq_false_iff_not, Int.toNat_natCast] at *
    case m0 => exact .refl _
    case s0 => exact ⟨Nat.zero_le _, fun j hj => absurd hj (Nat.not_lt_zero _)⟩
    case m8 =>
      refine (subB_b (Eq.symm ?_)).sub
      by_cases h1 : s = bInt
      · simp [dataB, h1]
      by_cases h2 : s = bBool
      · simp [dataB, h2]
      have h3 : anyB D (fun d => decide (d.name = s)) = -1 := anyB_miss Sh.dat.nil fun k hk => decide_eq_false fun h => hq0.2 k (by omega) ⟨h, h1, h2⟩
      unfold dataB
      rw [h3, show decide ((0 : Int) ≤ -1) = false from rfl, Bool.and_false, Bool.and_false]
    all_goals have hz : z2 < D.length := by omega
    case s1 => omega
    case m1 =>
      refine (subB_b (Eq.symm ?_)).sub
      obtain ⟨i, hi⟩ : ∃ i : Nat, anyB D (fun d => decide (d.name = s)) = i := by
        unfold anyB
        cases h : D.findIdx? (fun d => decide (d.name = s)) with
        | some i => exact ⟨i, rfl⟩
        | none =>
          rw [List.findIdx?_eq_none_iff] at h
          have := h (D.getD z2 Sh.dat.nil) (by rw [List.getD_eq_getElem?_getD, List.getElem?_eq_getElem hz]; exact List.getElem_mem hz)
          rw [hb2] at this
          simp at this
      have h3 : ¬ s = bInt := hb3
      have h4 : ¬ s = bBool := hb4
      unfold dataB
      rw [hi, decide_eq_false h3, decide_eq_false h4, decide_eq_true (by omega)]; rfl
    case m2 => exact subB_i (by rw [wJ _ (by omega) (by omega)]; rfl)
    case m4 => exact subB_i (by rw [wJ _ (by omega) (by omega)]; rfl)
    case m6 => exact subB_i (by rw [wJ _ (by omega) (by omega)]; rfl)
    case m3 => have : D.length - (z2 + 1) < D.length - z2 := (by omega); exact this
    case m5 => have : D.length - (z2 + 1) < D.length - z2 := (by omega); exact this
    case m7 => have : D.length - (z2 + 1) < D.length - z2 := (by omega); exact this
    case s2 =>
      refine ⟨hz, fun j hj h => ?_⟩
      rcases Nat.lt_or_ge j z2 with h1 | h1
      · exact hq0.2 j h1 h
      · exact h.2.2 hb4
    case s3 =>
      refine ⟨hz, fun j hj h => ?_⟩
      rcases Nat.lt_or_ge j z2 with h1 | h1
      · exact hq0.2 j h1 h
      · exact h.2.1 hb3
    case s4 =>
      refine ⟨hz, fun j hj h => ?_⟩
      rcases Nat.lt_or_ge j z2 with h1 | h1
      · exact hq0.2 j h1 h
      · obtain rfl : j = z2 := by omega
        exact hb2 h.1
  · cases hs
def sBaseR : Spec
  | [.f (.dt .dat D), .f (.v (.string s))] => some (none, .nm Bool (baseB D s) bV)
  | _ => none
theorem cBaseR {E : Env} (hU : Up E) : Contract Try.prog E 117 sBaseR := by
  refine contract_D [(120, sDataR)] [] Try.ntmps117 Try.func117 (by kernel_rfl) (by kernel_rfl) hU ⟨cDataR hU, trivial⟩ trivial ?_
  intro xs p r hs hp
  unfold sBaseR at hs
  split at hs
  · rename_i D s
    cases hs
    refine ⟨[.f (.dt .dat D), sV s], [], .cons (.refl _) (.cons (.refl _) .nil), rfl, fun _ hsh => ?_⟩
    refine cast_rfl (p := ifB (s.toList == (ByteArray.mk #[(105 : UInt8), (110 : UInt8), (116 : UInt8)]).toList) (true = true ∧ Sub (PV.f (Lf.v (Value.bool true))) (PV.f (Lf.v (Value.bool (baseB D s))))) (ifB (s.toList == (ByteArray.mk #[(98 : UInt8), (111 : UInt8), (111 : UInt8), (108 : UInt8)]).toList) (true = true ∧ Sub (PV.f (Lf.v (Value.bool true))) (PV.f (Lf.v (Value.bool (baseB D s))))) (∀ (z1 : Bool), z1 = dataB D s → true = true ∧ Sub (PV.f (Lf.v (Value.bool z1))) (PV.f (Lf.v (Value.bool (baseB D s))))))) ?kr ?_
    case kr => kernel_rfl
    refine ifB_iff.2 ⟨fun hb0 => ⟨rfl, ?m0⟩, fun hb0 => ifB_iff.2 ⟨fun hb1 => ⟨rfl, ?m1⟩, fun hb1 => fun z1 => fun hz1 => ⟨rfl, ?m2⟩⟩⟩
    all_goals try simp only [bs_l, decide_eq_true_eq, decide_eq_false_iff_not] at *
    case m0 => exact (subB_b (by unfold baseB; rw [decide_eq_true (show s = bInt from hb0)]; rfl)).sub
    case m1 => exact (subB_b (by unfold baseB; rw [decide_eq_true (show s = bBool from hb1), Bool.true_or, Bool.or_true])).sub
    case m2 => exact (subB_b (by unfold baseB; rw [decide_eq_false (show ¬ s = bInt from hb0), decide_eq_false (show ¬ s = bBool from hb1), hz1]; rfl)).sub
  · cases hs
def sAllR : Spec
  | [.f (.dt .str l), .f (.v (.string s))] => some (none, .nm Bool (allEq l s) bV)
  | _ => none
theorem cAllR {E : Env} (hU : Up E) : Contract Try.prog E 118 sAllR := by
  refine contract_D [] [] Try.ntmps118 Try.func118 (by kernel_rfl) (by kernel_rfl) hU trivial trivial ?_
  intro xs p r hs hp
  unfold sAllR at hs
  split at hs
  · rename_i l s
    cases hs
    refine ⟨[.f (.dt .str l), sV s], [(2, .s ⟨Nat, fun i => ⟨[(0, .f (.dt .str l)), (1, sV s), (5, iV i)], []⟩, fun i => i ≤ l.length ∧ allEq (l.take i) s = true, fun i => l.length - i⟩)], .cons (.refl _) (.cons (.refl _) .nil), rfl, fun _ hsh => ?_⟩
    have hl := short_row hsh.1
    refine cast_rfl (p := ∃ (x1 : Nat), (True ∧ SubB (PV.f (Lf.dt Sh.str l)) (PV.f (Lf.dt Sh.str l)) ∧ SubB (PV.f (Lf.v (Value.string s))) (PV.f (Lf.v (Value.string s))) ∧ SubB (PV.f (Lf.v (Value.int IntKind.i64 (0 : Int)))) (PV.f (Lf.v (Value.int IntKind.i64 (↑x1 : Int)))) ∧ True) ∧ (x1 ≤ l.length ∧ allEq (List.take x1 l) s = true) ∧ True ∧ ∀ (z2 : Nat), z2 ≤ l.length ∧ allEq (List.take z2 l) s = true → True → ifB (decide ((↑z2 : Int) < (↑l.length : Int))) (((0 : Int) ≤ (↑z2 : Int) ∧ (↑z2 : Int) < (↑l.length : Int)) ∧ ifB (!ByteArray.toList (l.getD (↑z2 : Int).toNat Sh.str.nil) == s.toList) (true = true ∧ Sub (PV.f (Lf.v (Value.bool false))) (PV.f (Lf.v (Value.bool (allEq l s))))) (∃ (x3 : Nat), (True ∧ SubB (PV.f (Lf.dt Sh.str l)) (PV.f (Lf.dt Sh.str l)) ∧ SubB (PV.f (Lf.v (Value.string s))) (PV.f (Lf.v (Value.string s))) ∧ SubB (PV.f (Lf.v (Value.int IntKind.i64 (IntKind.i64.wrap ((↑z2 : Int) + (1 : Int)))))) (PV.f (Lf.v (Value.int IntKind.i64 (↑x3 : Int)))) ∧ True) ∧ (x3 ≤ l.length ∧ allEq (List.take x3 l) s = true) ∧ True ∧ (l.length - x3).succ.le (l.length - z2))) (true = true ∧ Sub (PV.f (Lf.v (Value.bool true))) (PV.f (Lf.v (Value.bool (allEq l s)))))) ?kr ?_
    case kr => kernel_rfl
    refine ⟨?x0, ⟨⟨trivial, ⟨.refl _, ⟨.refl _, ⟨?m0, trivial⟩⟩⟩⟩, ⟨?s0, ⟨trivial, fun z2 => fun hq0 => fun _ => ifB_iff.2 ⟨fun hb1 => ⟨?s1, ifB_iff.2 ⟨fun hb2 => ⟨rfl, ?m1⟩, fun hb2 => ⟨?x1, ⟨⟨trivial, ⟨.refl _, ⟨.refl _, ⟨?m2, trivial⟩⟩⟩⟩, ⟨?s2, ⟨trivial, ?m3⟩⟩⟩⟩⟩⟩, fun hb1 => ⟨rfl, ?m4⟩⟩⟩⟩⟩⟩
    case x0 => exact 0
    case x1 => exact z2 + 1
    all_goals try simp only [bs_l, Bool.not_eq_true', Bool.not_eq_false', decide_eq_true_eq, decide_eq_false_iff_not, Int.toNat_natCast] at *
    case m0 => exact .refl _
    case s0 => exact ⟨Nat.zero_le _, rfl⟩
    case m4 =>
      have h := hq0.2
      rw [List.take_of_length_le (by omega)] at h
      exact (subB_b h.symm).sub
    all_goals have hz : z2 < l.length := by omega
    case s1 => omega
    case m1 => exact (subB_b (allEq_not hz hb2).symm).sub
    case m2 => exact subB_i (by rw [wJ _ (by omega) (by omega)]; rfl)
    case s2 => exact ⟨hz, by rw [allEq_snoc l s Sh.str.nil hz, hq0.2, decide_eq_true hb2]; rfl⟩
    case m3 => have : l.length - (z2 + 1) < l.length - z2 := (by omega); exact this
  · cases hs
theorem toldE_if (s : ByteArray) (b : Bool) : toldE s b = if b = true then .ok s else .error 23 := by cases b <;> rfl
theorem srt_fin {z e : Except Int ByteArray} (h : z = e) : Sub (srtP z) (srtP e) := by subst h; exact .refl _
def sNameR : Spec
  | [.f (.dt .dat D), .f (.dt .srt S), .f (.v (.string s))] => some (none, .nm (Except Int ByteArray) (varS D S s) srtP)
  | _ => none
theorem cNameR {E : Env} (hU : Up E) : Contract Try.prog E 74 sNameR := by
  refine contract_D [(117, sBaseR), (116, sTold)] [] Try.ntmps74 Try.func74 (by kernel_rfl) (by kernel_rfl) hU ⟨cBaseR hU, cTold hU, trivial⟩ trivial ?_
  intro xs p r hs hp
  unfold sNameR at hs
  split at hs
  · rename_i D S s
    cases hs
    refine ⟨[.f (.dt .dat D), .f (.dt .srt S), sV s], [(2, .s ⟨Nat, fun i => ⟨[(0, .f (.dt .dat D)), (1, .f (.dt .srt S)), (2, sV s), (8, iV ((i : Int) - 1))], []⟩, fun i => i ≤ S.length ∧ varS D (S.take i) s = varS D S s, fun i => i⟩)], .cons (.refl _) (.cons (.refl _) (.cons (.refl _) .nil)), rfl, fun _ hsh => ?_⟩
    have hl := short_row hsh.2.1
    refine cast_rfl (p := ∃ (x1 : Nat), (True ∧ SubB (PV.f (Lf.dt Sh.dat D)) (PV.f (Lf.dt Sh.dat D)) ∧ SubB (PV.f (Lf.dt Sh.srt S)) (PV.f (Lf.dt Sh.srt S)) ∧ SubB (PV.f (Lf.v (Value.string s))) (PV.f (Lf.v (Value.string s))) ∧ SubB (PV.f (Lf.v (Value.int IntKind.i64 (IntKind.i64.wrap ((↑S.length : Int) - (1 : Int)))))) (PV.f (Lf.v (Value.int IntKind.i64 ((↑x1 : Int) - (1 : Int))))) ∧ True) ∧ (x1 ≤ S.length ∧ varS D (List.take x1 S) s = varS D S s) ∧ True ∧ ∀ (z2 : Nat), z2 ≤ S.length ∧ varS D (List.take z2 S) s = varS D S s → True → ifB (decide ((↑z2 : Int) - (1 : Int) ≥ (0 : Int))) (((0 : Int) ≤ (↑z2 : Int) - (1 : Int) ∧ (↑z2 : Int) - (1 : Int) < (↑S.length : Int)) ∧ ifB ((S.getD ((↑z2 : Int) - (1 : Int)).toNat Sh.srt.nil).name.toList == s.toList) (((0 : Int) ≤ (↑z2 : Int) - (1 : Int) ∧ (↑z2 : Int) - (1 : Int) < (↑S.length : Int)) ∧ ((0 : Int) ≤ (↑z2 : Int) - (1 : Int) ∧ (↑z2 : Int) - (1 : Int) < (↑S.length : Int)) ∧ ∀ (z3 : Bool), z3 = baseB D (S.getD ((↑z2 : Int) - (1 : Int)).toNat Sh.srt.nil).sort → ∀ (z4 : Except Int ByteArray), z4 = toldE (S.getD ((↑z2 : Int) - (1 : Int)).toNat Sh.srt.nil).sort z3 → true = true ∧ Sub (PV.tup [PV.f (Lf.v (Value.string (valE (ByteArray.mk #[]) z4))), PV.f (Lf.v (Value.int IntKind.i64 (errE z4)))]) (PV.tup [PV.f (Lf.v (Value.string (valE (ByteArray.mk #[]) (varS D S s)))), PV.f (Lf.v (Value.int IntKind.i64 (errE (varS D S s))))])) (∃ (x3 : Nat), (True ∧ SubB (PV.f (Lf.dt Sh.dat D)) (PV.f (Lf.dt Sh.dat D)) ∧ SubB (PV.f (Lf.dt Sh.srt S)) (PV.f (Lf.dt Sh.srt S)) ∧ SubB (PV.f (Lf.v (Value.string s))) (PV.f (Lf.v (Value.string s))) ∧ SubB (PV.f (Lf.v (Value.int IntKind.i64 (IntKind.i64.wrap ((↑z2 : Int) - (1 : Int) - (1 : Int)))))) (PV.f (Lf.v (Value.int IntKind.i64 ((↑x3 : Int) - (1 : Int))))) ∧ True) ∧ (x3 ≤ S.length ∧ varS D (List.take x3 S) s = varS D S s) ∧ True ∧ x3.succ.le z2)) (true = true ∧ Sub (PV.tup [PV.f (Lf.v (Value.string (ByteArray.mk #[]))), PV.f (Lf.v (Value.int IntKind.i64 (21 : Int)))]) (PV.tup [PV.f (Lf.v (Value.string (valE (ByteArray.mk #[]) (varS D S s)))), PV.f (Lf.v (Value.int IntKind.i64 (errE (varS D S s))))]))) ?kr ?_
    case kr => kernel_rfl
    refine ⟨?x0, ⟨⟨trivial, ⟨.refl _, ⟨.refl _, ⟨.refl _, ⟨?m0, trivial⟩⟩⟩⟩⟩, ⟨?s0, ⟨trivial, fun z2 => fun hq0 => fun _ => ifB_iff.2 ⟨fun hb1 => ⟨?s1, ifB_iff.2 ⟨fun hb2 => ⟨?s2, ⟨?s3, fun z3 => fun hz3 => fun z4 => fun hz4 => ⟨rfl, ?m1⟩⟩⟩, fun hb2 => ⟨?x1, ⟨⟨trivial, ⟨.refl _, ⟨.refl _, ⟨.refl _, ⟨?m2, trivial⟩⟩⟩⟩⟩, ⟨?s4, ⟨trivial, ?m3⟩⟩⟩⟩⟩⟩, fun hb1 => ⟨rfl, ?m4⟩⟩⟩⟩⟩⟩
    case x0 => exact S.length
    case x1 => exact z2 - 1
    all_goals try simp only [bs_l, decide_eq_true_eq, decide_eq_false_iff_not] at *
    case m0 => exact subB_i (by rw [wJ _ (by omega) (by omega)])
    case s0 => exact ⟨Nat.le_refl _, by rw [List.take_length]⟩
    case m4 =>
      obtain rfl : z2 = 0 := by omega
      exact srt_fin (z := .error 21) hq0.2
    all_goals have h1 : ((z2 : Int) - 1).toNat = z2 - 1 := by omega
    all_goals have hz : z2 - 1 < S.length := by omega
    all_goals have hv := varS_snoc D Sh.srt.nil hz s
    all_goals rw [show z2 - 1 + 1 = z2 from by omega, hq0.2] at hv
    case s1 => omega
    case s2 => omega
    case s3 => omega
    case m1 =>
      rw [h1] at hb2 hz3 hz4
      rw [if_pos hb2, ← hz3] at hv
      exact srt_fin (by rw [hv, hz4]; exact toldE_if _ _)
    case m2 => exact subB_i (by rw [wJ _ (by omega) (by omega)]; omega)
    case s4 =>
      rw [h1] at hb2
      rw [if_neg hb2] at hv
      exact ⟨by omega, hv.symm⟩
    case m3 => have : z2 - 1 < z2 := (by omega); exact this
  · cases hs
def sOfS : Spec
  | [.f (.dt .dat D), x, .f (.dt .str l)] => match tmOf x with
    | some t => some (some (t.kind ≠ 7 ∧ t.kind ≠ 8 ∧ (t.kind = 3 ∨ t.kind = 4 → l = [])), .nm (Except Int ByteArray) (partS D t.kind t.name l) srtP)
    | none => none
  | _ => none
theorem cOfS {E : Env} (hU : Up E) : Contract Try.prog E 75 sOfS := by
  refine contract_D [(118, sAllR), (116, sTold)] [] Try.ntmps75 Try.func75 (by kernel_rfl) (by kernel_rfl) hU ⟨cAllR hU, cTold hU, trivial⟩ trivial ?_
  intro xs p r hs hp
  unfold sOfS at hs
  split at hs
  · rename_i D x l
    split at hs
    · rename_i t ht
      cases hs
      obtain ⟨h7, h8, h3⟩ := hp _ rfl
      refine ⟨[.f (.dt .dat D), tmP t, .f (.dt .str l)], [], .cons (.refl _) (.cons (tm_sub ht).sub (.cons (.refl _) .nil)), rfl, fun _ hsh => ?_⟩
      have fin : ∀ (k : Int) (z : Except Int ByteArray), t.kind = k → z = partS D k t.name l → Sub (srtP z) (srtP (partS D t.kind t.name l)) := by rintro k z rfl rfl; exact .refl _
      refine cast_rfl (p := ifB (t.kind == (2 : Int)) (true = true ∧ Sub (PV.tup [PV.f (Lf.v (Value.string (ByteArray.mk #[(105 : UInt8), (110 : UInt8), (116 : UInt8)]))), PV.f (Lf.v (Value.int IntKind.i64 (0 : Int)))]) (PV.tup [PV.f (Lf.v (Value.string (valE (ByteArray.mk #[]) (partS D t.kind t.name l)))), PV.f (Lf.v (Value.int IntKind.i64 (errE (partS D t.kind t.name l))))])) (ifB (t.kind == (3 : Int)) (true = true ∧ Sub (PV.tup [PV.f (Lf.v (Value.string (ByteArray.mk #[(98 : UInt8), (111 : UInt8), (111 : UInt8), (108 : UInt8)]))), PV.f (Lf.v (Value.int IntKind.i64 (0 : Int)))]) (PV.tup [PV.f (Lf.v (Value.string (valE (ByteArray.mk #[]) (partS D t.kind t.name l)))), PV.f (Lf.v (Value.int IntKind.i64 (errE (partS D t.kind t.name l))))])) (ifB (t.kind == (4 : Int)) (true = true ∧ Sub (PV.tup [PV.f (Lf.v (Value.string (ByteArray.mk #[(98 : UInt8), (111 : UInt8), (111 : UInt8), (108 : UInt8)]))), PV.f (Lf.v (Value.int IntKind.i64 (0 : Int)))]) (PV.tup [PV.f (Lf.v (Value.string (valE (ByteArray.mk #[]) (partS D t.kind t.name l)))), PV.f (Lf.v (Value.int IntKind.i64 (errE (partS D t.kind t.name l))))])) (ifB (t.kind == (5 : Int)) (∀ (z1 : Bool), z1 = allEq l (ByteArray.mk #[(105 : UInt8), (110 : UInt8), (116 : UInt8)]) → ∀ (z2 : Except Int ByteArray), z2 = toldE (ByteArray.mk #[(105 : UInt8), (110 : UInt8), (116 : UInt8)]) z1 → true = true ∧ Sub (PV.tup [PV.f (Lf.v (Value.string (valE (ByteArray.mk #[]) z2))), PV.f (Lf.v (Value.int IntKind.i64 (errE z2)))]) (PV.tup [PV.f (Lf.v (Value.string (valE (ByteArray.mk #[]) (partS D t.kind t.name l)))), PV.f (Lf.v (Value.int IntKind.i64 (errE (partS D t.kind t.name l))))])) (ifB (t.kind == (6 : Int)) (∀ (z1 : Bool), z1 = allEq l (ByteArray.mk #[(105 : UInt8), (110 : UInt8), (116 : UInt8)]) → ∀ (z2 : Except Int ByteArray), z2 = toldE (ByteArray.mk #[(105 : UInt8), (110 : UInt8), (116 : UInt8)]) z1 → true = true ∧ Sub (PV.tup [PV.f (Lf.v (Value.string (valE (ByteArray.mk #[]) z2))), PV.f (Lf.v (Value.int IntKind.i64 (errE z2)))]) (PV.tup [PV.f (Lf.v (Value.string (valE (ByteArray.mk #[]) (partS D t.kind t.name l)))), PV.f (Lf.v (Value.int IntKind.i64 (errE (partS D t.kind t.name l))))])) (ifB (t.kind == (7 : Int)) False (ifB (t.kind == (8 : Int)) (((0 : Int) ≤ (0 : Int) ∧ (0 : Int) < (↑l.length : Int)) ∧ ((0 : Int) ≤ (1 : Int) ∧ (1 : Int) < (↑l.length : Int)) ∧ ifB (ByteArray.toList (l.getD (Int.toNat (0 : Int)) Sh.str.nil) == ByteArray.toList (l.getD (Int.toNat (1 : Int)) Sh.str.nil)) (((0 : Int) ≤ (0 : Int) ∧ (0 : Int) < (↑l.length : Int)) ∧ ifB (ByteArray.toList (l.getD (Int.toNat (0 : Int)) Sh.str.nil) == (ByteArray.mk #[(105 : UInt8), (110 : UInt8), (116 : UInt8)]).toList) (∀ (z1 : Except Int ByteArray), z1 = toldE (ByteArray.mk #[(98 : UInt8), (111 : UInt8), (111 : UInt8), (108 : UInt8)]) true → true = true ∧ Sub (PV.tup [PV.f (Lf.v (Value.string (valE (ByteArray.mk #[]) z1))), PV.f (Lf.v (Value.int IntKind.i64 (errE z1)))]) (PV.tup [PV.f (Lf.v (Value.string (valE (ByteArray.mk #[]) (partS D t.kind t.name l)))), PV.f (Lf.v (Value.int IntKind.i64 (errE (partS D t.kind t.name l))))])) (((0 : Int) ≤ (0 : Int) ∧ (0 : Int) < (↑l.length : Int)) ∧ False)) (∀ (z1 : Except Int ByteArray), z1 = toldE (ByteArray.mk #[(98 : UInt8), (111 : UInt8), (111 : UInt8), (108 : UInt8)]) false → true = true ∧ Sub (PV.tup [PV.f (Lf.v (Value.string (valE (ByteArray.mk #[]) z1))), PV.f (Lf.v (Value.int IntKind.i64 (errE z1)))]) (PV.tup [PV.f (Lf.v (Value.string (valE (ByteArray.mk #[]) (partS D t.kind t.name l)))), PV.f (Lf.v (Value.int IntKind.i64 (errE (partS D t.kind t.name l))))]))) (ifB (t.kind == (9 : Int)) (∀ (z1 : Bool), z1 = allEq l (ByteArray.mk #[(105 : UInt8), (110 : UInt8), (116 : UInt8)]) → ∀ (z2 : Except Int ByteArray), z2 = toldE (ByteArray.mk #[(98 : UInt8), (111 : UInt8), (111 : UInt8), (108 : UInt8)]) z1 → true = true ∧ Sub (PV.tup [PV.f (Lf.v (Value.string (valE (ByteArray.mk #[]) z2))), PV.f (Lf.v (Value.int IntKind.i64 (errE z2)))]) (PV.tup [PV.f (Lf.v (Value.string (valE (ByteArray.mk #[]) (partS D t.kind t.name l)))), PV.f (Lf.v (Value.int IntKind.i64 (errE (partS D t.kind t.name l))))])) (∀ (z1 : Bool), z1 = allEq l (ByteArray.mk #[(98 : UInt8), (111 : UInt8), (111 : UInt8), (108 : UInt8)]) → ∀ (z2 : Except Int ByteArray), z2 = toldE (ByteArray.mk #[(98 : UInt8), (111 : UInt8), (111 : UInt8), (108 : UInt8)]) z1 → true = true ∧ Sub (PV.tup [PV.f (Lf.v (Value.string (valE (ByteArray.mk #[]) z2))), PV.f (Lf.v (Value.int IntKind.i64 (errE z2)))]) (PV.tup [PV.f (Lf.v (Value.string (valE (ByteArray.mk #[]) (partS D t.kind t.name l)))), PV.f (Lf.v (Value.int IntKind.i64 (errE (partS D t.kind t.name l))))])))))))))) ?kr ?_
      case kr => kernel_rfl
      refine ifB_iff.2 ⟨fun hb0 => ⟨rfl, ?m0⟩, fun hb0 => ifB_iff.2 ⟨fun hb1 => ⟨rfl, ?m1⟩, fun hb1 => ifB_iff.2 ⟨fun hb2 => ⟨rfl, ?m2⟩, fun hb2 => ifB_iff.2 ⟨fun hb3 => fun z1 => fun hz1 => fun z2 => fun hz2 => ⟨rfl, ?m3⟩, fun hb3 => ifB_iff.2 ⟨fun hb4 => fun z1 => fun hz1 => fun z2 => fun hz2 => ⟨rfl, ?m4⟩, fun hb4 => ifB_iff.2 ⟨fun hb5 => ?m5, fun hb5 => ifB_iff.2 ⟨fun hb6 => ⟨?s0, ⟨?s1, ifB_iff.2 ⟨fun hb7 => ⟨?s2, ifB_iff.2 ⟨fun hb8 => fun z1 => fun hz1 => ⟨rfl, ?m6⟩, fun hb8 => ⟨?s3, ?m7⟩⟩⟩, fun hb7 => fun z1 => fun hz1 => ⟨rfl, ?m8⟩⟩⟩⟩, fun hb6 => ifB_iff.2 ⟨fun hb9 => fun z1 => fun hz1 => fun z2 => fun hz2 => ⟨rfl, ?m9⟩, fun hb9 => fun z1 => fun hz1 => fun z2 => fun hz2 => ⟨rfl, ?m10⟩⟩⟩⟩⟩⟩⟩⟩⟩
      all_goals try simp only [beq_iff_eq, beq_eq_false_iff_ne, ne_eq] at *
      case m5 => exact h7 hb5
      case s0 => exact absurd hb6 h8
      case s1 => exact absurd hb6 h8
      case s2 => exact absurd hb6 h8
      case m6 => exact absurd hb6 h8
      case s3 => exact absurd hb6 h8
      case m7 => exact absurd hb6 h8
      case m8 => exact absurd hb6 h8
      case m0 => exact fin 2 (.ok bInt) hb0 rfl
      case m1 => exact fin 3 (.ok bBool) hb1 (by rw [h3 (.inl hb1)]; rfl)
      case m2 => exact fin 4 (.ok bBool) hb2 (by rw [h3 (.inr hb2)]; rfl)
      case m3 => exact fin 5 z2 hb3 (by rw [hz2, hz1, toldE_if]; rfl)
      case m4 => exact fin 6 z2 hb4 (by rw [hz2, hz1, toldE_if]; rfl)
      case m9 => exact fin 9 z2 hb9 (by rw [hz2, hz1, toldE_if]; rfl)
      case m10 =>
        refine srt_fin (z := z2) ?_
        unfold partS
        rw [if_neg hb0, if_neg (fun h => h.elim hb3 hb4), if_neg hb5, if_neg hb6, if_neg hb9, hz2, hz1, toldE_if]; rfl
    · cases hs
  · cases hs

end Go.Proofs.Ytpjjdngoblfleaa
