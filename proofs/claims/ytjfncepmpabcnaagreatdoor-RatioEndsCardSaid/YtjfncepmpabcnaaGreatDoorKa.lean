/- What the kit lends and takes back, by the pure run: limbs, numbers, lists of numbers. -/
import Derived.Test.YtjfncepmpabcnaaGreatDoorRf
namespace Go.Proofs.YtjfncepmpabcnaaGreatDoor
open Go.RowKit
set_option linter.unusedVariables false
set_option maxRecDepth 100000

/-- What lies behind a lent list. -/
def marks : Nat → List Int
  | 0 => []
  | n + 1 => marks n ++ [8000024 + (n : Int)]
/-- Lent limbs, with what lies behind. -/
def allL (l : List Nat) : List Int := l.map Int.ofNat ++ marks 12
theorem marks_len : ∀ n, (marks n).length = n
  | 0 => rfl
  | n + 1 => by simp [marks, marks_len n]
theorem allL_len (l : List Nat) : (allL l).length = l.length + 12 := by simp [allL, marks_len]
theorem marksK_at : ∀ (n i : Nat), i < n → (marks n).getD i 0 = 8000024 + (i : Int)
  | n + 1, i, h => by
    rw [marks, List.getD_eq_getElem?_getD]
    by_cases hi : i < n
    · rw [List.getElem?_append_left (by rw [marks_len]; exact hi), ← List.getD_eq_getElem?_getD, marksK_at n i hi]
    · obtain rfl : i = n := by omega
      rw [List.getElem?_append_right (by rw [marks_len]; exact Nat.le_refl _), marks_len, Nat.sub_self]; rfl
theorem allL_lo {l : List Nat} {z : Nat} (h : z < l.length) : (allL l).getD z 0 = ((l.getD z 0 : Nat) : Int) := by
  rw [allL, List.getD_eq_getElem?_getD, List.getElem?_append_left (by simpa using h), List.getElem?_map, List.getD_eq_getElem?_getD, List.getElem?_eq_getElem h]; rfl
theorem allL_hi {l : List Nat} {z : Nat} (h1 : l.length ≤ z) (h2 : z < l.length + 12) : (allL l).getD z 0 = 8000024 + ((z : Int) - (l.length : Int)) := by
  rw [allL, List.getD_eq_getElem?_getD, List.getElem?_append_right (by simpa using h1), ← List.getD_eq_getElem?_getD, List.length_map, marksK_at _ _ (by omega)]; omega
theorem allL_take (l : List Nat) : (allL l).take l.length = l.map Int.ofNat := by
  unfold allL; rw [List.take_append_of_le_length (by simp)]; exact List.take_of_length_le (by simp)
def sSameX : Spec
  | [.agg [.f (.v (.bool n)), .f a], .agg [.f (.v (.bool n')), .f b]] => match plainL a, plainL b with
    | some (p, l, k), some (p', l', k') => some (some (p ∧ p' ∧ k + k' ≤ 900000), .one (.f (.v (.bool ((n == n') && eqB l l')))))
    | _, _ => none
  | _ => none
theorem sub_agg2 {x y x' y' : PV} (h : Sub x x') (h' : Sub y y') : Sub (.agg [x, y]) (.agg [x', y']) := by
  refine ⟨fun H v hv => ?_⟩
  obtain ⟨vs, rfl, h1⟩ := PRs.of_agg hv
  have h2 := h1.1
  match vs, h2 with
  | [p, q], _ => exact (PRs.cons (h.out _ _ (h1.2 0 _ _ rfl rfl)) (.cons (h'.out _ _ (h1.2 1 _ _ rfl rfl)) .nil)).agg
theorem cSameX {E : World → Hp → Prop} : Contract Tryz.prog E 45 sSameX := by
  refine cSame.weaken ?_
  intro xs p r hs hp
  unfold sSameX at hs
  split at hs
  · rename_i n a n' b
    split at hs
    · rename_i q l k q' l' k' h1 h2
      cases hs
      obtain ⟨hq, hq', hk⟩ := hp _ rfl
      exact ⟨[.agg [.f (.v (.bool n)), .f (.lr l k)], .agg [.f (.v (.bool n')), .f (.lr l' k')]], _, _, .cons (sub_agg2 (.refl _) (plainL_sub h1 hq)) (.cons (sub_agg2 (.refl _) (plainL_sub h2 hq')) .nil), rfl, fun q hq => by cases hq; exact hk, .refl _⟩
    · cases hs
  · cases hs
def sMark : Spec
  | [.f (.v (.int .i64 k)), .f (.v (.int .i64 i))] => some (some (k = 1 ∧ 0 ≤ i ∧ i ≤ 1000000000), .one (.f (.v (.int .i64 (8000024 + i)))))
  | _ => none
def sLentL : Spec
  | [.f (.lr l k)] => some (some (l.length ≤ 1000000), .one (.f (.sp (.is .u32 (allL l)) l.length)))
  | _ => none
def sLentI : Spec
  | [.agg [.f (.v (.bool n)), .f (.lr l k)]] => some (some (l.length ≤ 1000000), .one (.agg [.f (.v (.bool n)), .f (.sp (.is .u32 (allL l)) l.length)]))
  | _ => none
def sKeptL : Spec
  | [.f (.sp (.is .u32 M) m), .f (.lr l k)] => some (some (l.length ≤ 1000000 ∧ M = allL l ∧ m = l.length), .one (.f (.v (.bool true))))
  | _ => none
def sKeptI : Spec
  | [.agg [.f (.v (.bool n)), .f (.sp (.is .u32 M) m)], .agg [.f (.v (.bool n')), .f (.lr l k)]] => some (some (n = n' ∧ M = allL l ∧ m = l.length ∧ l.length ≤ 100000 ∧ k ≤ 100000), .one (.f (.v (.bool true))))
  | _ => none
section
variable {E : World → Hp → Prop} (hU : Up E)
include hU
theorem cMark : Contract Tryz.prog E 102 sMark := by
  refine contract_loopsG [] Tryz.ntmps102 Tryz.func102 (by kernel_rfl) (by kernel_rfl) hU trivial ?_
  intro xs p r hs hp
  unfold sMark at hs
  split at hs
  · rename_i k i
    cases hs
    obtain ⟨rfl, h0, h1⟩ := hp _ rfl
    refine ⟨[.f (.v (.int .i64 1)), .f (.v (.int .i64 i))], [], .cons (.refl _) (.cons (.refl _) .nil), rfl, fun hgx hg => ?_⟩
    refine cast_rfl (p := true = true ∧ Sub (PV.f (Lf.v (Value.int IntKind.i64 (IntKind.i64.wrap (IntKind.i64.wrap ((1000003 : Int) * IntKind.i64.wrap ((1 : Int) + (7 : Int))) + i))))) (PV.f (Lf.v (Value.int IntKind.i64 ((8000024 : Int) + i))))) (by kernel_rfl) ?_
    refine ⟨rfl, ?m0⟩
    case m0 =>
      refine sub_int ?_
      rw [wrapI (1 + 7) (by omega), wrapI (1000003 * (1 + 7)) (by omega), wrapI _ (by omega)]
      omega
  · cases hs
theorem cLentL : Contract Tryz.prog E 101 sLentL := by
  refine contract_loopsG [(102, sMark)] Tryz.ntmps101 Tryz.func101 (by kernel_rfl) (by kernel_rfl) hU ⟨cMark hU, trivial⟩ ?_
  intro xs p r hs hp
  unfold sLentL at hs
  split at hs
  · rename_i l k
    cases hs
    have hl := hp _ rfl
    refine ⟨[.f (.lr l k)], [(4, .s ⟨Nat, fun i => ⟨[(0, .f (.lr l k)), (3, .tl 0 (.is .u32 (l.map Int.ofNat ++ marks i))), (4, .f (.v (.int .i64 (i : Nat))))], [.tail 103 1]⟩, fun i => i ≤ 12, fun i => 12 - i⟩)], .cons (.refl _) .nil, rfl, fun hgx hg => ?_⟩
    refine cast_rfl (p := ((0 : Int) ≤ (0 : Int) ∧ (0 : Int) ≤ IntKind.i64.wrap ((↑l.length : Int) + (12 : Int)) ∧ IntKind.i64.wrap ((↑l.length : Int) + (12 : Int)) * (↑4 : Int) ≤ (140737488355328 : Int) ∧ IntKind.i64.wrap ((↑l.length : Int) + (12 : Int)) ≤ (↑9223372036854775807 : Int)) ∧ (0 + l.length ≤ 9223372036854775807 ∧ (0 + l.length) * 4 ≤ 140737488355328) ∧ ∃ (x1 : Nat), (((103 = 103 ∧ 1 = 1) ∧ True) ∧ SubB (PV.f (Lf.lr l k)) (PV.f (Lf.lr l k)) ∧ SubB (PV.tl 0 (Lf.is IntKind.u32 (List.replicate (Int.toNat (0 : Int)) (0 : Int) ++ List.map Int.ofNat l))) (PV.tl 0 (Lf.is IntKind.u32 (List.map Int.ofNat l ++ marks x1))) ∧ SubB (PV.f (Lf.v (Value.int IntKind.i64 (0 : Int)))) (PV.f (Lf.v (Value.int IntKind.i64 (↑x1 : Int)))) ∧ True) ∧ x1 ≤ 12 ∧ True ∧ ∀ (z2 : Nat), z2 ≤ 12 → True → ifB (decide ((↑z2 : Int) < (12 : Int))) (((1 : Int) = (1 : Int) ∧ (0 : Int) ≤ (↑z2 : Int) ∧ (↑z2 : Int) ≤ (1000000000 : Int)) ∧ ((List.map Int.ofNat l ++ marks z2).length + 1 ≤ 9223372036854775807 ∧ ((List.map Int.ofNat l ++ marks z2).length + 1) * 4 ≤ 140737488355328) ∧ ∃ (x3 : Nat), (((103 = 103 ∧ 1 = 1) ∧ True) ∧ SubB (PV.f (Lf.lr l k)) (PV.f (Lf.lr l k)) ∧ SubB (PV.tl 0 (Lf.is IntKind.u32 (List.map Int.ofNat l ++ marks z2 ++ [IntKind.u32.wrap ((8000024 : Int) + (↑z2 : Int))]))) (PV.tl 0 (Lf.is IntKind.u32 (List.map Int.ofNat l ++ marks x3))) ∧ SubB (PV.f (Lf.v (Value.int IntKind.i64 (IntKind.i64.wrap ((↑z2 : Int) + (1 : Int)))))) (PV.f (Lf.v (Value.int IntKind.i64 (↑x3 : Int)))) ∧ True) ∧ x3 ≤ 12 ∧ True ∧ (12 - x3).succ.le (12 - z2)) (((0 : Int) ≤ (↑l.length : Int) ∧ (↑l.length : Int) ≤ (↑(List.map Int.ofNat l ++ marks z2).length : Int)) ∧ true = true ∧ Sub (PV.f ((Lf.is IntKind.u32 (List.map Int.ofNat l ++ marks z2)).sp (↑l.length : Int).toNat)) (PV.f ((Lf.is IntKind.u32 (allL l)).sp l.length)))) (by kernel_rfl) ?_
    refine ⟨?s0, ⟨?s1, ⟨?x0, ⟨⟨⟨⟨rfl, rfl⟩, trivial⟩, ⟨.refl _, ⟨?m0, ⟨?m1, trivial⟩⟩⟩⟩, ⟨?s2, ⟨trivial, fun z2 => fun hq0 => fun _ => ifB_iff.2 ⟨fun hb1 => ⟨?s3, ⟨?s4, ⟨?x1, ⟨⟨⟨⟨rfl, rfl⟩, trivial⟩, ⟨.refl _, ⟨?m2, ⟨?m3, trivial⟩⟩⟩⟩, ⟨?s5, ⟨trivial, ?m4⟩⟩⟩⟩⟩⟩, fun hb1 => ⟨?s6, ⟨rfl, ?m5⟩⟩⟩⟩⟩⟩⟩⟩⟩
    case x0 => exact 0
    case x1 => exact z2 + 1
    case s0 => rw [wrapI _ ⟨by omega, by omega⟩]; exact ⟨by omega, by omega, by omega, by omega⟩
    case s1 => exact ⟨by omega, by omega⟩
    case m0 => exact subB_tl (by simp [marks])
    case m1 => exact subB_int rfl
    case s2 => omega
    case s3 => exact ⟨rfl, by omega, by omega⟩
    case s4 =>
      rw [List.length_append, List.length_map, marks_len]
      exact ⟨by omega, by omega⟩
    case m2 =>
      refine subB_tl ?_
      rw [wU _ (by omega) (by omega), marks, List.append_assoc]
    case m3 => exact subB_succ (by omega)
    case s5 => have := of_decide_eq_true hb1; omega
    case m4 => have := of_decide_eq_true hb1; show 12 - (z2 + 1) + 1 ≤ 12 - z2; omega
    case s6 =>
      rw [List.length_append, List.length_map, marks_len]
      exact ⟨by omega, by omega⟩
    case m5 =>
      have := of_decide_eq_false hb1
      obtain rfl : z2 = 12 := by omega
      rw [Int.toNat_natCast]
      exact .refl _
  · cases hs
theorem cLentI : Contract Tryz.prog E 52 sLentI := by
  refine contract_loopsG [(101, sLentL)] Tryz.ntmps52 Tryz.func52 (by kernel_rfl) (by kernel_rfl) hU ⟨cLentL hU, trivial⟩ ?_
  intro xs p r hs hp
  unfold sLentI at hs
  split at hs
  · rename_i n l k
    cases hs
    have hl := hp _ rfl
    refine ⟨[.agg [.f (.v (.bool n)), .f (.lr l k)]], [], .cons (.refl _) .nil, rfl, fun hgx hg => ?_⟩
    refine cast_rfl (p := l.length ≤ 1000000 ∧ true = true ∧ Sub (PV.agg [PV.f (Lf.v (Value.bool n)), PV.f ((Lf.is IntKind.u32 (allL l)).sp l.length)]) (PV.agg [PV.f (Lf.v (Value.bool n)), PV.f ((Lf.is IntKind.u32 (allL l)).sp l.length)])) (by kernel_rfl) ?_
    refine ⟨?s0, ⟨rfl, ?m0⟩⟩
    case s0 => exact hl
    case m0 => exact .refl _
  · cases hs
theorem cKeptL : Contract Tryz.prog E 117 sKeptL := by
  refine contract_loopsG [(102, sMark)] Tryz.ntmps117 Tryz.func117 (by kernel_rfl) (by kernel_rfl) hU ⟨cMark hU, trivial⟩ ?_
  intro xs p r hs hp
  unfold sKeptL at hs
  split at hs
  · rename_i M m l k
    cases hs
    obtain ⟨hl, rfl, rfl⟩ := hp _ rfl
    refine ⟨[.f (.sp (.is .u32 (allL l)) l.length), .f (.lr l k)], [(5, .s ⟨Nat, fun i => ⟨[(0, .f (.sp (.is .u32 (allL l)) l.length)), (1, .f (.lr l k)), (5, .f (.is .u32 (allL l))), (6, .f (.v (.int .i64 (i : Nat))))], []⟩, fun i => i ≤ l.length + 12, fun i => l.length + 12 - i⟩)], .cons (.refl _) (.cons (.refl _) .nil), rfl, fun hgx hg => ?_⟩
    refine cast_rfl (p := ifB ((↑l.length : Int) != (↑l.length : Int)) (true = true ∧ Sub (PV.f (Lf.v (Value.bool false))) (PV.f (Lf.v (Value.bool true)))) (((0 : Int) ≤ IntKind.i64.wrap ((↑l.length : Int) + (12 : Int)) ∧ IntKind.i64.wrap ((↑l.length : Int) + (12 : Int)) ≤ (↑(allL l).length : Int)) ∧ ∃ (x1 : Nat), (True ∧ SubB (PV.f ((Lf.is IntKind.u32 (allL l)).sp l.length)) (PV.f ((Lf.is IntKind.u32 (allL l)).sp l.length)) ∧ SubB (PV.f (Lf.lr l k)) (PV.f (Lf.lr l k)) ∧ SubB (PV.f (Lf.is IntKind.u32 (List.take (IntKind.i64.wrap ((↑l.length : Int) + (12 : Int))).toNat (allL l)))) (PV.f (Lf.is IntKind.u32 (allL l))) ∧ SubB (PV.f (Lf.v (Value.int IntKind.i64 (0 : Int)))) (PV.f (Lf.v (Value.int IntKind.i64 (↑x1 : Int)))) ∧ True) ∧ x1 ≤ l.length + 12 ∧ True ∧ ∀ (z2 : Nat), z2 ≤ l.length + 12 → True → ifB (decide ((↑z2 : Int) < (↑(allL l).length : Int))) (ifB (decide ((↑z2 : Int) < (↑l.length : Int))) (((0 : Int) ≤ (↑z2 : Int) ∧ (↑z2 : Int) < (↑(allL l).length : Int)) ∧ ((0 : Int) ≤ (↑z2 : Int) ∧ (↑z2 : Int) < (↑l.length : Int)) ∧ ifB (!(allL l).getD (↑z2 : Int).toNat (0 : Int) == (↑(l.getD (↑z2 : Int).toNat 0) : Int)) (true = true ∧ Sub (PV.f (Lf.v (Value.bool false))) (PV.f (Lf.v (Value.bool true)))) (ifB (decide ((↑z2 : Int) ≥ (↑l.length : Int))) (((0 : Int) ≤ (↑z2 : Int) ∧ (↑z2 : Int) < (↑(allL l).length : Int)) ∧ ((1 : Int) = (1 : Int) ∧ (0 : Int) ≤ IntKind.i64.wrap ((↑z2 : Int) - (↑l.length : Int)) ∧ IntKind.i64.wrap ((↑z2 : Int) - (↑l.length : Int)) ≤ (1000000000 : Int)) ∧ ifB (!(allL l).getD (↑z2 : Int).toNat (0 : Int) == IntKind.u32.wrap ((8000024 : Int) + IntKind.i64.wrap ((↑z2 : Int) - (↑l.length : Int)))) (true = true ∧ Sub (PV.f (Lf.v (Value.bool false))) (PV.f (Lf.v (Value.bool true)))) (∃ (x3 : Nat), (True ∧ SubB (PV.f ((Lf.is IntKind.u32 (allL l)).sp l.length)) (PV.f ((Lf.is IntKind.u32 (allL l)).sp l.length)) ∧ SubB (PV.f (Lf.lr l k)) (PV.f (Lf.lr l k)) ∧ SubB (PV.f (Lf.is IntKind.u32 (allL l))) (PV.f (Lf.is IntKind.u32 (allL l))) ∧ SubB (PV.f (Lf.v (Value.int IntKind.i64 (IntKind.i64.wrap ((↑z2 : Int) + (1 : Int)))))) (PV.f (Lf.v (Value.int IntKind.i64 (↑x3 : Int)))) ∧ True) ∧ x3 ≤ l.length + 12 ∧ True ∧ (l.length + 12 - x3).succ.le (l.length + 12 - z2))) (∃ (x3 : Nat), (True ∧ SubB (PV.f ((Lf.is IntKind.u32 (allL l)).sp l.length)) (PV.f ((Lf.is IntKind.u32 (allL l)).sp l.length)) ∧ SubB (PV.f (Lf.lr l k)) (PV.f (Lf.lr l k)) ∧ SubB (PV.f (Lf.is IntKind.u32 (allL l))) (PV.f (Lf.is IntKind.u32 (allL l))) ∧ SubB (PV.f (Lf.v (Value.int IntKind.i64 (IntKind.i64.wrap ((↑z2 : Int) + (1 : Int)))))) (PV.f (Lf.v (Value.int IntKind.i64 (↑x3 : Int)))) ∧ True) ∧ x3 ≤ l.length + 12 ∧ True ∧ (l.length + 12 - x3).succ.le (l.length + 12 - z2)))) (ifB (decide ((↑z2 : Int) ≥ (↑l.length : Int))) (((0 : Int) ≤ (↑z2 : Int) ∧ (↑z2 : Int) < (↑(allL l).length : Int)) ∧ ((1 : Int) = (1 : Int) ∧ (0 : Int) ≤ IntKind.i64.wrap ((↑z2 : Int) - (↑l.length : Int)) ∧ IntKind.i64.wrap ((↑z2 : Int) - (↑l.length : Int)) ≤ (1000000000 : Int)) ∧ ifB (!(allL l).getD (↑z2 : Int).toNat (0 : Int) == IntKind.u32.wrap ((8000024 : Int) + IntKind.i64.wrap ((↑z2 : Int) - (↑l.length : Int)))) (true = true ∧ Sub (PV.f (Lf.v (Value.bool false))) (PV.f (Lf.v (Value.bool true)))) (∃ (x3 : Nat), (True ∧ SubB (PV.f ((Lf.is IntKind.u32 (allL l)).sp l.length)) (PV.f ((Lf.is IntKind.u32 (allL l)).sp l.length)) ∧ SubB (PV.f (Lf.lr l k)) (PV.f (Lf.lr l k)) ∧ SubB (PV.f (Lf.is IntKind.u32 (allL l))) (PV.f (Lf.is IntKind.u32 (allL l))) ∧ SubB (PV.f (Lf.v (Value.int IntKind.i64 (IntKind.i64.wrap ((↑z2 : Int) + (1 : Int)))))) (PV.f (Lf.v (Value.int IntKind.i64 (↑x3 : Int)))) ∧ True) ∧ x3 ≤ l.length + 12 ∧ True ∧ (l.length + 12 - x3).succ.le (l.length + 12 - z2))) (∃ (x3 : Nat), (True ∧ SubB (PV.f ((Lf.is IntKind.u32 (allL l)).sp l.length)) (PV.f ((Lf.is IntKind.u32 (allL l)).sp l.length)) ∧ SubB (PV.f (Lf.lr l k)) (PV.f (Lf.lr l k)) ∧ SubB (PV.f (Lf.is IntKind.u32 (allL l))) (PV.f (Lf.is IntKind.u32 (allL l))) ∧ SubB (PV.f (Lf.v (Value.int IntKind.i64 (IntKind.i64.wrap ((↑z2 : Int) + (1 : Int)))))) (PV.f (Lf.v (Value.int IntKind.i64 (↑x3 : Int)))) ∧ True) ∧ x3 ≤ l.length + 12 ∧ True ∧ (l.length + 12 - x3).succ.le (l.length + 12 - z2)))) (true = true ∧ Sub (PV.f (Lf.v (Value.bool true))) (PV.f (Lf.v (Value.bool true)))))) (by kernel_rfl) ?_
    refine ifB_iff.2 ⟨fun hb0 => ⟨rfl, ?m0⟩, fun hb0 => ⟨?s0, ⟨?x0, ⟨⟨trivial, ⟨.refl _, ⟨.refl _, ⟨?m1, ⟨?m2, trivial⟩⟩⟩⟩⟩, ⟨?s1, ⟨trivial, fun z2 => fun hq1 => fun _ => ifB_iff.2 ⟨fun hb2 => ifB_iff.2 ⟨fun hb3 => ⟨?s2, ⟨?s3, ifB_iff.2 ⟨fun hb4 => ⟨rfl, ?m3⟩, fun hb4 => ifB_iff.2 ⟨fun hb5 => ⟨?s4, ⟨?s5, ifB_iff.2 ⟨fun hb6 => ⟨rfl, ?m4⟩, fun hb6 => ⟨?x1, ⟨⟨trivial, ⟨.refl _, ⟨.refl _, ⟨.refl _, ⟨?m5, trivial⟩⟩⟩⟩⟩, ⟨?s6, ⟨trivial, ?m6⟩⟩⟩⟩⟩⟩⟩, fun hb5 => ⟨?x2, ⟨⟨trivial, ⟨.refl _, ⟨.refl _, ⟨.refl _, ⟨?m7, trivial⟩⟩⟩⟩⟩, ⟨?s7, ⟨trivial, ?m8⟩⟩⟩⟩⟩⟩⟩⟩, fun hb3 => ifB_iff.2 ⟨fun hb7 => ⟨?s8, ⟨?s9, ifB_iff.2 ⟨fun hb8 => ⟨rfl, ?m9⟩, fun hb8 => ⟨?x3, ⟨⟨trivial, ⟨.refl _, ⟨.refl _, ⟨.refl _, ⟨?m10, trivial⟩⟩⟩⟩⟩, ⟨?s10, ⟨trivial, ?m11⟩⟩⟩⟩⟩⟩⟩, fun hb7 => ⟨?x4, ⟨⟨trivial, ⟨.refl _, ⟨.refl _, ⟨.refl _, ⟨?m12, trivial⟩⟩⟩⟩⟩, ⟨?s11, ⟨trivial, ?m13⟩⟩⟩⟩⟩⟩, fun hb2 => ⟨rfl, ?m14⟩⟩⟩⟩⟩⟩⟩⟩
    case x0 => exact 0
    case x1 => exact z2 + 1
    case x2 => exact z2 + 1
    case x3 => exact z2 + 1
    case x4 => exact z2 + 1
    all_goals try simp only [allL_len, Int.toNat_natCast] at *
    case m0 => simp at hb0
    case s0 => rw [wrapI _ ⟨by omega, by omega⟩]; exact ⟨by omega, by omega⟩
    case m1 =>
      refine subB_of (sub_is ?_)
      rw [wrapI _ ⟨by omega, by omega⟩]
      exact List.take_of_length_le (by rw [allL_len]; omega)
    case m2 => exact subB_int rfl
    case s1 => omega
    case m14 => exact .refl _
    all_goals have h2 := of_decide_eq_true hb2
    case m12 => exact absurd (of_decide_eq_false hb7) (by have := of_decide_eq_false hb3; omega)
    case s11 => exact absurd (of_decide_eq_false hb7) (by have := of_decide_eq_false hb3; omega)
    case m13 => exact absurd (of_decide_eq_false hb7) (by have := of_decide_eq_false hb3; omega)
    case s2 => exact ⟨by omega, by omega⟩
    case s8 => exact ⟨by omega, by omega⟩
    case s9 =>
      have := of_decide_eq_false hb3
      rw [wrapI _ ⟨by omega, by omega⟩]; exact ⟨trivial, by omega, by omega⟩
    case m9 =>
      have := of_decide_eq_false hb3
      rw [allL_hi (by omega) (by omega), wrapI _ ⟨by omega, by omega⟩, wU _ (by omega) (by omega)] at hb8
      simp at hb8
    case m10 => exact subB_succ (by omega)
    case s10 => omega
    case m11 => show l.length + 12 - (z2 + 1) + 1 ≤ l.length + 12 - z2; omega
    all_goals have h3 := of_decide_eq_true hb3
    case s3 => exact ⟨by omega, by omega⟩
    case m3 =>
      rw [allL_lo (by omega)] at hb4
      simp at hb4
    case s4 => exact ⟨by omega, by omega⟩
    case m7 => exact subB_succ (by omega)
    case s7 => omega
    case m8 => show l.length + 12 - (z2 + 1) + 1 ≤ l.length + 12 - z2; omega
    all_goals exact absurd (of_decide_eq_true hb5) (by omega)
  · cases hs
theorem cKeptI : Contract Tryz.prog E 69 sKeptI := by
  refine contract_loopsG [(45, sSameX), (117, sKeptL)] Tryz.ntmps69 Tryz.func69 (by kernel_rfl) (by kernel_rfl) hU ⟨cSameX, cKeptL hU, trivial⟩ ?_
  intro xs p r hs hp
  unfold sKeptI at hs
  split at hs
  · rename_i n M m n' l k
    cases hs
    obtain ⟨rfl, rfl, rfl, hl, hk⟩ := hp _ rfl
    refine ⟨[.agg [.f (.v (.bool n)), .f (.sp (.is .u32 (allL l)) l.length)], .agg [.f (.v (.bool n)), .f (.lr l k)]], [], .cons (.refl _) (.cons (.refl _) .nil), rfl, fun hgx hg => ?_⟩
    have hlt : ∀ x ∈ l, x < 4294967296 := hgx.2.1.2.1.1.2
    refine cast_rfl (p := ((l.length ≤ (allL l).length ∧ ∀ (x : Int), x ∈ List.take l.length (allL l) → (0 : Int) ≤ x ∧ x < (4294967296 : Int)) ∧ True ∧ l.length + k ≤ 900000) ∧ ifB (n == n && eqB (List.map Int.toNat (List.take l.length (allL l))) l) ((l.length ≤ 1000000 ∧ allL l = allL l ∧ l.length = l.length) ∧ true = true ∧ Sub (PV.f (Lf.v (Value.bool true))) (PV.f (Lf.v (Value.bool true)))) (true = true ∧ Sub (PV.f (Lf.v (Value.bool false))) (PV.f (Lf.v (Value.bool true))))) (by kernel_rfl) ?_
    refine ⟨?s0, ifB_iff.2 ⟨fun hb0 => ⟨?s1, ⟨rfl, ?m0⟩⟩, fun hb0 => ⟨rfl, ?m1⟩⟩⟩
    case s0 =>
      refine ⟨⟨by rw [allL_len]; omega, ?_⟩, trivial, by omega⟩
      rw [allL_take]
      intro x hx
      obtain ⟨y, hy, rfl⟩ := List.mem_map.1 hx
      have := hlt y hy
      have e : Int.ofNat y = (y : Int) := rfl
      omega
    case s1 => exact ⟨by omega, rfl, rfl⟩
    case m0 => exact .refl _
    case m1 =>
      rw [allL_take, map_back, eqB_self, beq_self_eq_true] at hb0
      cases hb0
  · cases hs
end

end Go.Proofs.YtjfncepmpabcnaaGreatDoor
