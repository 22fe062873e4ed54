/- The law RatioEnds, by the pure run. -/
import Derived.Test.YtjfncepmpabcnaaGreatDoorKt
import Derived.Test.YtjfncepmpabcnaaGreatDoorRt
namespace Go.Proofs.YtjfncepmpabcnaaGreatDoor
open Go.RowKit
set_option linter.unusedVariables false
set_option maxRecDepth 100000

/-- The numbers at their ends. -/
def ends : List Int := [0, 1, -1, 2, -2, 3, 6, 999999999, -1000000000, 9223372036854775807, -9223372036854775808]
theorem ends_in (i : Nat) : -9223372036854775808 ≤ ends.getD i 0 ∧ ends.getD i 0 ≤ 9223372036854775807 := by
  by_cases h : i < 11
  · have : ∀ j : Fin 11, -9223372036854775808 ≤ ends.getD j.1 0 ∧ ends.getD j.1 0 ≤ 9223372036854775807 := by decide
    exact this ⟨i, h⟩
  · rw [List.getD_eq_getElem?_getD, List.getElem?_eq_none (by show 11 ≤ i; omega)]
    decide
theorem zb_ends {z : Int} {i : Nat} (h : z = ends.getD i 0) : ZB z 3 := by
  have := ends_in i
  rw [← h] at this
  unfold ZB
  omega
/-- A row of numbers, as such. -/
theorem sub_row_is {kd : IntKind} {L : List (List Lf)} {l : List Int} (h : intsOf kd L = some l) : SubB (.f (.row 1 L)) (.f (.is kd l)) := by
  obtain ⟨h1, h2⟩ := intsOf_at h
  refine ⟨fun H B v hv => .f ?_⟩
  cases hv.rd with
  | @sl _ k n get ao cap hview hg hc hm h0 b o val hb hcell hk hrec =>
    simp only [Lf.view, Option.some.injEq, Prod.mk.injEq] at hview
    obtain ⟨rfl, rfl, rfl⟩ := hview
    refine .slf (fun _ => rfl) (f := .is kd l) (get := fun i => [.v (.int kd (l.getD i 0))]) (by simp [Lf.view, h1]) trivial hc hm h0 b o val hb hcell (fun i hi => rfl) (fun i hi j x hx => ?_)
    rw [← h2 i hi] at hx
    exact hrec i hi j x hx
theorem text_ends {z : Int} (h : ZB z 3) : (⟨(zText z).toArray⟩ : ByteArray).size ≤ 30 := by
  have := zText_len h
  show (zText z).toArray.size ≤ 30
  rw [List.size_toArray]; omega
def sEnds : Spec
  | [] => some (none, .one (.f (.v (.bool true))))
  | _ => none
theorem cEnds : Contract Tryz.prog EQ 7 sEnds := by
  refine contract_loopsG [(20, sAwake), (31, sOf), (48, sText), (6, sLaw2), (4, sLawS)] Tryz.ntmps7 Tryz.func7 (by kernel_rfl) (by kernel_rfl) EQ.up ⟨cAwake, cOf EQ.up, cText.env (fun _ _ h => h.1), cTells, cTextsLaw, trivial⟩ ?_
  intro xs p r hs hp
  unfold sEnds at hs
  split at hs
  · cases hs
    refine ⟨[], [(5, .s ⟨Nat, fun i => ⟨[(1, .f (.is .i64 ends)), (2, .f (.v (.int .i64 (i : Nat))))], []⟩, fun i => i ≤ 11, fun i => 11 - i⟩),
      (8, ⟨Nat × Nat, fun x => ⟨[(1, .f (.is .i64 ends)), (2, .f (.v (.int .i64 (x.1 : Nat)))), (3, .f (.v (.int .i64 (x.2 : Nat))))], []⟩, fun x => x.1 < 11 ∧ x.2 ≤ 11, fun x => 11 - x.2, fun x y => x.1 = y.1⟩)], .nil, rfl, fun hgx hg => ?_⟩
    have hl : ends.length = 11 := rfl
    refine cast_rfl (p := ∃ (x1 : Nat), (True ∧ SubB (PV.f (Lf.row 1 [[Lf.v (Value.int IntKind.i64 (0 : Int))], [Lf.v (Value.int IntKind.i64 (1 : Int))], [Lf.v (Value.int IntKind.i64 (-1 : Int))], [Lf.v (Value.int IntKind.i64 (2 : Int))], [Lf.v (Value.int IntKind.i64 (-2 : Int))], [Lf.v (Value.int IntKind.i64 (3 : Int))], [Lf.v (Value.int IntKind.i64 (6 : Int))], [Lf.v (Value.int IntKind.i64 (999999999 : Int))], [Lf.v (Value.int IntKind.i64 (-1000000000 : Int))], [Lf.v (Value.int IntKind.i64 (9223372036854775807 : Int))], [Lf.v (Value.int IntKind.i64 (-9223372036854775808 : Int))]])) (PV.f (Lf.is IntKind.i64 ends)) ∧ SubB (PV.f (Lf.v (Value.int IntKind.i64 (0 : Int)))) (PV.f (Lf.v (Value.int IntKind.i64 (↑x1 : Int)))) ∧ True) ∧ x1 ≤ 11 ∧ True ∧ ∀ (z2 : Nat), z2 ≤ 11 → True → ifB (decide ((↑z2 : Int) < (↑ends.length : Int))) (∃ (x3 : Nat × Nat), (True ∧ SubB (PV.f (Lf.is IntKind.i64 ends)) (PV.f (Lf.is IntKind.i64 ends)) ∧ SubB (PV.f (Lf.v (Value.int IntKind.i64 (↑z2 : Int)))) (PV.f (Lf.v (Value.int IntKind.i64 (↑x3.fst : Int)))) ∧ SubB (PV.f (Lf.v (Value.int IntKind.i64 (0 : Int)))) (PV.f (Lf.v (Value.int IntKind.i64 (↑x3.snd : Int)))) ∧ True) ∧ (x3.fst < 11 ∧ x3.snd ≤ 11) ∧ x3.fst = x3.fst ∧ ∀ (z4 : Nat × Nat), z4.fst < 11 ∧ z4.snd ≤ 11 → x3.fst = z4.fst → ifB (decide ((↑z4.snd : Int) < (↑ends.length : Int))) (((0 : Int) ≤ (↑z4.fst : Int) ∧ (↑z4.fst : Int) < (↑ends.length : Int)) ∧ ((-9223372036854775808 : Int) ≤ ends.getD (↑z4.fst : Int).toNat (0 : Int) ∧ ends.getD (↑z4.fst : Int).toNat (0 : Int) ≤ (9223372036854775807 : Int)) ∧ ∀ (z5 : Int), z5 = ends.getD (↑z4.fst : Int).toNat (0 : Int) → ((0 : Int) ≤ (↑z4.snd : Int) ∧ (↑z4.snd : Int) < (↑ends.length : Int)) ∧ ((-9223372036854775808 : Int) ≤ ends.getD (↑z4.snd : Int).toNat (0 : Int) ∧ ends.getD (↑z4.snd : Int).toNat (0 : Int) ≤ (9223372036854775807 : Int)) ∧ ∀ (z6 : Int), z6 = ends.getD (↑z4.snd : Int).toNat (0 : Int) → ((0 : Int) ≤ (↑z4.snd : Int) ∧ (↑z4.snd : Int) < (↑ends.length : Int)) ∧ ((-9223372036854775808 : Int) ≤ ends.getD (↑z4.snd : Int).toNat (0 : Int) ∧ ends.getD (↑z4.snd : Int).toNat (0 : Int) ≤ (9223372036854775807 : Int)) ∧ ∀ (z7 : Int), z7 = ends.getD (↑z4.snd : Int).toNat (0 : Int) → ((0 : Int) ≤ (IntKind.i64.wrap ((↑z4.fst : Int) + (↑z4.snd : Int))).tmod (↑ends.length : Int) ∧ (IntKind.i64.wrap ((↑z4.fst : Int) + (↑z4.snd : Int))).tmod (↑ends.length : Int) < (↑ends.length : Int)) ∧ ((-9223372036854775808 : Int) ≤ ends.getD ((IntKind.i64.wrap ((↑z4.fst : Int) + (↑z4.snd : Int))).tmod (↑ends.length : Int)).toNat (0 : Int) ∧ ends.getD ((IntKind.i64.wrap ((↑z4.fst : Int) + (↑z4.snd : Int))).tmod (↑ends.length : Int)).toNat (0 : Int) ≤ (9223372036854775807 : Int)) ∧ ∀ (z8 : Int), z8 = ends.getD ((IntKind.i64.wrap ((↑z4.fst : Int) + (↑z4.snd : Int))).tmod (↑ends.length : Int)).toNat (0 : Int) → ((0 : Int) ≤ (↑z4.fst : Int) ∧ (↑z4.fst : Int) < (↑ends.length : Int)) ∧ ((-9223372036854775808 : Int) ≤ ends.getD (↑z4.fst : Int).toNat (0 : Int) ∧ ends.getD (↑z4.fst : Int).toNat (0 : Int) ≤ (9223372036854775807 : Int)) ∧ ∀ (z9 : Int), z9 = ends.getD (↑z4.fst : Int).toNat (0 : Int) → 3 ≤ 90000 ∧ (↑((ByteArray.mk (zText (zV (zNeg z9) (digs 1000000000 z9.natAbs))).toArray).size + 1) : Int) ≤ IntKind.i64.max ∧ ((0 : Int) ≤ (↑z4.snd : Int) ∧ (↑z4.snd : Int) < (↑ends.length : Int)) ∧ ((-9223372036854775808 : Int) ≤ ends.getD (↑z4.snd : Int).toNat (0 : Int) ∧ ends.getD (↑z4.snd : Int).toNat (0 : Int) ≤ (9223372036854775807 : Int)) ∧ ∀ (z10 : Int), z10 = ends.getD (↑z4.snd : Int).toNat (0 : Int) → 3 ≤ 90000 ∧ (↑((ByteArray.mk (zText (zV (zNeg z9) (digs (1000000000 : Nat) z9.natAbs))).toArray ++ ByteArray.mk #[(47 : UInt8)]).size + (ByteArray.mk (zText (zV (zNeg z10) (digs (1000000000 : Nat) z10.natAbs))).toArray).size) : Int) ≤ IntKind.i64.max ∧ ∃ (x11 : Nat × Nat), (True ∧ SubB (PV.f (Lf.is IntKind.i64 ends)) (PV.f (Lf.is IntKind.i64 ends)) ∧ SubB (PV.f (Lf.v (Value.int IntKind.i64 (↑z4.fst : Int)))) (PV.f (Lf.v (Value.int IntKind.i64 (↑x11.fst : Int)))) ∧ SubB (PV.f (Lf.v (Value.int IntKind.i64 (IntKind.i64.wrap ((↑z4.snd : Int) + (1 : Int)))))) (PV.f (Lf.v (Value.int IntKind.i64 (↑x11.snd : Int)))) ∧ True) ∧ (x11.fst < 11 ∧ x11.snd ≤ 11) ∧ x3.fst = x11.fst ∧ (11 - x11.snd).succ.le (11 - z4.snd)) (∃ (x5 : Nat), (True ∧ SubB (PV.f (Lf.is IntKind.i64 ends)) (PV.f (Lf.is IntKind.i64 ends)) ∧ SubB (PV.f (Lf.v (Value.int IntKind.i64 (IntKind.i64.wrap ((↑z4.fst : Int) + (1 : Int)))))) (PV.f (Lf.v (Value.int IntKind.i64 (↑x5 : Int)))) ∧ True) ∧ x5 ≤ 11 ∧ True ∧ (11 - x5).succ.le (11 - z2))) (true = true ∧ Sub (PV.f (Lf.v (Value.bool true))) (PV.f (Lf.v (Value.bool true))))) (by kernel_rfl) ?_
    refine ⟨?x0, ⟨⟨trivial, ⟨?m0, ⟨?m1, trivial⟩⟩⟩, ⟨?s0, ⟨trivial, fun z2 => fun hq0 => fun _ => ifB_iff.2 ⟨fun hb1 => ⟨?x1, ⟨⟨trivial, ⟨.refl _, ⟨?m2, ⟨?m3, trivial⟩⟩⟩⟩, ⟨?s1, ⟨rfl, fun z4 => fun hq2 => fun hq3 => ifB_iff.2 ⟨fun hb4 => ⟨?s2, ⟨?s3, fun z5 => fun hz5 => ⟨?s4, ⟨?s5, fun z6 => fun hz6 => ⟨?s6, ⟨?s7, fun z7 => fun hz7 => ⟨?s8, ⟨?s9, fun z8 => fun hz8 => ⟨?s10, ⟨?s11, fun z9 => fun hz9 => ⟨?s12, ⟨?s13, ⟨?s14, ⟨?s15, fun z10 => fun hz10 => ⟨?s16, ⟨?s17, ⟨?x2, ⟨⟨trivial, ⟨.refl _, ⟨?m4, ⟨?m5, trivial⟩⟩⟩⟩, ⟨?s18, ⟨?s19, ?m6⟩⟩⟩⟩⟩⟩⟩⟩⟩⟩⟩⟩⟩⟩⟩⟩⟩⟩⟩⟩, fun hb4 => ⟨?x3, ⟨⟨trivial, ⟨.refl _, ⟨?m7, trivial⟩⟩⟩, ⟨?s20, ⟨trivial, ?m8⟩⟩⟩⟩⟩⟩⟩⟩⟩, fun hb1 => ⟨rfl, ?m9⟩⟩⟩⟩⟩⟩
    case x0 => exact 0
    case x1 => exact (z2, 0)
    case x2 => exact (z4.1, z4.2 + 1)
    case x3 => exact z2 + 1
    case m0 => exact sub_row_is rfl
    case m1 => exact .refl _
    case s0 => exact Nat.zero_le _
    case m9 => exact .refl _
    all_goals have h1 := of_decide_eq_true hb1
    case m2 => exact .refl _
    case m3 => exact .refl _
    case s1 => exact ⟨by omega, Nat.zero_le _⟩
    all_goals obtain ⟨q1, q2⟩ := hq2
    all_goals have q3 : z2 = z4.1 := hq3
    case m7 => rw [← q3]; exact subB_succ (by omega)
    case s20 => omega
    case m8 => show 11 - (z2 + 1) + 1 ≤ 11 - z2; omega
    all_goals have h4 := of_decide_eq_true hb4
    case s2 => exact ⟨by omega, by omega⟩
    case s3 => exact ends_in _
    case s4 => exact ⟨by omega, by omega⟩
    case s5 => exact ends_in _
    case s6 => exact ⟨by omega, by omega⟩
    case s7 => exact ends_in _
    case s8 =>
      rw [wrapI _ ⟨by omega, by omega⟩]
      have h2 := Int.tmod_nonneg (a := (z4.1 : Int) + (z4.2 : Int)) (ends.length : Int) (by omega)
      have h3 := Int.tmod_lt_of_pos ((z4.1 : Int) + (z4.2 : Int)) (show 0 < (ends.length : Int) by omega)
      exact ⟨h2, h3⟩
    case s9 => exact ends_in _
    case s10 => exact ⟨by omega, by omega⟩
    case s11 => exact ends_in _
    case s12 => decide
    case s14 => exact ⟨by omega, by omega⟩
    case s15 => exact ends_in _
    case s16 => decide
    case m4 => exact .refl _
    case m5 => exact subB_succ (by omega)
    case s18 => exact ⟨q1, by omega⟩
    case s19 => exact q3
    case m6 => show 11 - (z4.2 + 1) + 1 ≤ 11 - z4.2; omega
    all_goals have hm : IntKind.i64.max = 9223372036854775807 := (by decide)
    all_goals have t9 := text_ends (zb_ends hz9)
    all_goals rw [← zV_self z9] at t9
    case s13 => omega
    case s17 =>
      have t10 := text_ends (zb_ends hz10)
      rw [← zV_self z10] at t10
      rw [ByteArray.size_append, show (⟨#[47]⟩ : ByteArray).size = 1 from rfl]
      omega
  · cases hs

end Go.Proofs.YtjfncepmpabcnaaGreatDoor
