/- The references of chapters 4 and 7, of towers. -/
import Derived.Test.YtpjjdngoblfleaaGa
namespace Go.Proofs.Ytpjjdngoblfleaa
open Go.RowKit
set_option linter.unusedVariables false
set_option maxRecDepth 100000

mutual
/-- Towers: names, and each two of them. -/
def towT : Tw → Prop
  | .mk k _ _ _ l => (k = 1 ∧ l.length = 0) ∨ (k = 13 ∧ l.length = 2 ∧ towL l)
def towL : List Tw → Prop
  | [] => True
  | t :: l => towT t ∧ towL l
end
theorem towT_eq (t : Tw) : towT t ↔ (t.kind = 1 ∧ t.kids.length = 0) ∨ (t.kind = 13 ∧ t.kids.length = 2 ∧ towL t.kids) := by cases t; rfl
theorem towL_at : ∀ {l : List Tw} {i : Nat} (d : Tw), towL l → i < l.length → towT (l.getD i d)
  | t :: l, 0, d, h, _ => h.1
  | t :: l, i + 1, d, h, hi => by simpa using towL_at (l := l) d h.2 (by simpa using hi)
theorem tow_kid {t : Tw} (h : towT t) {i : Nat} (hi : i < t.kids.length) : towT (kidT t i) := by
  rcases (towT_eq t).1 h with h | h
  · omega
  · exact towL_at _ h.2.2 hi
def sSortRN (n : Nat) : Spec
  | [.f (.dt .dat D), .f (.dt .srt S), x] => match tmOf x with
    | some t => some (some (t.size < n ∧ t.fitT ∧ towT t), .nm (Except Int ByteArray) (sortT D S t) srtP)
    | none => none
  | _ => none
theorem cSortRN {E : Env} (hU : Up E) : ∀ n, Contract Try.prog E 24 (sSortRN n)
  | 0 => by
    intro xs p r hs hp
    unfold sSortRN at hs
    split at hs
    · split at hs
      · cases hs
        exact absurd (hp _ rfl).1 (Nat.not_lt_zero _)
      · cases hs
    · cases hs
  | n + 1 => by
    refine contract_D [(72, sKidsR), (74, sNameR), (24, sSortRN n), (75, sOfS)] [] Try.ntmps24 Try.func24 (by kernel_rfl) (by kernel_rfl) hU ⟨cKidsR hU, cNameR hU, cSortRN hU n, cOfS hU, trivial⟩ trivial ?_
    intro xs p r hs hp
    unfold sSortRN at hs
    split at hs
    · rename_i D S x
      split at hs
      · rename_i t ht
        cases hs
        obtain ⟨hn, hf, hw⟩ := hp _ rfl
        refine ⟨[.f (.dt .dat D), .f (.dt .srt S), tmP t], [(1000006, .s ⟨Unit, fun _ => ⟨[(0, .f (.dt .dat D)), (1, .f (.dt .srt S)), (5, .bp 0 0)], [.cells (wrapF (tmC t))]⟩, fun _ => True, fun _ => 0⟩),
          (12, .s ⟨Nat × List ByteArray, fun x => ⟨[(0, .f (.dt .dat D)), (1, .f (.dt .srt S)), (5, .bp 0 0), (9, .tl 1 (.dt .str x.2)), (10, iV x.1)], [.cells (wrapF (tmC t)), .tail 9 1]⟩, fun x => x.1 ≤ t.kids.length ∧ sortL D S (t.kids.take x.1) = .ok x.2, fun x => t.kids.length - x.1⟩)], .cons (.refl _) (.cons (.refl _) (.cons (tm_sub ht).sub .nil)), rfl, fun _ hsh => ?_⟩
        have hk : t.kind = 1 ∨ t.kind = 13 := ((towT_eq t).1 hw).imp (·.1) (·.1)
        have hn1 : kidsN t.kind ≠ -2 ∧ (kidsN t.kind < 0 ∨ kidsN t.kind = t.kids.length) ∧ ¬ ((t.kind = 2 ∨ t.kind = 6) ∧ rightZ t.neg t.digits = false) := by
          have e1 : kidsN 1 = 0 := rfl
          have e13 : kidsN 13 = 2 := rfl
          rcases (towT_eq t).1 hw with h | h
          · rw [h.1]; exact ⟨by omega, by omega, by omega⟩
          · rw [h.1]; exact ⟨by omega, by omega, by omega⟩
        refine cast_rfl (p := ∀ (z1 : Int), z1 = kidsN t.kind → ifB (z1 == (-2 : Int)) (true = true ∧ Sub (PV.tup [PV.f (Lf.v (Value.string (ByteArray.mk #[]))), PV.f (Lf.v (Value.int IntKind.i64 (23 : Int)))]) (PV.tup [PV.f (Lf.v (Value.string (valE (ByteArray.mk #[]) (sortT D S t)))), PV.f (Lf.v (Value.int IntKind.i64 (errE (sortT D S t))))])) (ifB (decide (z1 ≥ (0 : Int))) (ifB ((↑t.kids.length : Int) != z1) (true = true ∧ Sub (PV.tup [PV.f (Lf.v (Value.string (ByteArray.mk #[]))), PV.f (Lf.v (Value.int IntKind.i64 (24 : Int)))]) (PV.tup [PV.f (Lf.v (Value.string (valE (ByteArray.mk #[]) (sortT D S t)))), PV.f (Lf.v (Value.int IntKind.i64 (errE (sortT D S t))))])) (∃ (x2 : Unit), (((SubB (PV.f (Lf.v (Value.int IntKind.u8 t.kind))) (PV.f (Lf.v (Value.int IntKind.u8 t.kind))) ∧ SubB (PV.f (Lf.v (Value.string t.name))) (PV.f (Lf.v (Value.string t.name))) ∧ SubB (PV.f (Lf.v (Value.bool t.neg))) (PV.f (Lf.v (Value.bool t.neg))) ∧ SubB (PV.f (Lf.lr t.digits t.digits.length)) (PV.f (Lf.lr t.digits t.digits.length)) ∧ SubB (PV.f (Lf.dt Sh.tm t.kids)) (PV.f (Lf.dt Sh.tm t.kids)) ∧ True) ∧ True) ∧ SubB (PV.f (Lf.dt Sh.dat D)) (PV.f (Lf.dt Sh.dat D)) ∧ SubB (PV.f (Lf.dt Sh.srt S)) (PV.f (Lf.dt Sh.srt S)) ∧ SubB (PV.bp 0 0) (PV.bp 0 0) ∧ True) ∧ True)) (∃ (x2 : Unit), (((SubB (PV.f (Lf.v (Value.int IntKind.u8 t.kind))) (PV.f (Lf.v (Value.int IntKind.u8 t.kind))) ∧ SubB (PV.f (Lf.v (Value.string t.name))) (PV.f (Lf.v (Value.string t.name))) ∧ SubB (PV.f (Lf.v (Value.bool t.neg))) (PV.f (Lf.v (Value.bool t.neg))) ∧ SubB (PV.f (Lf.lr t.digits t.digits.length)) (PV.f (Lf.lr t.digits t.digits.length)) ∧ SubB (PV.f (Lf.dt Sh.tm t.kids)) (PV.f (Lf.dt Sh.tm t.kids)) ∧ True) ∧ True) ∧ SubB (PV.f (Lf.dt Sh.dat D)) (PV.f (Lf.dt Sh.dat D)) ∧ SubB (PV.f (Lf.dt Sh.srt S)) (PV.f (Lf.dt Sh.srt S)) ∧ SubB (PV.bp 0 0) (PV.bp 0 0) ∧ True) ∧ True) ∧ ∀ (z2 : Unit), True → ifB (t.kind == (2 : Int)) False (ifB (t.kind == (6 : Int)) False (ifB (t.kind == (1 : Int)) (∀ (z3 : Except Int ByteArray), z3 = varS D S t.name → true = true ∧ Sub (PV.tup [PV.f (Lf.v (Value.string (valE (ByteArray.mk #[]) z3))), PV.f (Lf.v (Value.int IntKind.i64 (errE z3)))]) (PV.tup [PV.f (Lf.v (Value.string (valE (ByteArray.mk #[]) (sortT D S t)))), PV.f (Lf.v (Value.int IntKind.i64 (errE (sortT D S t))))])) (∃ (x3 : Nat × List ByteArray), (((SubB (PV.f (Lf.v (Value.int IntKind.u8 t.kind))) (PV.f (Lf.v (Value.int IntKind.u8 t.kind))) ∧ SubB (PV.f (Lf.v (Value.string t.name))) (PV.f (Lf.v (Value.string t.name))) ∧ SubB (PV.f (Lf.v (Value.bool t.neg))) (PV.f (Lf.v (Value.bool t.neg))) ∧ SubB (PV.f (Lf.lr t.digits t.digits.length)) (PV.f (Lf.lr t.digits t.digits.length)) ∧ SubB (PV.f (Lf.dt Sh.tm t.kids)) (PV.f (Lf.dt Sh.tm t.kids)) ∧ True) ∧ True) ∧ SubB (PV.f (Lf.dt Sh.dat D)) (PV.f (Lf.dt Sh.dat D)) ∧ SubB (PV.f (Lf.dt Sh.srt S)) (PV.f (Lf.dt Sh.srt S)) ∧ SubB (PV.bp 0 0) (PV.bp 0 0) ∧ emptyT (PV.tl 1 (Lf.dt Sh.str x3.snd)) ∧ SubB (PV.f (Lf.v (Value.int IntKind.i64 (0 : Int)))) (PV.f (Lf.v (Value.int IntKind.i64 (↑x3.fst : Int)))) ∧ True) ∧ (x3.fst ≤ t.kids.length ∧ sortL D S (List.take x3.fst t.kids) = Except.ok x3.snd) ∧ True ∧ ∀ (z4 : Nat × List ByteArray), z4.fst ≤ t.kids.length ∧ sortL D S (List.take z4.fst t.kids) = Except.ok z4.snd → True → ifB (decide ((↑z4.fst : Int) < (↑t.kids.length : Int))) (((0 : Int) ≤ (↑z4.fst : Int) ∧ (↑z4.fst : Int) < (↑t.kids.length : Int)) ∧ ((Tw.mk (Tw.kind (t.kids.getD (↑z4.fst : Int).toNat Sh.tm.nil)) (Tw.name (t.kids.getD (↑z4.fst : Int).toNat Sh.tm.nil)) (Tw.neg (t.kids.getD (↑z4.fst : Int).toNat Sh.tm.nil)) (Tw.digits (t.kids.getD (↑z4.fst : Int).toNat Sh.tm.nil)) (Tw.kids (t.kids.getD (↑z4.fst : Int).toNat Sh.tm.nil))).size < n ∧ (Tw.mk (Tw.kind (t.kids.getD (↑z4.fst : Int).toNat Sh.tm.nil)) (Tw.name (t.kids.getD (↑z4.fst : Int).toNat Sh.tm.nil)) (Tw.neg (t.kids.getD (↑z4.fst : Int).toNat Sh.tm.nil)) (Tw.digits (t.kids.getD (↑z4.fst : Int).toNat Sh.tm.nil)) (Tw.kids (t.kids.getD (↑z4.fst : Int).toNat Sh.tm.nil))).fitT ∧ towT (Tw.mk (Tw.kind (t.kids.getD (↑z4.fst : Int).toNat Sh.tm.nil)) (Tw.name (t.kids.getD (↑z4.fst : Int).toNat Sh.tm.nil)) (Tw.neg (t.kids.getD (↑z4.fst : Int).toNat Sh.tm.nil)) (Tw.digits (t.kids.getD (↑z4.fst : Int).toNat Sh.tm.nil)) (Tw.kids (t.kids.getD (↑z4.fst : Int).toNat Sh.tm.nil)))) ∧ ∀ (z5 : Except Int ByteArray), z5 = sortT D S (Tw.mk (Tw.kind (t.kids.getD (↑z4.fst : Int).toNat Sh.tm.nil)) (Tw.name (t.kids.getD (↑z4.fst : Int).toNat Sh.tm.nil)) (Tw.neg (t.kids.getD (↑z4.fst : Int).toNat Sh.tm.nil)) (Tw.digits (t.kids.getD (↑z4.fst : Int).toNat Sh.tm.nil)) (Tw.kids (t.kids.getD (↑z4.fst : Int).toNat Sh.tm.nil))) → ifB (errE z5 != (0 : Int)) (true = true ∧ Sub (PV.tup [PV.f (Lf.v (Value.string (ByteArray.mk #[]))), PV.f (Lf.v (Value.int IntKind.i64 (errE z5)))]) (PV.tup [PV.f (Lf.v (Value.string (valE (ByteArray.mk #[]) (sortT D S t)))), PV.f (Lf.v (Value.int IntKind.i64 (errE (sortT D S t))))])) ((z4.snd.length + 1 ≤ 9223372036854775807 ∧ (z4.snd.length + 1) * 16 ≤ 140737488355328) ∧ ∃ (x6 : Nat × List ByteArray), (((SubB (PV.f (Lf.v (Value.int IntKind.u8 t.kind))) (PV.f (Lf.v (Value.int IntKind.u8 t.kind))) ∧ SubB (PV.f (Lf.v (Value.string t.name))) (PV.f (Lf.v (Value.string t.name))) ∧ SubB (PV.f (Lf.v (Value.bool t.neg))) (PV.f (Lf.v (Value.bool t.neg))) ∧ SubB (PV.f (Lf.lr t.digits t.digits.length)) (PV.f (Lf.lr t.digits t.digits.length)) ∧ SubB (PV.f (Lf.dt Sh.tm t.kids)) (PV.f (Lf.dt Sh.tm t.kids)) ∧ True) ∧ True) ∧ SubB (PV.f (Lf.dt Sh.dat D)) (PV.f (Lf.dt Sh.dat D)) ∧ SubB (PV.f (Lf.dt Sh.srt S)) (PV.f (Lf.dt Sh.srt S)) ∧ SubB (PV.bp 0 0) (PV.bp 0 0) ∧ SubB (PV.tl 1 (Lf.dt Sh.str (z4.snd ++ [valE (ByteArray.mk #[]) z5]))) (PV.tl 1 (Lf.dt Sh.str x6.snd)) ∧ SubB (PV.f (Lf.v (Value.int IntKind.i64 (IntKind.i64.wrap ((↑z4.fst : Int) + (1 : Int)))))) (PV.f (Lf.v (Value.int IntKind.i64 (↑x6.fst : Int)))) ∧ True) ∧ (x6.fst ≤ t.kids.length ∧ sortL D S (List.take x6.fst t.kids) = Except.ok x6.snd) ∧ True ∧ (t.kids.length - x6.fst).succ.le (t.kids.length - z4.fst))) (((Tw.mk t.kind t.name t.neg t.digits t.kids).kind ≠ (7 : Int) ∧ (Tw.mk t.kind t.name t.neg t.digits t.kids).kind ≠ (8 : Int) ∧ ((Tw.mk t.kind t.name t.neg t.digits t.kids).kind = (3 : Int) ∨ (Tw.mk t.kind t.name t.neg t.digits t.kids).kind = (4 : Int) → z4.snd = [])) ∧ ∀ (z5 : Except Int ByteArray), z5 = partS D (Tw.mk t.kind t.name t.neg t.digits t.kids).kind (Tw.mk t.kind t.name t.neg t.digits t.kids).name z4.snd → true = true ∧ Sub (PV.tup [PV.f (Lf.v (Value.string (valE (ByteArray.mk #[]) z5))), PV.f (Lf.v (Value.int IntKind.i64 (errE z5)))]) (PV.tup [PV.f (Lf.v (Value.string (valE (ByteArray.mk #[]) (sortT D S t)))), PV.f (Lf.v (Value.int IntKind.i64 (errE (sortT D S t))))]))))))) ?kr ?_
        case kr => kernel_rfl
        refine fun z1 => fun hz1 => ifB_iff.2 ⟨fun hb0 => ⟨rfl, ?m0⟩, fun hb0 => ⟨ifB_iff.2 ⟨fun hb1 => ifB_iff.2 ⟨fun hb2 => ⟨rfl, ?m1⟩, fun hb2 => ⟨?x0, ⟨⟨⟨⟨.refl _, ⟨.refl _, ⟨.refl _, ⟨.refl _, ⟨.refl _, trivial⟩⟩⟩⟩⟩, trivial⟩, ⟨.refl _, ⟨.refl _, ⟨.refl _, trivial⟩⟩⟩⟩, trivial⟩⟩⟩, fun hb1 => ⟨?x1, ⟨⟨⟨⟨.refl _, ⟨.refl _, ⟨.refl _, ⟨.refl _, ⟨.refl _, trivial⟩⟩⟩⟩⟩, trivial⟩, ⟨.refl _, ⟨.refl _, ⟨.refl _, trivial⟩⟩⟩⟩, trivial⟩⟩⟩, fun z2 => fun _ => ifB_iff.2 ⟨fun hb3 => ?m2, fun hb3 => ifB_iff.2 ⟨fun hb4 => ?m3, fun hb4 => ifB_iff.2 ⟨fun hb5 => fun z3 => fun hz3 => ⟨rfl, ?m4⟩, fun hb5 => ⟨?x2, ⟨?s0, ⟨?s1, ⟨trivial, fun z4 => fun hq6 => fun _ => ifB_iff.2 ⟨fun hb7 => ⟨?s2, ⟨?s3, fun z5 => fun hz5 => ifB_iff.2 ⟨fun hb8 => ⟨rfl, ?m5⟩, fun hb8 => ⟨?s4, ⟨?x3, ⟨⟨⟨⟨.refl _, ⟨.refl _, ⟨.refl _, ⟨.refl _, ⟨.refl _, trivial⟩⟩⟩⟩⟩, trivial⟩, ⟨.refl _, ⟨.refl _, ⟨.refl _, ⟨?m6, ⟨?m7, trivial⟩⟩⟩⟩⟩⟩, ⟨?s5, ⟨trivial, ?m8⟩⟩⟩⟩⟩⟩⟩⟩, fun hb7 => ⟨?s6, fun z5 => fun hz5 => ⟨rfl, ?m9⟩⟩⟩⟩⟩⟩⟩⟩⟩⟩⟩⟩
        case x0 => exact ()
        case x1 => exact ()
        case x2 => exact (0, [])
        case x3 => exact (z4.1 + 1, z4.2 ++ [valE ⟨#[]⟩ z5])
        all_goals try simp only [beq_iff_eq, beq_eq_false_iff_ne, bne_iff_ne, bne_eq_false_iff_eq, ne_eq, decide_eq_true_eq, decide_eq_false_iff_not, Tw.eta, Int.toNat_natCast] at *
        case m0 => exact absurd (hz1.symm.trans hb0) hn1.1
        case m1 => omega
        case m2 => omega
        case m3 => omega
        case m4 => exact srt_fin (z := z3) (by rw [sort_kid hn1, if_pos hb5, hz3])
        case s0 => exact ⟨⟨⟨.refl _, .refl _, .refl _, .refl _, .refl _, trivial⟩, trivial⟩, .refl _, .refl _, .refl _, rfl, .refl _, trivial⟩
        case s1 => exact ⟨Nat.zero_le _, rfl⟩
        case s2 => omega
        case s3 =>
          have hz : z4.1 < t.kids.length := by omega
          have := kidT_size hz
          have h3 : (kidT t z4.1).size < n := by omega
          exact ⟨h3, kidT_fit hf hz, tow_kid hw hz⟩
        case m5 =>
          have hz : z4.1 < t.kids.length := by omega
          obtain e | s := z5
          · exact srt_fin (z := .error e) (sort_stop hn1 hb5 hz hq6.2 hz5.symm).symm
          · exact absurd rfl hb8
        case s4 =>
          have h1 := sortL_len D S hq6.2
          have h2 := ((Tw.fitT_eq t).1 hf).2.2.1
          rw [List.length_take] at h1
          omega
        case m6 => exact .refl _
        case m7 =>
          have h2 := ((Tw.fitT_eq t).1 hf).2.2.1
          exact subB_i (by rw [wJ _ (by omega) (by omega)]; rfl)
        case s5 =>
          have hz : z4.1 < t.kids.length := by omega
          obtain ⟨s, rfl⟩ := sort_is hz5 hb8
          refine ⟨hz, ?_⟩
          have h5 := hz5.symm
          rw [List.getD_eq_getElem?_getD, List.getElem?_eq_getElem hz, Option.getD_some] at h5
          show sortL D S (t.kids.take (z4.1 + 1)) = .ok (z4.2 ++ [s])
          rw [List.take_add_one, List.getElem?_eq_getElem hz, Option.toList_some, sortL_snoc, hq6.2, h5]
        case m8 => have : t.kids.length - (z4.1 + 1) < t.kids.length - z4.1 := (by omega); exact this
        case s6 => exact ⟨by omega, by omega, fun h => by omega⟩
        case m9 => exact srt_fin (z := z5) (by rw [sort_part hn1 hb5 hq6 hb7, hz5])
      · cases hs
    · cases hs
def sCap : Spec
  | [.f (.v (.int .i64 n))] => some (none, .nm Int (min n 20001) iV)
  | _ => none
theorem cCap {E : Env} (hU : Up E) : Contract Try.prog E 77 sCap := by
  refine contract_D [] [] Try.ntmps77 Try.func77 (by kernel_rfl) (by kernel_rfl) hU trivial trivial ?_
  intro xs p r hs hp
  unfold sCap at hs
  split at hs
  · rename_i n
    cases hs
    refine ⟨[.f (.v (.int .i64 n))], [], .cons (.refl _) .nil, rfl, fun _ hsh => ?_⟩
    refine cast_rfl (p := true = true ∧ Sub (PV.f (Lf.v (Value.int IntKind.i64 (min n (20001 : Int))))) (PV.f (Lf.v (Value.int IntKind.i64 (min n (20001 : Int)))))) ?kr ?_
    case kr => kernel_rfl
    refine ⟨rfl, ?m0⟩
    case m0 => exact .refl _
  · cases hs
theorem tow_siz (D : List Dat) (S : List Srt) {t : Tw} (h : t.kind = 13) (hl : t.kids.length = 2) : sizT D S t = (min (3 + (sizT D S (kidT t 0)).1 + (sizT D S (kidT t 0)).2 + (sizT D S (kidT t 1)).1 + (sizT D S (kidT t 1)).2) 20001, min (3 + (sizT D S (kidT t 0)).1 + (sizT D S (kidT t 0)).2 + (sizT D S (kidT t 1)).1 + (sizT D S (kidT t 1)).2) 20001) := by
  have h1 := sizT_eq D S t
  rw [if_neg (by omega), if_neg (by omega), if_neg (by omega), if_neg (by omega), if_pos h] at h1
  have r0 := sizT_rng (D := D) (S := S) (kidT t 0)
  have r1 := sizT_rng (D := D) (S := S) (kidT t 1)
  have e : sizL D S t.kids = [sizT D S (kidT t 0), sizT D S (kidT t 1)] := by
    unfold kidT
    match hk : t.kids, hl with
    | [a, b], _ => rfl
  rw [e] at h1
  generalize sizT D S (kidT t 0) = a at *
  generalize sizT D S (kidT t 1) = c at *
  rw [h1]
  have : sumC [(sizF [a, c]).1, (sizF [a, c]).2, 1] = min (3 + a.1 + a.2 + c.1 + c.2) 20001 := by
    simp only [sizF, sumC, List.foldl_cons, List.foldl_nil]
    omega
  rw [this]
theorem siz_fin {D : List Dat} {S : List Srt} {t : Tw} {p : Int × Int} {a b : Int} (h : sizT D S t = p) (ha : a = p.1) (hb : b = p.2) : Sub (.tup [iV a, iV b]) (.tup [iV (sizT D S t).1, iV (sizT D S t).2]) := by
  subst h ha hb; exact .refl _
def sSizR (n : Nat) : Spec
  | [.f x, .f y, z] => match dtOf .dat x, dtOf .srt y, tmOf z with
    | some D, some S, some t => some (some (t.size < n ∧ t.size ≤ 1000000000000 ∧ t.fitT ∧ towT t), .nm (Int × Int) (sizT D S t) fun p => .tup [iV p.1, iV p.2])
    | _, _, _ => none
  | _ => none
theorem cSizR {E : Env} (hU : Up E) : ∀ n, Contract Try.prog E 25 (sSizR n)
  | 0 => by
    intro xs p r hs hp
    unfold sSizR at hs
    split at hs
    · split at hs
      · cases hs
        exact absurd (hp _ rfl).1 (Nat.not_lt_zero _)
      · cases hs
    · cases hs
  | n + 1 => by
    refine contract_D [(76, sSize), (25, sSizR n), (77, sCap)] [] Try.ntmps25 Try.func25 (by kernel_rfl) (by kernel_rfl) hU ⟨cSizeR hU, cSizR hU n, cCap hU, trivial⟩ trivial ?_
    intro xs p r hs hp
    unfold sSizR at hs
    split at hs
    · rename_i x y z
      split at hs
      · rename_i D S t h1 h2 h3
        cases hs
        obtain ⟨hn, hb, hf, hw⟩ := hp _ rfl
        refine ⟨[.f (.dt .dat D), .f (.dt .srt S), tmP t], [], .cons (dt_sub h1).sub (.cons (dt_sub h2).sub (.cons (tm_sub h3).sub .nil)), rfl, fun _ hsh => ?_⟩
        have hk : t.kind = 1 ∨ t.kind = 13 := ((towT_eq t).1 hw).imp (·.1) (·.1)
        have hl2 : t.kind = 13 → t.kids.length = 2 := fun h => by
          rcases (towT_eq t).1 hw with h1 | h1
          · omega
          · exact h1.2.1
        have hkid : ∀ i, i < t.kids.length → (kidT t i).size < n ∧ (kidT t i).size ≤ 1000000000000 ∧ (kidT t i).fitT ∧ towT (kidT t i) := fun i hi => by
          have := kidT_size hi
          exact ⟨by omega, by omega, kidT_fit hf hi, tow_kid hw hi⟩
        have e1 : szL [t] = t.size := by simp [szL]
        refine cast_rfl (p := szL [Tw.mk t.kind t.name t.neg t.digits t.kids] ≤ 4611686018427387904 ∧ ifB (t.kind == (3 : Int)) (true = true ∧ Sub (PV.tup [PV.f (Lf.v (Value.int IntKind.i64 (1 : Int))), PV.f (Lf.v (Value.int IntKind.i64 (1 : Int)))]) (PV.tup [PV.f (Lf.v (Value.int IntKind.i64 (sizT D S t).fst)), PV.f (Lf.v (Value.int IntKind.i64 (sizT D S t).snd))])) (ifB (t.kind == (4 : Int)) (true = true ∧ Sub (PV.tup [PV.f (Lf.v (Value.int IntKind.i64 (1 : Int))), PV.f (Lf.v (Value.int IntKind.i64 (1 : Int)))]) (PV.tup [PV.f (Lf.v (Value.int IntKind.i64 (sizT D S t).fst)), PV.f (Lf.v (Value.int IntKind.i64 (sizT D S t).snd))])) (ifB (t.kind == (9 : Int)) (∀ (z1 : Int), z1 = min (IntKind.i64.wrap ((↑(szL [Tw.mk t.kind t.name t.neg t.digits t.kids]) : Int) + (2 : Int))) (20001 : Int) → true = true ∧ Sub (PV.tup [PV.f (Lf.v (Value.int IntKind.i64 (↑(szL [Tw.mk t.kind t.name t.neg t.digits t.kids]) : Int))), PV.f (Lf.v (Value.int IntKind.i64 z1))]) (PV.tup [PV.f (Lf.v (Value.int IntKind.i64 (sizT D S t).fst)), PV.f (Lf.v (Value.int IntKind.i64 (sizT D S t).snd))])) (ifB (t.kind == (8 : Int)) False (ifB (t.kind == (10 : Int)) (((0 : Int) ≤ (0 : Int) ∧ (0 : Int) < (↑t.kids.length : Int)) ∧ ((Tw.mk (Tw.kind (t.kids.getD (Int.toNat (0 : Int)) Sh.tm.nil)) (Tw.name (t.kids.getD (Int.toNat (0 : Int)) Sh.tm.nil)) (Tw.neg (t.kids.getD (Int.toNat (0 : Int)) Sh.tm.nil)) (Tw.digits (t.kids.getD (Int.toNat (0 : Int)) Sh.tm.nil)) (Tw.kids (t.kids.getD (Int.toNat (0 : Int)) Sh.tm.nil))).size < n ∧ (Tw.mk (Tw.kind (t.kids.getD (Int.toNat (0 : Int)) Sh.tm.nil)) (Tw.name (t.kids.getD (Int.toNat (0 : Int)) Sh.tm.nil)) (Tw.neg (t.kids.getD (Int.toNat (0 : Int)) Sh.tm.nil)) (Tw.digits (t.kids.getD (Int.toNat (0 : Int)) Sh.tm.nil)) (Tw.kids (t.kids.getD (Int.toNat (0 : Int)) Sh.tm.nil))).size ≤ 1000000000000 ∧ (Tw.mk (Tw.kind (t.kids.getD (Int.toNat (0 : Int)) Sh.tm.nil)) (Tw.name (t.kids.getD (Int.toNat (0 : Int)) Sh.tm.nil)) (Tw.neg (t.kids.getD (Int.toNat (0 : Int)) Sh.tm.nil)) (Tw.digits (t.kids.getD (Int.toNat (0 : Int)) Sh.tm.nil)) (Tw.kids (t.kids.getD (Int.toNat (0 : Int)) Sh.tm.nil))).fitT ∧ towT (Tw.mk (Tw.kind (t.kids.getD (Int.toNat (0 : Int)) Sh.tm.nil)) (Tw.name (t.kids.getD (Int.toNat (0 : Int)) Sh.tm.nil)) (Tw.neg (t.kids.getD (Int.toNat (0 : Int)) Sh.tm.nil)) (Tw.digits (t.kids.getD (Int.toNat (0 : Int)) Sh.tm.nil)) (Tw.kids (t.kids.getD (Int.toNat (0 : Int)) Sh.tm.nil)))) ∧ ∀ (z1 : Int × Int), z1 = sizT D S (Tw.mk (Tw.kind (t.kids.getD (Int.toNat (0 : Int)) Sh.tm.nil)) (Tw.name (t.kids.getD (Int.toNat (0 : Int)) Sh.tm.nil)) (Tw.neg (t.kids.getD (Int.toNat (0 : Int)) Sh.tm.nil)) (Tw.digits (t.kids.getD (Int.toNat (0 : Int)) Sh.tm.nil)) (Tw.kids (t.kids.getD (Int.toNat (0 : Int)) Sh.tm.nil))) → true = true ∧ Sub (PV.tup [PV.f (Lf.v (Value.int IntKind.i64 z1.snd)), PV.f (Lf.v (Value.int IntKind.i64 z1.fst))]) (PV.tup [PV.f (Lf.v (Value.int IntKind.i64 (sizT D S t).fst)), PV.f (Lf.v (Value.int IntKind.i64 (sizT D S t).snd))])) (ifB (t.kind == (11 : Int)) False (ifB (t.kind == (12 : Int)) False (ifB (t.kind == (13 : Int)) (((0 : Int) ≤ (0 : Int) ∧ (0 : Int) < (↑t.kids.length : Int)) ∧ ((Tw.mk (Tw.kind (t.kids.getD (Int.toNat (0 : Int)) Sh.tm.nil)) (Tw.name (t.kids.getD (Int.toNat (0 : Int)) Sh.tm.nil)) (Tw.neg (t.kids.getD (Int.toNat (0 : Int)) Sh.tm.nil)) (Tw.digits (t.kids.getD (Int.toNat (0 : Int)) Sh.tm.nil)) (Tw.kids (t.kids.getD (Int.toNat (0 : Int)) Sh.tm.nil))).size < n ∧ (Tw.mk (Tw.kind (t.kids.getD (Int.toNat (0 : Int)) Sh.tm.nil)) (Tw.name (t.kids.getD (Int.toNat (0 : Int)) Sh.tm.nil)) (Tw.neg (t.kids.getD (Int.toNat (0 : Int)) Sh.tm.nil)) (Tw.digits (t.kids.getD (Int.toNat (0 : Int)) Sh.tm.nil)) (Tw.kids (t.kids.getD (Int.toNat (0 : Int)) Sh.tm.nil))).size ≤ 1000000000000 ∧ (Tw.mk (Tw.kind (t.kids.getD (Int.toNat (0 : Int)) Sh.tm.nil)) (Tw.name (t.kids.getD (Int.toNat (0 : Int)) Sh.tm.nil)) (Tw.neg (t.kids.getD (Int.toNat (0 : Int)) Sh.tm.nil)) (Tw.digits (t.kids.getD (Int.toNat (0 : Int)) Sh.tm.nil)) (Tw.kids (t.kids.getD (Int.toNat (0 : Int)) Sh.tm.nil))).fitT ∧ towT (Tw.mk (Tw.kind (t.kids.getD (Int.toNat (0 : Int)) Sh.tm.nil)) (Tw.name (t.kids.getD (Int.toNat (0 : Int)) Sh.tm.nil)) (Tw.neg (t.kids.getD (Int.toNat (0 : Int)) Sh.tm.nil)) (Tw.digits (t.kids.getD (Int.toNat (0 : Int)) Sh.tm.nil)) (Tw.kids (t.kids.getD (Int.toNat (0 : Int)) Sh.tm.nil)))) ∧ ∀ (z1 : Int × Int), z1 = sizT D S (Tw.mk (Tw.kind (t.kids.getD (Int.toNat (0 : Int)) Sh.tm.nil)) (Tw.name (t.kids.getD (Int.toNat (0 : Int)) Sh.tm.nil)) (Tw.neg (t.kids.getD (Int.toNat (0 : Int)) Sh.tm.nil)) (Tw.digits (t.kids.getD (Int.toNat (0 : Int)) Sh.tm.nil)) (Tw.kids (t.kids.getD (Int.toNat (0 : Int)) Sh.tm.nil))) → ((0 : Int) ≤ (1 : Int) ∧ (1 : Int) < (↑t.kids.length : Int)) ∧ ((Tw.mk (Tw.kind (t.kids.getD (Int.toNat (1 : Int)) Sh.tm.nil)) (Tw.name (t.kids.getD (Int.toNat (1 : Int)) Sh.tm.nil)) (Tw.neg (t.kids.getD (Int.toNat (1 : Int)) Sh.tm.nil)) (Tw.digits (t.kids.getD (Int.toNat (1 : Int)) Sh.tm.nil)) (Tw.kids (t.kids.getD (Int.toNat (1 : Int)) Sh.tm.nil))).size < n ∧ (Tw.mk (Tw.kind (t.kids.getD (Int.toNat (1 : Int)) Sh.tm.nil)) (Tw.name (t.kids.getD (Int.toNat (1 : Int)) Sh.tm.nil)) (Tw.neg (t.kids.getD (Int.toNat (1 : Int)) Sh.tm.nil)) (Tw.digits (t.kids.getD (Int.toNat (1 : Int)) Sh.tm.nil)) (Tw.kids (t.kids.getD (Int.toNat (1 : Int)) Sh.tm.nil))).size ≤ 1000000000000 ∧ (Tw.mk (Tw.kind (t.kids.getD (Int.toNat (1 : Int)) Sh.tm.nil)) (Tw.name (t.kids.getD (Int.toNat (1 : Int)) Sh.tm.nil)) (Tw.neg (t.kids.getD (Int.toNat (1 : Int)) Sh.tm.nil)) (Tw.digits (t.kids.getD (Int.toNat (1 : Int)) Sh.tm.nil)) (Tw.kids (t.kids.getD (Int.toNat (1 : Int)) Sh.tm.nil))).fitT ∧ towT (Tw.mk (Tw.kind (t.kids.getD (Int.toNat (1 : Int)) Sh.tm.nil)) (Tw.name (t.kids.getD (Int.toNat (1 : Int)) Sh.tm.nil)) (Tw.neg (t.kids.getD (Int.toNat (1 : Int)) Sh.tm.nil)) (Tw.digits (t.kids.getD (Int.toNat (1 : Int)) Sh.tm.nil)) (Tw.kids (t.kids.getD (Int.toNat (1 : Int)) Sh.tm.nil)))) ∧ ∀ (z2 : Int × Int), z2 = sizT D S (Tw.mk (Tw.kind (t.kids.getD (Int.toNat (1 : Int)) Sh.tm.nil)) (Tw.name (t.kids.getD (Int.toNat (1 : Int)) Sh.tm.nil)) (Tw.neg (t.kids.getD (Int.toNat (1 : Int)) Sh.tm.nil)) (Tw.digits (t.kids.getD (Int.toNat (1 : Int)) Sh.tm.nil)) (Tw.kids (t.kids.getD (Int.toNat (1 : Int)) Sh.tm.nil))) → ∀ (z3 : Int), z3 = min (IntKind.i64.wrap (IntKind.i64.wrap (IntKind.i64.wrap (IntKind.i64.wrap ((3 : Int) + z1.fst) + z1.snd) + z2.fst) + z2.snd)) (20001 : Int) → ∀ (z4 : Int), z4 = min (IntKind.i64.wrap (IntKind.i64.wrap (IntKind.i64.wrap (IntKind.i64.wrap ((3 : Int) + z1.fst) + z1.snd) + z2.fst) + z2.snd)) (20001 : Int) → true = true ∧ Sub (PV.tup [PV.f (Lf.v (Value.int IntKind.i64 z3)), PV.f (Lf.v (Value.int IntKind.i64 z4))]) (PV.tup [PV.f (Lf.v (Value.int IntKind.i64 (sizT D S t).fst)), PV.f (Lf.v (Value.int IntKind.i64 (sizT D S t).snd))])) (∀ (z1 : Int), z1 = min (IntKind.i64.wrap ((↑(szL [Tw.mk t.kind t.name t.neg t.digits t.kids]) : Int) + (1 : Int))) (20001 : Int) → true = true ∧ Sub (PV.tup [PV.f (Lf.v (Value.int IntKind.i64 (↑(szL [Tw.mk t.kind t.name t.neg t.digits t.kids]) : Int))), PV.f (Lf.v (Value.int IntKind.i64 z1))]) (PV.tup [PV.f (Lf.v (Value.int IntKind.i64 (sizT D S t).fst)), PV.f (Lf.v (Value.int IntKind.i64 (sizT D S t).snd))])))))))))) ?kr ?_
        case kr => kernel_rfl
        refine ⟨?s0, ifB_iff.2 ⟨fun hb0 => ⟨rfl, ?m0⟩, fun hb0 => ifB_iff.2 ⟨fun hb1 => ⟨rfl, ?m1⟩, fun hb1 => ifB_iff.2 ⟨fun hb2 => fun z1 => fun hz1 => ⟨rfl, ?m2⟩, fun hb2 => ifB_iff.2 ⟨fun hb3 => ?m3, fun hb3 => ifB_iff.2 ⟨fun hb4 => ⟨?s1, ⟨?s2, fun z1 => fun hz1 => ⟨rfl, ?m4⟩⟩⟩, fun hb4 => ifB_iff.2 ⟨fun hb5 => ?m5, fun hb5 => ifB_iff.2 ⟨fun hb6 => ?m6, fun hb6 => ifB_iff.2 ⟨fun hb7 => ⟨?s3, ⟨?s4, fun z1 => fun hz1 => ⟨?s5, ⟨?s6, fun z2 => fun hz2 => fun z3 => fun hz3 => fun z4 => fun hz4 => ⟨rfl, ?m7⟩⟩⟩⟩⟩, fun hb7 => fun z1 => fun hz1 => ⟨rfl, ?m8⟩⟩⟩⟩⟩⟩⟩⟩⟩⟩
        all_goals try simp only [beq_iff_eq, beq_eq_false_iff_ne, ne_eq, Tw.eta, Int.toNat_zero, one_nat, e1] at *
        case s0 => omega
        case m0 => omega
        case m1 => omega
        case m2 => omega
        case m3 => omega
        case s1 => omega
        case s2 => omega
        case m4 => omega
        case m5 => omega
        case m6 => omega
        case s3 => have := hl2 hb7; omega
        case s4 => exact hkid 0 (by have := hl2 hb7; omega)
        case s5 => have := hl2 hb7; omega
        case s6 => exact hkid 1 (by have := hl2 hb7; omega)
        case m7 =>
          have h2 := hl2 hb7
          have r0 := sizT_rng (D := D) (S := S) (kidT t 0)
          have r1 := sizT_rng (D := D) (S := S) (kidT t 1)
          have k0 := (hkid 0 (by omega)).2.1
          have k1 := (hkid 1 (by omega)).2.1
          change z1 = sizT D S (kidT t 0) at hz1
          change z2 = sizT D S (kidT t 1) at hz2
          have hq := tow_siz D S hb7 h2
          rw [← hz1, ← hz2] at hq
          rw [← hz1] at r0
          rw [← hz2] at r1
          have hw4 : IntKind.i64.wrap (IntKind.i64.wrap (IntKind.i64.wrap (IntKind.i64.wrap (3 + z1.1) + z1.2) + z2.1) + z2.2) = 3 + z1.1 + z1.2 + z2.1 + z2.2 := by
            rw [wJ (3 + z1.1) (by omega) (by omega), wJ (3 + z1.1 + z1.2) (by omega) (by omega), wJ (3 + z1.1 + z1.2 + z2.1) (by omega) (by omega), wJ _ (by omega) (by omega)]
          rw [hw4] at hz3 hz4
          exact siz_fin hq hz3 hz4
        case m8 =>
          have h1 : t.kind = 1 := by omega
          have h2 : t.kids.length = 0 := by
            rcases (towT_eq t).1 hw with h3 | h3
            · exact h3.2
            · omega
          have h3 : t.size = 1 := by rw [t.size_eq, List.length_eq_zero_iff.1 h2]; rfl
          have hq := sizT_eq D S t
          rw [if_neg (by omega), if_neg (by omega), if_neg (by omega), if_neg (by omega), if_neg (by omega), if_neg (by omega)] at hq
          rw [h3] at hz1 hq ⊢
          exact siz_fin hq rfl (by rw [hz1, wJ _ (by decide) (by decide)]; rfl)
      · cases hs
    · cases hs
def sSortR : Spec
  | [.f (.dt .dat D), .f (.dt .srt S), x] => match tmOf x with
    | some t => some (some (t.fitT ∧ towT t), .nm (Except Int ByteArray) (sortT D S t) srtP)
    | none => none
  | _ => none
theorem cSortR {E : Env} (hU : Up E) : Contract Try.prog E 24 sSortR := by
  intro xs p r hs hp
  unfold sSortR at hs
  split at hs
  · rename_i D S x
    split at hs
    · rename_i t ht
      cases hs
      exact cSortRN hU (t.size + 1) [.f (.dt .dat D), .f (.dt .srt S), x] _ _ (by simp only [sSortRN, ht]; rfl) (fun q hq => by cases hq; exact ⟨Nat.lt_succ_self _, hp _ rfl⟩)
    · cases hs
  · cases hs
def sSizRR : Spec
  | [.f x, .f y, z] => match dtOf .dat x, dtOf .srt y, tmOf z with
    | some D, some S, some t => some (some (t.size ≤ 1000000000000 ∧ t.fitT ∧ towT t), .nm (Int × Int) (sizT D S t) fun p => .tup [iV p.1, iV p.2])
    | _, _, _ => none
  | _ => none
theorem cSizRR {E : Env} (hU : Up E) : Contract Try.prog E 25 sSizRR := by
  intro xs p r hs hp
  unfold sSizRR at hs
  split at hs
  · rename_i x y z
    split at hs
    · rename_i D S t h1 h2 h3
      cases hs
      exact cSizR hU (t.size + 1) [.f x, .f y, z] _ _ (by simp only [sSizR, h1, h2, h3]; rfl) (fun q hq => by cases hq; exact ⟨Nat.lt_succ_self _, hp _ rfl⟩)
    · cases hs
  · cases hs
theorem cConR {E : Env} (hU : Up E) : Contract Try.prog E 79 sConT := by
  refine contract_D [] [] Try.ntmps79 Try.func79 (by kernel_rfl) (by kernel_rfl) hU trivial trivial ?_
  intro xs p r hs hp
  unfold sConT at hs
  split at hs
  · rename_i k x
    split at hs
    · rename_i l h1
      cases hs
      refine ⟨[.f (.v (.int .u8 k)), .f (.dt .tm l)], [], .cons (.refl _) (.cons (dt_sub h1).sub .nil), rfl, fun _ hsh => ?_⟩
      refine cast_rfl (p := true = true ∧ Sub (PV.agg [PV.f (Lf.v (Value.int IntKind.u8 k)), PV.f (Lf.v (Value.string (ByteArray.mk #[]))), PV.f (Lf.v (Value.bool false)), PV.f (Lf.v (Value.slice none 0 0)), PV.f (Lf.dt Sh.tm l)]) (PV.agg [PV.f (Lf.v (Value.int IntKind.u8 (conT k l).kind)), PV.f (Lf.v (Value.string (conT k l).name)), PV.f (Lf.v (Value.bool (conT k l).neg)), PV.f (Lf.lr (conT k l).digits 0), PV.f (Lf.dt Sh.tm (conT k l).kids)])) ?kr ?_
      case kr => kernel_rfl
      refine ⟨rfl, ?m0⟩
      case m0 => exact (tm_sub (t := conT k l) rfl).sub
    · cases hs
  · cases hs
def sPushR (n : Nat) : Spec
  | [.f x, .f y, z, .f (.v (.bool is))] => match dtOf .dat x, dtOf .srt y, tmOf z with
    | some D, some S, some t => some (some (t.size < n ∧ t.fitT ∧ towT t), .nm Tw (pushT D S t is) tmP)
    | _, _, _ => none
  | _ => none
theorem cPushR {E : Env} (hU : Up E) : ∀ n, Contract Try.prog E 26 (sPushR n)
  | 0 => by
    intro xs p r hs hp
    unfold sPushR at hs
    split at hs
    · split at hs
      · cases hs
        exact absurd (hp _ rfl).1 (Nat.not_lt_zero _)
      · cases hs
    · cases hs
  | n + 1 => by
    refine contract_D [(26, sPushR n), (79, sConT)] [] Try.ntmps26 Try.func26 (by kernel_rfl) (by kernel_rfl) hU ⟨cPushR hU n, cConR hU, trivial⟩ trivial ?_
    intro xs p r hs hp
    unfold sPushR at hs
    split at hs
    · rename_i x y z is
      split at hs
      · rename_i D S t h1 h2 h3
        cases hs
        obtain ⟨hn, hf, hw⟩ := hp _ rfl
        have hk : t.kind = 1 ∨ t.kind = 13 := ((towT_eq t).1 hw).imp (·.1) (·.1)
        have hl2 : t.kind = 13 → t.kids.length = 2 := fun h => by
          rcases (towT_eq t).1 hw with h1 | h1
          · omega
          · exact h1.2.1
        have hkid : ∀ i, i < t.kids.length → (kidT t i).size < n ∧ (kidT t i).fitT ∧ towT (kidT t i) := fun i hi => by
          have := kidT_size hi
          exact ⟨by omega, kidT_fit hf hi, tow_kid hw hi⟩
        refine ⟨[.f (.dt .dat D), .f (.dt .srt S), tmP t, bV is], [], .cons (dt_sub h1).sub (.cons (dt_sub h2).sub (.cons (tm_sub h3).sub (.cons (.refl _) .nil))), rfl, fun _ hsh => ?_⟩
        refine cast_rfl (p := ifB (t.kind == (3 : Int)) (ifB ((t.kind == (3 : Int)) == is) (∀ (z1 : Tw), z1 = conT (3 : Int) [] → true = true ∧ Sub (PV.agg [PV.f (Lf.v (Value.int IntKind.u8 z1.kind)), PV.f (Lf.v (Value.string z1.name)), PV.f (Lf.v (Value.bool z1.neg)), PV.f (Lf.lr z1.digits z1.digits.length), PV.f (Lf.dt Sh.tm z1.kids)]) (PV.agg [PV.f (Lf.v (Value.int IntKind.u8 (pushT D S t is).kind)), PV.f (Lf.v (Value.string (pushT D S t is).name)), PV.f (Lf.v (Value.bool (pushT D S t is).neg)), PV.f (Lf.lr (pushT D S t is).digits (pushT D S t is).digits.length), PV.f (Lf.dt Sh.tm (pushT D S t is).kids)])) (∀ (z1 : Tw), z1 = conT (4 : Int) [] → true = true ∧ Sub (PV.agg [PV.f (Lf.v (Value.int IntKind.u8 z1.kind)), PV.f (Lf.v (Value.string z1.name)), PV.f (Lf.v (Value.bool z1.neg)), PV.f (Lf.lr z1.digits z1.digits.length), PV.f (Lf.dt Sh.tm z1.kids)]) (PV.agg [PV.f (Lf.v (Value.int IntKind.u8 (pushT D S t is).kind)), PV.f (Lf.v (Value.string (pushT D S t is).name)), PV.f (Lf.v (Value.bool (pushT D S t is).neg)), PV.f (Lf.lr (pushT D S t is).digits (pushT D S t is).digits.length), PV.f (Lf.dt Sh.tm (pushT D S t is).kids)]))) (ifB (t.kind == (4 : Int)) (ifB ((t.kind == (3 : Int)) == is) (∀ (z1 : Tw), z1 = conT (3 : Int) [] → true = true ∧ Sub (PV.agg [PV.f (Lf.v (Value.int IntKind.u8 z1.kind)), PV.f (Lf.v (Value.string z1.name)), PV.f (Lf.v (Value.bool z1.neg)), PV.f (Lf.lr z1.digits z1.digits.length), PV.f (Lf.dt Sh.tm z1.kids)]) (PV.agg [PV.f (Lf.v (Value.int IntKind.u8 (pushT D S t is).kind)), PV.f (Lf.v (Value.string (pushT D S t is).name)), PV.f (Lf.v (Value.bool (pushT D S t is).neg)), PV.f (Lf.lr (pushT D S t is).digits (pushT D S t is).digits.length), PV.f (Lf.dt Sh.tm (pushT D S t is).kids)])) (∀ (z1 : Tw), z1 = conT (4 : Int) [] → true = true ∧ Sub (PV.agg [PV.f (Lf.v (Value.int IntKind.u8 z1.kind)), PV.f (Lf.v (Value.string z1.name)), PV.f (Lf.v (Value.bool z1.neg)), PV.f (Lf.lr z1.digits z1.digits.length), PV.f (Lf.dt Sh.tm z1.kids)]) (PV.agg [PV.f (Lf.v (Value.int IntKind.u8 (pushT D S t is).kind)), PV.f (Lf.v (Value.string (pushT D S t is).name)), PV.f (Lf.v (Value.bool (pushT D S t is).neg)), PV.f (Lf.lr (pushT D S t is).digits (pushT D S t is).digits.length), PV.f (Lf.dt Sh.tm (pushT D S t is).kids)]))) (ifB (t.kind == (10 : Int)) (((0 : Int) ≤ (0 : Int) ∧ (0 : Int) < (↑t.kids.length : Int)) ∧ ((Tw.mk (Tw.kind (t.kids.getD (Int.toNat (0 : Int)) Sh.tm.nil)) (Tw.name (t.kids.getD (Int.toNat (0 : Int)) Sh.tm.nil)) (Tw.neg (t.kids.getD (Int.toNat (0 : Int)) Sh.tm.nil)) (Tw.digits (t.kids.getD (Int.toNat (0 : Int)) Sh.tm.nil)) (Tw.kids (t.kids.getD (Int.toNat (0 : Int)) Sh.tm.nil))).size < n ∧ (Tw.mk (Tw.kind (t.kids.getD (Int.toNat (0 : Int)) Sh.tm.nil)) (Tw.name (t.kids.getD (Int.toNat (0 : Int)) Sh.tm.nil)) (Tw.neg (t.kids.getD (Int.toNat (0 : Int)) Sh.tm.nil)) (Tw.digits (t.kids.getD (Int.toNat (0 : Int)) Sh.tm.nil)) (Tw.kids (t.kids.getD (Int.toNat (0 : Int)) Sh.tm.nil))).fitT ∧ towT (Tw.mk (Tw.kind (t.kids.getD (Int.toNat (0 : Int)) Sh.tm.nil)) (Tw.name (t.kids.getD (Int.toNat (0 : Int)) Sh.tm.nil)) (Tw.neg (t.kids.getD (Int.toNat (0 : Int)) Sh.tm.nil)) (Tw.digits (t.kids.getD (Int.toNat (0 : Int)) Sh.tm.nil)) (Tw.kids (t.kids.getD (Int.toNat (0 : Int)) Sh.tm.nil)))) ∧ ∀ (z1 : Tw), z1 = pushT D S (Tw.mk (Tw.kind (t.kids.getD (Int.toNat (0 : Int)) Sh.tm.nil)) (Tw.name (t.kids.getD (Int.toNat (0 : Int)) Sh.tm.nil)) (Tw.neg (t.kids.getD (Int.toNat (0 : Int)) Sh.tm.nil)) (Tw.digits (t.kids.getD (Int.toNat (0 : Int)) Sh.tm.nil)) (Tw.kids (t.kids.getD (Int.toNat (0 : Int)) Sh.tm.nil))) !is → true = true ∧ Sub (PV.agg [PV.f (Lf.v (Value.int IntKind.u8 z1.kind)), PV.f (Lf.v (Value.string z1.name)), PV.f (Lf.v (Value.bool z1.neg)), PV.f (Lf.lr z1.digits z1.digits.length), PV.f (Lf.dt Sh.tm z1.kids)]) (PV.agg [PV.f (Lf.v (Value.int IntKind.u8 (pushT D S t is).kind)), PV.f (Lf.v (Value.string (pushT D S t is).name)), PV.f (Lf.v (Value.bool (pushT D S t is).neg)), PV.f (Lf.lr (pushT D S t is).digits (pushT D S t is).digits.length), PV.f (Lf.dt Sh.tm (pushT D S t is).kids)])) (ifB (t.kind == (9 : Int)) (ifB is (true = true ∧ Sub (PV.agg [PV.f (Lf.v (Value.int IntKind.u8 t.kind)), PV.f (Lf.v (Value.string t.name)), PV.f (Lf.v (Value.bool t.neg)), PV.f (Lf.lr t.digits t.digits.length), PV.f (Lf.dt Sh.tm t.kids)]) (PV.agg [PV.f (Lf.v (Value.int IntKind.u8 (pushT D S t is).kind)), PV.f (Lf.v (Value.string (pushT D S t is).name)), PV.f (Lf.v (Value.bool (pushT D S t is).neg)), PV.f (Lf.lr (pushT D S t is).digits (pushT D S t is).digits.length), PV.f (Lf.dt Sh.tm (pushT D S t is).kids)])) (((0 : Int) ≤ (1 : Int) ∧ (1 : Int) < (↑t.kids.length : Int)) ∧ False)) (ifB (t.kind == (8 : Int)) (ifB is (true = true ∧ Sub (PV.agg [PV.f (Lf.v (Value.int IntKind.u8 t.kind)), PV.f (Lf.v (Value.string t.name)), PV.f (Lf.v (Value.bool t.neg)), PV.f (Lf.lr t.digits t.digits.length), PV.f (Lf.dt Sh.tm t.kids)]) (PV.agg [PV.f (Lf.v (Value.int IntKind.u8 (pushT D S t is).kind)), PV.f (Lf.v (Value.string (pushT D S t is).name)), PV.f (Lf.v (Value.bool (pushT D S t is).neg)), PV.f (Lf.lr (pushT D S t is).digits (pushT D S t is).digits.length), PV.f (Lf.dt Sh.tm (pushT D S t is).kids)])) False) (ifB (t.kind == (11 : Int)) (∀ (z1 : Tw), z1 = conT (11 : Int) [] → ifB (!(t.kind == (11 : Int)) == is) (∀ (z2 : Tw), z2 = conT (12 : Int) [] → False) False) (ifB (t.kind == (12 : Int)) (∀ (z1 : Tw), z1 = conT (11 : Int) [] → ifB (!(t.kind == (11 : Int)) == is) (∀ (z2 : Tw), z2 = conT (12 : Int) [] → False) False) (ifB (t.kind == (13 : Int)) (((0 : Int) ≤ (0 : Int) ∧ (0 : Int) < (↑t.kids.length : Int)) ∧ ((0 : Int) ≤ (1 : Int) ∧ (1 : Int) < (↑t.kids.length : Int)) ∧ ((Tw.mk (Tw.kind (t.kids.getD (Int.toNat (0 : Int)) Sh.tm.nil)) (Tw.name (t.kids.getD (Int.toNat (0 : Int)) Sh.tm.nil)) (Tw.neg (t.kids.getD (Int.toNat (0 : Int)) Sh.tm.nil)) (Tw.digits (t.kids.getD (Int.toNat (0 : Int)) Sh.tm.nil)) (Tw.kids (t.kids.getD (Int.toNat (0 : Int)) Sh.tm.nil))).size < n ∧ (Tw.mk (Tw.kind (t.kids.getD (Int.toNat (0 : Int)) Sh.tm.nil)) (Tw.name (t.kids.getD (Int.toNat (0 : Int)) Sh.tm.nil)) (Tw.neg (t.kids.getD (Int.toNat (0 : Int)) Sh.tm.nil)) (Tw.digits (t.kids.getD (Int.toNat (0 : Int)) Sh.tm.nil)) (Tw.kids (t.kids.getD (Int.toNat (0 : Int)) Sh.tm.nil))).fitT ∧ towT (Tw.mk (Tw.kind (t.kids.getD (Int.toNat (0 : Int)) Sh.tm.nil)) (Tw.name (t.kids.getD (Int.toNat (0 : Int)) Sh.tm.nil)) (Tw.neg (t.kids.getD (Int.toNat (0 : Int)) Sh.tm.nil)) (Tw.digits (t.kids.getD (Int.toNat (0 : Int)) Sh.tm.nil)) (Tw.kids (t.kids.getD (Int.toNat (0 : Int)) Sh.tm.nil)))) ∧ ∀ (z1 : Tw), z1 = pushT D S (Tw.mk (Tw.kind (t.kids.getD (Int.toNat (0 : Int)) Sh.tm.nil)) (Tw.name (t.kids.getD (Int.toNat (0 : Int)) Sh.tm.nil)) (Tw.neg (t.kids.getD (Int.toNat (0 : Int)) Sh.tm.nil)) (Tw.digits (t.kids.getD (Int.toNat (0 : Int)) Sh.tm.nil)) (Tw.kids (t.kids.getD (Int.toNat (0 : Int)) Sh.tm.nil))) true → ((Tw.mk (Tw.kind (t.kids.getD (Int.toNat (1 : Int)) Sh.tm.nil)) (Tw.name (t.kids.getD (Int.toNat (1 : Int)) Sh.tm.nil)) (Tw.neg (t.kids.getD (Int.toNat (1 : Int)) Sh.tm.nil)) (Tw.digits (t.kids.getD (Int.toNat (1 : Int)) Sh.tm.nil)) (Tw.kids (t.kids.getD (Int.toNat (1 : Int)) Sh.tm.nil))).size < n ∧ (Tw.mk (Tw.kind (t.kids.getD (Int.toNat (1 : Int)) Sh.tm.nil)) (Tw.name (t.kids.getD (Int.toNat (1 : Int)) Sh.tm.nil)) (Tw.neg (t.kids.getD (Int.toNat (1 : Int)) Sh.tm.nil)) (Tw.digits (t.kids.getD (Int.toNat (1 : Int)) Sh.tm.nil)) (Tw.kids (t.kids.getD (Int.toNat (1 : Int)) Sh.tm.nil))).fitT ∧ towT (Tw.mk (Tw.kind (t.kids.getD (Int.toNat (1 : Int)) Sh.tm.nil)) (Tw.name (t.kids.getD (Int.toNat (1 : Int)) Sh.tm.nil)) (Tw.neg (t.kids.getD (Int.toNat (1 : Int)) Sh.tm.nil)) (Tw.digits (t.kids.getD (Int.toNat (1 : Int)) Sh.tm.nil)) (Tw.kids (t.kids.getD (Int.toNat (1 : Int)) Sh.tm.nil)))) ∧ ∀ (z2 : Tw), z2 = pushT D S (Tw.mk (Tw.kind (t.kids.getD (Int.toNat (1 : Int)) Sh.tm.nil)) (Tw.name (t.kids.getD (Int.toNat (1 : Int)) Sh.tm.nil)) (Tw.neg (t.kids.getD (Int.toNat (1 : Int)) Sh.tm.nil)) (Tw.digits (t.kids.getD (Int.toNat (1 : Int)) Sh.tm.nil)) (Tw.kids (t.kids.getD (Int.toNat (1 : Int)) Sh.tm.nil))) true → ((Tw.mk (Tw.kind (t.kids.getD (Int.toNat (0 : Int)) Sh.tm.nil)) (Tw.name (t.kids.getD (Int.toNat (0 : Int)) Sh.tm.nil)) (Tw.neg (t.kids.getD (Int.toNat (0 : Int)) Sh.tm.nil)) (Tw.digits (t.kids.getD (Int.toNat (0 : Int)) Sh.tm.nil)) (Tw.kids (t.kids.getD (Int.toNat (0 : Int)) Sh.tm.nil))).size < n ∧ (Tw.mk (Tw.kind (t.kids.getD (Int.toNat (0 : Int)) Sh.tm.nil)) (Tw.name (t.kids.getD (Int.toNat (0 : Int)) Sh.tm.nil)) (Tw.neg (t.kids.getD (Int.toNat (0 : Int)) Sh.tm.nil)) (Tw.digits (t.kids.getD (Int.toNat (0 : Int)) Sh.tm.nil)) (Tw.kids (t.kids.getD (Int.toNat (0 : Int)) Sh.tm.nil))).fitT ∧ towT (Tw.mk (Tw.kind (t.kids.getD (Int.toNat (0 : Int)) Sh.tm.nil)) (Tw.name (t.kids.getD (Int.toNat (0 : Int)) Sh.tm.nil)) (Tw.neg (t.kids.getD (Int.toNat (0 : Int)) Sh.tm.nil)) (Tw.digits (t.kids.getD (Int.toNat (0 : Int)) Sh.tm.nil)) (Tw.kids (t.kids.getD (Int.toNat (0 : Int)) Sh.tm.nil)))) ∧ ∀ (z3 : Tw), z3 = pushT D S (Tw.mk (Tw.kind (t.kids.getD (Int.toNat (0 : Int)) Sh.tm.nil)) (Tw.name (t.kids.getD (Int.toNat (0 : Int)) Sh.tm.nil)) (Tw.neg (t.kids.getD (Int.toNat (0 : Int)) Sh.tm.nil)) (Tw.digits (t.kids.getD (Int.toNat (0 : Int)) Sh.tm.nil)) (Tw.kids (t.kids.getD (Int.toNat (0 : Int)) Sh.tm.nil))) false → ((Tw.mk (Tw.kind (t.kids.getD (Int.toNat (1 : Int)) Sh.tm.nil)) (Tw.name (t.kids.getD (Int.toNat (1 : Int)) Sh.tm.nil)) (Tw.neg (t.kids.getD (Int.toNat (1 : Int)) Sh.tm.nil)) (Tw.digits (t.kids.getD (Int.toNat (1 : Int)) Sh.tm.nil)) (Tw.kids (t.kids.getD (Int.toNat (1 : Int)) Sh.tm.nil))).size < n ∧ (Tw.mk (Tw.kind (t.kids.getD (Int.toNat (1 : Int)) Sh.tm.nil)) (Tw.name (t.kids.getD (Int.toNat (1 : Int)) Sh.tm.nil)) (Tw.neg (t.kids.getD (Int.toNat (1 : Int)) Sh.tm.nil)) (Tw.digits (t.kids.getD (Int.toNat (1 : Int)) Sh.tm.nil)) (Tw.kids (t.kids.getD (Int.toNat (1 : Int)) Sh.tm.nil))).fitT ∧ towT (Tw.mk (Tw.kind (t.kids.getD (Int.toNat (1 : Int)) Sh.tm.nil)) (Tw.name (t.kids.getD (Int.toNat (1 : Int)) Sh.tm.nil)) (Tw.neg (t.kids.getD (Int.toNat (1 : Int)) Sh.tm.nil)) (Tw.digits (t.kids.getD (Int.toNat (1 : Int)) Sh.tm.nil)) (Tw.kids (t.kids.getD (Int.toNat (1 : Int)) Sh.tm.nil)))) ∧ ∀ (z4 : Tw), z4 = pushT D S (Tw.mk (Tw.kind (t.kids.getD (Int.toNat (1 : Int)) Sh.tm.nil)) (Tw.name (t.kids.getD (Int.toNat (1 : Int)) Sh.tm.nil)) (Tw.neg (t.kids.getD (Int.toNat (1 : Int)) Sh.tm.nil)) (Tw.digits (t.kids.getD (Int.toNat (1 : Int)) Sh.tm.nil)) (Tw.kids (t.kids.getD (Int.toNat (1 : Int)) Sh.tm.nil))) false → ifB is (∀ (z5 : Tw), z5 = conT (12 : Int) [Tw.mk z3.kind z3.name z3.neg z3.digits z3.kids, Tw.mk z2.kind z2.name z2.neg z2.digits z2.kids] → ∀ (z6 : Tw), z6 = conT (12 : Int) [Tw.mk z4.kind z4.name z4.neg z4.digits z4.kids, Tw.mk z1.kind z1.name z1.neg z1.digits z1.kids] → ∀ (z7 : Tw), z7 = conT (11 : Int) [Tw.mk z5.kind z5.name z5.neg z5.digits z5.kids, Tw.mk z6.kind z6.name z6.neg z6.digits z6.kids] → true = true ∧ Sub (PV.agg [PV.f (Lf.v (Value.int IntKind.u8 z7.kind)), PV.f (Lf.v (Value.string z7.name)), PV.f (Lf.v (Value.bool z7.neg)), PV.f (Lf.lr z7.digits z7.digits.length), PV.f (Lf.dt Sh.tm z7.kids)]) (PV.agg [PV.f (Lf.v (Value.int IntKind.u8 (pushT D S t is).kind)), PV.f (Lf.v (Value.string (pushT D S t is).name)), PV.f (Lf.v (Value.bool (pushT D S t is).neg)), PV.f (Lf.lr (pushT D S t is).digits (pushT D S t is).digits.length), PV.f (Lf.dt Sh.tm (pushT D S t is).kids)])) (∀ (z5 : Tw), z5 = conT (12 : Int) [Tw.mk z1.kind z1.name z1.neg z1.digits z1.kids, Tw.mk z2.kind z2.name z2.neg z2.digits z2.kids] → ∀ (z6 : Tw), z6 = conT (12 : Int) [Tw.mk z3.kind z3.name z3.neg z3.digits z3.kids, Tw.mk z4.kind z4.name z4.neg z4.digits z4.kids] → ∀ (z7 : Tw), z7 = conT (11 : Int) [Tw.mk z5.kind z5.name z5.neg z5.digits z5.kids, Tw.mk z6.kind z6.name z6.neg z6.digits z6.kids] → true = true ∧ Sub (PV.agg [PV.f (Lf.v (Value.int IntKind.u8 z7.kind)), PV.f (Lf.v (Value.string z7.name)), PV.f (Lf.v (Value.bool z7.neg)), PV.f (Lf.lr z7.digits z7.digits.length), PV.f (Lf.dt Sh.tm z7.kids)]) (PV.agg [PV.f (Lf.v (Value.int IntKind.u8 (pushT D S t is).kind)), PV.f (Lf.v (Value.string (pushT D S t is).name)), PV.f (Lf.v (Value.bool (pushT D S t is).neg)), PV.f (Lf.lr (pushT D S t is).digits (pushT D S t is).digits.length), PV.f (Lf.dt Sh.tm (pushT D S t is).kids)]))) (ifB is (true = true ∧ Sub (PV.agg [PV.f (Lf.v (Value.int IntKind.u8 t.kind)), PV.f (Lf.v (Value.string t.name)), PV.f (Lf.v (Value.bool t.neg)), PV.f (Lf.lr t.digits t.digits.length), PV.f (Lf.dt Sh.tm t.kids)]) (PV.agg [PV.f (Lf.v (Value.int IntKind.u8 (pushT D S t is).kind)), PV.f (Lf.v (Value.string (pushT D S t is).name)), PV.f (Lf.v (Value.bool (pushT D S t is).neg)), PV.f (Lf.lr (pushT D S t is).digits (pushT D S t is).digits.length), PV.f (Lf.dt Sh.tm (pushT D S t is).kids)])) (∀ (z1 : Tw), z1 = conT (10 : Int) [Tw.mk t.kind t.name t.neg t.digits t.kids] → true = true ∧ Sub (PV.agg [PV.f (Lf.v (Value.int IntKind.u8 z1.kind)), PV.f (Lf.v (Value.string z1.name)), PV.f (Lf.v (Value.bool z1.neg)), PV.f (Lf.lr z1.digits z1.digits.length), PV.f (Lf.dt Sh.tm z1.kids)]) (PV.agg [PV.f (Lf.v (Value.int IntKind.u8 (pushT D S t is).kind)), PV.f (Lf.v (Value.string (pushT D S t is).name)), PV.f (Lf.v (Value.bool (pushT D S t is).neg)), PV.f (Lf.lr (pushT D S t is).digits (pushT D S t is).digits.length), PV.f (Lf.dt Sh.tm (pushT D S t is).kids)]))))))))))) ?kr ?_
        case kr => kernel_rfl
        refine ifB_iff.2 ⟨fun hb0 => ifB_iff.2 ⟨fun hb1 => fun z1 => fun hz1 => ⟨rfl, ?m0⟩, fun hb1 => fun z1 => fun hz1 => ⟨rfl, ?m1⟩⟩, fun hb0 => ifB_iff.2 ⟨fun hb2 => ifB_iff.2 ⟨fun hb3 => fun z1 => fun hz1 => ⟨rfl, ?m2⟩, fun hb3 => fun z1 => fun hz1 => ⟨rfl, ?m3⟩⟩, fun hb2 => ifB_iff.2 ⟨fun hb4 => ⟨?s0, ⟨?s1, fun z1 => fun hz1 => ⟨rfl, ?m4⟩⟩⟩, fun hb4 => ifB_iff.2 ⟨fun hb5 => ifB_iff.2 ⟨fun hb6 => ⟨rfl, ?m5⟩, fun hb6 => ⟨?s2, ?m6⟩⟩, fun hb5 => ifB_iff.2 ⟨fun hb7 => ifB_iff.2 ⟨fun hb8 => ⟨rfl, ?m7⟩, fun hb8 => ?m8⟩, fun hb7 => ifB_iff.2 ⟨fun hb9 => fun z1 => fun hz1 => ifB_iff.2 ⟨fun hb10 => fun z2 => fun hz2 => ?m9, fun hb10 => ?m10⟩, fun hb9 => ifB_iff.2 ⟨fun hb11 => fun z1 => fun hz1 => ifB_iff.2 ⟨fun hb12 => fun z2 => fun hz2 => ?m11, fun hb12 => ?m12⟩, fun hb11 => ifB_iff.2 ⟨fun hb13 => ⟨?s3, ⟨?s4, ⟨?s5, fun z1 => fun hz1 => ⟨?s6, fun z2 => fun hz2 => ⟨?s7, fun z3 => fun hz3 => ⟨?s8, fun z4 => fun hz4 => ifB_iff.2 ⟨fun hb14 => fun z5 => fun hz5 => fun z6 => fun hz6 => fun z7 => fun hz7 => ⟨rfl, ?m13⟩, fun hb14 => fun z5 => fun hz5 => fun z6 => fun hz6 => fun z7 => fun hz7 => ⟨rfl, ?m14⟩⟩⟩⟩⟩⟩⟩⟩, fun hb13 => ifB_iff.2 ⟨fun hb15 => ⟨rfl, ?m15⟩, fun hb15 => fun z1 => fun hz1 => ⟨rfl, ?m16⟩⟩⟩⟩⟩⟩⟩⟩⟩⟩
        all_goals try simp only [beq_iff_eq, beq_eq_false_iff_ne, ne_eq, Tw.eta, Int.toNat_zero, one_nat] at *
        all_goals try (exfalso; omega)
        case s3 => have := hl2 hb13; omega
        case s4 => have := hl2 hb13; omega
        case s5 => exact hkid 0 (by have := hl2 hb13; omega)
        case s6 => exact hkid 1 (by have := hl2 hb13; omega)
        case s7 => exact hkid 0 (by have := hl2 hb13; omega)
        case s8 => exact hkid 1 (by have := hl2 hb13; omega)
        all_goals have hq := pushT_eq D S t is
        case m13 =>
          have h2 := hl2 hb13
          rw [if_neg (by omega), if_neg (by omega), if_pos hb13] at hq
          refine tm_fin (u := pushT D S t is) ?_
          rw [hq, hb14]
          unfold iffT
          dsimp only
          rw [pushL_at D S true (by omega) _ Sh.tm.nil, pushL_at D S false (by omega) _ Sh.tm.nil, pushL_at D S true (by omega) _ Sh.tm.nil, pushL_at D S false (by omega) _ Sh.tm.nil, hz7, hz6, hz5, hz4, hz3, hz2, hz1]
        case m14 =>
          have h2 := hl2 hb13
          rw [if_neg (by omega), if_neg (by omega), if_pos hb13] at hq
          refine tm_fin (u := pushT D S t is) ?_
          rw [hq, hb14]
          unfold iffT
          dsimp only
          rw [pushL_at D S true (by omega) _ Sh.tm.nil, pushL_at D S false (by omega) _ Sh.tm.nil, pushL_at D S true (by omega) _ Sh.tm.nil, pushL_at D S false (by omega) _ Sh.tm.nil, hz7, hz6, hz5, hz4, hz3, hz2, hz1]
        all_goals rw [if_neg (by omega), if_neg (by omega), if_neg hb13, if_neg (by omega)] at hq
        case m15 => rw [if_pos hb15] at hq; exact tm_fin (u := pushT D S t is) hq.symm
        case m16 =>
          rw [if_neg (by rw [hb15]; decide)] at hq
          unfold deniedT at hq
          rw [if_neg (by omega), if_neg (fun h => by omega)] at hq
          exact tm_fin (u := pushT D S t is) (hz1.trans hq.symm)
      · cases hs
    · cases hs

end Go.Proofs.Ytpjjdngoblfleaa
