/- The reference of chapter 7: Push of towers; the law's small functions. -/
import Derived.Test.YtpjjdngoblfleaaGb
namespace Go.Proofs.Ytpjjdngoblfleaa
open Go.RowKit
set_option linter.unusedVariables false
set_option maxRecDepth 100000

def sPushRR : Spec
  | [.f x, .f y, z, .f (.v (.bool is))] => match dtOf .dat x, dtOf .srt y, tmOf z with
    | some D, some S, some t => some (some (t.fitT ∧ towT t), .nm Tw (pushT D S t is) tmP)
    | _, _, _ => none
  | _ => none
theorem cPushRR {E : Env} (hU : Up E) : Contract Try.prog E 26 sPushRR := by
  intro xs p r hs hp
  unfold sPushRR at hs
  split at hs
  · rename_i x y z is
    split at hs
    · rename_i D S t h1 h2 h3
      cases hs
      exact cPushR hU (t.size + 1) [.f x, .f y, z, .f (.v (.bool is))] _ _ (by simp only [sPushR, h1, h2, h3]; rfl) (fun q hq => by cases hq; exact ⟨Nat.lt_succ_self _, hp _ rfl⟩)
    · cases hs
  · cases hs
def sNormR : Spec
  | [.f x, .f y, z, .f (.v (.bool is))] => match dtOf .dat x, dtOf .srt y, tmOf z with
    | some D, some S, some t => some (some (t.fitT ∧ t.size ≤ 1000000000000 ∧ towT t), .nm (Except Int Tw) (normE D S t is) fun e => .tup [tmP (valE Sh.tm.nil e), iV (errE e)])
    | _, _, _ => none
  | _ => none
theorem cNormR {E : Env} (hU : Up E) : Contract Try.prog E 10 sNormR := by
  refine contract_D [(24, sSortR), (25, sSizRR), (26, sPushRR)] [] Try.ntmps10 Try.func10 (by kernel_rfl) (by kernel_rfl) hU ⟨cSortR hU, cSizRR hU, cPushRR hU, trivial⟩ trivial ?_
  intro xs p r hs hp
  unfold sNormR at hs
  split at hs
  · rename_i x y z is
    split at hs
    · rename_i D S t h1 h2 h3
      cases hs
      obtain ⟨hf, hn, hw⟩ := hp _ rfl
      refine ⟨[.f (.dt .dat D), .f (.dt .srt S), tmP t, bV is], [], .cons (dt_sub h1).sub (.cons (dt_sub h2).sub (.cons (tm_sub h3).sub (.cons (.refl _) .nil))), rfl, fun _ hsh => ?_⟩
      refine cast_rfl (p := ((Tw.mk t.kind t.name t.neg t.digits t.kids).fitT ∧ towT (Tw.mk t.kind t.name t.neg t.digits t.kids)) ∧ ∀ (z1 : Except Int ByteArray), z1 = sortT D S (Tw.mk t.kind t.name t.neg t.digits t.kids) → ifB (errE z1 != (0 : Int)) (true = true ∧ Sub (PV.tup [PV.agg [PV.f (Lf.v (Value.int IntKind.u8 (0 : Int))), PV.f (Lf.v (Value.string (ByteArray.mk #[]))), PV.f (Lf.v (Value.bool false)), PV.f (Lf.v (Value.slice none 0 0)), PV.f (Lf.v (Value.slice none 0 0))], PV.f (Lf.v (Value.int IntKind.i64 (errE z1)))]) (PV.tup [PV.agg [PV.f (Lf.v (Value.int IntKind.u8 (valE Sh.tm.nil (normE D S t is)).kind)), PV.f (Lf.v (Value.string (valE Sh.tm.nil (normE D S t is)).name)), PV.f (Lf.v (Value.bool (valE Sh.tm.nil (normE D S t is)).neg)), PV.f (Lf.lr (valE Sh.tm.nil (normE D S t is)).digits (valE Sh.tm.nil (normE D S t is)).digits.length), PV.f (Lf.dt Sh.tm (valE Sh.tm.nil (normE D S t is)).kids)], PV.f (Lf.v (Value.int IntKind.i64 (errE (normE D S t is))))])) (ifB (!(valE (ByteArray.mk #[]) z1).toList == (ByteArray.mk #[(98 : UInt8), (111 : UInt8), (111 : UInt8), (108 : UInt8)]).toList) (true = true ∧ Sub (PV.tup [PV.agg [PV.f (Lf.v (Value.int IntKind.u8 (0 : Int))), PV.f (Lf.v (Value.string (ByteArray.mk #[]))), PV.f (Lf.v (Value.bool false)), PV.f (Lf.v (Value.slice none 0 0)), PV.f (Lf.v (Value.slice none 0 0))], PV.f (Lf.v (Value.int IntKind.i64 (23 : Int)))]) (PV.tup [PV.agg [PV.f (Lf.v (Value.int IntKind.u8 (valE Sh.tm.nil (normE D S t is)).kind)), PV.f (Lf.v (Value.string (valE Sh.tm.nil (normE D S t is)).name)), PV.f (Lf.v (Value.bool (valE Sh.tm.nil (normE D S t is)).neg)), PV.f (Lf.lr (valE Sh.tm.nil (normE D S t is)).digits (valE Sh.tm.nil (normE D S t is)).digits.length), PV.f (Lf.dt Sh.tm (valE Sh.tm.nil (normE D S t is)).kids)], PV.f (Lf.v (Value.int IntKind.i64 (errE (normE D S t is))))])) (((Tw.mk t.kind t.name t.neg t.digits t.kids).size ≤ 1000000000000 ∧ (Tw.mk t.kind t.name t.neg t.digits t.kids).fitT ∧ towT (Tw.mk t.kind t.name t.neg t.digits t.kids)) ∧ ∀ (z2 : Int × Int), z2 = sizT D S (Tw.mk t.kind t.name t.neg t.digits t.kids) → ifB is (ifB (decide (z2.fst > (20000 : Int))) (true = true ∧ Sub (PV.tup [PV.agg [PV.f (Lf.v (Value.int IntKind.u8 (0 : Int))), PV.f (Lf.v (Value.string (ByteArray.mk #[]))), PV.f (Lf.v (Value.bool false)), PV.f (Lf.v (Value.slice none 0 0)), PV.f (Lf.v (Value.slice none 0 0))], PV.f (Lf.v (Value.int IntKind.i64 (34 : Int)))]) (PV.tup [PV.agg [PV.f (Lf.v (Value.int IntKind.u8 (valE Sh.tm.nil (normE D S t is)).kind)), PV.f (Lf.v (Value.string (valE Sh.tm.nil (normE D S t is)).name)), PV.f (Lf.v (Value.bool (valE Sh.tm.nil (normE D S t is)).neg)), PV.f (Lf.lr (valE Sh.tm.nil (normE D S t is)).digits (valE Sh.tm.nil (normE D S t is)).digits.length), PV.f (Lf.dt Sh.tm (valE Sh.tm.nil (normE D S t is)).kids)], PV.f (Lf.v (Value.int IntKind.i64 (errE (normE D S t is))))])) (ifB (!is) (ifB (decide (z2.snd > (20000 : Int))) (true = true ∧ Sub (PV.tup [PV.agg [PV.f (Lf.v (Value.int IntKind.u8 (0 : Int))), PV.f (Lf.v (Value.string (ByteArray.mk #[]))), PV.f (Lf.v (Value.bool false)), PV.f (Lf.v (Value.slice none 0 0)), PV.f (Lf.v (Value.slice none 0 0))], PV.f (Lf.v (Value.int IntKind.i64 (34 : Int)))]) (PV.tup [PV.agg [PV.f (Lf.v (Value.int IntKind.u8 (valE Sh.tm.nil (normE D S t is)).kind)), PV.f (Lf.v (Value.string (valE Sh.tm.nil (normE D S t is)).name)), PV.f (Lf.v (Value.bool (valE Sh.tm.nil (normE D S t is)).neg)), PV.f (Lf.lr (valE Sh.tm.nil (normE D S t is)).digits (valE Sh.tm.nil (normE D S t is)).digits.length), PV.f (Lf.dt Sh.tm (valE Sh.tm.nil (normE D S t is)).kids)], PV.f (Lf.v (Value.int IntKind.i64 (errE (normE D S t is))))])) (((Tw.mk t.kind t.name t.neg t.digits t.kids).fitT ∧ towT (Tw.mk t.kind t.name t.neg t.digits t.kids)) ∧ ∀ (z3 : Tw), z3 = pushT D S (Tw.mk t.kind t.name t.neg t.digits t.kids) is → true = true ∧ Sub (PV.tup [PV.agg [PV.f (Lf.v (Value.int IntKind.u8 z3.kind)), PV.f (Lf.v (Value.string z3.name)), PV.f (Lf.v (Value.bool z3.neg)), PV.f (Lf.lr z3.digits z3.digits.length), PV.f (Lf.dt Sh.tm z3.kids)], PV.f (Lf.v (Value.int IntKind.i64 (0 : Int)))]) (PV.tup [PV.agg [PV.f (Lf.v (Value.int IntKind.u8 (valE Sh.tm.nil (normE D S t is)).kind)), PV.f (Lf.v (Value.string (valE Sh.tm.nil (normE D S t is)).name)), PV.f (Lf.v (Value.bool (valE Sh.tm.nil (normE D S t is)).neg)), PV.f (Lf.lr (valE Sh.tm.nil (normE D S t is)).digits (valE Sh.tm.nil (normE D S t is)).digits.length), PV.f (Lf.dt Sh.tm (valE Sh.tm.nil (normE D S t is)).kids)], PV.f (Lf.v (Value.int IntKind.i64 (errE (normE D S t is))))]))) (((Tw.mk t.kind t.name t.neg t.digits t.kids).fitT ∧ towT (Tw.mk t.kind t.name t.neg t.digits t.kids)) ∧ ∀ (z3 : Tw), z3 = pushT D S (Tw.mk t.kind t.name t.neg t.digits t.kids) is → true = true ∧ Sub (PV.tup [PV.agg [PV.f (Lf.v (Value.int IntKind.u8 z3.kind)), PV.f (Lf.v (Value.string z3.name)), PV.f (Lf.v (Value.bool z3.neg)), PV.f (Lf.lr z3.digits z3.digits.length), PV.f (Lf.dt Sh.tm z3.kids)], PV.f (Lf.v (Value.int IntKind.i64 (0 : Int)))]) (PV.tup [PV.agg [PV.f (Lf.v (Value.int IntKind.u8 (valE Sh.tm.nil (normE D S t is)).kind)), PV.f (Lf.v (Value.string (valE Sh.tm.nil (normE D S t is)).name)), PV.f (Lf.v (Value.bool (valE Sh.tm.nil (normE D S t is)).neg)), PV.f (Lf.lr (valE Sh.tm.nil (normE D S t is)).digits (valE Sh.tm.nil (normE D S t is)).digits.length), PV.f (Lf.dt Sh.tm (valE Sh.tm.nil (normE D S t is)).kids)], PV.f (Lf.v (Value.int IntKind.i64 (errE (normE D S t is))))])))) (ifB (!is) (ifB (decide (z2.snd > (20000 : Int))) (true = true ∧ Sub (PV.tup [PV.agg [PV.f (Lf.v (Value.int IntKind.u8 (0 : Int))), PV.f (Lf.v (Value.string (ByteArray.mk #[]))), PV.f (Lf.v (Value.bool false)), PV.f (Lf.v (Value.slice none 0 0)), PV.f (Lf.v (Value.slice none 0 0))], PV.f (Lf.v (Value.int IntKind.i64 (34 : Int)))]) (PV.tup [PV.agg [PV.f (Lf.v (Value.int IntKind.u8 (valE Sh.tm.nil (normE D S t is)).kind)), PV.f (Lf.v (Value.string (valE Sh.tm.nil (normE D S t is)).name)), PV.f (Lf.v (Value.bool (valE Sh.tm.nil (normE D S t is)).neg)), PV.f (Lf.lr (valE Sh.tm.nil (normE D S t is)).digits (valE Sh.tm.nil (normE D S t is)).digits.length), PV.f (Lf.dt Sh.tm (valE Sh.tm.nil (normE D S t is)).kids)], PV.f (Lf.v (Value.int IntKind.i64 (errE (normE D S t is))))])) (((Tw.mk t.kind t.name t.neg t.digits t.kids).fitT ∧ towT (Tw.mk t.kind t.name t.neg t.digits t.kids)) ∧ ∀ (z3 : Tw), z3 = pushT D S (Tw.mk t.kind t.name t.neg t.digits t.kids) is → true = true ∧ Sub (PV.tup [PV.agg [PV.f (Lf.v (Value.int IntKind.u8 z3.kind)), PV.f (Lf.v (Value.string z3.name)), PV.f (Lf.v (Value.bool z3.neg)), PV.f (Lf.lr z3.digits z3.digits.length), PV.f (Lf.dt Sh.tm z3.kids)], PV.f (Lf.v (Value.int IntKind.i64 (0 : Int)))]) (PV.tup [PV.agg [PV.f (Lf.v (Value.int IntKind.u8 (valE Sh.tm.nil (normE D S t is)).kind)), PV.f (Lf.v (Value.string (valE Sh.tm.nil (normE D S t is)).name)), PV.f (Lf.v (Value.bool (valE Sh.tm.nil (normE D S t is)).neg)), PV.f (Lf.lr (valE Sh.tm.nil (normE D S t is)).digits (valE Sh.tm.nil (normE D S t is)).digits.length), PV.f (Lf.dt Sh.tm (valE Sh.tm.nil (normE D S t is)).kids)], PV.f (Lf.v (Value.int IntKind.i64 (errE (normE D S t is))))]))) (((Tw.mk t.kind t.name t.neg t.digits t.kids).fitT ∧ towT (Tw.mk t.kind t.name t.neg t.digits t.kids)) ∧ ∀ (z3 : Tw), z3 = pushT D S (Tw.mk t.kind t.name t.neg t.digits t.kids) is → true = true ∧ Sub (PV.tup [PV.agg [PV.f (Lf.v (Value.int IntKind.u8 z3.kind)), PV.f (Lf.v (Value.string z3.name)), PV.f (Lf.v (Value.bool z3.neg)), PV.f (Lf.lr z3.digits z3.digits.length), PV.f (Lf.dt Sh.tm z3.kids)], PV.f (Lf.v (Value.int IntKind.i64 (0 : Int)))]) (PV.tup [PV.agg [PV.f (Lf.v (Value.int IntKind.u8 (valE Sh.tm.nil (normE D S t is)).kind)), PV.f (Lf.v (Value.string (valE Sh.tm.nil (normE D S t is)).name)), PV.f (Lf.v (Value.bool (valE Sh.tm.nil (normE D S t is)).neg)), PV.f (Lf.lr (valE Sh.tm.nil (normE D S t is)).digits (valE Sh.tm.nil (normE D S t is)).digits.length), PV.f (Lf.dt Sh.tm (valE Sh.tm.nil (normE D S t is)).kids)], PV.f (Lf.v (Value.int IntKind.i64 (errE (normE D S t is))))])))))) ?kr ?_
      case kr => kernel_rfl
      refine ⟨?s0, fun z1 => fun hz1 => ifB_iff.2 ⟨fun hb0 => ⟨rfl, ?m0⟩, fun hb0 => ifB_iff.2 ⟨fun hb1 => ⟨rfl, ?m1⟩, fun hb1 => ⟨?s1, fun z2 => fun hz2 => ifB_iff.2 ⟨fun hb2 => ifB_iff.2 ⟨fun hb3 => ⟨rfl, ?m2⟩, fun hb3 => ifB_iff.2 ⟨fun hb4 => ifB_iff.2 ⟨fun hb5 => ⟨rfl, ?m3⟩, fun hb5 => ⟨?s2, fun z3 => fun hz3 => ⟨rfl, ?m4⟩⟩⟩, fun hb4 => ⟨?s3, fun z3 => fun hz3 => ⟨rfl, ?m5⟩⟩⟩⟩, fun hb2 => ifB_iff.2 ⟨fun hb6 => ifB_iff.2 ⟨fun hb7 => ⟨rfl, ?m6⟩, fun hb7 => ⟨?s4, fun z3 => fun hz3 => ⟨rfl, ?m7⟩⟩⟩, fun hb6 => ⟨?s5, fun z3 => fun hz3 => ⟨rfl, ?m8⟩⟩⟩⟩⟩⟩⟩⟩
      all_goals try simp only [Tw.eta, bs_l, Bool.not_eq_true', Bool.not_eq_false', bne_iff_ne, ne_eq, bne_eq_false_iff_eq, decide_eq_true_eq, decide_eq_false_iff_not] at *
      case s0 => exact ⟨hf, hw⟩
      case m0 => exact fin_err (r := normE D S t is) (norm_no (hz1.symm.trans (by obtain e | s := z1 <;> first | rfl | exact absurd rfl hb0))) rfl
      all_goals obtain ⟨s, rfl⟩ := sort_is hz1 hb0
      case m1 => exact fin_err (r := normE D S t is) (norm_not hz1.symm hb1) rfl
      all_goals obtain rfl : s = bBool := hb1
      all_goals have hb := hz1.symm
      case s1 => exact ⟨hn, hf, hw⟩
      case s2 => exact ⟨hf, hw⟩
      case s3 => exact ⟨hf, hw⟩
      case s4 => exact ⟨hf, hw⟩
      case s5 => exact ⟨hf, hw⟩
      case m2 => exact fin_err (r := normE D S t is) (norm_grown hb (by rw [grown_t hb2, ← hz2]; exact decide_eq_true hb3)) rfl
      case m3 => rw [hb2] at hb4; cases hb4
      case m4 => rw [hb2] at hb4; cases hb4
      case m5 => exact fin_ok (r := normE D S t is) (hz3 ▸ norm_ok hb (by rw [grown_t hb2, ← hz2]; exact decide_eq_false hb3))
      case m6 => exact fin_err (r := normE D S t is) (norm_grown hb (by rw [grown_f hb2, ← hz2]; exact decide_eq_true hb7)) rfl
      case m7 => exact fin_ok (r := normE D S t is) (hz3 ▸ norm_ok hb (by rw [grown_f hb2, ← hz2]; exact decide_eq_false hb7))
      case m8 => rw [hb2] at hb6; cases hb6
    · cases hs
  · cases hs
/-- A name. -/
def varT (s : ByteArray) : Tw := .mk 1 s false [] []
def sNameL : Spec
  | [.f (.v (.string s))] => some (none, .nm Tw (varT s) tmP)
  | _ => none
theorem cNameL {E : Env} (hU : Up E) : Contract Try.prog E 6 sNameL := by
  refine contract_D [] [] Try.ntmps6 Try.func6 (by kernel_rfl) (by kernel_rfl) hU trivial trivial ?_
  intro xs p r hs hp
  unfold sNameL at hs
  split at hs
  · rename_i s
    cases hs
    refine ⟨[.f (.v (.string s))], [], .cons (.refl _) .nil, rfl, fun _ hsh => ?_⟩
    refine cast_rfl (p := true = true ∧ Sub (PV.agg [PV.f (Lf.v (Value.int IntKind.u8 (1 : Int))), PV.f (Lf.v (Value.string s)), PV.f (Lf.v (Value.bool false)), PV.f (Lf.v (Value.slice none 0 0)), PV.f (Lf.v (Value.slice none 0 0))]) (PV.agg [PV.f (Lf.v (Value.int IntKind.u8 (varT s).kind)), PV.f (Lf.v (Value.string (varT s).name)), PV.f (Lf.v (Value.bool (varT s).neg)), PV.f (Lf.lr (varT s).digits 0), PV.f (Lf.dt Sh.tm [])])) ?kr ?_
    case kr => kernel_rfl
    refine ⟨rfl, ?m0⟩
    case m0 => exact (tm_sub (t := varT s) rfl).sub
  · cases hs
theorem cConL {E : Env} (hU : Up E) : Contract Try.prog E 8 sConT := by
  refine contract_D [] [] Try.ntmps8 Try.func8 (by kernel_rfl) (by kernel_rfl) hU trivial trivial ?_
  intro xs p r hs hp
  unfold sConT at hs
  split at hs
  · rename_i k x
    split at hs
    · rename_i l h1
      cases hs
      refine ⟨[.f (.v (.int .u8 k)), .f (.dt .tm l)], [], .cons (.refl _) (.cons (dt_sub h1).sub .nil), rfl, fun _ hsh => ?_⟩
      refine cast_rfl (p := true = true ∧ Sub (PV.agg [PV.f (Lf.v (Value.int IntKind.u8 k)), PV.f (Lf.v (Value.string (ByteArray.mk #[]))), PV.f (Lf.v (Value.bool false)), PV.f (Lf.v (Value.slice none 0 0)), PV.f (Lf.dt Sh.tm l)]) (PV.agg [PV.f (Lf.v (Value.int IntKind.u8 (conT k l).kind)), PV.f (Lf.v (Value.string (conT k l).name)), PV.f (Lf.v (Value.bool (conT k l).neg)), PV.f (Lf.lr (conT k l).digits 0), PV.f (Lf.dt Sh.tm (conT k l).kids)])) ?kr ?_
      case kr => kernel_rfl
      refine ⟨rfl, ?m0⟩
      case m0 => exact (tm_sub (t := conT k l) rfl).sub
    · cases hs
  · cases hs

end Go.Proofs.Ytpjjdngoblfleaa
