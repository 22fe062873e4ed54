/- The laws of chapter 5: what a term comes to. -/
import Derived.Test.YtpjjdngoblfleaaGreatMi
import Derived.Test.YtpjjdngoblfleaaGreatMo
namespace Go.Proofs.YtpjjdngoblfleaaGreat
open Go.RowKit
set_option linter.unusedVariables false
set_option maxRecDepth 100000
def vX : ByteArray := ⟨#[120]⟩
def vTag : ByteArray := ⟨#[116, 97, 103]⟩
def vC0 : ByteArray := ⟨#[99, 111, 110, 115, 46, 48]⟩
def vC1 : ByteArray := ⟨#[99, 111, 110, 115, 46, 49]⟩
def boundA : List Bnd := [⟨vX, dataV bCons [numV 5, dataV bNil []]⟩]
theorem wake_tag : evalT listD boundA (appT vTag (varT vX)) = .ok (numV 1) := by kernel_rfl
theorem wake_0 : evalT listD boundA (appT vC0 (varT vX)) = .ok (numV 5) := by kernel_rfl
theorem wake_1 : evalT listD boundA (appT vC0 (appT vC1 (varT vX))) = .ok (numV 0) := by kernel_rfl
theorem bound_fit : fitB 600 boundA := fun b hb => by
 have hb : b = ⟨vX, dataV bCons [numV 5, dataV bNil []]⟩ := by simpa [boundA] using hb
 subst hb
 exact ⟨by decide, Nat.zero_le _, by decide, ⟨numV_fit (k := 1) (by unfold ZB; decide) (by omega), ⟨by decide, Nat.zero_le _, Nat.zero_le _, trivial⟩, trivial⟩⟩
theorem list_fit : fitD listD := fun d hd => by
 have hd : d = ⟨bList, [⟨bNil, []⟩, ⟨bCons, [bInt, bList]⟩]⟩ := by simpa [listD] using hd
 subst hd
 decide
theorem num_fit {z : Int} (h : z.natAbs < 1000000000) : (numV z).fitV 400000 := numV_fit (k := 1) (by unfold ZB; omega) (by omega)
theorem sameV_self (v : Vw) : sameV v v = true := sameV_iff.2 rfl
noncomputable def sTrue5 : Spec
 | [] => some (none, .one (bV true))
 | _ => none
theorem cAwake5 {E : Env} (hU : Up E) : Contract Tryz.prog E 6 sTrue5 := by
 refine contract_D [(19, sWhole5), (18, sData5), (20, sLists5), (22, sName5), (21, sApp5), (10, sSameV)] [(13, sEvalN 10000)] Tryz.ntmps6 Tryz.func6 (by kernel_rfl) (by kernel_rfl) hU ⟨cWhole5 hU, cData5 hU, cLists5 hU, cName5 hU, cApp5 hU, cSameV hU, trivial⟩ ⟨cEvalN hU _, trivial⟩ ?_
 intro xs p r hs hp
 unfold sTrue5 at hs
 split at hs
 · cases hs
   refine ⟨[], [], .nil, rfl, fun _ hsh => ?_⟩
   refine cast_rfl (p := ((-9223372036854775808 : Int) ≤ (5 : Int) ∧ (5 : Int) ≤ (9223372036854775807 : Int)) ∧ ∀ (z1 : Vw), z1 = numV (5 : Int) → ∀ (z2 : Vw), z2 = dataV (ByteArray.mk #[(110 : UInt8), (105 : UInt8), (108 : UInt8)]) [] → ∀ (z3 : Vw), z3 = dataV (ByteArray.mk #[(99 : UInt8), (111 : UInt8), (110 : UInt8), (115 : UInt8)]) [Vw.mk z1.kind z1.neg z1.digits z1.truth z1.name z1.fields, Vw.mk z2.kind z2.neg z2.digits z2.truth z2.name z2.fields] → ∀ (z4 : List Dat), z4 = listD → ∀ (z5 : Tw), z5 = varT (ByteArray.mk #[(120 : UInt8)]) → ∀ (z6 : Tw), z6 = appT (ByteArray.mk #[(116 : UInt8), (97 : UInt8), (103 : UInt8)]) (Tw.mk z5.kind z5.name z5.neg z5.digits z5.kids) → ((Tw.mk z6.kind z6.name z6.neg z6.digits z6.kids).size < 10000 ∧ cntT (Tw.mk z6.kind z6.name z6.neg z6.digits z6.kids) ≤ 9000 ∧ fitB 600 [Bnd.mk (ByteArray.mk #[(120 : UInt8)]) (Vw.mk z3.kind z3.neg z3.digits z3.truth z3.name z3.fields)] ∧ fitD z4) ∧ ∀ (z7 : Except Int Vw), z7 = evalT z4 [Bnd.mk (ByteArray.mk #[(120 : UInt8)]) (Vw.mk z3.kind z3.neg z3.digits z3.truth z3.name z3.fields)] (Tw.mk z6.kind z6.name z6.neg z6.digits z6.kids) → ∀ (z8 : List Dat), z8 = listD → ∀ (z9 : Tw), z9 = varT (ByteArray.mk #[(120 : UInt8)]) → ∀ (z10 : Tw), z10 = appT (ByteArray.mk #[(99 : UInt8), (111 : UInt8), (110 : UInt8), (115 : UInt8), (46 : UInt8), (48 : UInt8)]) (Tw.mk z9.kind z9.name z9.neg z9.digits z9.kids) → ((Tw.mk z10.kind z10.name z10.neg z10.digits z10.kids).size < 10000 ∧ cntT (Tw.mk z10.kind z10.name z10.neg z10.digits z10.kids) ≤ 9000 ∧ fitB 600 [Bnd.mk (ByteArray.mk #[(120 : UInt8)]) (Vw.mk z3.kind z3.neg z3.digits z3.truth z3.name z3.fields)] ∧ fitD z8) ∧ ∀ (z11 : Except Int Vw), z11 = evalT z8 [Bnd.mk (ByteArray.mk #[(120 : UInt8)]) (Vw.mk z3.kind z3.neg z3.digits z3.truth z3.name z3.fields)] (Tw.mk z10.kind z10.name z10.neg z10.digits z10.kids) → ∀ (z12 : List Dat), z12 = listD → ∀ (z13 : Tw), z13 = varT (ByteArray.mk #[(120 : UInt8)]) → ∀ (z14 : Tw), z14 = appT (ByteArray.mk #[(99 : UInt8), (111 : UInt8), (110 : UInt8), (115 : UInt8), (46 : UInt8), (49 : UInt8)]) (Tw.mk z13.kind z13.name z13.neg z13.digits z13.kids) → ∀ (z15 : Tw), z15 = appT (ByteArray.mk #[(99 : UInt8), (111 : UInt8), (110 : UInt8), (115 : UInt8), (46 : UInt8), (48 : UInt8)]) (Tw.mk z14.kind z14.name z14.neg z14.digits z14.kids) → ((Tw.mk z15.kind z15.name z15.neg z15.digits z15.kids).size < 10000 ∧ cntT (Tw.mk z15.kind z15.name z15.neg z15.digits z15.kids) ≤ 9000 ∧ fitB 600 [Bnd.mk (ByteArray.mk #[(120 : UInt8)]) (Vw.mk z3.kind z3.neg z3.digits z3.truth z3.name z3.fields)] ∧ fitD z12) ∧ ∀ (z16 : Except Int Vw), z16 = evalT z12 [Bnd.mk (ByteArray.mk #[(120 : UInt8)]) (Vw.mk z3.kind z3.neg z3.digits z3.truth z3.name z3.fields)] (Tw.mk z15.kind z15.name z15.neg z15.digits z15.kids) → ifB (errE z7 == (0 : Int)) (ifB (errE z11 == (0 : Int)) (ifB (errE z16 == (0 : Int)) (((-9223372036854775808 : Int) ≤ (1 : Int) ∧ (1 : Int) ≤ (9223372036854775807 : Int)) ∧ ∀ (z17 : Vw), z17 = numV (1 : Int) → (Vw.fitV 400000 (Vw.mk (valE z0V z7).kind (valE z0V z7).neg (valE z0V z7).digits (valE z0V z7).truth (valE z0V z7).name (valE z0V z7).fields) ∧ Vw.fitV 400000 (Vw.mk z17.kind z17.neg z17.digits z17.truth z17.name z17.fields)) ∧ ∀ (z18 : Bool), z18 = sameV (Vw.mk (valE z0V z7).kind (valE z0V z7).neg (valE z0V z7).digits (valE z0V z7).truth (valE z0V z7).name (valE z0V z7).fields) (Vw.mk z17.kind z17.neg z17.digits z17.truth z17.name z17.fields) → ifB z18 (((-9223372036854775808 : Int) ≤ (5 : Int) ∧ (5 : Int) ≤ (9223372036854775807 : Int)) ∧ ∀ (z19 : Vw), z19 = numV (5 : Int) → (Vw.fitV 400000 (Vw.mk (valE z0V z11).kind (valE z0V z11).neg (valE z0V z11).digits (valE z0V z11).truth (valE z0V z11).name (valE z0V z11).fields) ∧ Vw.fitV 400000 (Vw.mk z19.kind z19.neg z19.digits z19.truth z19.name z19.fields)) ∧ ∀ (z20 : Bool), z20 = sameV (Vw.mk (valE z0V z11).kind (valE z0V z11).neg (valE z0V z11).digits (valE z0V z11).truth (valE z0V z11).name (valE z0V z11).fields) (Vw.mk z19.kind z19.neg z19.digits z19.truth z19.name z19.fields) → ifB z20 (((-9223372036854775808 : Int) ≤ (0 : Int) ∧ (0 : Int) ≤ (9223372036854775807 : Int)) ∧ ∀ (z21 : Vw), z21 = numV (0 : Int) → (Vw.fitV (400000 : Nat) (Vw.mk (valE z0V z16).kind (valE z0V z16).neg (valE z0V z16).digits (valE z0V z16).truth (valE z0V z16).name (valE z0V z16).fields) ∧ Vw.fitV (400000 : Nat) (Vw.mk z21.kind z21.neg z21.digits z21.truth z21.name z21.fields)) ∧ ∀ (z22 : Bool), z22 = sameV (Vw.mk (valE z0V z16).kind (valE z0V z16).neg (valE z0V z16).digits (valE z0V z16).truth (valE z0V z16).name (valE z0V z16).fields) (Vw.mk z21.kind z21.neg z21.digits z21.truth z21.name z21.fields) → true = true ∧ Sub (bV z22) (bV true)) (true = true ∧ Sub (bV false) (bV true))) (true = true ∧ Sub (bV false) (bV true))) (true = true ∧ Sub (bV false) (bV true))) (true = true ∧ Sub (bV false) (bV true))) (true = true ∧ Sub (bV false) (bV true))) ?kr ?_
   case kr => kernel_rfl
   refine ⟨?s0, fun z1 => fun hz1 => fun z2 => fun hz2 => fun z3 => fun hz3 => fun z4 => fun hz4 => fun z5 => fun hz5 => fun z6 => fun hz6 => ⟨?s1, fun z7 => fun hz7 => fun z8 => fun hz8 => fun z9 => fun hz9 => fun z10 => fun hz10 => ⟨?s2, fun z11 => fun hz11 => fun z12 => fun hz12 => fun z13 => fun hz13 => fun z14 => fun hz14 => fun z15 => fun hz15 => ⟨?s3, fun z16 => fun hz16 => ifB_iff.2 ⟨fun hb0 => ifB_iff.2 ⟨fun hb1 => ifB_iff.2 ⟨fun hb2 => ⟨?s4, fun z17 => fun hz17 => ⟨?s5, fun z18 => fun hz18 => ifB_iff.2 ⟨fun hb3 => ⟨?s6, fun z19 => fun hz19 => ⟨?s7, fun z20 => fun hz20 => ifB_iff.2 ⟨fun hb4 => ⟨?s8, fun z21 => fun hz21 => ⟨?s9, fun z22 => fun hz22 => ⟨rfl, ?m0⟩⟩⟩, fun hb4 => ⟨rfl, ?m1⟩⟩⟩⟩, fun hb3 => ⟨rfl, ?m2⟩⟩⟩⟩, fun hb2 => ⟨rfl, ?m3⟩⟩, fun hb1 => ⟨rfl, ?m4⟩⟩, fun hb0 => ⟨rfl, ?m5⟩⟩⟩⟩⟩⟩
   all_goals try simp only [Tw.eta, Vw.eta, beq_iff_eq, beq_eq_false_iff_ne, ne_eq] at *
   case s0 => omega
   all_goals subst hz1 hz2 hz3 hz4 hz5 hz6
   case s1 => exact ⟨by decide, by decide, bound_fit, list_fit⟩
   all_goals have e7 := hz7.trans wake_tag
   all_goals subst e7
   all_goals subst hz8 hz9 hz10
   case s2 => exact ⟨by decide, by decide, bound_fit, list_fit⟩
   all_goals have e11 := hz11.trans wake_0
   all_goals subst e11
   all_goals subst hz12 hz13 hz14 hz15
   case s3 => exact ⟨by decide, by decide, bound_fit, list_fit⟩
   all_goals have e16 := hz16.trans wake_1
   all_goals subst e16
   case s4 => omega
   case m3 => exact absurd rfl hb2
   case m4 => exact absurd rfl hb1
   case m5 => exact absurd rfl hb0
   all_goals subst hz17
   case s5 => exact ⟨num_fit (by decide), num_fit (by decide)⟩
   case m2 => rw [hb3] at hz18; exact absurd (hz18.trans (sameV_self _)) (by decide)
   case s6 => omega
   all_goals subst hz19
   case s7 => exact ⟨num_fit (by decide), num_fit (by decide)⟩
   case m1 => rw [hb4] at hz20; exact absurd (hz20.trans (sameV_self _)) (by decide)
   case s8 => omega
   all_goals subst hz21
   case s9 => exact ⟨num_fit (by decide), num_fit (by decide)⟩
   case m0 => exact (subB_b (hz22.trans (sameV_self _))).sub
 · cases hs
end Go.Proofs.YtpjjdngoblfleaaGreat
