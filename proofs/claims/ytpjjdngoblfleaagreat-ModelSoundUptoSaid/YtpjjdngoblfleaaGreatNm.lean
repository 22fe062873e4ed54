/- The law ModelSound: whatever the data, scope, values, term, it returns true. -/
import Derived.Test.YtpjjdngoblfleaaGreatMu
import Derived.Test.YtpjjdngoblfleaaGreatNw
namespace Go.Proofs.YtpjjdngoblfleaaGreat
open Go.RowKit
set_option linter.unusedVariables false
set_option maxRecDepth 100000
def szS (S : List Srt) : Nat := (S.map fun s : Srt => s.name.size + s.sort.size + 2).sum
theorem szS_cons (s : Srt) (S : List Srt) : szS (s :: S) = s.name.size + s.sort.size + 2 + szS S := rfl
theorem bndOf_cnt : ∀ (S : List Srt) (V : List Vw), cntB (bndOf S V) ≤ szS S + cntVL V
 | [], V => by simp [bndOf, cntB]
 | s :: S, [] => by simp [bndOf, cntB]
 | s :: S, v :: V => by
  have := bndOf_cnt S V
  show 1 + s.name.size / 8 + cntV v + cntB (bndOf S V) ≤ _
  rw [szS_cons, cntVL]
  omega
theorem bndOf_next {S : List Srt} {V : List Vw} (h : V.length = S.length) {i : Nat} (hi : i < S.length) : (bndOf S V).take (i + 1) = (bndOf S V).take i ++ [⟨(S.getD i Sh.srt.nil).name, V.getD i Sh.vl.nil⟩] := by
 have hb : i < (bndOf S V).length := by rw [bndOf_len S V h]; exact hi
 have := bndOf_at h hi
 rw [List.getD_eq_getElem?_getD, List.getElem?_eq_getElem hb] at this
 rw [List.take_add_one, List.getElem?_eq_getElem hb]
 rw [Option.getD_some] at this
 rw [this]; rfl
mutual
theorem cntT_fit : ∀ (t : Tw), cntT t ≤ 400000 → t.fitT
 | .mk k n b d l, h => by
  unfold cntT at h
  have h1 := cntTL_len l
  exact ⟨by omega, by omega, by omega, cntTL_fit l (by omega)⟩
theorem cntTL_fit : ∀ (l : List Tw), cntTL l ≤ 400000 → fitTL l
 | [], _ => trivial
 | v :: l, h => by
  unfold cntTL at h
  exact ⟨cntT_fit v (by omega), cntTL_fit l (by omega)⟩
end
theorem sort_err0 {D : List Dat} {S : List Srt} {t : Tw} {z : Except Int ByteArray} (hz : z = sortT D S t) (h : errE z = 0) : ∃ s, sortT D S t = .ok s ∧ z = .ok s := by
 obtain ⟨s, hs⟩ := sort_is hz h
 exact ⟨s, by rw [← hz, hs], hs⟩
theorem cOfMM {E : Env} (hU : Up E) : Contract Tryz.prog E 8 sOfM := by
 refine contract_D [(26, sOfM)] [] Tryz.ntmps8 Tryz.func8 (by kernel_rfl) (by kernel_rfl) hU ⟨cOfM hU, trivial⟩ trivial ?_
 intro xs p r hs hp
 unfold sOfM at hs
 split at hs
 · rename_i D s x
   split at hs
   · rename_i v hv
     cases hs
     have hf := hp _ rfl
     refine ⟨[.f (.dt .dat D), .f (.v (.string s)), vlP v], [], .cons (.refl _) (.cons (.refl _) (.cons (vl_sub hv).sub .nil)), rfl, fun _ hsh => ?_⟩
     refine cast_rfl (p := Vw.fitV 400000 (Vw.mk v.kind v.neg v.digits v.truth v.name v.fields) ∧ ∀ (z1 : Bool), z1 = ofV D s (Vw.mk v.kind v.neg v.digits v.truth v.name v.fields) → true = true ∧ Sub (bV z1) (bV (ofV D s v))) ?kr ?_
     case kr => kernel_rfl
     refine ⟨?s0, fun z1 => fun hz1 => ⟨rfl, ?m0⟩⟩
     all_goals try simp only [Vw.eta] at *
     case s0 => exact hf
     case m0 => exact (subB_b hz1).sub
   · cases hs
 · cases hs
noncomputable def sLawS : Spec
 | [.f x, .f y, .f z, u] => match dtOf .dat x, dtOf .srt y, dtOf .vl z, tmOf u with
  | some D, some S, some V, some t => some (some (cntD D ≤ 2000000 ∧ szS S ≤ 2000000 ∧ cntVL V ≤ 2000000 ∧ cntT t ≤ 2000000), .one (bV true))
  | _, _, _, _ => none
 | _ => none
theorem cLawS {E : Env} (hU : Up E) : Contract Tryz.prog E 4 sLawS := by
 refine contract_D [(6, sTrue5), (7, sGreat5), (8, sOfM), (12, sSort)] [(13, sEvalN 10000)] Tryz.ntmps4 Tryz.func4 (by kernel_rfl) (by kernel_rfl) hU ⟨cAwake5 hU, cGreat5 hU, cOfMM hU, cSort hU, trivial⟩ ⟨cEvalN hU _, trivial⟩ ?_
 intro xs p r hs hp
 unfold sLawS at hs
 split at hs
 · rename_i x y z u
   split at hs
   · rename_i D S V t h1 h2 h3 h4
     cases hs
     obtain ⟨pD, pS, pV, pt⟩ := hp _ rfl
     refine ⟨[.f (.dt .dat D), .f (.dt .srt S), .f (.dt .vl V), tmP t], [(7, .s ⟨Nat, fun i => ⟨[(0, .f (.dt .dat D)), (1, .f (.dt .srt S)), (2, .f (.dt .vl V)), (7, .bp 0 0), (9, .tl 1 (.dt .bnd ((bndOf S V).take i))), (10, iV i)], [.cells (wrapF (tmC t)), .tail 33 7]⟩, fun i => i ≤ S.length ∧ S.length ≤ 100 ∧ V.length = S.length, fun i => S.length - i⟩),
      (13, .s ⟨Nat, fun i => ⟨[(0, .f (.dt .dat D)), (1, .f (.dt .srt S)), (2, .f (.dt .vl V)), (7, .bp 0 0), (9, .tl 1 (.dt .bnd (bndOf S V))), (11, iV i)], [.cells (wrapF (tmC t)), .tail 33 7]⟩, fun i => i ≤ S.length ∧ ∀ j, j < i → ofV D (Srt.sort (S.getD j Sh.srt.nil)) (V.getD j Sh.vl.nil) = true, fun i => S.length - i⟩)], .cons (dt_sub h1).sub (.cons (dt_sub h2).sub (.cons (dt_sub h3).sub (.cons (tm_sub h4).sub .nil))), rfl, fun _ hsh => ?_⟩
     refine cast_rfl (p := ifB (decide ((↑S.length : Int) > (100 : Int))) (true = true ∧ Sub (bV true) (bV true)) (ifB ((↑V.length : Int) != (↑S.length : Int)) (true = true ∧ Sub (bV true) (bV true)) (∃ (x1 : Nat), (((SubB (PV.f (Lf.v (Value.int IntKind.u8 t.kind))) (PV.f (Lf.v (Value.int IntKind.u8 t.kind))) ∧ SubB (sV t.name) (sV t.name) ∧ SubB (bV t.neg) (bV t.neg) ∧ SubB (PV.f (Lf.lr t.digits t.digits.length)) (PV.f (Lf.lr t.digits t.digits.length)) ∧ SubB (PV.f (Lf.dt Sh.tm t.kids)) (PV.f (Lf.dt Sh.tm t.kids)) ∧ True) ∧ True) ∧ SubB (PV.f (Lf.dt Sh.dat D)) (PV.f (Lf.dt Sh.dat D)) ∧ SubB (PV.f (Lf.dt Sh.srt S)) (PV.f (Lf.dt Sh.srt S)) ∧ SubB (PV.f (Lf.dt Sh.vl V)) (PV.f (Lf.dt Sh.vl V)) ∧ SubB (PV.bp 0 0) (PV.bp 0 0) ∧ emptyT (PV.tl 1 (Lf.dt Sh.bnd (List.take x1 (bndOf S V)))) ∧ SubB (iV 0) (iV (↑x1 : Int)) ∧ True) ∧ (x1 ≤ S.length ∧ S.length ≤ 100 ∧ V.length = S.length) ∧ True ∧ ∀ (z2 : Nat), z2 ≤ S.length ∧ S.length ≤ 100 ∧ V.length = S.length → True → ifB (decide ((↑z2 : Int) < (↑S.length : Int))) (((0 : Int) ≤ (↑z2 : Int) ∧ (↑z2 : Int) < (↑S.length : Int)) ∧ ((0 : Int) ≤ (↑z2 : Int) ∧ (↑z2 : Int) < (↑V.length : Int)) ∧ ((List.take z2 (bndOf S V)).length + 1 ≤ 9223372036854775807 ∧ ((List.take z2 (bndOf S V)).length + 1) * 104 ≤ 140737488355328) ∧ ∃ (x3 : Nat), (((SubB (PV.f (Lf.v (Value.int IntKind.u8 t.kind))) (PV.f (Lf.v (Value.int IntKind.u8 t.kind))) ∧ SubB (sV t.name) (sV t.name) ∧ SubB (bV t.neg) (bV t.neg) ∧ SubB (PV.f (Lf.lr t.digits t.digits.length)) (PV.f (Lf.lr t.digits t.digits.length)) ∧ SubB (PV.f (Lf.dt Sh.tm t.kids)) (PV.f (Lf.dt Sh.tm t.kids)) ∧ True) ∧ True) ∧ SubB (PV.f (Lf.dt Sh.dat D)) (PV.f (Lf.dt Sh.dat D)) ∧ SubB (PV.f (Lf.dt Sh.srt S)) (PV.f (Lf.dt Sh.srt S)) ∧ SubB (PV.f (Lf.dt Sh.vl V)) (PV.f (Lf.dt Sh.vl V)) ∧ SubB (PV.bp 0 0) (PV.bp 0 0) ∧ SubB (PV.tl 1 (Lf.dt Sh.bnd (List.take z2 (bndOf S V) ++ [Bnd.mk (S.getD (↑z2 : Int).toNat Sh.srt.nil).name (Vw.mk (Vw.kind (V.getD (↑z2 : Int).toNat Sh.vl.nil)) (Vw.neg (V.getD (↑z2 : Int).toNat Sh.vl.nil)) (Vw.digits (V.getD (↑z2 : Int).toNat Sh.vl.nil)) (Vw.truth (V.getD (↑z2 : Int).toNat Sh.vl.nil)) (Vw.name (V.getD (↑z2 : Int).toNat Sh.vl.nil)) (Vw.fields (V.getD (↑z2 : Int).toNat Sh.vl.nil)))]))) (PV.tl 1 (Lf.dt Sh.bnd (List.take x3 (bndOf S V)))) ∧ SubB (iV (IntKind.i64.wrap ((↑z2 : Int) + (1 : Int)))) (iV (↑x3 : Int)) ∧ True) ∧ (x3 ≤ S.length ∧ S.length ≤ 100 ∧ V.length = S.length) ∧ True ∧ (S.length - x3).succ.le (S.length - z2)) ((cntD D ≤ 4000000 ∧ cntB (List.take z2 (bndOf S V)) ≤ 4000000 ∧ cntTL [Tw.mk t.kind t.name t.neg t.digits t.kids] ≤ 4000000) ∧ ∀ (z3 : Bool), z3 = greatE D (List.take z2 (bndOf S V)) [Tw.mk t.kind t.name t.neg t.digits t.kids] → ifB z3 (true = true ∧ Sub (bV true) (bV true)) (∃ (x4 : Nat), (((SubB (PV.f (Lf.v (Value.int IntKind.u8 t.kind))) (PV.f (Lf.v (Value.int IntKind.u8 t.kind))) ∧ SubB (sV t.name) (sV t.name) ∧ SubB (bV t.neg) (bV t.neg) ∧ SubB (PV.f (Lf.lr t.digits t.digits.length)) (PV.f (Lf.lr t.digits t.digits.length)) ∧ SubB (PV.f (Lf.dt Sh.tm t.kids)) (PV.f (Lf.dt Sh.tm t.kids)) ∧ True) ∧ True) ∧ SubB (PV.f (Lf.dt Sh.dat D)) (PV.f (Lf.dt Sh.dat D)) ∧ SubB (PV.f (Lf.dt Sh.srt S)) (PV.f (Lf.dt Sh.srt S)) ∧ SubB (PV.f (Lf.dt Sh.vl V)) (PV.f (Lf.dt Sh.vl V)) ∧ SubB (PV.bp 0 0) (PV.bp 0 0) ∧ SubB (PV.tl 1 (Lf.dt Sh.bnd (List.take z2 (bndOf S V)))) (PV.tl 1 (Lf.dt Sh.bnd (bndOf S V))) ∧ SubB (iV 0) (iV (↑x4 : Int)) ∧ True) ∧ (x4 ≤ S.length ∧ ∀ (j : Nat), j < x4 → ofV D (S.getD j Sh.srt.nil).sort (V.getD j Sh.vl.nil) = true) ∧ True ∧ ∀ (z5 : Nat), (z5 ≤ S.length ∧ ∀ (j : Nat), j < z5 → ofV D (S.getD j Sh.srt.nil).sort (V.getD j Sh.vl.nil) = true) → True → ifB (decide ((↑z5 : Int) < (↑S.length : Int))) (((0 : Int) ≤ (↑z5 : Int) ∧ (↑z5 : Int) < (↑S.length : Int)) ∧ ((0 : Int) ≤ (↑z5 : Int) ∧ (↑z5 : Int) < (↑V.length : Int)) ∧ Vw.fitV 400000 (Vw.mk (Vw.kind (V.getD (↑z5 : Int).toNat Sh.vl.nil)) (Vw.neg (V.getD (↑z5 : Int).toNat Sh.vl.nil)) (Vw.digits (V.getD (↑z5 : Int).toNat Sh.vl.nil)) (Vw.truth (V.getD (↑z5 : Int).toNat Sh.vl.nil)) (Vw.name (V.getD (↑z5 : Int).toNat Sh.vl.nil)) (Vw.fields (V.getD (↑z5 : Int).toNat Sh.vl.nil))) ∧ ∀ (z6 : Bool), z6 = ofV D (S.getD (↑z5 : Int).toNat Sh.srt.nil).sort (Vw.mk (Vw.kind (V.getD (↑z5 : Int).toNat Sh.vl.nil)) (Vw.neg (V.getD (↑z5 : Int).toNat Sh.vl.nil)) (Vw.digits (V.getD (↑z5 : Int).toNat Sh.vl.nil)) (Vw.truth (V.getD (↑z5 : Int).toNat Sh.vl.nil)) (Vw.name (V.getD (↑z5 : Int).toNat Sh.vl.nil)) (Vw.fields (V.getD (↑z5 : Int).toNat Sh.vl.nil))) → ifB (!z6) (true = true ∧ Sub (bV true) (bV true)) (∃ (x7 : Nat), (((SubB (PV.f (Lf.v (Value.int IntKind.u8 t.kind))) (PV.f (Lf.v (Value.int IntKind.u8 t.kind))) ∧ SubB (sV t.name) (sV t.name) ∧ SubB (bV t.neg) (bV t.neg) ∧ SubB (PV.f (Lf.lr t.digits t.digits.length)) (PV.f (Lf.lr t.digits t.digits.length)) ∧ SubB (PV.f (Lf.dt Sh.tm t.kids)) (PV.f (Lf.dt Sh.tm t.kids)) ∧ True) ∧ True) ∧ SubB (PV.f (Lf.dt Sh.dat D)) (PV.f (Lf.dt Sh.dat D)) ∧ SubB (PV.f (Lf.dt Sh.srt S)) (PV.f (Lf.dt Sh.srt S)) ∧ SubB (PV.f (Lf.dt Sh.vl V)) (PV.f (Lf.dt Sh.vl V)) ∧ SubB (PV.bp 0 0) (PV.bp 0 0) ∧ SubB (PV.tl 1 (Lf.dt Sh.bnd (bndOf S V))) (PV.tl 1 (Lf.dt Sh.bnd (bndOf S V))) ∧ SubB (iV (IntKind.i64.wrap ((↑z5 : Int) + (1 : Int)))) (iV (↑x7 : Int)) ∧ True) ∧ (x7 ≤ S.length ∧ ∀ (j : Nat), j < x7 → ofV D (S.getD j Sh.srt.nil).sort (V.getD j Sh.vl.nil) = true) ∧ True ∧ (S.length - x7).succ.le (S.length - z5))) ((Tw.mk t.kind t.name t.neg t.digits t.kids).fitT ∧ ∀ (z6 : Except Int ByteArray), z6 = sortT D S (Tw.mk t.kind t.name t.neg t.digits t.kids) → ifB (errE z6 != (0 : Int)) (true = true ∧ Sub (bV true) (bV true)) (((Tw.mk t.kind t.name t.neg t.digits t.kids).size < 10000 ∧ cntT (Tw.mk t.kind t.name t.neg t.digits t.kids) ≤ 9000 ∧ fitB 600 (bndOf S V) ∧ fitD D) ∧ ∀ (z7 : Except Int Vw), z7 = evalT D (bndOf S V) (Tw.mk t.kind t.name t.neg t.digits t.kids) → ifB (errE z7 == (0 : Int)) (Vw.fitV 400000 (Vw.mk (valE z0V z7).kind (valE z0V z7).neg (valE z0V z7).digits (valE z0V z7).truth (valE z0V z7).name (valE z0V z7).fields) ∧ ∀ (z8 : Bool), z8 = ofV D (valE (ByteArray.mk #[]) z6) (Vw.mk (valE z0V z7).kind (valE z0V z7).neg (valE z0V z7).digits (valE z0V z7).truth (valE z0V z7).name (valE z0V z7).fields) → true = true ∧ Sub (bV z8) (bV true)) (true = true ∧ Sub (bV false) (bV true))))))))) ?kr ?_
     case kr => kernel_rfl
     refine ifB_iff.2 ⟨fun hb0 => ⟨rfl, ?m0⟩, fun hb0 => ifB_iff.2 ⟨fun hb1 => ⟨rfl, ?m1⟩, fun hb1 => ⟨?x0, ⟨?s0, ⟨?s1, ⟨trivial, fun z2 => fun hq2 => fun _ => ifB_iff.2 ⟨fun hb3 => ⟨?s2, ⟨?s3, ⟨?s4, ⟨?x1, ⟨⟨⟨⟨.refl _, ⟨.refl _, ⟨.refl _, ⟨.refl _, ⟨.refl _, trivial⟩⟩⟩⟩⟩, trivial⟩, ⟨.refl _, ⟨.refl _, ⟨.refl _, ⟨.refl _, ⟨?m2, ⟨?m3, trivial⟩⟩⟩⟩⟩⟩⟩, ⟨?s5, ⟨trivial, ?m4⟩⟩⟩⟩⟩⟩⟩, fun hb3 => ⟨?s6, fun z3 => fun hz3 => ifB_iff.2 ⟨fun hb4 => ⟨rfl, ?m5⟩, fun hb4 => ⟨?x2, ⟨⟨⟨⟨.refl _, ⟨.refl _, ⟨.refl _, ⟨.refl _, ⟨.refl _, trivial⟩⟩⟩⟩⟩, trivial⟩, ⟨.refl _, ⟨.refl _, ⟨.refl _, ⟨.refl _, ⟨?m6, ⟨?m7, trivial⟩⟩⟩⟩⟩⟩⟩, ⟨?s7, ⟨trivial, fun z5 => fun hq5 => fun _ => ifB_iff.2 ⟨fun hb6 => ⟨?s8, ⟨?s9, ⟨?s10, fun z6 => fun hz6 => ifB_iff.2 ⟨fun hb7 => ⟨rfl, ?m8⟩, fun hb7 => ⟨?x3, ⟨⟨⟨⟨.refl _, ⟨.refl _, ⟨.refl _, ⟨.refl _, ⟨.refl _, trivial⟩⟩⟩⟩⟩, trivial⟩, ⟨.refl _, ⟨.refl _, ⟨.refl _, ⟨.refl _, ⟨.refl _, ⟨?m9, trivial⟩⟩⟩⟩⟩⟩⟩, ⟨?s11, ⟨trivial, ?m10⟩⟩⟩⟩⟩⟩⟩⟩, fun hb6 => ⟨?s12, fun z6 => fun hz6 => ifB_iff.2 ⟨fun hb8 => ⟨rfl, ?m11⟩, fun hb8 => ⟨?s13, fun z7 => fun hz7 => ifB_iff.2 ⟨fun hb9 => ⟨?s14, fun z8 => fun hz8 => ⟨rfl, ?m12⟩⟩, fun hb9 => ⟨rfl, ?m13⟩⟩⟩⟩⟩⟩⟩⟩⟩⟩⟩⟩⟩⟩⟩⟩⟩⟩⟩
     case x0 => exact 0
     case x1 => exact z2 + 1
     case x2 => exact 0
     case x3 => exact z5 + 1
     all_goals try simp only [Tw.eta, Vw.eta, Int.toNat_natCast, Int.ofNat_lt, Int.natCast_inj, Bool.not_eq_true', Bool.not_eq_false', beq_iff_eq, beq_eq_false_iff_ne, bne_iff_ne, ne_eq, bne_eq_false_iff_eq, decide_eq_true_eq, decide_eq_false_iff_not] at *
     case m0 => exact .refl _
     case m1 => exact .refl _
     case m5 => exact .refl _
     case m8 => exact .refl _
     case m11 => exact .refl _
     all_goals have hS : S.length ≤ 100 := by omega
     all_goals have hVS : V.length = S.length := by omega
     all_goals have hbl := bndOf_len S V hVS
     case s0 => exact ⟨⟨by repeat' first | exact SubB.refl _ | exact trivial | refine And.intro ?_ ?_, trivial⟩, by repeat' first | exact SubB.refl _ | exact trivial | exact rfl | refine And.intro ?_ ?_⟩
     case s1 => exact ⟨Nat.zero_le _, hS, hVS⟩
     case s2 => omega
     case s3 => omega
     case s4 => rw [List.length_take]; exact ⟨by omega, by omega⟩
     case m2 => rw [bndOf_next hVS hb3]; exact .refl _
     case m3 => exact subB_i (wJ _ (by omega) (by omega))
     case s5 => exact ⟨hb3, hS, hVS⟩
     case m4 =>
      have : S.length - (z2 + 1) < S.length - z2 := by omega
      exact this
     all_goals have hz : z2 = (bndOf S V).length := by omega
     all_goals simp only [hz, List.take_length] at *
     case s6 =>
      have := bndOf_cnt S V
      exact ⟨by omega, by omega, by simp only [cntTL]; omega⟩
     all_goals obtain ⟨gD, gB, gl⟩ := great_no (hz3.symm.trans hb4)
     all_goals simp only [cntTL] at gl
     all_goals have hB := fitB_of gB
     all_goals have hD := fitD_of gD
     case m6 => exact .refl _
     case m7 => exact .refl _
     case s7 => exact ⟨Nat.zero_le _, fun j hj => absurd hj (Nat.not_lt_zero j)⟩
     case s8 => omega
     case s9 => omega
     case s10 =>
      have hb := hB _ (bnd_mem (B := bndOf S V) (i := z5) (by omega))
      rw [bndOf_at hVS hb6] at hb
      exact hb.mono (by decide)
     case m9 => exact subB_i (wJ _ (by omega) (by omega))
     case s11 =>
      refine ⟨hb6, fun j hj => ?_⟩
      by_cases hj5 : j = z5
      · subst hj5; exact hz6.symm.trans hb7
      · exact hq5.2 j (by omega)
     case m10 =>
      have : S.length - (z5 + 1) < S.length - z5 := by omega
      exact this
     case s12 => exact cntT_fit t (by omega)
     all_goals obtain ⟨s, hs, rfl⟩ := sort_err0 hz6 hb8
     all_goals have hall : ∀ i, i < S.length → ofV D (Srt.sort (S.getD i Sh.srt.nil)) (V.getD i Sh.vl.nil) = true := fun i hi => hq5.2 i (by omega)
     all_goals obtain ⟨v, hev, hov⟩ := ev_sound hVS hall hs
     case s13 => exact ⟨by have := cntT_size t; omega, by omega, hB, hD⟩
     all_goals have e7 := hz7.trans hev
     all_goals subst e7
     case m13 => exact absurd rfl hb9
     case s14 => exact (evalT_fit hB hD (by omega) hev).1.mono (by omega)
     case m12 => exact (subB_b (hz8.trans hov)).sub
   · cases hs
 · cases hs
end Go.Proofs.YtpjjdngoblfleaaGreat
