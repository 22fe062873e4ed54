/- The law ModelTruths: whatever the data, bounds, terms, it returns true. -/
import Derived.Test.YtpjjdngoblfleaaMt
namespace Go.Proofs.Ytpjjdngoblfleaa
open Go.RowKit
set_option linter.unusedVariables false
set_option maxRecDepth 100000

theorem evalL_one {D : List Dat} {B : List Bnd} {s : Tw} {v : Vw} (h : evalT D B s = .ok v) : evalL D B [s] = .ok [v] := by
  rw [evalL, h, evalL]
theorem evalL_two {D : List Dat} {B : List Bnd} {s t : Tw} {v w : Vw} (h : evalT D B s = .ok v) (h1 : evalT D B t = .ok w) : evalL D B [s, t] = .ok [v, w] := by
  rw [evalL, h, evalL_one h1]
theorem evG_one {k : Int} {s : Tw} (hk : manyM k = (1, true)) : EvG (conT k [s]) := ⟨fun h => absurd h.2 (by show ¬ (1 : Nat) = 0; decide), by show (manyM k).2 = true; rw [hk], fun _ => by show ((1 : Nat) : Int) = (manyM k).1; rw [hk]; rfl⟩
theorem evG_two {k : Int} {s t : Tw} (hk : manyM k = (2, true)) : EvG (conT k [s, t]) := ⟨fun h => absurd h.2 (by show ¬ (2 : Nat) = 0; decide), by show (manyM k).2 = true; rw [hk], fun _ => by show ((2 : Nat) : Int) = (manyM k).1; rw [hk]; rfl⟩
theorem evG_any {k : Int} {l : List Tw} (hk : manyM k = (-1, true)) (h1 : ¬ k = 1) : EvG (conT k l) := ⟨fun h => h1 h.1, by show (manyM k).2 = true; rw [hk], fun h => by
  have h : 0 ≤ (manyM k).1 := h
  rw [hk] at h; exact absurd h (by decide)⟩
theorem allV_one {v : Vw} {k : Int} (h : v.kind = k) : allV [v] k = true := allV_iff.2 fun u hu => by
  obtain rfl : u = v := by simpa using hu
  exact h
theorem allV_two {v w : Vw} {k : Int} (h : v.kind = k) (h1 : w.kind = k) : allV [v, w] k = true := allV_iff.2 fun u hu => by
  rcases List.mem_cons.1 hu with rfl | hu
  · exact h
  · obtain rfl : u = w := by simpa using hu
    exact h1
theorem eachV_two (v w : Vw) (b : Bool) : eachV [v, w] b = (decide (v.truth = b) && decide (w.truth = b)) := by
  cases h : eachV [v, w] b with
  | true =>
    have := eachV_iff.1 h
    rw [decide_eq_true (this v (by simp)), decide_eq_true (this w (by simp))]; rfl
  | false =>
    by_cases h1 : v.truth = b
    · by_cases h2 : w.truth = b
      · have : eachV [v, w] b = true := eachV_iff.2 fun u hu => by
          rcases List.mem_cons.1 hu with rfl | hu
          · exact h1
          · obtain rfl : u = w := by simpa using hu
            exact h2
        rw [h] at this; cases this
      · rw [decide_eq_false h2]; simp
    · rw [decide_eq_false h1]; rfl
section
variable {D : List Dat} {B : List Bnd} {s t : Tw} {v w : Vw}
theorem t_not (h : evalT D B s = .ok v) (hk : v.kind = 2) : evalT D B (conT 10 [s]) = .ok (boolV (!v.truth)) :=
  ev_ok (evG_one (by decide)) (evalL_one h) (by rw [opW_10 rfl, allV_one hk]; rfl)
theorem t_and (h : evalT D B s = .ok v) (h1 : evalT D B t = .ok w) (hk : v.kind = 2) (hk1 : w.kind = 2) : evalT D B (conT 11 [s, t]) = .ok (boolV (v.truth && w.truth)) :=
  ev_ok (evG_any (by decide) (by decide)) (evalL_two h h1) (by rw [opW_11 rfl, allV_two hk hk1, eachV_two]; simp)
theorem t_or (h : evalT D B s = .ok v) (h1 : evalT D B t = .ok w) (hk : v.kind = 2) (hk1 : w.kind = 2) : evalT D B (conT 12 [s, t]) = .ok (boolV (v.truth || w.truth)) :=
  ev_ok (evG_any (by decide) (by decide)) (evalL_two h h1) (by rw [opW_12 rfl, allV_two hk hk1, eachV_two]; cases v.truth <;> cases w.truth <;> rfl)
theorem t_iff (h : evalT D B s = .ok v) (h1 : evalT D B t = .ok w) (hk : v.kind = 2) (hk1 : w.kind = 2) : evalT D B (conT 13 [s, t]) = .ok (boolV (v.truth == w.truth)) :=
  ev_ok (evG_two (by decide)) (evalL_two h h1) (by rw [opW_13 rfl, allV_two hk hk1]; rfl)
theorem t_le (h : evalT D B s = .ok v) (h1 : evalT D B t = .ok w) (hk : v.kind = 1) (hk1 : w.kind = 1) : evalT D B (conT 9 [s, t]) = .ok (boolV (decide (cmpI (zV v.neg v.digits) (zV w.neg w.digits) ≤ 0))) :=
  ev_ok (evG_two (by decide)) (evalL_two h h1) (by rw [opW_9 rfl, allV_two hk hk1]; rfl)
theorem t_eq (h : evalT D B s = .ok v) (h1 : evalT D B t = .ok w) (hk : v.kind = 1) (hk1 : w.kind = 1) : evalT D B (conT 8 [s, t]) = .ok (boolV (sameV v w)) :=
  ev_ok (evG_two (by decide)) (evalL_two h h1) (by rw [opW_8 rfl, allV_two hk hk1]; rfl)
theorem t_add (h : evalT D B s = .ok v) (h1 : evalT D B t = .ok w) (hk : v.kind = 1) (hk1 : w.kind = 1) : evalT D B (conT 5 [s, t]) = .ok (numV (zV v.neg v.digits + zV w.neg w.digits)) :=
  ev_ok (evG_any (by decide) (by decide)) (evalL_two h h1) (by rw [opW_5 rfl, allV_two hk hk1]; simp [sumW])
end
/-- A number of whole terms is told by its value. -/
theorem num_canon {D : List Dat} {v : Vw} (h : okW D v) (hk : v.kind = 1) : v = numV (zV v.neg v.digits) := by
  obtain ⟨-, ⟨h1, h2⟩, -⟩ := okW_eq.1 h
  obtain ⟨h3, h4⟩ := rightZ_digs h1
  have h5 := noneB_flds h2 (by omega)
  cases v with
  | mk k b d x n l =>
    have hk : k = 1 := hk
    have h3 : b = zNeg (zV b d) := h3
    have h4 : d = digs 1000000000 (zV b d).natAbs := h4
    have h5 : l = [] := h5
    simp only [noneB, Vw.kind, Vw.truth, Vw.name, Vw.fields, Bool.and_eq_true, Bool.or_eq_true, decide_eq_true_eq] at h2
    obtain ⟨⟨-, h6⟩, h7⟩ := h2
    have h6 : x = false := by
      rcases h6 with h6 | h6
      · have := of_decide_eq_true h6; omega
      · simpa using h6
    have h7 : n = ⟨#[]⟩ := by
      rcases h7 with h7 | h7
      · have := of_decide_eq_true h7; omega
      · exact of_decide_eq_true h7.1
    show Vw.mk k b d x n l = Vw.mk 1 (zNeg (zV b d)) (digs 1000000000 (zV b d).natAbs) false ⟨#[]⟩ []
    rw [← h3, ← h4, hk, h5, h6, h7]
theorem numV_val (z : Int) : zV (numV z).neg (numV z).digits = z := zV_digs z
theorem great_no {D : List Dat} {B : List Bnd} {l : List Tw} (h : greatE D B l = false) : cntD D ≤ 600 ∧ cntB B ≤ 600 ∧ cntTL l ≤ 600 := by
  simp only [greatE, Bool.or_eq_false_iff, decide_eq_false_iff_not] at h
  obtain ⟨h1, h2, h3⟩ := h
  have e1 := capD_exact D 600 (by omega)
  have e2 := capB_exact B 600 (by omega)
  have e3 := capTL_exact l 600 (by omega)
  omega
theorem cntB_mem {B : List Bnd} {b : Bnd} (h : b ∈ B) : cntV b.value ≤ cntB B := by
  induction B with
  | nil => cases h
  | cons c B ih =>
    rw [cntB]
    rcases List.mem_cons.1 h with rfl | h
    · omega
    · have := ih h; omega
theorem cntD_mem {D : List Dat} {d : Dat} (h : d ∈ D) : cntK d.cons ≤ cntD D := by
  induction D with
  | nil => cases h
  | cons c B ih =>
    rw [cntD]
    rcases List.mem_cons.1 h with rfl | h
    · omega
    · have := ih h; omega
theorem fitB_of {B : List Bnd} (h : cntB B ≤ 600) : fitB 600 B := fun b hb => cntV_fit _ _ (Nat.le_trans (cntB_mem hb) h) (by decide)
theorem fitD_of {D : List Dat} (h : cntD D ≤ 600) : fitD D := fun d hd => by
  have h1 := cntD_mem hd
  have h2 := cntK_len d.cons
  omega
def tvI (b : Bool) : Int := if b = true then 1 else 0
theorem truth_b {D : List Dat} {B : List Bnd} {t : Tw} {b : Bool} (h : evalT D B t = .ok (boolV b)) : truthE D B t = tvI b := truth_ok h rfl
theorem cnt_con1 (k : Int) (s : Tw) : cntT (conT k [s]) = 1 + cntT s := by
  show 1 + (⟨#[]⟩ : ByteArray).size / 8 + 0 + (cntT s + 0) = _
  show 1 + 0 / 8 + 0 + (cntT s + 0) = _
  omega
theorem cnt_con2 (k : Int) (s t : Tw) : cntT (conT k [s, t]) = 1 + cntT s + cntT t := by
  show 1 + (⟨#[]⟩ : ByteArray).size / 8 + 0 + (cntT s + (cntT t + 0)) = _
  show 1 + 0 / 8 + 0 + (cntT s + (cntT t + 0)) = _
  omega
theorem truths_law {D : List Dat} {B : List Bnd} {s t : Tw} {z2 z3 z5 z7 z9 z11 z16 : Int} (h2 : z2 = truthE D B s) (h3 : z3 = truthE D B t) (h5 : z5 = truthE D B (conT 10 [s])) (h7 : z7 = truthE D B (conT 11 [s, t]))
    (h9 : z9 = truthE D B (conT 12 [s, t])) (h11 : z11 = truthE D B (conT 13 [s, t])) (h16 : z16 = truthE D B (conT 10 [conT 11 [conT 10 [s], conT 10 [t]]])) (h1 : z2 ≥ 0) (h1' : z3 ≥ 0) :
    Sub (PV.f (Lf.v (Value.bool ((z11 == 1) == (z2 == z3))))) (bV true) ∧ z5 = IntKind.i64.wrap (1 - z2) ∧ z7 = IntKind.i64.wrap (z2 * z3) ∧ z9 = IntKind.i64.wrap (IntKind.i64.wrap (z2 + z3) - IntKind.i64.wrap (z2 * z3)) ∧ z16 = z9 := by
  obtain ⟨v, hv, kv⟩ := truth_is (by omega : 0 ≤ truthE D B s)
  obtain ⟨w, hw, kw⟩ := truth_is (by omega : 0 ≤ truthE D B t)
  have e2 := h2.trans (truth_ok hv kv)
  have e3 := h3.trans (truth_ok hw kw)
  have e5 := h5.trans (truth_b (t_not hv kv))
  have e7 := h7.trans (truth_b (t_and hv hw kv kw))
  have e9 := h9.trans (truth_b (t_or hv hw kv kw))
  have e11 := h11.trans (truth_b (t_iff hv hw kv kw))
  have e16 := h16.trans (truth_b (t_not (t_and (t_not hv kv) (t_not hw kw) rfl rfl) rfl))
  have eb : ∀ a b : Bool, (boolV (a && b)).truth = (a && b) := fun _ _ => rfl
  have eb1 : ∀ a : Bool, (boolV a).truth = a := fun _ => rfl
  simp only [eb1] at e16
  rw [e2, e3, e5, e7, e9, e11, e16]
  clear h1 h1' h2 h3 h5 h7 h9 h11 h16 e2 e3 e5 e7 e9 e11 e16
  cases v.truth <;> cases w.truth <;> exact ⟨(subB_b (by decide)).sub, by decide, by decide, by decide, by decide⟩
theorem order_law {v w : Vw} {z8 z10 z12 : Int} (cv : v = numV (zV v.neg v.digits)) (cw : w = numV (zV w.neg w.digits)) (h8 : z8 = tvI (decide (cmpI (zV v.neg v.digits) (zV w.neg w.digits) ≤ 0))) (h10 : z10 = tvI (decide (cmpI (zV w.neg w.digits) (zV v.neg v.digits) ≤ 0)))
    (h12 : z12 = tvI (sameV v w)) : IntKind.i64.wrap (z8 + z10) ≥ 1 ∧ z12 = IntKind.i64.wrap (z8 * z10) := by
  rcases Int.lt_trichotomy (zV v.neg v.digits) (zV w.neg w.digits) with h | h | h
  · have hs : sameV v w = false := by
      cases hc : sameV v w with
      | false => rfl
      | true => rw [sameV_iff.1 hc] at h; omega
    rw [cmpI_lt h] at h8; rw [cmpI_gt h] at h10; rw [hs] at h12
    rw [h8, h10, h12]
    exact ⟨by decide, by decide⟩
  · have hs : sameV v w = true := sameV_iff.2 (by rw [cv, cw, h])
    rw [cmpI_eq h] at h8; rw [cmpI_eq h.symm] at h10; rw [hs] at h12
    rw [h8, h10, h12]
    exact ⟨by decide, by decide⟩
  · have hs : sameV v w = false := by
      cases hc : sameV v w with
      | false => rfl
      | true => rw [sameV_iff.1 hc] at h; omega
    rw [cmpI_gt h] at h8; rw [cmpI_lt h] at h10; rw [hs] at h12
    rw [h8, h10, h12]
    exact ⟨by decide, by decide⟩
theorem sum_len {D : List Dat} {v w : Vw} (hv : okW D v) (hw : okW D w) : (numV (zV v.neg v.digits + zV w.neg w.digits)).digits.length ≤ v.digits.length + w.digits.length + 1 :=
  ((right_zb (okW_eq.1 hv).2.1.1).add (right_zb (okW_eq.1 hw).2.1.1)).len
noncomputable def sLawT : Spec
  | [.f x, .f y, z, u] => match dtOf .dat x, dtOf .bnd y, tmOf z, tmOf u with
    | some D, some B, some s, some t => some (some (cntD D ≤ 2000000 ∧ cntB B ≤ 2000000 ∧ cntT s ≤ 2000000 ∧ cntT t ≤ 2000000), .one (bV true))
    | _, _, _, _ => none
  | _ => none
theorem cLawT {E : Env} (hU : Up E) : Contract Try.prog E 4 sLawT := by
  refine contract_D [(12, sTrue5), (13, sGreat5), (14, sTruthE), (15, sMadeL), (18, sSub), (17, sSame)] [(16, sEvalN 10000)] Try.ntmps4 Try.func4 (by kernel_rfl) (by kernel_rfl) hU ⟨cAwake5 hU, cGreat5 hU, cTruth5 hU, cMade5 hU, cSub hU, cSame, trivial⟩ ⟨cEvalN hU _, trivial⟩ ?_
  intro xs p r hs hp
  unfold sLawT at hs
  split at hs
  · rename_i x y z u
    split at hs
    · rename_i D B s t h1 h2 h3 h4
      cases hs
      obtain ⟨pD, pB, ps, pt⟩ := hp _ rfl
      refine ⟨[.f (.dt .dat D), .f (.dt .bnd B), tmP s, tmP t], [(1000012, .s ⟨Unit, fun _ => ⟨[(0, .f (.dt .dat D)), (1, .f (.dt .bnd B)), (6, .bp 0 0), (7, .bp 1 0)], [.cells (wrapF (tmC s)), .cells (wrapF (tmC t))]⟩, fun _ => greatE D B [s, t] = false, fun _ => 0⟩)], .cons (dt_sub h1).sub (.cons (dt_sub h2).sub (.cons (tm_sub h3).sub (.cons (tm_sub h4).sub .nil))), rfl, fun _ hsh => ?_⟩
      refine cast_rfl (p := (cntD D ≤ 4000000 ∧ cntB B ≤ 4000000 ∧ cntTL [Tw.mk s.kind s.name s.neg s.digits s.kids, Tw.mk t.kind t.name t.neg t.digits t.kids] ≤ 4000000) ∧ ∀ (z1 : Bool), z1 = greatE D B [Tw.mk s.kind s.name s.neg s.digits s.kids, Tw.mk t.kind t.name t.neg t.digits t.kids] → ifB z1 (true = true ∧ Sub (PV.f (Lf.v (Value.bool true))) (PV.f (Lf.v (Value.bool true)))) ((cntT (Tw.mk s.kind s.name s.neg s.digits s.kids) ≤ 9000 ∧ fitB 600 B ∧ fitD D) ∧ ∀ (z2 : Int), z2 = truthE D B (Tw.mk s.kind s.name s.neg s.digits s.kids) → (cntT (Tw.mk t.kind t.name t.neg t.digits t.kids) ≤ 9000 ∧ fitB 600 B ∧ fitD D) ∧ ∀ (z3 : Int), z3 = truthE D B (Tw.mk t.kind t.name t.neg t.digits t.kids) → ifB (decide (z2 ≥ (0 : Int))) (ifB (decide (z3 ≥ (0 : Int))) (∀ (z4 : Tw), z4 = conT (10 : Int) [Tw.mk s.kind s.name s.neg s.digits s.kids] → (cntT (Tw.mk z4.kind z4.name z4.neg z4.digits z4.kids) ≤ 9000 ∧ fitB 600 B ∧ fitD D) ∧ ∀ (z5 : Int), z5 = truthE D B (Tw.mk z4.kind z4.name z4.neg z4.digits z4.kids) → ∀ (z6 : Tw), z6 = conT (11 : Int) [Tw.mk s.kind s.name s.neg s.digits s.kids, Tw.mk t.kind t.name t.neg t.digits t.kids] → (cntT (Tw.mk z6.kind z6.name z6.neg z6.digits z6.kids) ≤ 9000 ∧ fitB 600 B ∧ fitD D) ∧ ∀ (z7 : Int), z7 = truthE D B (Tw.mk z6.kind z6.name z6.neg z6.digits z6.kids) → ∀ (z8 : Tw), z8 = conT (12 : Int) [Tw.mk s.kind s.name s.neg s.digits s.kids, Tw.mk t.kind t.name t.neg t.digits t.kids] → (cntT (Tw.mk z8.kind z8.name z8.neg z8.digits z8.kids) ≤ 9000 ∧ fitB 600 B ∧ fitD D) ∧ ∀ (z9 : Int), z9 = truthE D B (Tw.mk z8.kind z8.name z8.neg z8.digits z8.kids) → ∀ (z10 : Tw), z10 = conT (13 : Int) [Tw.mk s.kind s.name s.neg s.digits s.kids, Tw.mk t.kind t.name t.neg t.digits t.kids] → (cntT (Tw.mk z10.kind z10.name z10.neg z10.digits z10.kids) ≤ 9000 ∧ fitB 600 B ∧ fitD D) ∧ ∀ (z11 : Int), z11 = truthE D B (Tw.mk z10.kind z10.name z10.neg z10.digits z10.kids) → ∀ (z12 : Tw), z12 = conT (10 : Int) [Tw.mk s.kind s.name s.neg s.digits s.kids] → ∀ (z13 : Tw), z13 = conT (10 : Int) [Tw.mk t.kind t.name t.neg t.digits t.kids] → ∀ (z14 : Tw), z14 = conT (11 : Int) [Tw.mk z12.kind z12.name z12.neg z12.digits z12.kids, Tw.mk z13.kind z13.name z13.neg z13.digits z13.kids] → ∀ (z15 : Tw), z15 = conT (10 : Int) [Tw.mk z14.kind z14.name z14.neg z14.digits z14.kids] → (cntT (Tw.mk z15.kind z15.name z15.neg z15.digits z15.kids) ≤ 9000 ∧ fitB 600 B ∧ fitD D) ∧ ∀ (z16 : Int), z16 = truthE D B (Tw.mk z15.kind z15.name z15.neg z15.digits z15.kids) → ifB (z5 == IntKind.i64.wrap ((1 : Int) - z2)) (ifB (z7 == IntKind.i64.wrap (z2 * z3)) (ifB (z9 == IntKind.i64.wrap (IntKind.i64.wrap (z2 + z3) - IntKind.i64.wrap (z2 * z3))) (ifB (z16 == z9) (true = true ∧ Sub (PV.f (Lf.v (Value.bool ((z11 == (1 : Int)) == (z2 == z3))))) (PV.f (Lf.v (Value.bool true)))) (true = true ∧ Sub (PV.f (Lf.v (Value.bool false))) (PV.f (Lf.v (Value.bool true))))) (true = true ∧ Sub (PV.f (Lf.v (Value.bool false))) (PV.f (Lf.v (Value.bool true))))) (true = true ∧ Sub (PV.f (Lf.v (Value.bool false))) (PV.f (Lf.v (Value.bool true))))) (true = true ∧ Sub (PV.f (Lf.v (Value.bool false))) (PV.f (Lf.v (Value.bool true))))) (∃ (x4 : Unit), (((SubB (PV.f (Lf.v (Value.int IntKind.u8 s.kind))) (PV.f (Lf.v (Value.int IntKind.u8 s.kind))) ∧ SubB (PV.f (Lf.v (Value.string s.name))) (PV.f (Lf.v (Value.string s.name))) ∧ SubB (PV.f (Lf.v (Value.bool s.neg))) (PV.f (Lf.v (Value.bool s.neg))) ∧ SubB (PV.f (Lf.lr s.digits s.digits.length)) (PV.f (Lf.lr s.digits s.digits.length)) ∧ SubB (PV.f (Lf.dt Sh.tm s.kids)) (PV.f (Lf.dt Sh.tm s.kids)) ∧ True) ∧ (SubB (PV.f (Lf.v (Value.int IntKind.u8 t.kind))) (PV.f (Lf.v (Value.int IntKind.u8 t.kind))) ∧ SubB (PV.f (Lf.v (Value.string t.name))) (PV.f (Lf.v (Value.string t.name))) ∧ SubB (PV.f (Lf.v (Value.bool t.neg))) (PV.f (Lf.v (Value.bool t.neg))) ∧ SubB (PV.f (Lf.lr t.digits t.digits.length)) (PV.f (Lf.lr t.digits t.digits.length)) ∧ SubB (PV.f (Lf.dt Sh.tm t.kids)) (PV.f (Lf.dt Sh.tm t.kids)) ∧ True) ∧ True) ∧ SubB (PV.f (Lf.dt Sh.dat D)) (PV.f (Lf.dt Sh.dat D)) ∧ SubB (PV.f (Lf.dt Sh.bnd B)) (PV.f (Lf.dt Sh.bnd B)) ∧ SubB (PV.bp 0 0) (PV.bp 0 0) ∧ SubB (PV.bp 1 0) (PV.bp 1 0) ∧ True) ∧ greatE D B [s, t] = false)) (∃ (x4 : Unit), (((SubB (PV.f (Lf.v (Value.int IntKind.u8 s.kind))) (PV.f (Lf.v (Value.int IntKind.u8 s.kind))) ∧ SubB (PV.f (Lf.v (Value.string s.name))) (PV.f (Lf.v (Value.string s.name))) ∧ SubB (PV.f (Lf.v (Value.bool s.neg))) (PV.f (Lf.v (Value.bool s.neg))) ∧ SubB (PV.f (Lf.lr s.digits s.digits.length)) (PV.f (Lf.lr s.digits s.digits.length)) ∧ SubB (PV.f (Lf.dt Sh.tm s.kids)) (PV.f (Lf.dt Sh.tm s.kids)) ∧ True) ∧ (SubB (PV.f (Lf.v (Value.int IntKind.u8 t.kind))) (PV.f (Lf.v (Value.int IntKind.u8 t.kind))) ∧ SubB (PV.f (Lf.v (Value.string t.name))) (PV.f (Lf.v (Value.string t.name))) ∧ SubB (PV.f (Lf.v (Value.bool t.neg))) (PV.f (Lf.v (Value.bool t.neg))) ∧ SubB (PV.f (Lf.lr t.digits t.digits.length)) (PV.f (Lf.lr t.digits t.digits.length)) ∧ SubB (PV.f (Lf.dt Sh.tm t.kids)) (PV.f (Lf.dt Sh.tm t.kids)) ∧ True) ∧ True) ∧ SubB (PV.f (Lf.dt Sh.dat D)) (PV.f (Lf.dt Sh.dat D)) ∧ SubB (PV.f (Lf.dt Sh.bnd B)) (PV.f (Lf.dt Sh.bnd B)) ∧ SubB (PV.bp 0 0) (PV.bp 0 0) ∧ SubB (PV.bp 1 0) (PV.bp 1 0) ∧ True) ∧ greatE D B [s, t] = false) ∧ ∀ (z4 : Unit), greatE D B [s, t] = false → ((Tw.mk s.kind s.name s.neg s.digits s.kids).size < 10000 ∧ cntT (Tw.mk s.kind s.name s.neg s.digits s.kids) ≤ 9000 ∧ fitB 600 B ∧ fitD D) ∧ ∀ (z5 : Except Int Vw), z5 = evalT D B (Tw.mk s.kind s.name s.neg s.digits s.kids) → ((Tw.mk t.kind t.name t.neg t.digits t.kids).size < 10000 ∧ cntT (Tw.mk t.kind t.name t.neg t.digits t.kids) ≤ 9000 ∧ fitB 600 B ∧ fitD D) ∧ ∀ (z6 : Except Int Vw), z6 = evalT D B (Tw.mk t.kind t.name t.neg t.digits t.kids) → ifB (errE z5 != (0 : Int)) (true = true ∧ Sub (PV.f (Lf.v (Value.bool true))) (PV.f (Lf.v (Value.bool true)))) (ifB (errE z6 != (0 : Int)) (true = true ∧ Sub (PV.f (Lf.v (Value.bool true))) (PV.f (Lf.v (Value.bool true)))) (ifB ((valE z0V z5).kind != (1 : Int)) (true = true ∧ Sub (PV.f (Lf.v (Value.bool true))) (PV.f (Lf.v (Value.bool true)))) (ifB ((valE z0V z6).kind != (1 : Int)) (true = true ∧ Sub (PV.f (Lf.v (Value.bool true))) (PV.f (Lf.v (Value.bool true)))) (∀ (z7 : Tw), z7 = conT (9 : Int) [Tw.mk s.kind s.name s.neg s.digits s.kids, Tw.mk t.kind t.name t.neg t.digits t.kids] → (cntT (Tw.mk z7.kind z7.name z7.neg z7.digits z7.kids) ≤ 9000 ∧ fitB 600 B ∧ fitD D) ∧ ∀ (z8 : Int), z8 = truthE D B (Tw.mk z7.kind z7.name z7.neg z7.digits z7.kids) → ∀ (z9 : Tw), z9 = conT (9 : Int) [Tw.mk t.kind t.name t.neg t.digits t.kids, Tw.mk s.kind s.name s.neg s.digits s.kids] → (cntT (Tw.mk z9.kind z9.name z9.neg z9.digits z9.kids) ≤ 9000 ∧ fitB 600 B ∧ fitD D) ∧ ∀ (z10 : Int), z10 = truthE D B (Tw.mk z9.kind z9.name z9.neg z9.digits z9.kids) → ∀ (z11 : Tw), z11 = conT (8 : Int) [Tw.mk s.kind s.name s.neg s.digits s.kids, Tw.mk t.kind t.name t.neg t.digits t.kids] → (cntT (Tw.mk z11.kind z11.name z11.neg z11.digits z11.kids) ≤ 9000 ∧ fitB 600 B ∧ fitD D) ∧ ∀ (z12 : Int), z12 = truthE D B (Tw.mk z11.kind z11.name z11.neg z11.digits z11.kids) → ∀ (z13 : Tw), z13 = conT (5 : Int) [Tw.mk s.kind s.name s.neg s.digits s.kids, Tw.mk t.kind t.name t.neg t.digits t.kids] → ((Tw.mk z13.kind z13.name z13.neg z13.digits z13.kids).size < 10000 ∧ cntT (Tw.mk z13.kind z13.name z13.neg z13.digits z13.kids) ≤ 9000 ∧ fitB 600 B ∧ fitD D) ∧ ∀ (z14 : Except Int Vw), z14 = evalT D B (Tw.mk z13.kind z13.name z13.neg z13.digits z13.kids) → ifB (decide (IntKind.i64.wrap (z8 + z10) ≥ (1 : Int))) (ifB (z12 == IntKind.i64.wrap (z8 * z10)) (ifB (errE z14 == (0 : Int)) ((valE z0V z14).digits.length + (valE z0V z6).digits.length ≤ 40000 ∧ ∀ (z15 : Int), z15 = zV (valE z0V z14).neg (valE z0V z14).digits - zV (valE z0V z6).neg (valE z0V z6).digits → (valE z0V z14).digits.length + (1 : Nat) + ((valE z0V z6).digits.length + (1 : Nat)) + 1 + (valE z0V z5).digits.length ≤ 900000 ∧ true = true ∧ Sub (PV.f (Lf.v (Value.bool (zNeg z15 == (valE z0V z5).neg && eqB (digs (1000000000 : Nat) z15.natAbs) (valE z0V z5).digits)))) (PV.f (Lf.v (Value.bool true)))) (true = true ∧ Sub (PV.f (Lf.v (Value.bool false))) (PV.f (Lf.v (Value.bool true))))) (true = true ∧ Sub (PV.f (Lf.v (Value.bool false))) (PV.f (Lf.v (Value.bool true))))) (true = true ∧ Sub (PV.f (Lf.v (Value.bool false))) (PV.f (Lf.v (Value.bool true)))))))))) ?kr ?_
      case kr => kernel_rfl
      refine ⟨?s0, fun z1 => fun hz1 => ifB_iff.2 ⟨fun hb0 => ⟨rfl, ?m0⟩, fun hb0 => ⟨?s1, fun z2 => fun hz2 => ⟨?s2, fun z3 => fun hz3 => ⟨ifB_iff.2 ⟨fun hb1 => ifB_iff.2 ⟨fun hb2 => fun z4 => fun hz4 => ⟨?s3, fun z5 => fun hz5 => fun z6 => fun hz6 => ⟨?s4, fun z7 => fun hz7 => fun z8 => fun hz8 => ⟨?s5, fun z9 => fun hz9 => fun z10 => fun hz10 => ⟨?s6, fun z11 => fun hz11 => fun z12 => fun hz12 => fun z13 => fun hz13 => fun z14 => fun hz14 => fun z15 => fun hz15 => ⟨?s7, fun z16 => fun hz16 => ifB_iff.2 ⟨fun hb3 => ifB_iff.2 ⟨fun hb4 => ifB_iff.2 ⟨fun hb5 => ifB_iff.2 ⟨fun hb6 => ⟨rfl, ?m1⟩, fun hb6 => ⟨rfl, ?m2⟩⟩, fun hb5 => ⟨rfl, ?m3⟩⟩, fun hb4 => ⟨rfl, ?m4⟩⟩, fun hb3 => ⟨rfl, ?m5⟩⟩⟩⟩⟩⟩⟩, fun hb2 => ⟨?x0, ⟨⟨⟨⟨.refl _, ⟨.refl _, ⟨.refl _, ⟨.refl _, ⟨.refl _, trivial⟩⟩⟩⟩⟩, ⟨⟨.refl _, ⟨.refl _, ⟨.refl _, ⟨.refl _, ⟨.refl _, trivial⟩⟩⟩⟩⟩, trivial⟩⟩, ⟨.refl _, ⟨.refl _, ⟨.refl _, ⟨.refl _, trivial⟩⟩⟩⟩⟩, ?m6⟩⟩⟩, fun hb1 => ⟨?x1, ⟨⟨⟨⟨.refl _, ⟨.refl _, ⟨.refl _, ⟨.refl _, ⟨.refl _, trivial⟩⟩⟩⟩⟩, ⟨⟨.refl _, ⟨.refl _, ⟨.refl _, ⟨.refl _, ⟨.refl _, trivial⟩⟩⟩⟩⟩, trivial⟩⟩, ⟨.refl _, ⟨.refl _, ⟨.refl _, ⟨.refl _, trivial⟩⟩⟩⟩⟩, ?m7⟩⟩⟩, fun z4 => fun hq7 => ⟨?s8, fun z5 => fun hz5 => ⟨?s9, fun z6 => fun hz6 => ifB_iff.2 ⟨fun hb8 => ⟨rfl, ?m8⟩, fun hb8 => ifB_iff.2 ⟨fun hb9 => ⟨rfl, ?m9⟩, fun hb9 => ifB_iff.2 ⟨fun hb10 => ⟨rfl, ?m10⟩, fun hb10 => ifB_iff.2 ⟨fun hb11 => ⟨rfl, ?m11⟩, fun hb11 => fun z7 => fun hz7 => ⟨?s10, fun z8 => fun hz8 => fun z9 => fun hz9 => ⟨?s11, fun z10 => fun hz10 => fun z11 => fun hz11 => ⟨?s12, fun z12 => fun hz12 => fun z13 => fun hz13 => ⟨?s13, fun z14 => fun hz14 => ifB_iff.2 ⟨fun hb12 => ifB_iff.2 ⟨fun hb13 => ifB_iff.2 ⟨fun hb14 => ⟨?s14, fun z15 => fun hz15 => ⟨?s15, ⟨rfl, ?m12⟩⟩⟩, fun hb14 => ⟨rfl, ?m13⟩⟩, fun hb13 => ⟨rfl, ?m14⟩⟩, fun hb12 => ⟨rfl, ?m15⟩⟩⟩⟩⟩⟩⟩⟩⟩⟩⟩⟩⟩⟩⟩⟩⟩
      all_goals try simp only [Tw.eta, beq_iff_eq, beq_eq_false_iff_ne, bne_iff_ne, ne_eq, bne_eq_false_iff_eq, decide_eq_true_eq, decide_eq_false_iff_not] at *
      case x0 => exact ()
      case x1 => exact ()
      case s0 => exact ⟨by omega, by omega, by simp only [cntTL]; omega⟩
      case m0 => exact .refl _
      case m6 => rw [← hz1]; exact hb0
      case m7 => rw [← hz1]; exact hb0
      all_goals have hgr : greatE D B [s, t] = false := by first | exact hz1.symm.trans hb0 | exact hq7
      all_goals obtain ⟨gD, gB, gl⟩ := great_no hgr
      all_goals simp only [cntTL] at gl
      all_goals have hB := fitB_of gB
      all_goals have hD := fitD_of gD
      all_goals have zs := cntT_size s
      all_goals have zt := cntT_size t
      case s1 => exact ⟨by omega, hB, hD⟩
      case s2 => exact ⟨by omega, hB, hD⟩
      case s8 => exact ⟨by omega, by omega, hB, hD⟩
      case s9 => exact ⟨by omega, by omega, hB, hD⟩
      case m8 => exact .refl _
      case m9 => exact .refl _
      case m10 => exact .refl _
      case m11 => exact .refl _
      case s3 => subst hz4; exact ⟨by rw [cnt_con1]; omega, hB, hD⟩
      case s4 => subst hz6; exact ⟨by rw [cnt_con2]; omega, hB, hD⟩
      case s5 => subst hz8; exact ⟨by rw [cnt_con2]; omega, hB, hD⟩
      case s6 => subst hz10; exact ⟨by rw [cnt_con2]; omega, hB, hD⟩
      case s7 => subst hz12 hz13 hz14 hz15; exact ⟨by rw [cnt_con1, cnt_con2, cnt_con1, cnt_con1]; omega, hB, hD⟩
      case s10 => subst hz7; exact ⟨by rw [cnt_con2]; omega, hB, hD⟩
      case s11 => subst hz9; exact ⟨by rw [cnt_con2]; omega, hB, hD⟩
      case s12 => subst hz11; exact ⟨by rw [cnt_con2]; omega, hB, hD⟩
      case s13 =>
        subst hz13
        have := cntT_size (conT 5 [s, t])
        rw [cnt_con2] at this ⊢
        exact ⟨by omega, by omega, hB, hD⟩
      case m1 =>
        subst hz4 hz6 hz8 hz10 hz12 hz13 hz14 hz15
        exact (truths_law hz2 hz3 hz5 hz7 hz9 hz11 hz16 hb1 hb2).1
      case m2 =>
        subst hz4 hz6 hz8 hz10 hz12 hz13 hz14 hz15
        exact absurd (truths_law hz2 hz3 hz5 hz7 hz9 hz11 hz16 hb1 hb2).2.2.2.2 hb6
      case m3 =>
        subst hz4 hz6 hz8 hz10 hz12 hz13 hz14 hz15
        exact absurd (truths_law hz2 hz3 hz5 hz7 hz9 hz11 hz16 hb1 hb2).2.2.2.1 hb5
      case m4 =>
        subst hz4 hz6 hz8 hz10 hz12 hz13 hz14 hz15
        exact absurd (truths_law hz2 hz3 hz5 hz7 hz9 hz11 hz16 hb1 hb2).2.2.1 hb4
      case m5 =>
        subst hz4 hz6 hz8 hz10 hz12 hz13 hz14 hz15
        exact absurd (truths_law hz2 hz3 hz5 hz7 hz9 hz11 hz16 hb1 hb2).2.1 hb3
      all_goals obtain ⟨v, rfl⟩ := ev_is hz5 hb8
      all_goals obtain ⟨w, rfl⟩ := ev_is hz6 hb9
      all_goals have kv : v.kind = 1 := hb10
      all_goals have kw : w.kind = 1 := hb11
      all_goals have fv := evalT_fit hB hD (by omega) hz5.symm
      all_goals have fw := evalT_fit hB hD (by omega) hz6.symm
      all_goals have cv := num_canon fv.2 kv
      all_goals have cw := num_canon fw.2 kw
      all_goals subst hz7 hz9 hz11 hz13
      all_goals have e8 := hz8.trans (truth_b (t_le hz5.symm hz6.symm kv kw))
      all_goals have e10 := hz10.trans (truth_b (t_le hz6.symm hz5.symm kw kv))
      all_goals have e12 := hz12.trans (truth_b (t_eq hz5.symm hz6.symm kv kw))
      all_goals have e14 := hz14.trans (t_add hz5.symm hz6.symm kv kw)
      all_goals subst e14
      all_goals have hlaw := order_law cv cw e8 e10 e12
      case m15 => exact absurd hlaw.1 hb12
      case m14 => exact absurd hlaw.2 hb13
      case m13 => exact absurd rfl hb14
      all_goals have dv := ((Vw.fitV_eq _ v).1 fv.1).2.1
      all_goals have dw := ((Vw.fitV_eq _ w).1 fw.1).2.1
      all_goals have ds := sum_len fv.2 fw.2
      all_goals have hdv : (valE z0V (Except.ok v : Except Int Vw)).digits = v.digits := rfl
      all_goals have hdw : (valE z0V (Except.ok w : Except Int Vw)).digits = w.digits := rfl
      all_goals have hds : (valE z0V (Except.ok (numV (zV v.neg v.digits + zV w.neg w.digits)) : Except Int Vw)).digits = (numV (zV v.neg v.digits + zV w.neg w.digits)).digits := rfl
      case s14 => rw [hds, hdw]; omega
      case s15 => rw [hds, hdw, hdv]; omega
      case m12 =>
        have e15 : z15 = zV v.neg v.digits := by
          rw [hz15]
          show zV (numV (zV v.neg v.digits + zV w.neg w.digits)).neg (numV (zV v.neg v.digits + zV w.neg w.digits)).digits - zV w.neg w.digits = _
          rw [numV_val]; omega
        subst e15
        have h1 : v.neg = zNeg (zV v.neg v.digits) := (rightZ_digs (okW_eq.1 fv.2).2.1.1).1
        have h2 : v.digits = digs 1000000000 (zV v.neg v.digits).natAbs := (rightZ_digs (okW_eq.1 fv.2).2.1.1).2
        refine (subB_b ?_).sub
        show (zNeg (zV v.neg v.digits) == v.neg && eqB (digs 1000000000 (zV v.neg v.digits).natAbs) v.digits) = true
        rw [← h1, ← h2, eqB_self]
        simp
    · cases hs
  · cases hs
end Go.Proofs.Ytpjjdngoblfleaa
