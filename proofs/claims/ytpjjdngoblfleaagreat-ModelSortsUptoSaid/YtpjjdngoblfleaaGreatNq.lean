/- The law ModelSorts: whatever the data, sort, values, it returns true. -/
import Derived.Test.YtpjjdngoblfleaaGreatPn
import Derived.Test.YtpjjdngoblfleaaGreatTp
import Derived.Test.YtpjjdngoblfleaaGreatNw
import Derived.Test.YtpjjdngoblfleaaGreatMt
import Derived.Test.YtpjjdngoblfleaaGreatNm
namespace Go.Proofs.YtpjjdngoblfleaaGreat
open Go.RowKit
set_option linter.unusedVariables false
set_option maxRecDepth 100000
def sRightL : Spec
 | [.f x] => match limL x with
  | some (l, k) => some (some (k ≤ 1000000), .one (.f (.v (.bool (rgtB l)))))
  | none => none
 | _ => none
theorem rgt_last {l : List Nat} (h : 0 < l.length) : (l.getLast? != some 0) = (l.getD (l.length - 1) 0 != 0) := by
 rw [List.getLast?_eq_getElem?, List.getD_eq_getElem?_getD, List.getElem?_eq_getElem (show l.length - 1 < l.length by omega)]
 simp [bne]
theorem cRightL {E : Env} (hU : Up E) : Contract Tryz.prog E 69 sRightL := by
 refine contract_loopsG [] Tryz.ntmps69 Tryz.func69 (by kernel_rfl) (by kernel_rfl) hU trivial ?_
 intro xs p r hs hp
 unfold sRightL at hs
 split at hs
 · rename_i x
   split at hs
   · rename_i l k hx
     cases hs
     have hk := hp _ rfl
     refine ⟨[.f (.lr l k)], [(2, .s ⟨Nat, fun i => ⟨[(0, .f (.lr l k)), (3, .f (.v (.int .i64 (i : Nat))))], []⟩, fun i => i ≤ l.length ∧ ∀ j, j < i → dg l j < 1000000000, fun i => l.length - i⟩)], .cons (limL_sub hx) .nil, rfl, fun hgx hg => ?_⟩
     obtain ⟨a1, a2⟩ := hg.1.1
     refine cast_rfl (p := ∃ (x1 : Nat), (True ∧ SubB (PV.f (Lf.lr l k)) (PV.f (Lf.lr l k)) ∧ SubB (PV.f (Lf.v (Value.int IntKind.i64 (0 : Int)))) (PV.f (Lf.v (Value.int IntKind.i64 (↑x1 : Int)))) ∧ True) ∧ (x1 ≤ l.length ∧ ∀ (j : Nat), j < x1 → dg l j < 1000000000) ∧ True ∧ ∀ (z2 : Nat), (z2 ≤ l.length ∧ ∀ (j : Nat), j < z2 → dg l j < 1000000000) → True → ifB (decide ((↑z2 : Int) < (↑l.length : Int))) (((0 : Int) ≤ (↑z2 : Int) ∧ (↑z2 : Int) < (↑l.length : Int)) ∧ ifB (decide ((↑(l.getD (↑z2 : Int).toNat 0) : Int) ≥ (1000000000 : Int))) (true = true ∧ Sub (PV.f (Lf.v (Value.bool false))) (PV.f (Lf.v (Value.bool (rgtB l))))) (∃ (x3 : Nat), (True ∧ SubB (PV.f (Lf.lr l k)) (PV.f (Lf.lr l k)) ∧ SubB (PV.f (Lf.v (Value.int IntKind.i64 (IntKind.i64.wrap ((↑z2 : Int) + (1 : Int)))))) (PV.f (Lf.v (Value.int IntKind.i64 (↑x3 : Int)))) ∧ True) ∧ (x3 ≤ l.length ∧ ∀ (j : Nat), j < x3 → dg l j < 1000000000) ∧ True ∧ (l.length - x3).succ.le (l.length - z2))) (ifB ((↑l.length : Int) == (0 : Int)) (true = true ∧ Sub (PV.f (Lf.v (Value.bool true))) (PV.f (Lf.v (Value.bool (rgtB l))))) (((0 : Int) ≤ IntKind.i64.wrap ((↑l.length : Int) - (1 : Int)) ∧ IntKind.i64.wrap ((↑l.length : Int) - (1 : Int)) < (↑l.length : Int)) ∧ true = true ∧ Sub (PV.f (Lf.v (Value.bool ((↑(l.getD (IntKind.i64.wrap ((↑l.length : Int) - (1 : Int))).toNat 0) : Int) != (0 : Int))))) (PV.f (Lf.v (Value.bool (rgtB l))))))) ?kr ?_
     case kr => kernel_rfl
     refine ⟨?x0, ⟨⟨trivial, ⟨.refl _, ⟨?m0, trivial⟩⟩⟩, ⟨?s0, ⟨trivial, fun z2 => fun hq0 => fun _ => ifB_iff.2 ⟨fun hb1 => ⟨?s1, ifB_iff.2 ⟨fun hb2 => ⟨rfl, ?m1⟩, fun hb2 => ⟨?x1, ⟨⟨trivial, ⟨.refl _, ⟨?m2, trivial⟩⟩⟩, ⟨?s2, ⟨trivial, ?m3⟩⟩⟩⟩⟩⟩, fun hb1 => ifB_iff.2 ⟨fun hb3 => ⟨rfl, ?m4⟩, fun hb3 => ⟨?s3, ⟨rfl, ?m5⟩⟩⟩⟩⟩⟩⟩⟩
     case x0 => exact 0
     case x1 => exact z2 + 1
     case m0 => exact .refl _
     case s0 => exact ⟨Nat.zero_le _, fun j hj => absurd hj (Nat.not_lt_zero j)⟩
     case s1 => exact ⟨by omega, of_decide_eq_true hb1⟩
     case m1 =>
      have h1 := of_decide_eq_true hb1
      have h2 := of_decide_eq_true hb2
      rw [Int.toNat_natCast] at h2
      rw [rgtB_out (k := z2) (by omega) (by unfold dg; omega)]; exact .refl _
     case m2 => exact subB_succ (by have := of_decide_eq_true hb1; omega)
     case s2 =>
      have h1 := of_decide_eq_true hb1
      have h2 := of_decide_eq_false hb2
      rw [Int.toNat_natCast] at h2
      refine ⟨by omega, fun j hj => ?_⟩
      rcases Nat.lt_or_ge j z2 with h | h
      · exact hq0.2 j h
      · obtain rfl : j = z2 := by omega
        unfold dg; omega
     case m3 => have := of_decide_eq_true hb1; show l.length - (z2 + 1) + 1 ≤ l.length - z2; omega
     case m4 =>
      have h1 := eq_of_beq hb3
      have : l = [] := List.length_eq_zero_iff.1 (by omega)
      subst this; exact .refl _
     all_goals have h0 : 0 < l.length := (by
      rcases Nat.eq_zero_or_pos l.length with h | h
      · rw [h] at hb3; cases hb3
      · exact h)
     case s3 => rw [wJ _ (by omega) (by omega)]; exact ⟨by omega, by omega⟩
     case m5 =>
      have h1 := of_decide_eq_false hb1
      have hw : (IntKind.i64.wrap ((l.length : Int) - 1)).toNat = l.length - 1 := by rw [wJ _ (by omega) (by omega)]; omega
      have hall : l.all (fun x => decide (x < 1000000000)) = true := by
       rw [List.all_eq_true]
       intro x hx
       obtain ⟨j, hj, rfl⟩ := List.getElem_of_mem hx
       have h2 := hq0.2 j (by omega)
       rw [dg_eq _ _ hj] at h2
       exact decide_eq_true h2
      have hr : rgtB l = (l.getD (l.length - 1) 0 != 0) := by unfold rgtB; rw [hall, Bool.true_and, rgt_last h0]
      rw [hw, hr]
      refine sub_bool ?_
      rw [Bool.eq_iff_iff, bne_iff_ne, bne_iff_ne]
      omega
   · cases hs
 · cases hs
theorem cRightZ {E : Env} (hU : Up E) : Contract Tryz.prog E 27 sRight := by
 refine contract_loopsG [(69, sRightL)] Tryz.ntmps27 Tryz.func27 (by kernel_rfl) (by kernel_rfl) hU ⟨cRightL hU, trivial⟩ ?_
 intro xs p r hs hp
 unfold sRight at hs
 split at hs
 · rename_i x
   split at hs
   · rename_i n l k j hx
     cases hs
     have hk := hp _ rfl
     refine ⟨[rawP n l k], [], .cons (sub_raw hx) .nil, rfl, fun hgx hg => ?_⟩
     refine cast_rfl (p := k ≤ 1000000 ∧ ifB (rgtB l) (ifB (!n) (true = true ∧ Sub (PV.f (Lf.v (Value.bool true))) (PV.f (Lf.v (Value.bool (rightZ n l))))) (true = true ∧ Sub (PV.f (Lf.v (Value.bool (decide ((↑l.length : Int) > (0 : Int)))))) (PV.f (Lf.v (Value.bool (rightZ n l)))))) (true = true ∧ Sub (PV.f (Lf.v (Value.bool false))) (PV.f (Lf.v (Value.bool (rightZ n l)))))) ?kr ?_
     case kr => kernel_rfl
     refine ⟨?s0, ifB_iff.2 ⟨fun hb0 => ifB_iff.2 ⟨fun hb1 => ⟨rfl, ?m0⟩, fun hb1 => ⟨rfl, ?m1⟩⟩, fun hb0 => ⟨rfl, ?m2⟩⟩⟩
     case s0 => exact hk
     case m0 =>
      refine sub_bool ?_
      unfold rightZ
      rw [hb0, hb1]; rfl
     case m1 =>
      refine sub_bool ?_
      unfold rightZ
      rw [hb0, hb1, Bool.true_and, Bool.false_or, Bool.eq_iff_iff, decide_eq_true_eq, decide_eq_true_eq]
      omega
     case m2 =>
      refine sub_bool ?_
      unfold rightZ
      rw [hb0]; rfl
   · cases hs
 · cases hs
end Go.Proofs.YtpjjdngoblfleaaGreat
namespace Go.Proofs.YtpjjdngoblfleaaGreat
open Go.RowKit
set_option linter.unusedVariables false
set_option maxRecDepth 100000
theorem conM_drop {s : ByteArray} : ∀ (D : List Dat) (i k : Nat), i < D.length → conM (D.drop i) s k = if 0 ≤ conIx (Dat.cons (D.getD i Sh.dat.nil)) s then some (k, (conIx (Dat.cons (D.getD i Sh.dat.nil)) s).toNat) else conM (D.drop (i + 1)) s (k + 1) := by
 intro D i k h
 rw [drop_at D Sh.dat.nil h, conM]
theorem conIx_hit {l : List Cn} {s : ByteArray} {k : Nat} (h : k < l.length) (hk : Cn.name (l.getD k Sh.con.nil) = s) (hj : ∀ j, j < k → ¬ Cn.name (l.getD j Sh.con.nil) = s) : conIx l s = k :=
 anyB_hit Sh.con.nil h (decide_eq_true hk) fun j hj' => decide_eq_false (hj j hj')
theorem conIx_miss {l : List Cn} {s : ByteArray} {k : Nat} (h : l.length ≤ k) (hj : ∀ j, j < k → ¬ Cn.name (l.getD j Sh.con.nil) = s) : conIx l s = -1 :=
 anyB_miss Sh.con.nil fun j hj' => decide_eq_false (hj j (by omega))
theorem ofV_1 {D : List Dat} {s : ByteArray} {v : Vw} (h : v.kind = 1) : ofV D s v = (decide (s = bInt) && (rightZ v.neg v.digits && (!v.truth && (decide (v.name = ⟨#[]⟩) && decide (v.fields.length = 0))))) := by
 rw [ofV_eq, if_pos h]
 unfold noneB
 rw [h]
 generalize decide (s = bInt) = a
 generalize rightZ v.neg v.digits = b
 generalize v.truth = c
 generalize decide (v.name = ⟨#[]⟩) = d
 generalize decide (v.fields.length = 0) = e
 generalize decide (v.digits.length = 0) = f
 generalize v.neg = g
 revert a b c d e f g
 decide
theorem eqB_nil (l : List Nat) : eqB l [] = decide (l.length = 0) := by
 cases l <;> simp [eqB]
theorem ofV_2 {D : List Dat} {s : ByteArray} {v : Vw} (h : v.kind = 2) : ofV D s v = (decide (s = bBool) && ((v.neg == false && eqB v.digits []) && (decide (v.name = ⟨#[]⟩) && decide (v.fields.length = 0)))) := by
 rw [ofV_eq, if_neg (by omega), if_pos h, eqB_nil]
 unfold noneB
 rw [h]
 generalize decide (s = bBool) = a
 generalize v.truth = c
 generalize decide (v.name = ⟨#[]⟩) = d
 generalize decide (v.fields.length = 0) = e
 generalize decide (v.digits.length = 0) = f
 generalize v.neg = g
 revert a c d e f g
 decide
theorem ofV_3 {D : List Dat} {s : ByteArray} {v : Vw} (h : v.kind = 3) : ofV D s v = (dataB D s && (!v.truth && ((v.neg == false && eqB v.digits []) && (if v.name = ⟨#[]⟩ then decide (v.fields.length = 0) else match conM D v.name 0 with
      | none => false
      | some p => decide ((D.getD p.1 Sh.dat.nil).name = s) && (decide ((fldsM D p).length = v.fields.length) && ofVL D (fldsM D p) v.fields))))) := by
 rw [ofV_eq, if_neg (by omega), if_neg (by omega), if_pos h, eqB_nil]
 generalize (if v.name = ⟨#[]⟩ then decide (v.fields.length = 0) else match conM D v.name 0 with
   | none => false
   | some p => decide ((D.getD p.1 Sh.dat.nil).name = s) && (decide ((fldsM D p).length = v.fields.length) && ofVL D (fldsM D p) v.fields)) = x
 unfold noneB
 rw [h]
 generalize dataB D s = a
 generalize v.truth = c
 generalize decide (v.name = ⟨#[]⟩) = d
 generalize decide (v.fields.length = 0) = e
 generalize decide (v.digits.length = 0) = f
 generalize v.neg = g
 revert a c d e f g x
 decide
theorem ofV_x {D : List Dat} {s : ByteArray} {v : Vw} (h1 : ¬ v.kind = 1) (h2 : ¬ v.kind = 2) (h3 : ¬ v.kind = 3) : ofV D s v = false := by
 rw [ofV_eq, if_neg h1, if_neg h2, if_neg h3, Bool.and_false]
def sCon5 : Spec
 | [.f (.dt .dat D), .f (.v (.string s))] => some (none, .nm (Option (Nat × Nat)) (conM D s 0) fun r => .tup [iV (r.getD (0, 0)).1, iV (r.getD (0, 0)).2, bV r.isSome])
 | _ => none
theorem cCon5 {E : Env} (hU : Up E) : Contract Tryz.prog E 30 sCon5 := by
 refine contract_D [] [] Tryz.ntmps30 Tryz.func30 (by kernel_rfl) (by kernel_rfl) hU trivial trivial ?_
 intro xs p r hs hp
 unfold sCon5 at hs
 split at hs
 · rename_i D s
   cases hs
   refine ⟨[.f (.dt .dat D), .f (.v (.string s))], [(2, .s ⟨Nat, fun i => ⟨[(0, .f (.dt .dat D)), (1, .f (.v (.string s))), (7, iV i)], []⟩, fun i => i ≤ D.length ∧ conM D s 0 = conM (D.drop i) s i, fun i => D.length - i⟩),
    (5, ⟨Nat × Nat, fun y => ⟨[(0, .f (.dt .dat D)), (1, .f (.v (.string s))), (7, iV y.1), (8, iV y.2)], []⟩, fun y => y.1 < D.length ∧ conM D s 0 = conM (D.drop y.1) s y.1 ∧ y.2 ≤ (Dat.cons (D.getD y.1 Sh.dat.nil)).length ∧ ∀ k, k < y.2 → ¬ Cn.name ((Dat.cons (D.getD y.1 Sh.dat.nil)).getD k Sh.con.nil) = s, fun y => (Dat.cons (D.getD y.1 Sh.dat.nil)).length - y.2, fun x y => y.1 = x.1⟩)], .cons (.refl _) (.cons (.refl _) .nil), rfl, fun _ hsh => ?_⟩
   have hl := short_row hsh.1
   refine cast_rfl (p := ∃ (x1 : Nat), (True ∧ SubB (PV.f (Lf.dt Sh.dat D)) (PV.f (Lf.dt Sh.dat D)) ∧ SubB (sV s) (sV s) ∧ SubB (iV 0) (iV (↑x1 : Int)) ∧ True) ∧ (x1 ≤ D.length ∧ conM D s 0 = conM (List.drop x1 D) s x1) ∧ True ∧ ∀ (z2 : Nat), z2 ≤ D.length ∧ conM D s 0 = conM (List.drop z2 D) s z2 → True → ifB (decide ((↑z2 : Int) < (↑D.length : Int))) (∃ (x3 : Nat × Nat), (True ∧ SubB (PV.f (Lf.dt Sh.dat D)) (PV.f (Lf.dt Sh.dat D)) ∧ SubB (sV s) (sV s) ∧ SubB (iV (↑z2 : Int)) (iV (↑x3.fst : Int)) ∧ SubB (iV 0) (iV (↑x3.snd : Int)) ∧ True) ∧ (x3.fst < D.length ∧ conM D s 0 = conM (List.drop x3.fst D) s x3.fst ∧ x3.snd ≤ (D.getD x3.fst Sh.dat.nil).cons.length ∧ ∀ (k : Nat), k < x3.snd → ¬((D.getD x3.fst Sh.dat.nil).cons.getD k Sh.con.nil).name = s) ∧ x3.fst = x3.fst ∧ ∀ (z4 : Nat × Nat), (z4.fst < D.length ∧ conM D s 0 = conM (List.drop z4.fst D) s z4.fst ∧ z4.snd ≤ (D.getD z4.fst Sh.dat.nil).cons.length ∧ ∀ (k : Nat), k < z4.snd → ¬((D.getD z4.fst Sh.dat.nil).cons.getD k Sh.con.nil).name = s) → z4.fst = x3.fst → ((0 : Int) ≤ (↑z4.fst : Int) ∧ (↑z4.fst : Int) < (↑D.length : Int)) ∧ ifB (decide ((↑z4.snd : Int) < (↑(D.getD (↑z4.fst : Int).toNat Sh.dat.nil).cons.length : Int))) (((0 : Int) ≤ (↑z4.fst : Int) ∧ (↑z4.fst : Int) < (↑D.length : Int)) ∧ ((0 : Int) ≤ (↑z4.snd : Int) ∧ (↑z4.snd : Int) < (↑(D.getD (↑z4.fst : Int).toNat Sh.dat.nil).cons.length : Int)) ∧ ifB (((D.getD (↑z4.fst : Int).toNat Sh.dat.nil).cons.getD (↑z4.snd : Int).toNat Sh.con.nil).name.toList == s.toList) (true = true ∧ Sub (PV.tup [iV (↑z4.fst : Int), iV (↑z4.snd : Int), bV true]) (PV.tup [iV (↑((conM D s 0).getD (0, 0)).fst : Int), iV (↑((conM D s 0).getD (0, 0)).snd : Int), bV ((conM D s 0).isSome)])) (∃ (x5 : Nat × Nat), (True ∧ SubB (PV.f (Lf.dt Sh.dat D)) (PV.f (Lf.dt Sh.dat D)) ∧ SubB (sV s) (sV s) ∧ SubB (iV (↑z4.fst : Int)) (iV (↑x5.fst : Int)) ∧ SubB (iV (IntKind.i64.wrap ((↑z4.snd : Int) + (1 : Int)))) (iV (↑x5.snd : Int)) ∧ True) ∧ (x5.fst < D.length ∧ conM D s 0 = conM (List.drop x5.fst D) s x5.fst ∧ x5.snd ≤ (D.getD x5.fst Sh.dat.nil).cons.length ∧ ∀ (k : Nat), k < x5.snd → ¬((D.getD x5.fst Sh.dat.nil).cons.getD k Sh.con.nil).name = s) ∧ x5.fst = x3.fst ∧ ((D.getD x5.fst Sh.dat.nil).cons.length - x5.snd).succ.le ((D.getD z4.fst Sh.dat.nil).cons.length - z4.snd))) (∃ (x5 : Nat), (True ∧ SubB (PV.f (Lf.dt Sh.dat D)) (PV.f (Lf.dt Sh.dat D)) ∧ SubB (sV s) (sV s) ∧ SubB (iV (IntKind.i64.wrap ((↑z4.fst : Int) + (1 : Int)))) (iV (↑x5 : Int)) ∧ True) ∧ (x5 ≤ D.length ∧ conM D s 0 = conM (List.drop x5 D) s x5) ∧ True ∧ (D.length - x5).succ.le (D.length - z2))) (true = true ∧ Sub (PV.tup [iV 0, iV 0, bV false]) (PV.tup [iV (↑((conM D s 0).getD (0, 0)).fst : Int), iV (↑((conM D s 0).getD (0, 0)).snd : Int), bV ((conM D s 0).isSome)]))) ?kr ?_
   case kr => kernel_rfl
   refine ⟨?x0, ⟨⟨trivial, ⟨.refl _, ⟨.refl _, ⟨?m0, trivial⟩⟩⟩⟩, ⟨?s0, ⟨trivial, fun z2 => fun hq0 => fun _ => ifB_iff.2 ⟨fun hb1 => ⟨?x1, ⟨⟨trivial, ⟨.refl _, ⟨.refl _, ⟨?m1, ⟨?m2, trivial⟩⟩⟩⟩⟩, ⟨?s1, ⟨rfl, fun z4 => fun hq2 => fun hq3 => ⟨?s2, ifB_iff.2 ⟨fun hb4 => ⟨?s3, ⟨?s4, ifB_iff.2 ⟨fun hb5 => ⟨rfl, ?m3⟩, fun hb5 => ⟨?x2, ⟨⟨trivial, ⟨.refl _, ⟨.refl _, ⟨?m4, ⟨?m5, trivial⟩⟩⟩⟩⟩, ⟨?s5, ⟨?s6, ?m6⟩⟩⟩⟩⟩⟩⟩, fun hb4 => ⟨?x3, ⟨⟨trivial, ⟨.refl _, ⟨.refl _, ⟨?m7, trivial⟩⟩⟩⟩, ⟨?s7, ⟨trivial, ?m8⟩⟩⟩⟩⟩⟩⟩⟩⟩⟩, fun hb1 => ⟨rfl, ?m9⟩⟩⟩⟩⟩⟩
   case x0 => exact 0
   case x1 => exact (z2, 0)
   case x2 => exact (z4.1, z4.2 + 1)
   case x3 => exact z4.1 + 1
   all_goals try simp only [bs_l, Int.toNat_natCast, Int.ofNat_lt, decide_eq_true_eq, decide_eq_false_iff_not] at *
   case m0 => exact .refl _
   case m1 => exact .refl _
   case m2 => exact .refl _
   case m4 => exact .refl _
   case s0 => exact ⟨Nat.zero_le _, by rw [List.drop_zero]⟩
   case m9 =>
    rw [hq0.2, List.drop_eq_nil_of_le (by omega)]
    exact .refl _
   case s1 => exact ⟨hb1, hq0.2, Nat.zero_le _, fun k hk => absurd hk (Nat.not_lt_zero k)⟩
   all_goals obtain ⟨q1, q2, q3, q4⟩ := hq2
   all_goals have hr : z4.1 = z2 := hq3
   all_goals have hd := conM_drop (s := s) D z4.1 z4.1 q1
   case s2 => omega
   case s3 => omega
   case s4 => omega
   case s6 => exact hq3
   case m7 => exact subB_i (wJ _ (by omega) (by omega))
   case m8 =>
    have : D.length - (z4.1 + 1) < D.length - z2 := by omega
    exact this
   case s7 =>
    refine ⟨q1, ?_⟩
    rw [q2, hd, conIx_miss (by omega) q4]; rfl
   case m3 =>
    rw [q2, hd, conIx_hit hb4 hb5 q4, if_pos (by omega)]
    exact .refl _
   all_goals have hdl := short_deep (s := .dat) (s' := .con) (m := Dat.cons (D.getD z4.1 Sh.dat.nil)) hsh.1 q1 (j := 1) rfl
   case m5 => exact subB_i (wJ _ (by omega) (by omega))
   case s5 =>
    refine ⟨q1, q2, hb4, fun k hk => ?_⟩
    by_cases hk2 : k = z4.2
    · subst hk2; exact hb5
    · exact q4 k (by omega)
   case m6 =>
    have : (Dat.cons (D.getD z4.1 Sh.dat.nil)).length - (z4.2 + 1) < (Dat.cons (D.getD z4.1 Sh.dat.nil)).length - z4.2 := by omega
    exact this
 · cases hs
def dataN (D : List Dat) (s : ByteArray) : Bool := decide (0 ≤ anyB D fun d => decide (d.name = s))
def sDataN : Spec
 | [.f (.dt .dat D), .f (.v (.string s))] => some (none, .nm Bool (dataN D s) bV)
 | _ => none
theorem cDataN {E : Env} (hU : Up E) : Contract Tryz.prog E 29 sDataN := by
 refine contract_D [] [] Tryz.ntmps29 Tryz.func29 (by kernel_rfl) (by kernel_rfl) hU trivial trivial ?_
 intro xs p r hs hp
 unfold sDataN at hs
 split at hs
 · rename_i D s
   cases hs
   refine ⟨[.f (.dt .dat D), .f (.v (.string s))], [(2, .s ⟨Nat, fun i => ⟨[(0, .f (.dt .dat D)), (1, .f (.v (.string s))), (5, iV i)], []⟩, fun i => i ≤ D.length ∧ ∀ k, k < i → ¬ Dat.name (D.getD k Sh.dat.nil) = s, fun i => D.length - i⟩)], .cons (.refl _) (.cons (.refl _) .nil), rfl, fun _ hsh => ?_⟩
   have hl := short_row hsh.1
   refine cast_rfl (p := ∃ (x1 : Nat), (True ∧ SubB (PV.f (Lf.dt Sh.dat D)) (PV.f (Lf.dt Sh.dat D)) ∧ SubB (sV s) (sV s) ∧ SubB (iV 0) (iV (↑x1 : Int)) ∧ True) ∧ (x1 ≤ D.length ∧ ∀ (k : Nat), k < x1 → ¬(D.getD k Sh.dat.nil).name = s) ∧ True ∧ ∀ (z2 : Nat), (z2 ≤ D.length ∧ ∀ (k : Nat), k < z2 → ¬(D.getD k Sh.dat.nil).name = s) → True → ifB (decide ((↑z2 : Int) < (↑D.length : Int))) (((0 : Int) ≤ (↑z2 : Int) ∧ (↑z2 : Int) < (↑D.length : Int)) ∧ ifB ((D.getD (↑z2 : Int).toNat Sh.dat.nil).name.toList == s.toList) (true = true ∧ Sub (bV true) (bV (dataN D s))) (∃ (x3 : Nat), (True ∧ SubB (PV.f (Lf.dt Sh.dat D)) (PV.f (Lf.dt Sh.dat D)) ∧ SubB (sV s) (sV s) ∧ SubB (iV (IntKind.i64.wrap ((↑z2 : Int) + (1 : Int)))) (iV (↑x3 : Int)) ∧ True) ∧ (x3 ≤ D.length ∧ ∀ (k : Nat), k < x3 → ¬(D.getD k Sh.dat.nil).name = s) ∧ True ∧ (D.length - x3).succ.le (D.length - z2))) (true = true ∧ Sub (bV false) (bV (dataN D s)))) ?kr ?_
   case kr => kernel_rfl
   refine ⟨?x0, ⟨⟨trivial, ⟨.refl _, ⟨.refl _, ⟨?m0, trivial⟩⟩⟩⟩, ⟨?s0, ⟨trivial, fun z2 => fun hq0 => fun _ => ifB_iff.2 ⟨fun hb1 => ⟨?s1, ifB_iff.2 ⟨fun hb2 => ⟨rfl, ?m1⟩, fun hb2 => ⟨?x1, ⟨⟨trivial, ⟨.refl _, ⟨.refl _, ⟨?m2, trivial⟩⟩⟩⟩, ⟨?s2, ⟨trivial, ?m3⟩⟩⟩⟩⟩⟩, fun hb1 => ⟨rfl, ?m4⟩⟩⟩⟩⟩⟩
   case x0 => exact 0
   case x1 => exact z2 + 1
   all_goals try simp only [bs_l, Int.toNat_natCast, Int.ofNat_lt, decide_eq_true_eq, decide_eq_false_iff_not] at *
   case m0 => exact .refl _
   case s0 => exact ⟨Nat.zero_le _, fun k hk => absurd hk (Nat.not_lt_zero k)⟩
   all_goals obtain ⟨q1, q2⟩ := hq0
   case s1 => omega
   case m1 =>
    refine (subB_b ?_).sub
    unfold dataN
    rw [anyB_hit Sh.dat.nil hb1 (decide_eq_true hb2) fun k hk => decide_eq_false (q2 k hk)]
    exact (decide_eq_true (by omega)).symm
   case m2 => exact subB_i (wJ _ (by omega) (by omega))
   case s2 =>
    refine ⟨hb1, fun k hk => ?_⟩
    by_cases hk2 : k = z2
    · subst hk2; exact hb2
    · exact q2 k (by omega)
   case m3 =>
    have : D.length - (z2 + 1) < D.length - z2 := by omega
    exact this
   case m4 =>
    refine (subB_b ?_).sub
    unfold dataN
    rw [anyB_miss Sh.dat.nil fun k hk => decide_eq_false (q2 k (by omega))]
    rfl
 · cases hs
def sOfRN (n : Nat) : Spec
 | [.f (.dt .dat D), .f (.v (.string s)), x] => match vlOf x with
  | some v => some (some (v.size < n ∧ v.fitV 400000), .nm Bool (ofV D s v) bV)
  | none => none
 | _ => none
theorem cOfRN {E : Env} (hU : Up E) : ∀ n, Contract Tryz.prog E 9 (sOfRN n)
 | 0 => by
  intro xs p r hs hp
  unfold sOfRN at hs
  split at hs
  · split at hs
    · cases hs
      exact absurd (hp _ rfl).1 (Nat.not_lt_zero _)
    · cases hs
  · cases hs
 | n + 1 => by
  refine contract_D [(27, sRight), (28, sSame), (29, sDataN), (30, sCon5), (9, sOfRN n)] [] Tryz.ntmps9 Tryz.func9 (by kernel_rfl) (by kernel_rfl) hU ⟨cRightZ hU, cSame, cDataN hU, cCon5 hU, cOfRN hU n, trivial⟩ trivial ?_
  intro xs p r hs hp
  unfold sOfRN at hs
  split at hs
  · rename_i D s x
    split at hs
    · rename_i v hv
      cases hs
      obtain ⟨hn, hf⟩ := hp _ rfl
      have f2 := (Vw.fitV_eq _ v).1 hf
      refine ⟨[.f (.dt .dat D), .f (.v (.string s)), vlP v], [(18, .s ⟨Nat, fun i => ⟨[(0, .f (.dt .dat D)), (5, .bp 0 0), (10, .f (.dt .str (fldsM D ((conM D v.name 0).getD (0, 0))))), (11, iV i)], [.cells (wrapF (vlC v))]⟩, fun i => i ≤ v.fields.length ∧ (fldsM D ((conM D v.name 0).getD (0, 0))).length = v.fields.length ∧ ∀ k, k < i → ofV D ((fldsM D ((conM D v.name 0).getD (0, 0))).getD k Sh.str.nil) (v.fields.getD k Sh.vl.nil) = true, fun i => v.fields.length - i⟩)], .cons (.refl _) (.cons (.refl _) (.cons (vl_sub hv).sub .nil)), rfl, fun _ hsh => ?_⟩
      refine cast_rfl (p := ifB (v.kind == (1 : Int)) (ifB (s.toList == (ByteArray.mk #[(105 : UInt8), (110 : UInt8), (116 : UInt8)]).toList) (v.digits.length ≤ 1000000 ∧ ifB (rightZ v.neg v.digits) (ifB (!v.truth) (ifB (v.name.toList == (ByteArray.mk #[]).toList) (true = true ∧ Sub (bV ((↑v.fields.length : Int) == (0 : Int))) (bV (ofV D s v))) (true = true ∧ Sub (bV false) (bV (ofV D s v)))) (true = true ∧ Sub (bV false) (bV (ofV D s v)))) (true = true ∧ Sub (bV false) (bV (ofV D s v)))) (true = true ∧ Sub (bV false) (bV (ofV D s v)))) (ifB (v.kind == (2 : Int)) (ifB (s.toList == (ByteArray.mk #[(98 : UInt8), (111 : UInt8), (111 : UInt8), (108 : UInt8)]).toList) (v.digits.length + 0 ≤ 900000 ∧ ifB (v.neg == false && eqB v.digits []) (ifB (v.name.toList == (ByteArray.mk #[]).toList) (true = true ∧ Sub (bV ((↑v.fields.length : Int) == (0 : Int))) (bV (ofV D s v))) (true = true ∧ Sub (bV false) (bV (ofV D s v)))) (true = true ∧ Sub (bV false) (bV (ofV D s v)))) (true = true ∧ Sub (bV false) (bV (ofV D s v)))) (ifB (v.kind == (3 : Int)) (ifB (s.toList == (ByteArray.mk #[(105 : UInt8), (110 : UInt8), (116 : UInt8)]).toList) (true = true ∧ Sub (bV false) (bV (ofV D s v))) (ifB (s.toList == (ByteArray.mk #[(98 : UInt8), (111 : UInt8), (111 : UInt8), (108 : UInt8)]).toList) (true = true ∧ Sub (bV false) (bV (ofV D s v))) (∀ (z1 : Bool), z1 = dataN D s → ifB (!z1) (true = true ∧ Sub (bV false) (bV (ofV D s v))) (ifB v.truth (true = true ∧ Sub (bV false) (bV (ofV D s v))) (v.digits.length + 0 ≤ 900000 ∧ ifB (!(v.neg == false && eqB v.digits [])) (true = true ∧ Sub (bV false) (bV (ofV D s v))) (ifB (v.name.toList == (ByteArray.mk #[]).toList) (true = true ∧ Sub (bV ((↑v.fields.length : Int) == (0 : Int))) (bV (ofV D s v))) (∀ (z2 : Option (Nat × Nat)), z2 = conM D v.name 0 → ifB (!z2.isSome) (true = true ∧ Sub (bV false) (bV (ofV D s v))) (((0 : Int) ≤ (↑(z2.getD (0, 0)).fst : Int) ∧ (↑(z2.getD (0, 0)).fst : Int) < (↑D.length : Int)) ∧ ifB (!(D.getD (↑(z2.getD (0, 0)).fst : Int).toNat Sh.dat.nil).name.toList == s.toList) (true = true ∧ Sub (bV false) (bV (ofV D s v))) (((0 : Int) ≤ (↑(z2.getD (0, 0)).fst : Int) ∧ (↑(z2.getD (0, 0)).fst : Int) < (↑D.length : Int)) ∧ ((0 : Int) ≤ (↑(z2.getD (0, 0)).snd : Int) ∧ (↑(z2.getD (0, 0)).snd : Int) < (↑(D.getD (↑(z2.getD (0, 0)).fst : Int).toNat Sh.dat.nil).cons.length : Int)) ∧ ifB ((↑((D.getD (↑(z2.getD (0, 0)).fst : Int).toNat Sh.dat.nil).cons.getD (↑(z2.getD (0, 0)).snd : Int).toNat Sh.con.nil).fields.length : Int) != (↑v.fields.length : Int)) (true = true ∧ Sub (bV false) (bV (ofV D s v))) (∃ (x3 : Nat), (((SubB (PV.f (Lf.v (Value.int IntKind.u8 v.kind))) (PV.f (Lf.v (Value.int IntKind.u8 v.kind))) ∧ SubB (bV v.neg) (bV v.neg) ∧ SubB (PV.f (Lf.lr v.digits v.digits.length)) (PV.f (Lf.lr v.digits v.digits.length)) ∧ SubB (bV v.truth) (bV v.truth) ∧ SubB (sV v.name) (sV v.name) ∧ SubB (PV.f (Lf.dt Sh.vl v.fields)) (PV.f (Lf.dt Sh.vl v.fields)) ∧ True) ∧ True) ∧ SubB (PV.f (Lf.dt Sh.dat D)) (PV.f (Lf.dt Sh.dat D)) ∧ SubB (PV.bp 0 0) (PV.bp 0 0) ∧ SubB (PV.f (Lf.dt Sh.str ((D.getD (↑(z2.getD (0, 0)).fst : Int).toNat Sh.dat.nil).cons.getD (↑(z2.getD (0, 0)).snd : Int).toNat Sh.con.nil).fields)) (PV.f (Lf.dt Sh.str (fldsM D ((conM D v.name 0).getD (0, 0))))) ∧ SubB (iV 0) (iV (↑x3 : Int)) ∧ True) ∧ (x3 ≤ v.fields.length ∧ (fldsM D ((conM D v.name 0).getD (0, 0))).length = v.fields.length ∧ ∀ (k : Nat), k < x3 → ofV D ((fldsM D ((conM D v.name 0).getD (0, 0))).getD k Sh.str.nil) (v.fields.getD k Sh.vl.nil) = true) ∧ True ∧ ∀ (z4 : Nat), (z4 ≤ v.fields.length ∧ (fldsM D ((conM D v.name 0).getD (0, 0))).length = v.fields.length ∧ ∀ (k : Nat), k < z4 → ofV D ((fldsM D ((conM D v.name 0).getD (0, 0))).getD k Sh.str.nil) (v.fields.getD k Sh.vl.nil) = true) → True → ifB (decide ((↑z4 : Int) < (↑(fldsM D ((conM D v.name 0).getD (0, 0))).length : Int))) (((0 : Int) ≤ (↑z4 : Int) ∧ (↑z4 : Int) < (↑(fldsM D ((conM D v.name 0).getD (0, 0))).length : Int)) ∧ ((0 : Int) ≤ (↑z4 : Int) ∧ (↑z4 : Int) < (↑v.fields.length : Int)) ∧ ((Vw.mk (Vw.kind (v.fields.getD (↑z4 : Int).toNat Sh.vl.nil)) (Vw.neg (v.fields.getD (↑z4 : Int).toNat Sh.vl.nil)) (Vw.digits (v.fields.getD (↑z4 : Int).toNat Sh.vl.nil)) (Vw.truth (v.fields.getD (↑z4 : Int).toNat Sh.vl.nil)) (Vw.name (v.fields.getD (↑z4 : Int).toNat Sh.vl.nil)) (Vw.fields (v.fields.getD (↑z4 : Int).toNat Sh.vl.nil))).size < n ∧ Vw.fitV 400000 (Vw.mk (Vw.kind (v.fields.getD (↑z4 : Int).toNat Sh.vl.nil)) (Vw.neg (v.fields.getD (↑z4 : Int).toNat Sh.vl.nil)) (Vw.digits (v.fields.getD (↑z4 : Int).toNat Sh.vl.nil)) (Vw.truth (v.fields.getD (↑z4 : Int).toNat Sh.vl.nil)) (Vw.name (v.fields.getD (↑z4 : Int).toNat Sh.vl.nil)) (Vw.fields (v.fields.getD (↑z4 : Int).toNat Sh.vl.nil)))) ∧ ∀ (z5 : Bool), z5 = ofV D ((fldsM D ((conM D v.name 0).getD (0, 0))).getD (↑z4 : Int).toNat Sh.str.nil) (Vw.mk (Vw.kind (v.fields.getD (↑z4 : Int).toNat Sh.vl.nil)) (Vw.neg (v.fields.getD (↑z4 : Int).toNat Sh.vl.nil)) (Vw.digits (v.fields.getD (↑z4 : Int).toNat Sh.vl.nil)) (Vw.truth (v.fields.getD (↑z4 : Int).toNat Sh.vl.nil)) (Vw.name (v.fields.getD (↑z4 : Int).toNat Sh.vl.nil)) (Vw.fields (v.fields.getD (↑z4 : Int).toNat Sh.vl.nil))) → ifB (!z5) (true = true ∧ Sub (bV false) (bV (ofV D s v))) (∃ (x6 : Nat), (((SubB (PV.f (Lf.v (Value.int IntKind.u8 v.kind))) (PV.f (Lf.v (Value.int IntKind.u8 v.kind))) ∧ SubB (bV v.neg) (bV v.neg) ∧ SubB (PV.f (Lf.lr v.digits v.digits.length)) (PV.f (Lf.lr v.digits v.digits.length)) ∧ SubB (bV v.truth) (bV v.truth) ∧ SubB (sV v.name) (sV v.name) ∧ SubB (PV.f (Lf.dt Sh.vl v.fields)) (PV.f (Lf.dt Sh.vl v.fields)) ∧ True) ∧ True) ∧ SubB (PV.f (Lf.dt Sh.dat D)) (PV.f (Lf.dt Sh.dat D)) ∧ SubB (PV.bp 0 0) (PV.bp 0 0) ∧ SubB (PV.f (Lf.dt Sh.str (fldsM D ((conM D v.name 0).getD (0, 0))))) (PV.f (Lf.dt Sh.str (fldsM D ((conM D v.name 0).getD (0, 0))))) ∧ SubB (iV (IntKind.i64.wrap ((↑z4 : Int) + (1 : Int)))) (iV (↑x6 : Int)) ∧ True) ∧ (x6 ≤ v.fields.length ∧ (fldsM D ((conM D v.name 0).getD (0, 0))).length = v.fields.length ∧ ∀ (k : Nat), k < x6 → ofV D ((fldsM D ((conM D v.name 0).getD (0, 0))).getD k Sh.str.nil) (v.fields.getD k Sh.vl.nil) = true) ∧ True ∧ (v.fields.length - x6).succ.le (v.fields.length - z4))) (true = true ∧ Sub (bV true) (bV (ofV D s v))))))))))))) (true = true ∧ Sub (bV false) (bV (ofV D s v)))))) ?kr ?_
      case kr => kernel_rfl
      refine ifB_iff.2 ⟨fun hb0 => ifB_iff.2 ⟨fun hb1 => ⟨?s0, ifB_iff.2 ⟨fun hb2 => ifB_iff.2 ⟨fun hb3 => ifB_iff.2 ⟨fun hb4 => ⟨rfl, ?m0⟩, fun hb4 => ⟨rfl, ?m1⟩⟩, fun hb3 => ⟨rfl, ?m2⟩⟩, fun hb2 => ⟨rfl, ?m3⟩⟩⟩, fun hb1 => ⟨rfl, ?m4⟩⟩, fun hb0 => ifB_iff.2 ⟨fun hb5 => ifB_iff.2 ⟨fun hb6 => ⟨?s1, ifB_iff.2 ⟨fun hb7 => ifB_iff.2 ⟨fun hb8 => ⟨rfl, ?m5⟩, fun hb8 => ⟨rfl, ?m6⟩⟩, fun hb7 => ⟨rfl, ?m7⟩⟩⟩, fun hb6 => ⟨rfl, ?m8⟩⟩, fun hb5 => ifB_iff.2 ⟨fun hb9 => ifB_iff.2 ⟨fun hb10 => ⟨rfl, ?m9⟩, fun hb10 => ifB_iff.2 ⟨fun hb11 => ⟨rfl, ?m10⟩, fun hb11 => fun z1 => fun hz1 => ifB_iff.2 ⟨fun hb12 => ⟨rfl, ?m11⟩, fun hb12 => ifB_iff.2 ⟨fun hb13 => ⟨rfl, ?m12⟩, fun hb13 => ⟨?s2, ifB_iff.2 ⟨fun hb14 => ⟨rfl, ?m13⟩, fun hb14 => ifB_iff.2 ⟨fun hb15 => ⟨rfl, ?m14⟩, fun hb15 => fun z2 => fun hz2 => ifB_iff.2 ⟨fun hb16 => ⟨rfl, ?m15⟩, fun hb16 => ⟨?s3, ifB_iff.2 ⟨fun hb17 => ⟨rfl, ?m16⟩, fun hb17 => ⟨?s4, ⟨?s5, ifB_iff.2 ⟨fun hb18 => ⟨rfl, ?m17⟩, fun hb18 => ⟨?x0, ⟨⟨⟨⟨.refl _, ⟨.refl _, ⟨.refl _, ⟨.refl _, ⟨.refl _, ⟨.refl _, trivial⟩⟩⟩⟩⟩⟩, trivial⟩, ⟨.refl _, ⟨.refl _, ⟨?m18, ⟨?m19, trivial⟩⟩⟩⟩⟩, ⟨?s6, ⟨trivial, fun z4 => fun hq19 => fun _ => ifB_iff.2 ⟨fun hb20 => ⟨?s7, ⟨?s8, ⟨?s9, fun z5 => fun hz5 => ifB_iff.2 ⟨fun hb21 => ⟨rfl, ?m20⟩, fun hb21 => ⟨?x1, ⟨⟨⟨⟨.refl _, ⟨.refl _, ⟨.refl _, ⟨.refl _, ⟨.refl _, ⟨.refl _, trivial⟩⟩⟩⟩⟩⟩, trivial⟩, ⟨.refl _, ⟨.refl _, ⟨.refl _, ⟨?m21, trivial⟩⟩⟩⟩⟩, ⟨?s10, ⟨trivial, ?m22⟩⟩⟩⟩⟩⟩⟩⟩, fun hb20 => ⟨rfl, ?m23⟩⟩⟩⟩⟩⟩⟩⟩⟩⟩⟩⟩⟩⟩⟩⟩⟩⟩⟩, fun hb9 => ⟨rfl, ?m24⟩⟩⟩⟩
      case x0 => exact 0
      case x1 => exact z4 + 1
      all_goals try simp only [bs_l, Vw.eta, Int.toNat_natCast, Int.ofNat_lt, Bool.not_eq_true', Bool.not_eq_false', beq_iff_eq, beq_eq_false_iff_ne, bne_iff_ne, bne_eq_false_iff_eq, ne_eq, decide_eq_true_eq, decide_eq_false_iff_not] at *
      all_goals have hI : bInt = ByteArray.mk #[(105 : UInt8), (110 : UInt8), (116 : UInt8)] := rfl
      all_goals have hB : bBool = ByteArray.mk #[(98 : UInt8), (111 : UInt8), (111 : UInt8), (108 : UInt8)] := rfl
      case s0 => have := f2.2.1; omega
      case s1 => have := f2.2.1; omega
      case s2 => have := f2.2.1; omega
      all_goals try refine (subB_b ?_).sub
      case m0 => rw [ofV_1 hb0, decide_eq_true (p := s = bInt) hb1, hb2, hb3, decide_eq_true hb4, by_cases_len]; rfl
      case m1 => rw [ofV_1 hb0, decide_eq_false hb4]; simp
      case m2 => rw [ofV_1 hb0, hb3]; simp
      case m3 => rw [ofV_1 hb0, hb2]; simp
      case m4 => rw [ofV_1 hb0, decide_eq_false (p := s = bInt) hb1]; simp
      case m5 => rw [ofV_2 hb5, decide_eq_true (p := s = bBool) hb6, hb7, decide_eq_true hb8, by_cases_len]; rfl
      case m6 => rw [ofV_2 hb5, decide_eq_false hb8]; simp
      case m7 => rw [ofV_2 hb5, hb7]; simp
      case m8 => rw [ofV_2 hb5, decide_eq_false (p := s = bBool) hb6]; simp
      case m24 => exact (ofV_x hb0 hb5 hb9).symm
      all_goals have he := ofV_3 (D := D) (s := s) hb9
      case m9 => rw [he, show s = bInt from hb10, dataB_int]; simp
      case m10 => rw [he, show s = bBool from hb11, dataB_bool]; simp
      all_goals have hdb : dataB D s = z1 := by unfold dataB; rw [decide_eq_false (p := s = bInt) hb10, decide_eq_false (p := s = bBool) hb11, hz1]; rfl
      all_goals rw [hdb] at he
      case m11 => rw [he, hb12]; simp
      case m12 => rw [he, hb13]; simp
      case m13 => rw [he, hb14]; simp
      all_goals rw [hb12, hb13, hb14, Bool.true_and, Bool.not_false, Bool.true_and, Bool.true_and] at he
      case m14 => rw [he, if_pos hb15, by_cases_len]
      all_goals rw [if_neg hb15] at he
      all_goals have hp0 : ∀ q, z2 = some q → 0 ≤ q.1 ∧ q.1 - 0 < D.length ∧ q.2 < ((D.getD (q.1 - 0) Sh.dat.nil).cons).length := fun q hq => conM_in (hz2.symm.trans hq)
      all_goals generalize conM D v.name 0 = cp at *
      all_goals subst hz2
      case m15 =>
       cases z2 with
       | none => rw [he]
       | some p => cases hb16
      all_goals cases z2 with
       | none => cases hb16
       | some p => _
      all_goals obtain ⟨-, hp1, hp2⟩ := hp0 p rfl
      all_goals simp only [Option.getD_some, Nat.sub_zero] at *
      case s3 => omega
      case m16 => rw [he, decide_eq_false hb17]; rfl
      all_goals rw [decide_eq_true hb17, Bool.true_and] at he
      case s4 => omega
      case s5 => omega
      case m17 => rw [he, decide_eq_false (show ¬ (fldsM D p).length = v.fields.length by unfold fldsM; omega)]; rfl
      case m18 => exact .refl _
      case m19 => exact .refl _
      all_goals have hlen : (fldsM D p).length = v.fields.length := by unfold fldsM; omega
      all_goals rw [decide_eq_true hlen, Bool.true_and] at he
      case s6 => exact ⟨Nat.zero_le _, hlen, fun k hk => absurd hk (Nat.not_lt_zero k)⟩
      all_goals obtain ⟨q1, q2, q3⟩ := hq19
      case m23 => rw [he]; exact (ofVL_all Sh.str.nil Sh.vl.nil hlen fun i hi => q3 i (by omega)).symm
      case s7 => omega
      case s8 => omega
      case s9 =>
       have h1 := fld_size (t := v) (i := z4) Sh.vl.nil (by omega)
       exact ⟨by omega, fitVL_at _ f2.2.2.2 (by omega)⟩
      case m20 => rw [he, ofVL_at Sh.str.nil Sh.vl.nil (i := z4) (by omega) (by omega) (by rw [← hz5, hb21])]
      case m21 => exact subB_i (wJ _ (by omega) (by omega))
      case s10 =>
       refine ⟨by omega, hlen, fun k hk => ?_⟩
       by_cases hkz : k = z4
       · subst hkz; rw [← hz5, hb21]
       · exact q3 k (by omega)
      case m22 =>
       have : v.fields.length - (z4 + 1) < v.fields.length - z4 := by omega
       exact this
    · cases hs
  · cases hs
theorem sameV_no {t u : Vw} (h : ¬ t = u) : sameV t u = false := by
 cases hc : sameV t u with
 | false => rfl
 | true => exact absurd (sameV_iff.1 hc) h
theorem sameVL_no {t u : List Vw} (h : ¬ t = u) : sameVL t u = false := by
 cases hc : sameVL t u with
 | false => rfl
 | true => exact absurd (sameVL_iff.1 hc) h
noncomputable def sSameRN (n : Nat) : Spec
 | [x, y] => match vlOf x, vlOf y with
  | some t, some u => some (some (2 * t.size < n ∧ t.fitV 400000 ∧ u.fitV 400000), .nm Bool (sameV t u) bV)
  | _, _ => none
 | _ => none
noncomputable def sSameRLN (n : Nat) : Spec
 | [.f (.dt .vl l), .f (.dt .vl m)] => some (some (2 * szVL l + 1 < n ∧ fitVL 400000 l ∧ fitVL 400000 m), .nm Bool (sameVL l m) bV)
 | _ => none
theorem cSameRN {E : Env} (hU : Up E) : ∀ n, Contract Tryz.prog E 11 (sSameRN n) ∧ Contract Tryz.prog E 33 (sSameRLN n)
 | 0 => by
  refine ⟨fun xs p r hs hp => ?_, fun xs p r hs hp => ?_⟩
  · unfold sSameRN at hs
    split at hs
    · split at hs
      · cases hs
        exact absurd (hp _ rfl).1 (Nat.not_lt_zero _)
      · cases hs
    · cases hs
  · unfold sSameRLN at hs
    split at hs
    · cases hs
      exact absurd (hp _ rfl).1 (Nat.not_lt_zero _)
    · cases hs
 | n + 1 => by
  refine ⟨?_, ?_⟩
  · refine contract_D [(28, sSame), (33, sSameRLN n)] [] Tryz.ntmps11 Tryz.func11 (by kernel_rfl) (by kernel_rfl) hU ⟨cSame, (cSameRN hU n).2, trivial⟩ trivial ?_
    intro xs p r hs hp
    unfold sSameRN at hs
    split at hs
    · rename_i x y
      split at hs
      · rename_i t u ht hu
        cases hs
        obtain ⟨hn, f1, f2⟩ := hp _ rfl
        refine ⟨[vlP t, vlP u], [], .cons (vl_sub ht).sub (.cons (vl_sub hu).sub .nil), rfl, fun _ hsh => ?_⟩
        refine cast_rfl (p := ifB (t.kind == u.kind) (t.digits.length + u.digits.length ≤ 900000 ∧ ifB (t.neg == u.neg && eqB t.digits u.digits) (ifB (t.truth == u.truth) (ifB (t.name.toList == u.name.toList) ((2 * szVL t.fields + 1 < n ∧ fitVL 400000 t.fields ∧ fitVL 400000 u.fields) ∧ ∀ (z1 : Bool), z1 = sameVL t.fields u.fields → true = true ∧ Sub (bV z1) (bV (sameV t u))) (true = true ∧ Sub (bV false) (bV (sameV t u)))) (true = true ∧ Sub (bV false) (bV (sameV t u)))) (true = true ∧ Sub (bV false) (bV (sameV t u)))) (true = true ∧ Sub (bV false) (bV (sameV t u)))) ?kr ?_
        case kr => kernel_rfl
        refine ifB_iff.2 ⟨fun hb0 => ⟨?s0, ifB_iff.2 ⟨fun hb1 => ifB_iff.2 ⟨fun hb2 => ifB_iff.2 ⟨fun hb3 => ⟨?s1, fun z1 => fun hz1 => ⟨rfl, ?m0⟩⟩, fun hb3 => ⟨rfl, ?m1⟩⟩, fun hb2 => ⟨rfl, ?m2⟩⟩, fun hb1 => ⟨rfl, ?m3⟩⟩⟩, fun hb0 => ⟨rfl, ?m4⟩⟩
        all_goals try simp only [bs_l, Bool.and_eq_true, Bool.and_eq_false_iff, beq_iff_eq, beq_eq_false_iff_ne, ne_eq, decide_eq_true_eq, decide_eq_false_iff_not] at *
        all_goals have g1 := (Vw.fitV_eq _ t).1 f1
        all_goals have g2 := (Vw.fitV_eq _ u).1 f2
        all_goals have gs := t.size_eq
        case s0 => omega
        case s1 => exact ⟨by omega, g1.2.2.2, g2.2.2.2⟩
        case m0 =>
         refine (subB_b ?_).sub
         rw [hz1]
         by_cases h : t.fields = u.fields
         · rw [sameVL_iff.2 h, sameV_iff.2 (Vw.ext hb0 hb1.1 (of_decide_eq_true (p := t.digits = u.digits) hb1.2) hb2 hb3 h)]
         · rw [sameVL_no h, sameV_no fun e => h (by rw [e])]
        case m1 => exact (subB_b (sameV_no fun e => hb3 (by rw [e])).symm).sub
        case m2 => exact (subB_b (sameV_no fun e => hb2 (by rw [e])).symm).sub
        case m3 =>
         refine (subB_b (sameV_no fun e => ?_).symm).sub
         subst e
         rcases hb1 with h | h
         · exact h rfl
         · rw [eqB_self] at h; cases h
        case m4 => exact (subB_b (sameV_no fun e => hb0 (by rw [e])).symm).sub
      · cases hs
    · cases hs
  · refine contract_D [(11, sSameRN n)] [] Tryz.ntmps33 Tryz.func33 (by kernel_rfl) (by kernel_rfl) hU ⟨(cSameRN hU n).1, trivial⟩ trivial ?_
    intro xs p r hs hp
    unfold sSameRLN at hs
    split at hs
    · rename_i l m
      cases hs
      obtain ⟨hn, f1, f2⟩ := hp _ rfl
      refine ⟨[.f (.dt .vl l), .f (.dt .vl m)], [(4, .s ⟨Nat, fun i => ⟨[(0, .f (.dt .vl l)), (1, .f (.dt .vl m)), (5, iV i)], []⟩, fun i => i ≤ l.length ∧ l.length = m.length ∧ ∀ k, k < i → l.getD k Sh.vl.nil = m.getD k Sh.vl.nil, fun i => l.length - i⟩)], .cons (.refl _) (.cons (.refl _) .nil), rfl, fun _ hsh => ?_⟩
      have hl := short_row hsh.1
      refine cast_rfl (p := ifB ((↑l.length : Int) != (↑m.length : Int)) (true = true ∧ Sub (bV false) (bV (sameVL l m))) (∃ (x1 : Nat), (True ∧ SubB (PV.f (Lf.dt Sh.vl l)) (PV.f (Lf.dt Sh.vl l)) ∧ SubB (PV.f (Lf.dt Sh.vl m)) (PV.f (Lf.dt Sh.vl m)) ∧ SubB (iV 0) (iV (↑x1 : Int)) ∧ True) ∧ (x1 ≤ l.length ∧ l.length = m.length ∧ ∀ (k : Nat), k < x1 → l.getD k Sh.vl.nil = m.getD k Sh.vl.nil) ∧ True ∧ ∀ (z2 : Nat), (z2 ≤ l.length ∧ l.length = m.length ∧ ∀ (k : Nat), k < z2 → l.getD k Sh.vl.nil = m.getD k Sh.vl.nil) → True → ifB (decide ((↑z2 : Int) < (↑l.length : Int))) (((0 : Int) ≤ (↑z2 : Int) ∧ (↑z2 : Int) < (↑l.length : Int)) ∧ ((0 : Int) ≤ (↑z2 : Int) ∧ (↑z2 : Int) < (↑m.length : Int)) ∧ (2 * (Vw.mk (Vw.kind (l.getD (↑z2 : Int).toNat Sh.vl.nil)) (Vw.neg (l.getD (↑z2 : Int).toNat Sh.vl.nil)) (Vw.digits (l.getD (↑z2 : Int).toNat Sh.vl.nil)) (Vw.truth (l.getD (↑z2 : Int).toNat Sh.vl.nil)) (Vw.name (l.getD (↑z2 : Int).toNat Sh.vl.nil)) (Vw.fields (l.getD (↑z2 : Int).toNat Sh.vl.nil))).size < n ∧ Vw.fitV 400000 (Vw.mk (Vw.kind (l.getD (↑z2 : Int).toNat Sh.vl.nil)) (Vw.neg (l.getD (↑z2 : Int).toNat Sh.vl.nil)) (Vw.digits (l.getD (↑z2 : Int).toNat Sh.vl.nil)) (Vw.truth (l.getD (↑z2 : Int).toNat Sh.vl.nil)) (Vw.name (l.getD (↑z2 : Int).toNat Sh.vl.nil)) (Vw.fields (l.getD (↑z2 : Int).toNat Sh.vl.nil))) ∧ Vw.fitV 400000 (Vw.mk (Vw.kind (m.getD (↑z2 : Int).toNat Sh.vl.nil)) (Vw.neg (m.getD (↑z2 : Int).toNat Sh.vl.nil)) (Vw.digits (m.getD (↑z2 : Int).toNat Sh.vl.nil)) (Vw.truth (m.getD (↑z2 : Int).toNat Sh.vl.nil)) (Vw.name (m.getD (↑z2 : Int).toNat Sh.vl.nil)) (Vw.fields (m.getD (↑z2 : Int).toNat Sh.vl.nil)))) ∧ ∀ (z3 : Bool), z3 = sameV (Vw.mk (Vw.kind (l.getD (↑z2 : Int).toNat Sh.vl.nil)) (Vw.neg (l.getD (↑z2 : Int).toNat Sh.vl.nil)) (Vw.digits (l.getD (↑z2 : Int).toNat Sh.vl.nil)) (Vw.truth (l.getD (↑z2 : Int).toNat Sh.vl.nil)) (Vw.name (l.getD (↑z2 : Int).toNat Sh.vl.nil)) (Vw.fields (l.getD (↑z2 : Int).toNat Sh.vl.nil))) (Vw.mk (Vw.kind (m.getD (↑z2 : Int).toNat Sh.vl.nil)) (Vw.neg (m.getD (↑z2 : Int).toNat Sh.vl.nil)) (Vw.digits (m.getD (↑z2 : Int).toNat Sh.vl.nil)) (Vw.truth (m.getD (↑z2 : Int).toNat Sh.vl.nil)) (Vw.name (m.getD (↑z2 : Int).toNat Sh.vl.nil)) (Vw.fields (m.getD (↑z2 : Int).toNat Sh.vl.nil))) → ifB (!z3) (true = true ∧ Sub (bV false) (bV (sameVL l m))) (∃ (x4 : Nat), (True ∧ SubB (PV.f (Lf.dt Sh.vl l)) (PV.f (Lf.dt Sh.vl l)) ∧ SubB (PV.f (Lf.dt Sh.vl m)) (PV.f (Lf.dt Sh.vl m)) ∧ SubB (iV (IntKind.i64.wrap ((↑z2 : Int) + (1 : Int)))) (iV (↑x4 : Int)) ∧ True) ∧ (x4 ≤ l.length ∧ l.length = m.length ∧ ∀ (k : Nat), k < x4 → l.getD k Sh.vl.nil = m.getD k Sh.vl.nil) ∧ True ∧ (l.length - x4).succ.le (l.length - z2))) (true = true ∧ Sub (bV true) (bV (sameVL l m))))) ?kr ?_
      case kr => kernel_rfl
      refine ifB_iff.2 ⟨fun hb0 => ⟨rfl, ?m0⟩, fun hb0 => ⟨?x0, ⟨⟨trivial, ⟨.refl _, ⟨.refl _, ⟨?m1, trivial⟩⟩⟩⟩, ⟨?s0, ⟨trivial, fun z2 => fun hq1 => fun _ => ifB_iff.2 ⟨fun hb2 => ⟨?s1, ⟨?s2, ⟨?s3, fun z3 => fun hz3 => ifB_iff.2 ⟨fun hb3 => ⟨rfl, ?m2⟩, fun hb3 => ⟨?x1, ⟨⟨trivial, ⟨.refl _, ⟨.refl _, ⟨?m3, trivial⟩⟩⟩⟩, ⟨?s4, ⟨trivial, ?m4⟩⟩⟩⟩⟩⟩⟩⟩, fun hb2 => ⟨rfl, ?m5⟩⟩⟩⟩⟩⟩⟩
      case x0 => exact 0
      case x1 => exact z2 + 1
      all_goals try simp only [Vw.eta, Int.toNat_natCast, Int.ofNat_lt, Int.natCast_inj, Bool.not_eq_true', Bool.not_eq_false', bne_iff_ne, bne_eq_false_iff_eq, ne_eq, decide_eq_true_eq, decide_eq_false_iff_not] at *
      case m0 => exact (subB_b (sameVL_no fun e => hb0 (by rw [e])).symm).sub
      case m1 => exact .refl _
      case s0 => exact ⟨Nat.zero_le _, hb0, fun k hk => absurd hk (Nat.not_lt_zero k)⟩
      all_goals obtain ⟨q1, q2, q3⟩ := hq1
      case m5 =>
       refine (subB_b (sameVL_iff.2 ?_).symm).sub
       refine List.ext_getElem q2 fun i h1 h2 => ?_
       have := q3 i (by omega)
       rwa [List.getD_eq_getElem?_getD, List.getElem?_eq_getElem h1, List.getD_eq_getElem?_getD, List.getElem?_eq_getElem h2] at this
      case s1 => omega
      case s2 => omega
      case s3 =>
       have h1 := szVL_le Sh.vl.nil hb2
       exact ⟨by omega, fitVL_at _ f1 hb2, fitVL_at _ f2 (by omega)⟩
      case m2 =>
       refine (subB_b (sameVL_no fun e => ?_).symm).sub
       rw [hb3] at hz3
       rw [e] at hz3
       exact absurd (hz3.trans (sameV_self _)) (by decide)
      case m3 => exact subB_i (wJ _ (by omega) (by omega))
      case s4 =>
       refine ⟨hb2, q2, fun k hk => ?_⟩
       by_cases hkz : k = z2
       · subst hkz; exact sameV_iff.1 (hz3.symm.trans hb3)
       · exact q3 k (by omega)
      case m4 =>
       have : l.length - (z2 + 1) < l.length - z2 := by omega
       exact this
    · cases hs
end Go.Proofs.YtpjjdngoblfleaaGreat
namespace Go.Proofs.YtpjjdngoblfleaaGreat
open Go.RowKit
set_option linter.unusedVariables false
set_option maxRecDepth 100000
theorem cnt_two (v w : Vw) : cntB [⟨⟨#[]⟩, v⟩, ⟨⟨#[]⟩, w⟩] = 2 + cntV v + cntV w := by
 show 1 + (⟨#[]⟩ : ByteArray).size / 8 + cntV v + (1 + (⟨#[]⟩ : ByteArray).size / 8 + cntV w + 0) = _
 show 1 + 0 / 8 + cntV v + (1 + 0 / 8 + cntV w + 0) = _
 omega
noncomputable def sLawO : Spec
 | [.f x, .f (.v (.string s)), y, z] => match dtOf .dat x, vlOf y, vlOf z with
  | some D, some v, some w => some (some (cntD D ≤ 1900000 ∧ cntV v ≤ 1900000 ∧ cntV w ≤ 1900000 ∧ s.size ≤ 1900000), .one (bV true))
  | _, _, _ => none
 | _ => none
theorem cLawO {E : Env} (hU : Up E) : Contract Tryz.prog E 3 sLawO := by
 refine contract_D [(6, sTrue5), (7, sGreat5), (8, sOfM), (9, sOfRN 4000000), (10, sSameV), (11, sSameRN 8000000)] [] Tryz.ntmps3 Tryz.func3 (by kernel_rfl) (by kernel_rfl) hU ⟨cAwake5 hU, cGreat5 hU, cOfMM hU, cOfRN hU _, cSameV hU, (cSameRN hU _).1, trivial⟩ trivial ?_
 intro xs p r hs hp
 unfold sLawO at hs
 split at hs
 · rename_i x s y z
   split at hs
   · rename_i D v w h1 h2 h3
     cases hs
     obtain ⟨pD, pv, pw, ps⟩ := hp _ rfl
     refine ⟨[.f (.dt .dat D), .f (.v (.string s)), vlP v, vlP w], [], .cons (dt_sub h1).sub (.cons (.refl _) (.cons (vl_sub h2).sub (.cons (vl_sub h3).sub .nil))), rfl, fun _ hsh => ?_⟩
     have h0 := h1
     refine cast_rfl (p := (cntD D ≤ 4000000 ∧ cntB [Bnd.mk (ByteArray.mk #[]) (Vw.mk v.kind v.neg v.digits v.truth v.name v.fields), Bnd.mk (ByteArray.mk #[]) (Vw.mk w.kind w.neg w.digits w.truth w.name w.fields)] ≤ 4000000 ∧ 0 ≤ 4000000) ∧ ∀ (z1 : Bool), z1 = greatE D [Bnd.mk (ByteArray.mk #[]) (Vw.mk v.kind v.neg v.digits v.truth v.name v.fields), Bnd.mk (ByteArray.mk #[]) (Vw.mk w.kind w.neg w.digits w.truth w.name w.fields)] [] → ifB z1 (true = true ∧ Sub (bV true) (bV true)) (ifB (decide ((↑s.size : Int) > (600 : Int))) (true = true ∧ Sub (bV true) (bV true)) (Vw.fitV 400000 (Vw.mk v.kind v.neg v.digits v.truth v.name v.fields) ∧ ∀ (z2 : Bool), z2 = ofV D s (Vw.mk v.kind v.neg v.digits v.truth v.name v.fields) → ((Vw.mk v.kind v.neg v.digits v.truth v.name v.fields).size < 4000000 ∧ Vw.fitV 400000 (Vw.mk v.kind v.neg v.digits v.truth v.name v.fields)) ∧ ∀ (z3 : Bool), z3 = ofV D s (Vw.mk v.kind v.neg v.digits v.truth v.name v.fields) → ifB (z2 == z3) ((Vw.fitV 400000 (Vw.mk v.kind v.neg v.digits v.truth v.name v.fields) ∧ Vw.fitV 400000 (Vw.mk w.kind w.neg w.digits w.truth w.name w.fields)) ∧ ∀ (z4 : Bool), z4 = sameV (Vw.mk v.kind v.neg v.digits v.truth v.name v.fields) (Vw.mk w.kind w.neg w.digits w.truth w.name w.fields) → (2 * (Vw.mk v.kind v.neg v.digits v.truth v.name v.fields).size < 8000000 ∧ Vw.fitV 400000 (Vw.mk v.kind v.neg v.digits v.truth v.name v.fields) ∧ Vw.fitV 400000 (Vw.mk w.kind w.neg w.digits w.truth w.name w.fields)) ∧ ∀ (z5 : Bool), z5 = sameV (Vw.mk v.kind v.neg v.digits v.truth v.name v.fields) (Vw.mk w.kind w.neg w.digits w.truth w.name w.fields) → ifB (z4 == z5) ((Vw.fitV 400000 (Vw.mk v.kind v.neg v.digits v.truth v.name v.fields) ∧ Vw.fitV 400000 (Vw.mk v.kind v.neg v.digits v.truth v.name v.fields)) ∧ ∀ (z6 : Bool), z6 = sameV (Vw.mk v.kind v.neg v.digits v.truth v.name v.fields) (Vw.mk v.kind v.neg v.digits v.truth v.name v.fields) → true = true ∧ Sub (bV z6) (bV true)) (true = true ∧ Sub (bV false) (bV true))) (true = true ∧ Sub (bV false) (bV true))))) ?kr ?_
     case kr => kernel_rfl
     refine ⟨?s0, fun z1 => fun hz1 => ifB_iff.2 ⟨fun hb0 => ⟨rfl, ?m0⟩, fun hb0 => ifB_iff.2 ⟨fun hb1 => ⟨rfl, ?m1⟩, fun hb1 => ⟨?s1, fun z2 => fun hz2 => ⟨?s2, fun z3 => fun hz3 => ifB_iff.2 ⟨fun hb2 => ⟨?s3, fun z4 => fun hz4 => ⟨?s4, fun z5 => fun hz5 => ifB_iff.2 ⟨fun hb3 => ⟨?s5, fun z6 => fun hz6 => ⟨rfl, ?m2⟩⟩, fun hb3 => ⟨rfl, ?m3⟩⟩⟩⟩, fun hb2 => ⟨rfl, ?m4⟩⟩⟩⟩⟩⟩⟩
     all_goals try simp only [Vw.eta, beq_iff_eq, beq_eq_false_iff_ne, ne_eq] at *
     case s0 => exact ⟨by omega, by rw [cnt_two]; omega, by omega⟩
     case m0 => exact .refl _
     case m1 => exact .refl _
     case m4 => exact absurd (hz2.trans hz3.symm) hb2
     case m3 => exact absurd (hz4.trans hz5.symm) hb3
     case m2 => exact (subB_b (hz6.trans (sameV_self _))).sub
     all_goals have hg := (great_no (hz1.symm.trans hb0)).2.1
     all_goals rw [cnt_two] at hg
     all_goals have fv : v.fitV 400000 := (cntV_fit v 600 (by omega) (by decide)).mono (by decide)
     all_goals have fw : w.fitV 400000 := (cntV_fit w 600 (by omega) (by decide)).mono (by decide)
     all_goals have zv := cntV_size v
     case s1 => exact fv
     case s2 => exact ⟨by omega, fv⟩
     case s3 => exact ⟨fv, fw⟩
     case s4 => exact ⟨by omega, fv, fw⟩
     case s5 => exact ⟨fv, fv⟩
   · cases hs
 · cases hs
end Go.Proofs.YtpjjdngoblfleaaGreat
