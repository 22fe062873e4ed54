/- The reference of chapter 1 by the pure run: parted, read, Text. -/
import Derived.Test.YtjfncepmpabcnaaGreatDoorRb
namespace Go.Proofs.YtjfncepmpabcnaaGreatDoor
open Go.RowKit
set_option linter.unusedVariables false
set_option maxRecDepth 100000

theorem subB_nil {k : IntKind} : SubB (.f (.v (.slice none 0 0))) (.f (.is k [])) := ⟨fun H B v h => by
  have := h.val
  subst this
  exact .f (.slf (f := .is k []) (fun _ => rfl) rfl trivial (Nat.le_refl _) (by unfold maxLen; omega) (fun _ => rfl) 0 0 (fun _ _ => undef) (fun hc => absurd hc (Nat.lt_irrefl 0)) (fun i hi => absurd hi (Nat.not_lt_zero i)) (fun i hi => absurd hi (Nat.not_lt_zero i)) (fun i hi => absurd hi (Nat.not_lt_zero i)))⟩
theorem subB_flat {o : Nat} {x : Lf} : SubB (.tl o x) (.f x) := ⟨fun H B v h => by cases h with | tl h _ => exact .f h⟩
theorem subB_trans {x y z : PV} (h : SubB x y) (h' : SubB y z) : SubB x z := ⟨fun H B v hv => h'.out _ _ _ (h.out _ _ _ hv)⟩
def sPartedD : Spec
  | [.f (.is .u8 l), .f (.is .u8 m)] => some (some (R10 l 10000000 ∧ R10 m 10000000 ∧ 0 < vI m), .nm2 Nat Nat (vI l / vI m) (vI l % vI m) fun q r => .tup [dP q, dP r])
  | _ => none
/-- A quotient so far: from the place on, its decimals, what is left. -/
def ivQ (L : List Nat) (b : Nat) (x : Nat × List Nat × Nat) : Prop := x.1 ≤ L.length ∧ x.2.1.length = L.length ∧ (∀ y ∈ x.2.1, y < 10) ∧ (∀ i, i < x.1 → dg x.2.1 i = 0) ∧ val 10 (x.2.1.drop x.1) * b + x.2.2 = val 10 (L.drop x.1) ∧ x.2.2 < b
/-- Within a round: what is left, how often it was taken. -/
def ivR (L : List Nat) (b k : Nat) (x : Nat × List Nat × Nat) : Prop := x.1 = k ∧ x.2.1.length = L.length ∧ k < L.length ∧ (∀ y ∈ x.2.1, y < 10) ∧ (∀ i, i < k → dg x.2.1 i = 0) ∧ val 10 (x.2.1.drop k) * b + x.2.2 = val 10 (L.drop k) ∧ dg x.2.1 k * b + x.2.2 < 10 * b
theorem ordN_ge (a b : Nat) : 0 ≤ ordN a b ↔ b ≤ a := by
  unfold ordN
  split
  · omega
  · split <;> omega
theorem lt_pow_digs {n k : Nat} (h : (digs 10 n).length ≤ k) : n < 10 ^ k := by
  have := val_lt 10 _ (digs_lt 10 (by omega) n)
  rw [val_digs 10 (by omega)] at this
  exact Nat.lt_of_lt_of_le this (Nat.pow_le_pow_right (by omega) h)
theorem ivR_first {L : List Nat} {b k z3 : Nat} {z : Nat × List Nat × Nat} (hk : k = z.1 - 1) (hk1 : z.1 = k + 1) (hkl : k < L.length) (h : ivQ L b z) (hz : z3 = dg L k + 10 * z.2.2) (ha : dg L k < 10) : ivR L b (z.1 - 1, z.2.1, z3).1 (z.1 - 1, z.2.1, z3) := by
  obtain ⟨i, q, r⟩ := z
  obtain ⟨a1, a2, a3, a4, a5, a6⟩ := h
  dsimp only at *
  subst hk1
  rw [Nat.add_sub_cancel]
  have hd : dg q k = 0 := a4 k (by omega)
  refine ⟨rfl, a2, hkl, a3, fun i hi => a4 i (by omega), ?_, ?_⟩
  · rw [drop_dg q k (by omega), drop_dg L k hkl, hd]
    simp only [val]
    rw [← a5, hz, Nat.zero_add, Nat.mul_add, Nat.mul_assoc]
    omega
  · show dg q k * b + z3 < 10 * b
    rw [hd, Nat.zero_mul]; omega
theorem len_mul10 {n C K : Nat} (h : n < 10 * C) (hC : (digs 10 C).length ≤ K) : (digs 10 n).length ≤ K + 1 := by
  refine digs_len10 (Nat.lt_of_lt_of_le h ?_)
  rw [Nat.pow_succ, Nat.mul_comm]
  exact Nat.mul_le_mul_right 10 (Nat.le_of_lt (lt_pow_digs hC))
theorem ivQ_next {L : List Nat} {b : Nat} {z : Nat × List Nat × Nat} (h : ivR L b z.1 z) (hlt : z.2.2 < b) : ivQ L b (z.1, z.2.1, z.2.2) := by
  obtain ⟨-, a2, a3, a4, a5, a6, a7⟩ := h
  exact ⟨by dsimp only; omega, a2, a4, a5, a6, hlt⟩
theorem dg_set1 (l : List Nat) (j y p : Nat) (hj : j < l.length) : dg (l.set j y) p = if p = j then y else dg l p := by
  rw [dg_set]
  by_cases h : p = j
  · rw [if_pos ⟨h, hj⟩, if_pos h]
  · rw [if_neg (fun hc => h hc.1), if_neg h]
theorem ivR_next {L : List Nat} {b z6 : Nat} {z : Nat × List Nat × Nat} (h : ivR L b z.1 z) (hge : b ≤ z.2.2) (hz : z6 = z.2.2 - b) (hb : 0 < b) : ivR L b (z.1, z.2.1.set z.1 (dg z.2.1 z.1 + 1), z6).1 (z.1, z.2.1.set z.1 (dg z.2.1 z.1 + 1), z6) := by
  obtain ⟨k, q, r⟩ := z
  obtain ⟨-, a2, a3, a4, a5, a6, a7⟩ := h
  dsimp only at *
  have hkq : k < q.length := by omega
  have hsm : (dg q k + 1) * b = dg q k * b + b := by rw [Nat.succ_mul]
  have h9 : dg q k + 1 < 10 := by
    refine Decidable.byContradiction fun hc => ?_
    have : 10 * b ≤ (dg q k + 1) * b := Nat.mul_le_mul_right b (by omega)
    omega
  refine ⟨rfl, by simp [a2], a3, fun y hy => ?_, fun i hi => ?_, ?_, ?_⟩
  · rcases List.mem_or_eq_of_mem_set hy with hy | rfl
    · exact a4 y hy
    · exact h9
  · rw [dg_set1 _ _ _ _ hkq, if_neg (by omega)]; exact a5 i hi
  · rw [drop_dg q k hkq] at a6
    rw [drop_dg (q.set k (dg q k + 1)) k (by simpa using hkq), dg_set1 _ _ _ _ hkq, if_pos rfl, List.drop_set_of_lt (by omega)]
    simp only [val] at a6 ⊢
    rw [← a6, Nat.add_mul (dg q k + 1), hsm, Nat.add_mul (dg q k)]
    omega
  · dsimp only
    rw [dg_set1 _ _ _ _ hkq, if_pos rfl, hsm]; omega
theorem cPartedD {E : World → Hp → Prop} (hU : Up E) : Contract Tryz.prog E 116 sPartedD := by
  refine contract_loops [(144, sTrimD), (141, sOrderD), (142, sLessD)] Tryz.ntmps116 Tryz.func116 (by kernel_rfl) (by kernel_rfl) hU ⟨cTrimD hU, cOrderD hU, cLessD hU, trivial⟩ ?_
  intro xs p r hs hp
  unfold sPartedD at hs
  split at hs
  · rename_i l m
    cases hs
    obtain ⟨⟨h1, A, rfl⟩, ⟨h3, C, rfl⟩, h5⟩ := hp _ rfl
    rw [vI_digs] at h5
    rw [vI_digs, vI_digs]
    rw [iN_len] at h1 h3
    refine ⟨[.f (.is .u8 (iN (digs 10 A))), .f (.is .u8 (iN (digs 10 C)))], [(4, .s ⟨Nat × List Nat × Nat, fun x => ⟨[(0, .f (.is .u8 (iN (digs 10 A)))), (1, .f (.is .u8 (iN (digs 10 C)))), (6, .wr 0), (7, .f (.is .u8 (iN (digs 10 x.2.2)))), (8, .f (.v (.int .i64 ((x.1 : Int) - 1))))], [.own 5 (.is .u8 (iN x.2.1))]⟩,
      ivQ (digs 10 A) C, fun x => x.1⟩), (7, ⟨Nat × List Nat × Nat, fun x => ⟨[(0, .f (.is .u8 (iN (digs 10 A)))), (1, .f (.is .u8 (iN (digs 10 C)))), (6, .wr 0), (7, .f (.is .u8 (iN (digs 10 x.2.2)))), (8, .f (.v (.int .i64 (x.1 : Int))))], [.own 5 (.is .u8 (iN x.2.1))]⟩,
      fun x => ivR (digs 10 A) C x.1 x, fun x => x.2.2, fun x y => x.1 = y.1⟩)], .cons (.refl _) (.cons (.refl _) .nil), rfl, ?_⟩
    have hmul : ∀ (c y z : Nat), (c + 10 * y) * z = c * z + 10 * (y * z) := fun c y z => by rw [Nat.add_mul, Nat.mul_assoc]
    refine cast_rfl (p := ((0 : Int) ≤ (↑(iN (digs 10 A)).length : Int) ∧ (↑(iN (digs 10 A)).length : Int) ≤ (↑(iN (digs 10 A)).length : Int) ∧ (↑(iN (digs 10 A)).length : Int) * (↑1 : Int) ≤ (140737488355328 : Int) ∧ (↑(iN (digs 10 A)).length : Int) ≤ (↑9223372036854775807 : Int)) ∧ ∃ (x1 : Nat × List Nat × Nat), (((5 = 5 ∧ Lf.is IntKind.u8 (iN x1.snd.fst) = Lf.is IntKind.u8 (List.replicate (↑(iN (digs 10 A)).length : Int).toNat (0 : Int))) ∧ True) ∧ SubB (PV.f (Lf.is IntKind.u8 (iN (digs 10 A)))) (PV.f (Lf.is IntKind.u8 (iN (digs 10 A)))) ∧ SubB (PV.f (Lf.is IntKind.u8 (iN (digs 10 C)))) (PV.f (Lf.is IntKind.u8 (iN (digs 10 C)))) ∧ SubB (PV.wr 0) (PV.wr 0) ∧ SubB (PV.f (Lf.v (Value.slice none 0 0))) (PV.f (Lf.is IntKind.u8 (iN (digs 10 x1.snd.snd)))) ∧ SubB (PV.f (Lf.v (Value.int IntKind.i64 (IntKind.i64.wrap ((↑(iN (digs 10 A)).length : Int) - (1 : Int)))))) (PV.f (Lf.v (Value.int IntKind.i64 ((↑x1.fst : Int) - (1 : Int))))) ∧ True) ∧ ivQ (digs 10 A) C x1 ∧ True ∧ ∀ (z2 : Nat × List Nat × Nat), ivQ (digs 10 A) C z2 → True → ifB (decide ((↑z2.fst : Int) - (1 : Int) ≥ (0 : Int))) (((0 : Int) ≤ (↑z2.fst : Int) - (1 : Int) ∧ (↑z2.fst : Int) - (1 : Int) < (↑(iN (digs 10 A)).length : Int)) ∧ (1 + (iN (digs 10 z2.snd.snd)).length ≤ 9223372036854775807 ∧ (1 + (iN (digs 10 z2.snd.snd)).length) * 1 ≤ 140737488355328) ∧ D10 ([(iN (digs 10 A)).getD ((↑z2.fst : Int) - (1 : Int)).toNat (0 : Int)] ++ iN (digs 10 z2.snd.snd)) 1000000000 ∧ ∀ (z3 : Nat), z3 = vI ([(iN (digs 10 A)).getD ((↑z2.fst : Int) - (1 : Int)).toNat (0 : Int)] ++ iN (digs 10 z2.snd.snd)) → ∃ (x4 : Nat × List Nat × Nat), (((5 = 5 ∧ Lf.is IntKind.u8 (iN x4.snd.fst) = Lf.is IntKind.u8 (iN z2.snd.fst)) ∧ True) ∧ SubB (PV.f (Lf.is IntKind.u8 (iN (digs 10 A)))) (PV.f (Lf.is IntKind.u8 (iN (digs 10 A)))) ∧ SubB (PV.f (Lf.is IntKind.u8 (iN (digs 10 C)))) (PV.f (Lf.is IntKind.u8 (iN (digs 10 C)))) ∧ SubB (PV.wr 0) (PV.wr 0) ∧ SubB (PV.f (Lf.is IntKind.u8 (iN (digs 10 z3)))) (PV.f (Lf.is IntKind.u8 (iN (digs 10 x4.snd.snd)))) ∧ SubB (PV.f (Lf.v (Value.int IntKind.i64 ((↑z2.fst : Int) - (1 : Int))))) (PV.f (Lf.v (Value.int IntKind.i64 (↑x4.fst : Int)))) ∧ True) ∧ ivR (digs 10 A) C x4.fst x4 ∧ x4.fst = x4.fst ∧ ∀ (z5 : Nat × List Nat × Nat), ivR (digs 10 A) C z5.fst z5 → x4.fst = z5.fst → (R10 (iN (digs 10 z5.snd.snd)) 1000000000 ∧ R10 (iN (digs 10 C)) 1000000000) ∧ ifB (decide (ordN (vI (iN (digs 10 z5.snd.snd))) (vI (iN (digs 10 C))) ≥ (0 : Int))) ((R10 (iN (digs 10 z5.snd.snd)) 100000000 ∧ R10 (iN (digs 10 C)) 100000000 ∧ vI (iN (digs 10 C)) ≤ vI (iN (digs 10 z5.snd.snd))) ∧ ∀ (z6 : Nat), z6 = vI (iN (digs 10 z5.snd.snd)) - vI (iN (digs 10 C)) → ((0 : Int) ≤ (↑z5.fst : Int) ∧ (↑z5.fst : Int) < (↑(iN z5.snd.fst).length : Int)) ∧ ((0 : Int) ≤ (↑z5.fst : Int) ∧ (↑z5.fst : Int) < (↑(iN z5.snd.fst).length : Int)) ∧ ∃ (x7 : Nat × List Nat × Nat), (((5 = 5 ∧ Lf.is IntKind.u8 (iN x7.snd.fst) = Lf.is IntKind.u8 ((iN z5.snd.fst).set (↑z5.fst : Int).toNat (IntKind.u8.wrap ((iN z5.snd.fst).getD (↑z5.fst : Int).toNat (0 : Int) + (1 : Int))))) ∧ True) ∧ SubB (PV.f (Lf.is IntKind.u8 (iN (digs 10 A)))) (PV.f (Lf.is IntKind.u8 (iN (digs 10 A)))) ∧ SubB (PV.f (Lf.is IntKind.u8 (iN (digs 10 C)))) (PV.f (Lf.is IntKind.u8 (iN (digs 10 C)))) ∧ SubB (PV.wr 0) (PV.wr 0) ∧ SubB (PV.f (Lf.is IntKind.u8 (iN (digs 10 z6)))) (PV.f (Lf.is IntKind.u8 (iN (digs 10 x7.snd.snd)))) ∧ SubB (PV.f (Lf.v (Value.int IntKind.i64 (↑z5.fst : Int)))) (PV.f (Lf.v (Value.int IntKind.i64 (↑x7.fst : Int)))) ∧ True) ∧ ivR (digs 10 A) C x7.fst x7 ∧ x4.fst = x7.fst ∧ x7.snd.snd.succ.le z5.snd.snd) (∃ (x6 : Nat × List Nat × Nat), (((5 = 5 ∧ Lf.is IntKind.u8 (iN x6.snd.fst) = Lf.is IntKind.u8 (iN z5.snd.fst)) ∧ True) ∧ SubB (PV.f (Lf.is IntKind.u8 (iN (digs 10 A)))) (PV.f (Lf.is IntKind.u8 (iN (digs 10 A)))) ∧ SubB (PV.f (Lf.is IntKind.u8 (iN (digs 10 C)))) (PV.f (Lf.is IntKind.u8 (iN (digs 10 C)))) ∧ SubB (PV.wr 0) (PV.wr 0) ∧ SubB (PV.f (Lf.is IntKind.u8 (iN (digs 10 z5.snd.snd)))) (PV.f (Lf.is IntKind.u8 (iN (digs 10 x6.snd.snd)))) ∧ SubB (PV.f (Lf.v (Value.int IntKind.i64 (IntKind.i64.wrap ((↑z5.fst : Int) - (1 : Int)))))) (PV.f (Lf.v (Value.int IntKind.i64 ((↑x6.fst : Int) - (1 : Int))))) ∧ True) ∧ ivQ (digs 10 A) C x6 ∧ True ∧ x6.fst.succ.le z2.fst)) (D10 (iN z2.snd.fst) 1000000000 ∧ ∀ (z3 : Nat), z3 = vI (iN z2.snd.fst) → true = true ∧ Sub (PV.tup [PV.f (Lf.is IntKind.u8 (iN (digs 10 z3))), PV.f (Lf.is IntKind.u8 (iN (digs 10 z2.snd.snd)))]) (PV.tup [PV.f (Lf.is IntKind.u8 (iN (digs 10 (A / C)))), PV.f (Lf.is IntKind.u8 (iN (digs 10 (A % C))))]))) (by kernel_rfl) ?_
    refine ⟨?s0, ⟨?x0, ⟨?s1, ⟨?s2, ⟨trivial, fun z2 => fun hq0 => fun _ => ifB_iff.2 ⟨fun hb1 => ⟨?s3, ⟨?s4, ⟨?s5, fun z3 => fun hz3 => ⟨?x1, ⟨?s6, ⟨?s7, ⟨rfl, fun z5 => fun hq2 => fun hq3 => ⟨?s8, ifB_iff.2 ⟨fun hb4 => ⟨?s9, fun z6 => fun hz6 => ⟨?s10, ⟨?s11, ⟨?x2, ⟨?s12, ⟨?s13, ⟨?s14, ?m0⟩⟩⟩⟩⟩⟩⟩, fun hb4 => ⟨?x3, ⟨?s15, ⟨?s16, ⟨trivial, ?m1⟩⟩⟩⟩⟩⟩⟩⟩⟩⟩⟩⟩⟩, fun hb1 => ⟨?s17, fun z3 => fun hz3 => ⟨rfl, ?m2⟩⟩⟩⟩⟩⟩⟩⟩
    case x0 => exact ((digs 10 A).length, List.replicate (digs 10 A).length 0, 0)
    case s0 => rw [iN_len]; omega
    case s1 =>
      refine ⟨⟨⟨rfl, ?_⟩, trivial⟩, .refl _, .refl _, .refl _, subB_nil, subB_int ?_, trivial⟩
      · rw [iN_len, Int.toNat_natCast]; simp [iN]
      · rw [iN_len, wI _ (by omega) (by omega)]
    case s2 => exact ⟨Nat.le_refl _, by simp, fun y hy => by rw [List.eq_of_mem_replicate hy]; omega, fun i _ => by unfold dg; simp [List.getD_eq_getElem?_getD, List.getElem?_replicate]; split <;> rfl, by rw [List.drop_of_length_le (by simp), List.drop_of_length_le (Nat.le_refl _)]; simp [val], h5⟩
    case s17 => exact ⟨by rw [iN_len]; have := hq0.2.1; omega, _, rfl, hq0.2.2.1⟩
    case m2 =>
      have hz : z2.1 = 0 := by have := of_decide_eq_false hb1; omega
      obtain ⟨a1, a2, a3, a4, a5, a6⟩ := hq0
      rw [hz, List.drop_zero, List.drop_zero, val_digs 10 (by omega)] at a5
      subst hz3
      unfold vI
      rw [natI_iN]
      have e1 : A / C = val 10 z2.2.1 := by
        rw [← a5, Nat.add_comm, Nat.add_mul_div_right _ _ h5, Nat.div_eq_of_lt a6, Nat.zero_add]
      have e2 : A % C = z2.2.2 := by rw [← a5, Nat.add_comm, Nat.add_mul_mod_self_right, Nat.mod_eq_of_lt a6]
      show Sub (.tup [dP _, dP z2.2.2]) (.tup [dP (A / C), dP (A % C)])
      rw [e1, e2]; exact .refl _
    case x1 => exact (z2.1 - 1, z2.2.1, z3)
    case x2 => exact (z5.1, z5.2.1.set z5.1 (dg z5.2.1 z5.1 + 1), z6)
    case x3 => exact (z5.1, z5.2.1, z5.2.2)
    all_goals obtain ⟨k, hk⟩ : ∃ k, k = z2.1 - 1 := ⟨_, rfl⟩
    all_goals have hk1 : z2.1 = k + 1 := (by have := of_decide_eq_true hb1; omega)
    all_goals have hw : ((z2.1 : Int) - 1).toNat = k := (by omega)
    all_goals have hr : (digs 10 z2.2.2).length ≤ 10000000 := Nat.le_trans (digs_length_mono 10 (by omega) (Nat.le_of_lt hq0.2.2.2.2.2)) h3
    all_goals have ha := dg_lt (digs_lt 10 (by omega) A) (by omega) k
    all_goals have hkl : k < (digs 10 A).length := (by have := hq0.1; omega)
    case s3 => rw [iN_len]; exact ⟨by omega, by omega⟩
    case s4 => rw [iN_len]; exact ⟨by omega, by omega⟩
    case s5 => rw [hw, iN_at]; exact ⟨by simp [iN_len]; omega, dg (digs 10 A) k :: digs 10 z2.2.2, rfl, fun x hx => by rcases List.mem_cons.1 hx with rfl | hx; exact ha; exact digs_lt 10 (by omega) _ x hx⟩
    all_goals rw [hw, iN_at, iN_one, iN_app] at hz3
    all_goals have hz4 : z3 = dg (digs 10 A) k + 10 * z2.2.2 := (by rw [hz3]; unfold vI; rw [natI_iN]; simp [val, val_digs])
    case s6 => exact ⟨⟨⟨rfl, rfl⟩, trivial⟩, .refl _, .refl _, .refl _, .refl _, subB_int (by omega), trivial⟩
    case s7 => exact ivR_first hk hk1 hkl hq0 hz4 (by omega)
    all_goals have hz5 : z5.1 = k := (by omega)
    all_goals have hlen5 : (digs 10 z5.2.2).length ≤ 10000001 := len_mul10 (by have := hq2.2.2.2.2.2.2; omega) h3
    case s8 => exact ⟨R10_digs (by omega), R10_digs (by omega)⟩
    all_goals rw [vI_digs, vI_digs] at hb4
    case s15 => exact ⟨⟨⟨rfl, rfl⟩, trivial⟩, .refl _, .refl _, .refl _, .refl _, subB_int (by rw [wI _ (by omega) (by omega)]), trivial⟩
    case s16 => exact ivQ_next hq2 (by have := of_decide_eq_false hb4; rw [ge_iff_le, ordN_ge] at this; omega)
    case m1 => show z5.1 + 1 ≤ z2.1; omega
    all_goals have hge : C ≤ z5.2.2 := (by have := of_decide_eq_true hb4; rw [ge_iff_le, ordN_ge] at this; omega)
    case s9 => exact ⟨R10_digs (by omega), R10_digs (by omega), by rw [vI_digs, vI_digs]; exact hge⟩
    all_goals rw [vI_digs, vI_digs] at hz6
    all_goals have hl5 := hq2.2.1
    case s10 => rw [iN_len]; exact ⟨by omega, by omega⟩
    case s11 => rw [iN_len]; exact ⟨by omega, by omega⟩
    case s12 =>
      refine ⟨⟨⟨rfl, ?_⟩, trivial⟩, .refl _, .refl _, .refl _, .refl _, .refl _, trivial⟩
      have := dg_lt hq2.2.2.2.1 (by omega) z5.1
      rw [Int.toNat_natCast, iN_at, wrap8 _ (by omega), iN_set]; rfl
    case s13 => exact ivR_next hq2 hge hz6 h5
    case s14 => exact hq3
    case m0 => show z6 + 1 ≤ z5.2.2; omega
  · cases hs
def sReadD : Spec
  | [.f (.lr l k)] => some (some (k ≤ 1000000), .nm Nat (val 1000000000 l) dP)
  | _ => none
/-- Reading: place, decimals so far; a limb's rest, its decimals. -/
def ivD (l : List Nat) (x : (Nat × List Nat) × Nat × List Nat) : Prop := x.1.1 < l.length ∧ (∀ y ∈ x.1.2, y < 10) ∧ val 10 x.1.2 = 1000000000 * val 1000000000 (l.drop (x.1.1 + 1)) ∧ x.1.2.length ≤ 9 + 10 * l.length ∧ (∀ y ∈ x.2.2, y < 10) ∧ val 10 x.2.2 + 10 ^ x.2.2.length * x.2.1 = dg l x.1.1 ∧ x.2.2.length ≤ 10
theorem val_wide {b c : Nat} (h : b ≤ c) : ∀ l : List Nat, val b l ≤ val c l
  | [] => Nat.le_refl _
  | x :: l => Nat.add_le_add_left (Nat.mul_le_mul h (val_wide h l)) x
theorem digs_val_len {l : List Nat} (h : ∀ x ∈ l, x < 4294967296) : (digs 10 (val 1000000000 l)).length ≤ 10 * l.length := by
  refine digs_len10 (Nat.lt_of_le_of_lt (val_wide (c := 10 ^ 10) (by decide) l) ?_)
  rw [Nat.pow_mul]
  exact val_lt _ l fun x hx => Nat.lt_trans (h x hx) (by decide)
theorem ivD_next {l : List Nat} {x : (Nat × List Nat) × Nat × List Nat} (h : ivD l x) (h0 : 0 < x.2.1) (hl : ∀ x ∈ l, x < 4294967296) : ivD l (x.1, (x.2.1 / 10, x.2.2 ++ [x.2.1 % 10])) ∧ x.2.2.length < 10 := by
  obtain ⟨⟨i, o⟩, n, d⟩ := x
  obtain ⟨a1, a2, a3, a4, a5, a6, a7⟩ := h
  dsimp only at *
  have hd := dg_lt hl (by omega) i
  have hlt : d.length < 10 := by
    refine Decidable.byContradiction fun hc => ?_
    have h1 : 10 ^ 10 ≤ 10 ^ d.length := Nat.pow_le_pow_right (by omega) (by omega)
    have h2 : 10 ^ d.length * 1 ≤ 10 ^ d.length * n := Nat.mul_le_mul_left _ h0
    have h3 : (10 : Nat) ^ 10 = 10000000000 := by decide
    omega
  refine ⟨⟨a1, a2, a3, a4, fun y hy => ?_, dig_step a6, by simp; omega⟩, hlt⟩
  rcases List.mem_append.1 hy with hy | hy
  · exact a5 y hy
  · rw [List.mem_singleton.1 hy]; exact Nat.mod_lt _ (by omega)
theorem nle_dg {l : List Nat} {x : (Nat × List Nat) × Nat × List Nat} (h : ivD l x) (hl : ∀ x ∈ l, x < 4294967296) : x.2.1 < 4294967296 := by
  have h1 := h.2.2.2.2.2.1
  have h2 := dg_lt hl (by omega) x.1.1
  have h3 : 1 * x.2.1 ≤ 10 ^ x.2.2.length * x.2.1 := Nat.mul_le_mul_right _ (Nat.pos_of_ne_zero (by have := Nat.pow_pos (n := x.2.2.length) (show 0 < 10 by omega); omega))
  omega
theorem ivD_end {l : List Nat} {x : (Nat × List Nat) × Nat × List Nat} {j z5 : Nat} (h : ivD l x) (hj : j = x.1.1) (h0 : x.2.1 = 0) (hz : z5 = vI (iN x.1.2) + vI (iN x.2.2)) : (j, z5).1 ≤ l.length ∧ (j, z5).2 = val 1000000000 (l.drop (j, z5).1) := by
  obtain ⟨a1, a2, a3, a4, a5, a6, a7⟩ := h
  subst hj
  refine ⟨Nat.le_of_lt a1, ?_⟩
  dsimp only
  rw [h0, Nat.mul_zero, Nat.add_zero] at a6
  unfold vI at hz
  rw [natI_iN, natI_iN, a3, a6] at hz
  rw [hz, drop_dg l x.1.1 a1]
  simp only [val]
  omega
theorem iN_rep (k : Nat) : List.replicate k (0 : Int) = iN (List.replicate k 0) := by simp [iN]
theorem cReadD {E : World → Hp → Prop} (hU : Up E) : Contract Tryz.prog E 110 sReadD := by
  refine contract_loopsG [(140, sPlusD)] Tryz.ntmps110 Tryz.func110 (by kernel_rfl) (by kernel_rfl) hU ⟨cPlusD hU, trivial⟩ ?_
  intro xs p r hs hp
  unfold sReadD at hs
  split at hs
  · rename_i l k
    cases hs
    have hk := hp _ rfl
    refine ⟨[.f (.lr l k)], [(3, .s ⟨Nat × Nat, fun x => ⟨[(0, .f (.lr l k)), (3, .f (.is .u8 (iN (digs 10 x.2)))), (4, .f (.v (.int .i64 ((x.1 : Int) - 1))))], []⟩,
      fun x => x.1 ≤ l.length ∧ x.2 = val 1000000000 (l.drop x.1), fun x => x.1⟩), (9, ⟨(Nat × List Nat) × Nat × List Nat, fun x => ⟨[(0, .f (.lr l k)), (3, .f (.is .u8 (iN x.1.2))), (4, .f (.v (.int .i64 (x.1.1 : Int)))), (5, .tl 1 (.is .u8 (iN x.2.2))), (6, .f (.v (.int .u32 (x.2.1 : Nat))))], [.tail 5 1, .tail 5 1]⟩,
      ivD l, fun x => x.2.1, fun x y => x.1 = y.1⟩)], .cons (.refl _) .nil, rfl, fun hgx hg => ?_⟩
    obtain ⟨hlk, hl⟩ := hg.1.1
    refine cast_rfl (p := ∃ (x1 : Nat × Nat), (True ∧ SubB (PV.f (Lf.lr l k)) (PV.f (Lf.lr l k)) ∧ SubB (PV.f (Lf.v (Value.slice none 0 0))) (PV.f (Lf.is IntKind.u8 (iN (digs 10 x1.snd)))) ∧ SubB (PV.f (Lf.v (Value.int IntKind.i64 (IntKind.i64.wrap ((↑l.length : Int) - (1 : Int)))))) (PV.f (Lf.v (Value.int IntKind.i64 ((↑x1.fst : Int) - (1 : Int))))) ∧ True) ∧ (x1.fst ≤ l.length ∧ x1.snd = val 1000000000 (List.drop x1.fst l)) ∧ True ∧ ∀ (z2 : Nat × Nat), z2.fst ≤ l.length ∧ z2.snd = val 1000000000 (List.drop z2.fst l) → True → ifB (decide ((↑z2.fst : Int) - (1 : Int) ≥ (0 : Int))) (ifB (decide ((↑(iN (digs 10 z2.snd)).length : Int) > (0 : Int))) (((0 : Int) ≤ (9 : Int) ∧ (9 : Int) ≤ (9 : Int) ∧ (9 : Int) * (↑1 : Int) ≤ (140737488355328 : Int) ∧ (9 : Int) ≤ (↑9223372036854775807 : Int)) ∧ (9 + (iN (digs 10 z2.snd)).length ≤ 9223372036854775807 ∧ (9 + (iN (digs 10 z2.snd)).length) * 1 ≤ 140737488355328) ∧ ((0 : Int) ≤ (↑z2.fst : Int) - (1 : Int) ∧ (↑z2.fst : Int) - (1 : Int) < (↑l.length : Int)) ∧ ∃ (x3 : (Nat × List Nat) × Nat × List Nat), (((5 = 5 ∧ 1 = 1) ∧ True) ∧ SubB (PV.f (Lf.lr l k)) (PV.f (Lf.lr l k)) ∧ SubB (PV.tl 0 (Lf.is IntKind.u8 (List.replicate (Int.toNat (9 : Int)) (0 : Int) ++ iN (digs 10 z2.snd)))) (PV.f (Lf.is IntKind.u8 (iN x3.fst.snd))) ∧ SubB (PV.f (Lf.v (Value.int IntKind.i64 ((↑z2.fst : Int) - (1 : Int))))) (PV.f (Lf.v (Value.int IntKind.i64 (↑x3.fst.fst : Int)))) ∧ emptyT (PV.tl 1 (Lf.is IntKind.u8 (iN x3.snd.snd))) ∧ SubB (PV.f (Lf.v (Value.int IntKind.u32 (↑(l.getD ((↑z2.fst : Int) - (1 : Int)).toNat 0) : Int)))) (PV.f (Lf.v (Value.int IntKind.u32 (↑x3.snd.fst : Int)))) ∧ True) ∧ ivD l x3 ∧ x3.fst = x3.fst ∧ ∀ (z4 : (Nat × List Nat) × Nat × List Nat), ivD l z4 → x3.fst = z4.fst → ifB (decide ((↑z4.snd.fst : Int) > (0 : Int))) (((iN z4.snd.snd).length + 1 ≤ 9223372036854775807 ∧ ((iN z4.snd.snd).length + 1) * 1 ≤ 140737488355328) ∧ ∃ (x5 : (Nat × List Nat) × Nat × List Nat), (((5 = 5 ∧ 1 = 1) ∧ (5 = 5 ∧ 1 = 1) ∧ True) ∧ SubB (PV.f (Lf.lr l k)) (PV.f (Lf.lr l k)) ∧ SubB (PV.f (Lf.is IntKind.u8 (iN z4.fst.snd))) (PV.f (Lf.is IntKind.u8 (iN x5.fst.snd))) ∧ SubB (PV.f (Lf.v (Value.int IntKind.i64 (↑z4.fst.fst : Int)))) (PV.f (Lf.v (Value.int IntKind.i64 (↑x5.fst.fst : Int)))) ∧ SubB (PV.tl 1 (Lf.is IntKind.u8 (iN z4.snd.snd ++ [IntKind.u8.wrap ((↑z4.snd.fst : Int).tmod (10 : Int))]))) (PV.tl 1 (Lf.is IntKind.u8 (iN x5.snd.snd))) ∧ SubB (PV.f (Lf.v (Value.int IntKind.u32 (IntKind.u32.wrap ((↑z4.snd.fst : Int).tdiv (10 : Int)))))) (PV.f (Lf.v (Value.int IntKind.u32 (↑x5.snd.fst : Int)))) ∧ True) ∧ ivD l x5 ∧ x3.fst = x5.fst ∧ x5.snd.fst.succ.le z4.snd.fst) ((D10 (iN z4.fst.snd) 100000000 ∧ D10 (iN z4.snd.snd) 100000000) ∧ ∀ (z5 : Nat), z5 = vI (iN z4.fst.snd) + vI (iN z4.snd.snd) → ∃ (x6 : Nat × Nat), (True ∧ SubB (PV.f (Lf.lr l k)) (PV.f (Lf.lr l k)) ∧ SubB (PV.f (Lf.is IntKind.u8 (iN (digs 10 z5)))) (PV.f (Lf.is IntKind.u8 (iN (digs 10 x6.snd)))) ∧ SubB (PV.f (Lf.v (Value.int IntKind.i64 (IntKind.i64.wrap ((↑z4.fst.fst : Int) - (1 : Int)))))) (PV.f (Lf.v (Value.int IntKind.i64 ((↑x6.fst : Int) - (1 : Int))))) ∧ True) ∧ (x6.fst ≤ l.length ∧ x6.snd = val 1000000000 (List.drop x6.fst l)) ∧ True ∧ x6.fst.succ.le z2.fst)) (((0 : Int) ≤ (↑z2.fst : Int) - (1 : Int) ∧ (↑z2.fst : Int) - (1 : Int) < (↑l.length : Int)) ∧ ∃ (x3 : (Nat × List Nat) × Nat × List Nat), (True ∧ SubB (PV.f (Lf.lr l k)) (PV.f (Lf.lr l k)) ∧ SubB (PV.f (Lf.is IntKind.u8 (iN (digs 10 z2.snd)))) (PV.f (Lf.is IntKind.u8 (iN x3.fst.snd))) ∧ SubB (PV.f (Lf.v (Value.int IntKind.i64 ((↑z2.fst : Int) - (1 : Int))))) (PV.f (Lf.v (Value.int IntKind.i64 (↑x3.fst.fst : Int)))) ∧ emptyT (PV.tl 1 (Lf.is IntKind.u8 (iN x3.snd.snd))) ∧ SubB (PV.f (Lf.v (Value.int IntKind.u32 (↑(l.getD ((↑z2.fst : Int) - (1 : Int)).toNat 0) : Int)))) (PV.f (Lf.v (Value.int IntKind.u32 (↑x3.snd.fst : Int)))) ∧ True) ∧ ivD l x3 ∧ x3.fst = x3.fst ∧ ∀ (z4 : (Nat × List Nat) × Nat × List Nat), ivD l z4 → x3.fst = z4.fst → ifB (decide ((↑z4.snd.fst : Int) > (0 : Int))) (((iN z4.snd.snd).length + 1 ≤ 9223372036854775807 ∧ ((iN z4.snd.snd).length + 1) * 1 ≤ 140737488355328) ∧ ∃ (x5 : (Nat × List Nat) × Nat × List Nat), (((5 = 5 ∧ 1 = 1) ∧ (5 = 5 ∧ 1 = 1) ∧ True) ∧ SubB (PV.f (Lf.lr l k)) (PV.f (Lf.lr l k)) ∧ SubB (PV.f (Lf.is IntKind.u8 (iN z4.fst.snd))) (PV.f (Lf.is IntKind.u8 (iN x5.fst.snd))) ∧ SubB (PV.f (Lf.v (Value.int IntKind.i64 (↑z4.fst.fst : Int)))) (PV.f (Lf.v (Value.int IntKind.i64 (↑x5.fst.fst : Int)))) ∧ SubB (PV.tl 1 (Lf.is IntKind.u8 (iN z4.snd.snd ++ [IntKind.u8.wrap ((↑z4.snd.fst : Int).tmod (10 : Int))]))) (PV.tl 1 (Lf.is IntKind.u8 (iN x5.snd.snd))) ∧ SubB (PV.f (Lf.v (Value.int IntKind.u32 (IntKind.u32.wrap ((↑z4.snd.fst : Int).tdiv (10 : Int)))))) (PV.f (Lf.v (Value.int IntKind.u32 (↑x5.snd.fst : Int)))) ∧ True) ∧ ivD l x5 ∧ x3.fst = x5.fst ∧ x5.snd.fst.succ.le z4.snd.fst) ((D10 (iN z4.fst.snd) 100000000 ∧ D10 (iN z4.snd.snd) 100000000) ∧ ∀ (z5 : Nat), z5 = vI (iN z4.fst.snd) + vI (iN z4.snd.snd) → ∃ (x6 : Nat × Nat), (True ∧ SubB (PV.f (Lf.lr l k)) (PV.f (Lf.lr l k)) ∧ SubB (PV.f (Lf.is IntKind.u8 (iN (digs 10 z5)))) (PV.f (Lf.is IntKind.u8 (iN (digs 10 x6.snd)))) ∧ SubB (PV.f (Lf.v (Value.int IntKind.i64 (IntKind.i64.wrap ((↑z4.fst.fst : Int) - (1 : Int)))))) (PV.f (Lf.v (Value.int IntKind.i64 ((↑x6.fst : Int) - (1 : Int))))) ∧ True) ∧ (x6.fst ≤ l.length ∧ x6.snd = val 1000000000 (List.drop x6.fst l)) ∧ True ∧ x6.fst.succ.le z2.fst))) (true = true ∧ Sub (PV.f (Lf.is IntKind.u8 (iN (digs 10 z2.snd)))) (PV.f (Lf.is IntKind.u8 (iN (digs 10 (val 1000000000 l))))))) (by kernel_rfl) ?_
    refine ⟨?x0, ⟨⟨trivial, ⟨.refl _, ⟨?m0, ⟨?m1, trivial⟩⟩⟩⟩, ⟨?s0, ⟨trivial, fun z2 => fun hq0 => fun _ => ifB_iff.2 ⟨fun hb1 => ifB_iff.2 ⟨fun hb2 => ⟨?s1, ⟨?s2, ⟨?s3, ⟨?x1, ⟨?s4, ⟨?s5, ⟨rfl, fun z4 => fun hq3 => fun hq4 => ifB_iff.2 ⟨fun hb5 => ⟨?s6, ⟨?x2, ⟨?s7, ⟨?s8, ⟨?s9, ?m2⟩⟩⟩⟩⟩, fun hb5 => ⟨?s10, fun z5 => fun hz5 => ⟨?x3, ⟨⟨trivial, ⟨.refl _, ⟨?m3, ⟨?m4, trivial⟩⟩⟩⟩, ⟨?s11, ⟨trivial, ?m5⟩⟩⟩⟩⟩⟩⟩⟩⟩⟩⟩⟩⟩, fun hb2 => ⟨?s12, ⟨?x4, ⟨?s13, ⟨?s14, ⟨rfl, fun z4 => fun hq6 => fun hq7 => ifB_iff.2 ⟨fun hb8 => ⟨?s15, ⟨?x5, ⟨?s16, ⟨?s17, ⟨?s18, ?m6⟩⟩⟩⟩⟩, fun hb8 => ⟨?s19, fun z5 => fun hz5 => ⟨?x6, ⟨⟨trivial, ⟨.refl _, ⟨?m7, ⟨?m8, trivial⟩⟩⟩⟩, ⟨?s20, ⟨trivial, ?m9⟩⟩⟩⟩⟩⟩⟩⟩⟩⟩⟩⟩, fun hb1 => ⟨rfl, ?m10⟩⟩⟩⟩⟩⟩
    case x0 => exact (l.length, 0)
    case m0 => exact subB_nil
    case m1 => exact subB_int (wI _ (by omega) (by omega))
    case s0 => exact ⟨Nat.le_refl _, by rw [List.drop_of_length_le (Nat.le_refl _)]; rfl⟩
    case m10 =>
      have h0 : z2.1 = 0 := by have := of_decide_eq_false hb1; omega
      have := hq0.2
      rw [h0, List.drop_zero] at this
      rw [this]; exact .refl _
    case x1 => exact ((z2.1 - 1, List.replicate 9 0 ++ digs 10 z2.2), (dg l (z2.1 - 1), []))
    case x4 => exact ((z2.1 - 1, digs 10 z2.2), (dg l (z2.1 - 1), []))
    case x2 => exact (z4.1, (z4.2.1 / 10, z4.2.2 ++ [z4.2.1 % 10]))
    case x5 => exact (z4.1, (z4.2.1 / 10, z4.2.2 ++ [z4.2.1 % 10]))
    case x3 => exact (z2.1 - 1, z5)
    case x6 => exact (z2.1 - 1, z5)
    all_goals obtain ⟨i, hi⟩ : ∃ i, i = z2.1 - 1 := ⟨_, rfl⟩
    all_goals have hi1 : z2.1 = i + 1 := (by have := of_decide_eq_true hb1; omega)
    all_goals have hil : i < l.length := (by have := hq0.1; omega)
    all_goals have hw : ((z2.1 : Int) - 1).toNat = i := (by omega)
    all_goals have hi2 : ((z2.1 - 1 : Nat) : Int) = (z2.1 : Int) - 1 := (by omega)
    all_goals have hzl : (digs 10 z2.2).length ≤ 10 * l.length := (by rw [hq0.2]; exact Nat.le_trans (digs_val_len fun x hx => hl x (List.mem_of_mem_drop hx)) (by rw [List.length_drop]; omega))
    case s1 => exact ⟨by omega, by omega, by omega, by omega⟩
    case s2 => rw [iN_len]; exact ⟨by omega, by omega⟩
    case s3 => exact ⟨by omega, by omega⟩
    case s12 => exact ⟨by omega, by omega⟩
    all_goals have hdl : dg l i < 4294967296 := dg_lt hl (by omega) i
    case s4 => exact ⟨⟨⟨rfl, rfl⟩, trivial⟩, .refl _, subB_trans subB_flat (subB_is (by rw [show Int.toNat 9 = 9 from rfl, iN_rep, iN_app])), subB_int (by dsimp only; omega), rfl, subB_int (by rw [hw, ← hi]; rfl), trivial⟩
    case s13 => exact ⟨trivial, .refl _, .refl _, subB_int (by dsimp only; omega), rfl, subB_int (by rw [hw, ← hi]; rfl), trivial⟩
    case s5 =>
      refine ⟨by dsimp only; omega, fun y hy => ?_, ?_, by simp; omega, by simp, by simp [val], by simp⟩
      · rcases List.mem_append.1 hy with hy | hy
        · rw [List.eq_of_mem_replicate hy]; omega
        · exact digs_lt 10 (by omega) _ y hy
      · dsimp only
        rw [val_noughts, val_digs 10 (by omega), hq0.2, ← hi, hi1]
    case s14 =>
      have h0 : z2.2 = 0 := by
        have h1 := of_decide_eq_false hb2
        rw [iN_len] at h1
        have h2 : digs 10 z2.2 = [] := List.length_eq_zero_iff.1 (by omega)
        have h3 := val_digs 10 (by omega) z2.2
        rw [h2] at h3; exact h3.symm
      refine ⟨by dsimp only; omega, fun y hy => digs_lt 10 (by omega) _ y hy, ?_, by dsimp only; omega, by simp, by simp [val], by simp⟩
      dsimp only
      rw [val_digs 10 (by omega), ← hi, ← hi1, ← hq0.2, h0]
    case s6 => have := (ivD_next hq3 (by have := of_decide_eq_true hb5; omega) hl).2; rw [iN_len]; exact ⟨by omega, by omega⟩
    case s15 => have := (ivD_next hq6 (by have := of_decide_eq_true hb8; omega) hl).2; rw [iN_len]; exact ⟨by omega, by omega⟩
    case s8 => exact (ivD_next hq3 (by have := of_decide_eq_true hb5; omega) hl).1
    case s17 => exact (ivD_next hq6 (by have := of_decide_eq_true hb8; omega) hl).1
    case s9 => exact hq4
    case s18 => exact hq7
    case m2 => have := of_decide_eq_true hb5; show z4.2.1 / 10 + 1 ≤ z4.2.1; omega
    case m6 => have := of_decide_eq_true hb8; show z4.2.1 / 10 + 1 ≤ z4.2.1; omega
    case s7 =>
      have hn := nle_dg hq3 hl
      exact ⟨⟨⟨rfl, rfl⟩, ⟨rfl, rfl⟩, trivial⟩, .refl _, .refl _, .refl _, subB_tl (by rw [tmod10, wrap8 _ (by omega), iN_one, iN_app]), subB_int (by rw [tdiv10, wrapU32]; dsimp only; omega), trivial⟩
    case s16 =>
      have hn := nle_dg hq6 hl
      exact ⟨⟨⟨rfl, rfl⟩, ⟨rfl, rfl⟩, trivial⟩, .refl _, .refl _, .refl _, subB_tl (by rw [tmod10, wrap8 _ (by omega), iN_one, iN_app]), subB_int (by rw [tdiv10, wrapU32]; dsimp only; omega), trivial⟩
    case s10 => exact ⟨⟨by rw [iN_len]; have := hq3.2.2.2.1; omega, _, rfl, hq3.2.1⟩, by rw [iN_len]; have := hq3.2.2.2.2.2.2; omega, _, rfl, hq3.2.2.2.2.1⟩
    case s19 => exact ⟨⟨by rw [iN_len]; have := hq6.2.2.2.1; omega, _, rfl, hq6.2.1⟩, by rw [iN_len]; have := hq6.2.2.2.2.2.2; omega, _, rfl, hq6.2.2.2.2.1⟩
    case m3 => exact .refl _
    case m7 => exact .refl _
    case m4 => exact subB_int (by have := congrArg Prod.fst hq4; dsimp only at this ⊢; rw [wI _ (by omega) (by omega)]; omega)
    case m8 => exact subB_int (by have := congrArg Prod.fst hq7; dsimp only at this ⊢; rw [wI _ (by omega) (by omega)]; omega)
    case s11 => exact ivD_end hq3 (by have := congrArg Prod.fst hq4; dsimp only at this; omega) (by have := of_decide_eq_false hb5; omega) hz5
    case s20 => exact ivD_end hq6 (by have := congrArg Prod.fst hq7; dsimp only at this; omega) (by have := of_decide_eq_false hb8; omega) hz5
    case m5 => show z2.1 - 1 + 1 ≤ z2.1; omega
    case m9 => show z2.1 - 1 + 1 ≤ z2.1; omega
  · cases hs

end Go.Proofs.YtjfncepmpabcnaaGreatDoor
