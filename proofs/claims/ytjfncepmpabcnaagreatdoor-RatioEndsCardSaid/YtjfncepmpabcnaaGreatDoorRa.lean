/- The reference of chapter 1 by the pure run: decimals. -/
import Derived.Test.YtjfncepmpabcnaaGreatDoorQa
import Derived.Test.YtjfncepmpabcnaaGreatDoorRefI
namespace Go.Proofs.YtjfncepmpabcnaaGreatDoor
open Go.RowKit
set_option linter.unusedVariables false
set_option maxRecDepth 100000

theorem wI (n : Int) (h1 : -1000000000000 ≤ n) (h2 : n ≤ 1000000000000) : IntKind.i64.wrap n = n := wrapI n ⟨by omega, by omega⟩
theorem wrapU8 (n : Int) : IntKind.u8.wrap n = n % 256 := by simp [IntKind.wrap, IntKind.bits, IntKind.signed]
theorem wrap8 (n : Int) (h : 0 ≤ n ∧ n ≤ 255) : IntKind.u8.wrap n = n := by rw [wrapU8]; omega
theorem subB_is {k : IntKind} {l m : List Int} (h : l = m) : SubB (.f (.is k l)) (.f (.is k m)) := by subst h; exact .refl _
theorem sub_is {k : IntKind} {l m : List Int} (h : l = m) : Sub (.f (.is k l)) (.f (.is k m)) := by subst h; exact .refl _
theorem iN_at (l : List Nat) (i : Nat) : (iN l).getD i 0 = (dg l i : Int) := by
  unfold iN dg
  simp only [List.getD_eq_getElem?_getD, List.getElem?_map]
  cases l[i]? <;> rfl
theorem iN_app (l m : List Nat) : iN l ++ iN m = iN (l ++ m) := by simp [iN]
theorem iN_one (x : Nat) : [(x : Int)] = iN [x] := rfl
def natI (l : List Int) : List Nat := l.map Int.toNat
theorem natI_iN (l : List Nat) : natI (iN l) = l := by
  unfold natI iN
  rw [List.map_map]
  have : (Int.toNat ∘ Int.ofNat) = id := by funext x; rfl
  rw [this, List.map_id]
/-- Decimals: each below 10. -/
def D10 (l : List Int) (n : Nat) : Prop := l.length ≤ n ∧ ∃ L : List Nat, l = iN L ∧ ∀ x ∈ L, x < 10
/-- What a row of decimals stands for. -/
def vI (l : List Int) : Nat := val 10 (natI l)
def dP (n : Nat) : PV := .f (.is .u8 (iN (digs 10 n)))
theorem vI_digs (n : Nat) : vI (iN (digs 10 n)) = n := by unfold vI; rw [natI_iN, val_digs 10 (by omega)]
theorem digs_len10 {n k : Nat} (h : n < 10 ^ k) : (digs 10 n).length ≤ k := digs_length_le 10 (by omega) n k h
/-- Without noughts at the end. -/
def trimI (l : List Int) : List Int := (l.reverse.dropWhile (· == 0)).reverse
theorem trimI_snoc (l : List Int) (x : Int) : trimI (l ++ [x]) = if x = 0 then trimI l else l ++ [x] := by
  unfold trimI
  by_cases h : x = 0
  · subst h; simp
  · simp [h]
theorem trimI_digs (L : List Nat) (h : ∀ x ∈ L, x < 10) : trimI (iN L) = iN (digs 10 (val 10 L)) := by
  induction hn : L.length generalizing L with
  | zero => obtain rfl := List.length_eq_zero_iff.1 hn; rfl
  | succ n ih =>
    have hne : L ≠ [] := by intro hc; subst hc; cases hn
    have e1 := List.dropLast_concat_getLast hne
    have hx : L.getLast hne < 10 := h _ (List.getLast_mem hne)
    generalize L.getLast hne = x at e1 hx
    generalize hm : L.dropLast = M at e1
    subst e1
    have hM : M.length = n := by simpa using hn
    rw [← iN_app, show iN [x] = [(x : Int)] from rfl, trimI_snoc]
    by_cases h0 : x = 0
    · subst h0
      rw [if_pos (by rfl), ih M (fun y hy => h y (List.mem_append_left _ hy)) hM, val_snoc, Nat.mul_zero, Nat.add_zero]
    · rw [if_neg (by omega)]
      have hr : Rgt 10 (M ++ [x]) := ⟨h, by simp; exact h0⟩
      rw [← hr.digs (by omega)]
      simp [iN]
theorem take_snoc {l : List Int} {i : Nat} (h : i < l.length) : l.take (i + 1) = l.take i ++ [l.getD i 0] := by
  rw [List.take_add_one, List.getElem?_eq_getElem h, List.getD_eq_getElem?_getD, List.getElem?_eq_getElem h]; rfl
def sTrim0 : Spec
  | [.f (.is .u8 l)] => some (some (l.length ≤ 1000000000), .nm (List Int) (trimI l) fun l => .f (.is .u8 l))
  | _ => none
theorem cTrim0 {E : World → Hp → Prop} (hU : Up E) : Contract Tryz.prog E 144 sTrim0 := by
  refine contract_loops [] Tryz.ntmps144 Tryz.func144 (by kernel_rfl) (by kernel_rfl) hU trivial ?_
  intro xs p r hs hp
  unfold sTrim0 at hs
  split at hs
  · rename_i l
    cases hs
    have hl := hp _ rfl
    refine ⟨[.f (.is .u8 l)], [(1, .s ⟨Nat, fun i => ⟨[(0, .f (.is .u8 (l.take i)))], []⟩, fun i => i ≤ l.length ∧ trimI (l.take i) = trimI l, fun i => i⟩)], .cons (.refl _) .nil, rfl, ?_⟩
    refine cast_rfl (p := ∃ (x1 : Nat), (True ∧ SubB (PV.f (Lf.is IntKind.u8 l)) (PV.f (Lf.is IntKind.u8 (List.take x1 l))) ∧ True) ∧ (x1 ≤ l.length ∧ trimI (List.take x1 l) = trimI l) ∧ True ∧ ∀ (z2 : Nat), z2 ≤ l.length ∧ trimI (List.take z2 l) = trimI l → True → ifB (decide ((↑(List.take z2 l).length : Int) > (0 : Int))) (((0 : Int) ≤ IntKind.i64.wrap ((↑(List.take z2 l).length : Int) - (1 : Int)) ∧ IntKind.i64.wrap ((↑(List.take z2 l).length : Int) - (1 : Int)) < (↑(List.take z2 l).length : Int)) ∧ ifB ((List.take z2 l).getD (IntKind.i64.wrap ((↑(List.take z2 l).length : Int) - (1 : Int))).toNat (0 : Int) == (0 : Int)) (((0 : Int) ≤ (0 : Int) ∧ (0 : Int) ≤ IntKind.i64.wrap ((↑(List.take z2 l).length : Int) - (1 : Int)) ∧ IntKind.i64.wrap ((↑(List.take z2 l).length : Int) - (1 : Int)) ≤ (↑(List.take z2 l).length : Int)) ∧ ∃ (x3 : Nat), (True ∧ SubB (PV.f (Lf.is IntKind.u8 (List.drop (Int.toNat (0 : Int)) (List.take (IntKind.i64.wrap ((↑(List.take z2 l).length : Int) - (1 : Int))).toNat (List.take z2 l))))) (PV.f (Lf.is IntKind.u8 (List.take x3 l))) ∧ True) ∧ (x3 ≤ l.length ∧ trimI (List.take x3 l) = trimI l) ∧ True ∧ x3.succ.le z2) (true = true ∧ Sub (PV.f (Lf.is IntKind.u8 (List.take z2 l))) (PV.f (Lf.is IntKind.u8 (trimI l))))) (true = true ∧ Sub (PV.f (Lf.is IntKind.u8 (List.take z2 l))) (PV.f (Lf.is IntKind.u8 (trimI l))))) (by kernel_rfl) ?_
    refine ⟨?x0, ⟨⟨trivial, ⟨?m0, trivial⟩⟩, ⟨?s0, ⟨trivial, fun z2 => fun hq0 => fun _ => ifB_iff.2 ⟨fun hb1 => ⟨?s1, ifB_iff.2 ⟨fun hb2 => ⟨?s2, ⟨?x1, ⟨⟨trivial, ⟨?m1, trivial⟩⟩, ⟨?s3, ⟨trivial, ?m2⟩⟩⟩⟩⟩, fun hb2 => ⟨rfl, ?m3⟩⟩⟩, fun hb1 => ⟨rfl, ?m4⟩⟩⟩⟩⟩⟩
    case x0 => exact l.length
    case x1 => exact z2 - 1
    case m0 => exact subB_is (List.take_length).symm
    case s0 => exact ⟨Nat.le_refl _, by rw [List.take_length]⟩
    all_goals have hlen : (List.take z2 l).length = z2 := by rw [List.length_take, Nat.min_eq_left hq0.1]
    all_goals rw [hlen] at hb1
    case m4 =>
      have h0 : z2 = 0 := by have := of_decide_eq_false hb1; omega
      subst h0
      rw [← hq0.2]; exact .refl _
    all_goals have hpos : 0 < z2 := by have := of_decide_eq_true hb1; omega
    all_goals obtain ⟨i, rfl⟩ : ∃ i, z2 = i + 1 := ⟨z2 - 1, by omega⟩
    all_goals have hw : IntKind.i64.wrap (((i + 1 : Nat) : Int) - 1) = (i : Int) := by rw [wrapI _ ⟨by omega, by omega⟩]; omega
    case s1 => rw [hlen, hw]; omega
    all_goals rw [hlen, hw, Int.toNat_natCast] at hb2
    all_goals have hi : i < l.length := by omega
    all_goals have hg : (List.take (i + 1) l).getD i 0 = l.getD i 0 := by rw [List.getD_eq_getElem?_getD, List.getElem?_take, if_pos (by omega), ← List.getD_eq_getElem?_getD]
    all_goals rw [hg] at hb2
    case m3 =>
      rw [← hq0.2, take_snoc hi, trimI_snoc, if_neg (by simpa using hb2)]; exact .refl _
    case s2 => rw [hlen, hw]; omega
    all_goals try rw [Nat.add_sub_cancel]
    case m1 => rw [hlen, hw, Int.toNat_natCast]; exact subB_is (by simp [List.take_take])
    case s3 =>
      have h := hq0.2
      rw [take_snoc hi, trimI_snoc, if_pos (by simpa using hb2)] at h
      exact ⟨by omega, h⟩
    case m2 => exact Nat.le_refl _
  · cases hs
def sTrimD : Spec
  | [.f (.is .u8 l)] => some (some (D10 l 1000000000), .nm Nat (vI l) dP)
  | _ => none
theorem cTrimD {E : World → Hp → Prop} (hU : Up E) : Contract Tryz.prog E 144 sTrimD := by
  refine (cTrim0 hU).weaken fun xs p r hs hp => ?_
  unfold sTrimD at hs
  split at hs
  · rename_i l
    cases hs
    obtain ⟨h1, L, rfl, h2⟩ := hp _ rfl
    refine ⟨_, _, _, .cons (.refl _) .nil, rfl, fun q hq => by cases hq; exact h1, ?_⟩
    show Sub (.f (.is .u8 (trimI (iN L)))) (dP (vI (iN L)))
    unfold vI dP
    rw [natI_iN, trimI_digs L h2]; exact .refl _
  · cases hs
theorem tmod10 (s : Nat) : (s : Int).tmod 10 = ((s % 10 : Nat) : Int) := by rw [Int.tmod_eq_emod_of_nonneg (by omega)]; omega
theorem tdiv10 (s : Nat) : (s : Int).tdiv 10 = ((s / 10 : Nat) : Int) := by rw [Int.tdiv_eq_ediv_of_nonneg (by omega)]; omega
/-- A round of plus: place, carry, decimals. -/
def nxP (L M : List Nat) (z : Nat × Nat × List Nat) : Nat × Nat × List Nat := (z.1 + 1, (z.2.1 + dg L z.1 + dg M z.1) / 10, z.2.2 ++ [(z.2.1 + dg L z.1 + dg M z.1) % 10])
def ivP (L M : List Nat) (x : Nat × Nat × List Nat) : Prop := x.2.2.length = x.1 ∧ val 10 x.2.2 + 10 ^ x.1 * x.2.1 = val 10 (L.take x.1) + val 10 (M.take x.1) ∧ x.2.1 ≤ 1 ∧ (∀ y ∈ x.2.2, y < 10) ∧ (x.1 ≤ L.length ∨ x.1 ≤ M.length ∨ (x.2.1 = 0 ∧ x.1 ≤ 100000001))
theorem dg_or {L : List Nat} (i : Nat) : i < L.length ∨ dg L i = 0 := by
  rcases Nat.lt_or_ge i L.length with h | h
  · exact .inl h
  · exact .inr (dg_out L i h)
theorem ivP_next {L M : List Nat} {z : Nat × Nat × List Nat} (h : ivP L M z) (hL : ∀ x ∈ L, x < 10) (hM : ∀ x ∈ M, x < 10) (hl : L.length ≤ 100000000) (hm : M.length ≤ 100000000) (hc : z.1 < L.length ∨ z.1 < M.length ∨ 0 < z.2.1) : ivP L M (nxP L M z) ∧ z.1 ≤ 100000000 := by
  obtain ⟨i, c, o⟩ := z
  obtain ⟨h1, h2, h3, h4, h5⟩ := h
  dsimp only at h1 h2 h3 h4 h5 hc
  have e1 := dg_lt hL (by omega) i
  have e2 := dg_lt hM (by omega) i
  have d1 := dg_or (L := L) i
  have d2 := dg_or (L := M) i
  refine ⟨⟨by simp [nxP, h1], ?_, by simp only [nxP]; omega, fun y hy => ?_, by simp only [nxP]; omega⟩, by dsimp only; omega⟩
  · have := plus10 h2 h1 (s := c + dg L i + dg M i) rfl
    simpa [nxP, h1] using this
  · simp only [nxP] at hy
    rcases List.mem_append.1 hy with hy | hy
    · exact h4 y hy
    · rw [List.mem_singleton.1 hy]; exact Nat.mod_lt _ (by omega)
theorem nxP_val {L M : List Nat} {z : Nat × Nat × List Nat} {v : Int} (hv : v = ((z.2.1 + dg L z.1 + dg M z.1 : Nat) : Int)) (h : z.2.1 + dg L z.1 + dg M z.1 ≤ 19) :
    SubB (.tl 0 (.is .u8 (iN z.2.2 ++ [v.tmod 10]))) (.tl 0 (.is .u8 (iN (nxP L M z).2.2))) ∧ SubB (.f (.v (.int .u8 (IntKind.u8.wrap (v.tdiv 10))))) (.f (.v (.int .u8 ((nxP L M z).2.1 : Nat)))) := by
  subst hv
  refine ⟨subB_tl ?_, subB_int ?_⟩
  · rw [tmod10, iN_one, iN_app]; rfl
  · rw [tdiv10, wrap8 _ (by omega)]; rfl
def sPlusD : Spec
  | [.f (.is .u8 l), .f (.is .u8 m)] => some (some (D10 l 100000000 ∧ D10 m 100000000), .nm Nat (vI l + vI m) dP)
  | _ => none
theorem cPlusD {E : World → Hp → Prop} (hU : Up E) : Contract Tryz.prog E 140 sPlusD := by
  refine contract_loops [(144, sTrimD)] Tryz.ntmps140 Tryz.func140 (by kernel_rfl) (by kernel_rfl) hU ⟨cTrimD hU, trivial⟩ ?_
  intro xs p r hs hp
  unfold sPlusD at hs
  split at hs
  · rename_i l m
    cases hs
    obtain ⟨⟨h1, L, rfl, h2⟩, h3, M, rfl, h4⟩ := hp _ rfl
    refine ⟨[.f (.is .u8 (iN L)), .f (.is .u8 (iN M))], [(4, .s ⟨Nat × Nat × List Nat, fun x => ⟨[(0, .f (.is .u8 (iN L))), (1, .f (.is .u8 (iN M))), (5, .tl 0 (.is .u8 (iN x.2.2))), (6, .f (.v (.int .u8 (x.2.1 : Nat)))), (7, .f (.v (.int .i64 (x.1 : Nat))))], [.tail 5 1]⟩,
      ivP L M, fun x => 100000002 - x.1⟩)], .cons (.refl _) (.cons (.refl _) .nil), rfl, ?_⟩
    refine cast_rfl (p := ∃ (x1 : Nat × Nat × List Nat), (True ∧ SubB (PV.f (Lf.is IntKind.u8 (iN L))) (PV.f (Lf.is IntKind.u8 (iN L))) ∧ SubB (PV.f (Lf.is IntKind.u8 (iN M))) (PV.f (Lf.is IntKind.u8 (iN M))) ∧ emptyT (PV.tl 0 (Lf.is IntKind.u8 (iN x1.snd.snd))) ∧ SubB (PV.f (Lf.v (Value.int IntKind.u8 (0 : Int)))) (PV.f (Lf.v (Value.int IntKind.u8 (↑x1.snd.fst : Int)))) ∧ SubB (PV.f (Lf.v (Value.int IntKind.i64 (0 : Int)))) (PV.f (Lf.v (Value.int IntKind.i64 (↑x1.fst : Int)))) ∧ True) ∧ ivP L M x1 ∧ True ∧ ∀ (z2 : Nat × Nat × List Nat), ivP L M z2 → True → ifB (decide ((↑z2.fst : Int) < (↑(iN L).length : Int))) (ifB (decide ((↑z2.fst : Int) < (↑(iN L).length : Int))) (((0 : Int) ≤ (↑z2.fst : Int) ∧ (↑z2.fst : Int) < (↑(iN L).length : Int)) ∧ ifB (decide ((↑z2.fst : Int) < (↑(iN M).length : Int))) (((0 : Int) ≤ (↑z2.fst : Int) ∧ (↑z2.fst : Int) < (↑(iN M).length : Int)) ∧ ((iN z2.snd.snd).length + 1 ≤ 9223372036854775807 ∧ ((iN z2.snd.snd).length + 1) * 1 ≤ 140737488355328) ∧ ∃ (x3 : Nat × Nat × List Nat), (((5 = 5 ∧ 1 = 1) ∧ True) ∧ SubB (PV.f (Lf.is IntKind.u8 (iN L))) (PV.f (Lf.is IntKind.u8 (iN L))) ∧ SubB (PV.f (Lf.is IntKind.u8 (iN M))) (PV.f (Lf.is IntKind.u8 (iN M))) ∧ SubB (PV.tl 0 (Lf.is IntKind.u8 (iN z2.snd.snd ++ [(IntKind.u8.wrap (IntKind.u8.wrap ((↑z2.snd.fst : Int) + (iN L).getD (↑z2.fst : Int).toNat (0 : Int)) + (iN M).getD (↑z2.fst : Int).toNat (0 : Int))).tmod (10 : Int)]))) (PV.tl 0 (Lf.is IntKind.u8 (iN x3.snd.snd))) ∧ SubB (PV.f (Lf.v (Value.int IntKind.u8 (IntKind.u8.wrap ((IntKind.u8.wrap (IntKind.u8.wrap ((↑z2.snd.fst : Int) + (iN L).getD (↑z2.fst : Int).toNat (0 : Int)) + (iN M).getD (↑z2.fst : Int).toNat (0 : Int))).tdiv (10 : Int)))))) (PV.f (Lf.v (Value.int IntKind.u8 (↑x3.snd.fst : Int)))) ∧ SubB (PV.f (Lf.v (Value.int IntKind.i64 (IntKind.i64.wrap ((↑z2.fst : Int) + (1 : Int)))))) (PV.f (Lf.v (Value.int IntKind.i64 (↑x3.fst : Int)))) ∧ True) ∧ ivP L M x3 ∧ True ∧ (100000002 - x3.fst).succ.le (100000002 - z2.fst)) (((iN z2.snd.snd).length + 1 ≤ 9223372036854775807 ∧ ((iN z2.snd.snd).length + 1) * 1 ≤ 140737488355328) ∧ ∃ (x3 : Nat × Nat × List Nat), (((5 = 5 ∧ 1 = 1) ∧ True) ∧ SubB (PV.f (Lf.is IntKind.u8 (iN L))) (PV.f (Lf.is IntKind.u8 (iN L))) ∧ SubB (PV.f (Lf.is IntKind.u8 (iN M))) (PV.f (Lf.is IntKind.u8 (iN M))) ∧ SubB (PV.tl 0 (Lf.is IntKind.u8 (iN z2.snd.snd ++ [(IntKind.u8.wrap ((↑z2.snd.fst : Int) + (iN L).getD (↑z2.fst : Int).toNat (0 : Int))).tmod (10 : Int)]))) (PV.tl 0 (Lf.is IntKind.u8 (iN x3.snd.snd))) ∧ SubB (PV.f (Lf.v (Value.int IntKind.u8 (IntKind.u8.wrap ((IntKind.u8.wrap ((↑z2.snd.fst : Int) + (iN L).getD (↑z2.fst : Int).toNat (0 : Int))).tdiv (10 : Int)))))) (PV.f (Lf.v (Value.int IntKind.u8 (↑x3.snd.fst : Int)))) ∧ SubB (PV.f (Lf.v (Value.int IntKind.i64 (IntKind.i64.wrap ((↑z2.fst : Int) + (1 : Int)))))) (PV.f (Lf.v (Value.int IntKind.i64 (↑x3.fst : Int)))) ∧ True) ∧ ivP L M x3 ∧ True ∧ (100000002 - x3.fst).succ.le (100000002 - z2.fst))) (ifB (decide ((↑z2.fst : Int) < (↑(iN M).length : Int))) (((0 : Int) ≤ (↑z2.fst : Int) ∧ (↑z2.fst : Int) < (↑(iN M).length : Int)) ∧ ((iN z2.snd.snd).length + 1 ≤ 9223372036854775807 ∧ ((iN z2.snd.snd).length + 1) * 1 ≤ 140737488355328) ∧ ∃ (x3 : Nat × Nat × List Nat), (((5 = 5 ∧ 1 = 1) ∧ True) ∧ SubB (PV.f (Lf.is IntKind.u8 (iN L))) (PV.f (Lf.is IntKind.u8 (iN L))) ∧ SubB (PV.f (Lf.is IntKind.u8 (iN M))) (PV.f (Lf.is IntKind.u8 (iN M))) ∧ SubB (PV.tl 0 (Lf.is IntKind.u8 (iN z2.snd.snd ++ [(IntKind.u8.wrap ((↑z2.snd.fst : Int) + (iN M).getD (↑z2.fst : Int).toNat (0 : Int))).tmod (10 : Int)]))) (PV.tl 0 (Lf.is IntKind.u8 (iN x3.snd.snd))) ∧ SubB (PV.f (Lf.v (Value.int IntKind.u8 (IntKind.u8.wrap ((IntKind.u8.wrap ((↑z2.snd.fst : Int) + (iN M).getD (↑z2.fst : Int).toNat (0 : Int))).tdiv (10 : Int)))))) (PV.f (Lf.v (Value.int IntKind.u8 (↑x3.snd.fst : Int)))) ∧ SubB (PV.f (Lf.v (Value.int IntKind.i64 (IntKind.i64.wrap ((↑z2.fst : Int) + (1 : Int)))))) (PV.f (Lf.v (Value.int IntKind.i64 (↑x3.fst : Int)))) ∧ True) ∧ ivP L M x3 ∧ True ∧ (100000002 - x3.fst).succ.le (100000002 - z2.fst)) (((iN z2.snd.snd).length + 1 ≤ 9223372036854775807 ∧ ((iN z2.snd.snd).length + 1) * 1 ≤ 140737488355328) ∧ ∃ (x3 : Nat × Nat × List Nat), (((5 = 5 ∧ 1 = 1) ∧ True) ∧ SubB (PV.f (Lf.is IntKind.u8 (iN L))) (PV.f (Lf.is IntKind.u8 (iN L))) ∧ SubB (PV.f (Lf.is IntKind.u8 (iN M))) (PV.f (Lf.is IntKind.u8 (iN M))) ∧ SubB (PV.tl 0 (Lf.is IntKind.u8 (iN z2.snd.snd ++ [(↑z2.snd.fst : Int).tmod (10 : Int)]))) (PV.tl 0 (Lf.is IntKind.u8 (iN x3.snd.snd))) ∧ SubB (PV.f (Lf.v (Value.int IntKind.u8 (IntKind.u8.wrap ((↑z2.snd.fst : Int).tdiv (10 : Int)))))) (PV.f (Lf.v (Value.int IntKind.u8 (↑x3.snd.fst : Int)))) ∧ SubB (PV.f (Lf.v (Value.int IntKind.i64 (IntKind.i64.wrap ((↑z2.fst : Int) + (1 : Int)))))) (PV.f (Lf.v (Value.int IntKind.i64 (↑x3.fst : Int)))) ∧ True) ∧ ivP L M x3 ∧ True ∧ (100000002 - x3.fst).succ.le (100000002 - z2.fst)))) (ifB (decide ((↑z2.fst : Int) < (↑(iN M).length : Int))) (ifB (decide ((↑z2.fst : Int) < (↑(iN L).length : Int))) (((0 : Int) ≤ (↑z2.fst : Int) ∧ (↑z2.fst : Int) < (↑(iN L).length : Int)) ∧ ifB (decide ((↑z2.fst : Int) < (↑(iN M).length : Int))) (((0 : Int) ≤ (↑z2.fst : Int) ∧ (↑z2.fst : Int) < (↑(iN M).length : Int)) ∧ ((iN z2.snd.snd).length + 1 ≤ 9223372036854775807 ∧ ((iN z2.snd.snd).length + 1) * 1 ≤ 140737488355328) ∧ ∃ (x3 : Nat × Nat × List Nat), (((5 = 5 ∧ 1 = 1) ∧ True) ∧ SubB (PV.f (Lf.is IntKind.u8 (iN L))) (PV.f (Lf.is IntKind.u8 (iN L))) ∧ SubB (PV.f (Lf.is IntKind.u8 (iN M))) (PV.f (Lf.is IntKind.u8 (iN M))) ∧ SubB (PV.tl 0 (Lf.is IntKind.u8 (iN z2.snd.snd ++ [(IntKind.u8.wrap (IntKind.u8.wrap ((↑z2.snd.fst : Int) + (iN L).getD (↑z2.fst : Int).toNat (0 : Int)) + (iN M).getD (↑z2.fst : Int).toNat (0 : Int))).tmod (10 : Int)]))) (PV.tl 0 (Lf.is IntKind.u8 (iN x3.snd.snd))) ∧ SubB (PV.f (Lf.v (Value.int IntKind.u8 (IntKind.u8.wrap ((IntKind.u8.wrap (IntKind.u8.wrap ((↑z2.snd.fst : Int) + (iN L).getD (↑z2.fst : Int).toNat (0 : Int)) + (iN M).getD (↑z2.fst : Int).toNat (0 : Int))).tdiv (10 : Int)))))) (PV.f (Lf.v (Value.int IntKind.u8 (↑x3.snd.fst : Int)))) ∧ SubB (PV.f (Lf.v (Value.int IntKind.i64 (IntKind.i64.wrap ((↑z2.fst : Int) + (1 : Int)))))) (PV.f (Lf.v (Value.int IntKind.i64 (↑x3.fst : Int)))) ∧ True) ∧ ivP L M x3 ∧ True ∧ (100000002 - x3.fst).succ.le (100000002 - z2.fst)) (((iN z2.snd.snd).length + 1 ≤ 9223372036854775807 ∧ ((iN z2.snd.snd).length + 1) * 1 ≤ 140737488355328) ∧ ∃ (x3 : Nat × Nat × List Nat), (((5 = 5 ∧ 1 = 1) ∧ True) ∧ SubB (PV.f (Lf.is IntKind.u8 (iN L))) (PV.f (Lf.is IntKind.u8 (iN L))) ∧ SubB (PV.f (Lf.is IntKind.u8 (iN M))) (PV.f (Lf.is IntKind.u8 (iN M))) ∧ SubB (PV.tl 0 (Lf.is IntKind.u8 (iN z2.snd.snd ++ [(IntKind.u8.wrap ((↑z2.snd.fst : Int) + (iN L).getD (↑z2.fst : Int).toNat (0 : Int))).tmod (10 : Int)]))) (PV.tl 0 (Lf.is IntKind.u8 (iN x3.snd.snd))) ∧ SubB (PV.f (Lf.v (Value.int IntKind.u8 (IntKind.u8.wrap ((IntKind.u8.wrap ((↑z2.snd.fst : Int) + (iN L).getD (↑z2.fst : Int).toNat (0 : Int))).tdiv (10 : Int)))))) (PV.f (Lf.v (Value.int IntKind.u8 (↑x3.snd.fst : Int)))) ∧ SubB (PV.f (Lf.v (Value.int IntKind.i64 (IntKind.i64.wrap ((↑z2.fst : Int) + (1 : Int)))))) (PV.f (Lf.v (Value.int IntKind.i64 (↑x3.fst : Int)))) ∧ True) ∧ ivP L M x3 ∧ True ∧ (100000002 - x3.fst).succ.le (100000002 - z2.fst))) (ifB (decide ((↑z2.fst : Int) < (↑(iN M).length : Int))) (((0 : Int) ≤ (↑z2.fst : Int) ∧ (↑z2.fst : Int) < (↑(iN M).length : Int)) ∧ ((iN z2.snd.snd).length + 1 ≤ 9223372036854775807 ∧ ((iN z2.snd.snd).length + 1) * 1 ≤ 140737488355328) ∧ ∃ (x3 : Nat × Nat × List Nat), (((5 = 5 ∧ 1 = 1) ∧ True) ∧ SubB (PV.f (Lf.is IntKind.u8 (iN L))) (PV.f (Lf.is IntKind.u8 (iN L))) ∧ SubB (PV.f (Lf.is IntKind.u8 (iN M))) (PV.f (Lf.is IntKind.u8 (iN M))) ∧ SubB (PV.tl 0 (Lf.is IntKind.u8 (iN z2.snd.snd ++ [(IntKind.u8.wrap ((↑z2.snd.fst : Int) + (iN M).getD (↑z2.fst : Int).toNat (0 : Int))).tmod (10 : Int)]))) (PV.tl 0 (Lf.is IntKind.u8 (iN x3.snd.snd))) ∧ SubB (PV.f (Lf.v (Value.int IntKind.u8 (IntKind.u8.wrap ((IntKind.u8.wrap ((↑z2.snd.fst : Int) + (iN M).getD (↑z2.fst : Int).toNat (0 : Int))).tdiv (10 : Int)))))) (PV.f (Lf.v (Value.int IntKind.u8 (↑x3.snd.fst : Int)))) ∧ SubB (PV.f (Lf.v (Value.int IntKind.i64 (IntKind.i64.wrap ((↑z2.fst : Int) + (1 : Int)))))) (PV.f (Lf.v (Value.int IntKind.i64 (↑x3.fst : Int)))) ∧ True) ∧ ivP L M x3 ∧ True ∧ (100000002 - x3.fst).succ.le (100000002 - z2.fst)) (((iN z2.snd.snd).length + 1 ≤ 9223372036854775807 ∧ ((iN z2.snd.snd).length + 1) * 1 ≤ 140737488355328) ∧ ∃ (x3 : Nat × Nat × List Nat), (((5 = 5 ∧ 1 = 1) ∧ True) ∧ SubB (PV.f (Lf.is IntKind.u8 (iN L))) (PV.f (Lf.is IntKind.u8 (iN L))) ∧ SubB (PV.f (Lf.is IntKind.u8 (iN M))) (PV.f (Lf.is IntKind.u8 (iN M))) ∧ SubB (PV.tl 0 (Lf.is IntKind.u8 (iN z2.snd.snd ++ [(↑z2.snd.fst : Int).tmod (10 : Int)]))) (PV.tl 0 (Lf.is IntKind.u8 (iN x3.snd.snd))) ∧ SubB (PV.f (Lf.v (Value.int IntKind.u8 (IntKind.u8.wrap ((↑z2.snd.fst : Int).tdiv (10 : Int)))))) (PV.f (Lf.v (Value.int IntKind.u8 (↑x3.snd.fst : Int)))) ∧ SubB (PV.f (Lf.v (Value.int IntKind.i64 (IntKind.i64.wrap ((↑z2.fst : Int) + (1 : Int)))))) (PV.f (Lf.v (Value.int IntKind.i64 (↑x3.fst : Int)))) ∧ True) ∧ ivP L M x3 ∧ True ∧ (100000002 - x3.fst).succ.le (100000002 - z2.fst)))) (ifB (decide ((↑z2.snd.fst : Int) > (0 : Int))) (ifB (decide ((↑z2.fst : Int) < (↑(iN L).length : Int))) (((0 : Int) ≤ (↑z2.fst : Int) ∧ (↑z2.fst : Int) < (↑(iN L).length : Int)) ∧ ifB (decide ((↑z2.fst : Int) < (↑(iN M).length : Int))) (((0 : Int) ≤ (↑z2.fst : Int) ∧ (↑z2.fst : Int) < (↑(iN M).length : Int)) ∧ ((iN z2.snd.snd).length + 1 ≤ 9223372036854775807 ∧ ((iN z2.snd.snd).length + 1) * 1 ≤ 140737488355328) ∧ ∃ (x3 : Nat × Nat × List Nat), (((5 = 5 ∧ 1 = 1) ∧ True) ∧ SubB (PV.f (Lf.is IntKind.u8 (iN L))) (PV.f (Lf.is IntKind.u8 (iN L))) ∧ SubB (PV.f (Lf.is IntKind.u8 (iN M))) (PV.f (Lf.is IntKind.u8 (iN M))) ∧ SubB (PV.tl 0 (Lf.is IntKind.u8 (iN z2.snd.snd ++ [(IntKind.u8.wrap (IntKind.u8.wrap ((↑z2.snd.fst : Int) + (iN L).getD (↑z2.fst : Int).toNat (0 : Int)) + (iN M).getD (↑z2.fst : Int).toNat (0 : Int))).tmod (10 : Int)]))) (PV.tl 0 (Lf.is IntKind.u8 (iN x3.snd.snd))) ∧ SubB (PV.f (Lf.v (Value.int IntKind.u8 (IntKind.u8.wrap ((IntKind.u8.wrap (IntKind.u8.wrap ((↑z2.snd.fst : Int) + (iN L).getD (↑z2.fst : Int).toNat (0 : Int)) + (iN M).getD (↑z2.fst : Int).toNat (0 : Int))).tdiv (10 : Int)))))) (PV.f (Lf.v (Value.int IntKind.u8 (↑x3.snd.fst : Int)))) ∧ SubB (PV.f (Lf.v (Value.int IntKind.i64 (IntKind.i64.wrap ((↑z2.fst : Int) + (1 : Int)))))) (PV.f (Lf.v (Value.int IntKind.i64 (↑x3.fst : Int)))) ∧ True) ∧ ivP L M x3 ∧ True ∧ (100000002 - x3.fst).succ.le (100000002 - z2.fst)) (((iN z2.snd.snd).length + 1 ≤ 9223372036854775807 ∧ ((iN z2.snd.snd).length + 1) * 1 ≤ 140737488355328) ∧ ∃ (x3 : Nat × Nat × List Nat), (((5 = 5 ∧ 1 = 1) ∧ True) ∧ SubB (PV.f (Lf.is IntKind.u8 (iN L))) (PV.f (Lf.is IntKind.u8 (iN L))) ∧ SubB (PV.f (Lf.is IntKind.u8 (iN M))) (PV.f (Lf.is IntKind.u8 (iN M))) ∧ SubB (PV.tl 0 (Lf.is IntKind.u8 (iN z2.snd.snd ++ [(IntKind.u8.wrap ((↑z2.snd.fst : Int) + (iN L).getD (↑z2.fst : Int).toNat (0 : Int))).tmod (10 : Int)]))) (PV.tl 0 (Lf.is IntKind.u8 (iN x3.snd.snd))) ∧ SubB (PV.f (Lf.v (Value.int IntKind.u8 (IntKind.u8.wrap ((IntKind.u8.wrap ((↑z2.snd.fst : Int) + (iN L).getD (↑z2.fst : Int).toNat (0 : Int))).tdiv (10 : Int)))))) (PV.f (Lf.v (Value.int IntKind.u8 (↑x3.snd.fst : Int)))) ∧ SubB (PV.f (Lf.v (Value.int IntKind.i64 (IntKind.i64.wrap ((↑z2.fst : Int) + (1 : Int)))))) (PV.f (Lf.v (Value.int IntKind.i64 (↑x3.fst : Int)))) ∧ True) ∧ ivP L M x3 ∧ True ∧ (100000002 - x3.fst).succ.le (100000002 - z2.fst))) (ifB (decide ((↑z2.fst : Int) < (↑(iN M).length : Int))) (((0 : Int) ≤ (↑z2.fst : Int) ∧ (↑z2.fst : Int) < (↑(iN M).length : Int)) ∧ ((iN z2.snd.snd).length + 1 ≤ 9223372036854775807 ∧ ((iN z2.snd.snd).length + 1) * 1 ≤ 140737488355328) ∧ ∃ (x3 : Nat × Nat × List Nat), (((5 = 5 ∧ 1 = 1) ∧ True) ∧ SubB (PV.f (Lf.is IntKind.u8 (iN L))) (PV.f (Lf.is IntKind.u8 (iN L))) ∧ SubB (PV.f (Lf.is IntKind.u8 (iN M))) (PV.f (Lf.is IntKind.u8 (iN M))) ∧ SubB (PV.tl 0 (Lf.is IntKind.u8 (iN z2.snd.snd ++ [(IntKind.u8.wrap ((↑z2.snd.fst : Int) + (iN M).getD (↑z2.fst : Int).toNat (0 : Int))).tmod (10 : Int)]))) (PV.tl 0 (Lf.is IntKind.u8 (iN x3.snd.snd))) ∧ SubB (PV.f (Lf.v (Value.int IntKind.u8 (IntKind.u8.wrap ((IntKind.u8.wrap ((↑z2.snd.fst : Int) + (iN M).getD (↑z2.fst : Int).toNat (0 : Int))).tdiv (10 : Int)))))) (PV.f (Lf.v (Value.int IntKind.u8 (↑x3.snd.fst : Int)))) ∧ SubB (PV.f (Lf.v (Value.int IntKind.i64 (IntKind.i64.wrap ((↑z2.fst : Int) + (1 : Int)))))) (PV.f (Lf.v (Value.int IntKind.i64 (↑x3.fst : Int)))) ∧ True) ∧ ivP L M x3 ∧ True ∧ (100000002 - x3.fst).succ.le (100000002 - z2.fst)) (((iN z2.snd.snd).length + 1 ≤ 9223372036854775807 ∧ ((iN z2.snd.snd).length + 1) * 1 ≤ 140737488355328) ∧ ∃ (x3 : Nat × Nat × List Nat), (((5 = 5 ∧ 1 = 1) ∧ True) ∧ SubB (PV.f (Lf.is IntKind.u8 (iN L))) (PV.f (Lf.is IntKind.u8 (iN L))) ∧ SubB (PV.f (Lf.is IntKind.u8 (iN M))) (PV.f (Lf.is IntKind.u8 (iN M))) ∧ SubB (PV.tl 0 (Lf.is IntKind.u8 (iN z2.snd.snd ++ [(↑z2.snd.fst : Int).tmod (10 : Int)]))) (PV.tl 0 (Lf.is IntKind.u8 (iN x3.snd.snd))) ∧ SubB (PV.f (Lf.v (Value.int IntKind.u8 (IntKind.u8.wrap ((↑z2.snd.fst : Int).tdiv (10 : Int)))))) (PV.f (Lf.v (Value.int IntKind.u8 (↑x3.snd.fst : Int)))) ∧ SubB (PV.f (Lf.v (Value.int IntKind.i64 (IntKind.i64.wrap ((↑z2.fst : Int) + (1 : Int)))))) (PV.f (Lf.v (Value.int IntKind.i64 (↑x3.fst : Int)))) ∧ True) ∧ ivP L M x3 ∧ True ∧ (100000002 - x3.fst).succ.le (100000002 - z2.fst)))) (D10 (iN z2.snd.snd) 1000000000 ∧ ∀ (z3 : Nat), z3 = vI (iN z2.snd.snd) → true = true ∧ Sub (PV.f (Lf.is IntKind.u8 (iN (digs 10 z3)))) (PV.f (Lf.is IntKind.u8 (iN (digs 10 (vI (iN L) + vI (iN M)))))))))) (by kernel_rfl) ?_
    refine ⟨?x0, ⟨?s0, ⟨?s1, ⟨trivial, fun z2 => fun hq0 => fun _ => ifB_iff.2 ⟨fun hb1 => ifB_iff.2 ⟨fun hb2 => ⟨?s2, ifB_iff.2 ⟨fun hb3 => ⟨?s3, ⟨?s4, ⟨?x1, ⟨?s5, ⟨?s6, ⟨trivial, ?m0⟩⟩⟩⟩⟩⟩, fun hb3 => ⟨?s7, ⟨?x2, ⟨?s8, ⟨?s9, ⟨trivial, ?m1⟩⟩⟩⟩⟩⟩⟩, fun hb2 => ifB_iff.2 ⟨fun hb4 => ⟨?s10, ⟨?s11, ⟨?x3, ⟨?s12, ⟨?s13, ⟨trivial, ?m2⟩⟩⟩⟩⟩⟩, fun hb4 => ⟨?s14, ⟨?x4, ⟨?s15, ⟨?s16, ⟨trivial, ?m3⟩⟩⟩⟩⟩⟩⟩, fun hb1 => ifB_iff.2 ⟨fun hb5 => ifB_iff.2 ⟨fun hb6 => ⟨?s17, ifB_iff.2 ⟨fun hb7 => ⟨?s18, ⟨?s19, ⟨?x5, ⟨?s20, ⟨?s21, ⟨trivial, ?m4⟩⟩⟩⟩⟩⟩, fun hb7 => ⟨?s22, ⟨?x6, ⟨?s23, ⟨?s24, ⟨trivial, ?m5⟩⟩⟩⟩⟩⟩⟩, fun hb6 => ifB_iff.2 ⟨fun hb8 => ⟨?s25, ⟨?s26, ⟨?x7, ⟨?s27, ⟨?s28, ⟨trivial, ?m6⟩⟩⟩⟩⟩⟩, fun hb8 => ⟨?s29, ⟨?x8, ⟨?s30, ⟨?s31, ⟨trivial, ?m7⟩⟩⟩⟩⟩⟩⟩, fun hb5 => ifB_iff.2 ⟨fun hb9 => ifB_iff.2 ⟨fun hb10 => ⟨?s32, ifB_iff.2 ⟨fun hb11 => ⟨?s33, ⟨?s34, ⟨?x9, ⟨?s35, ⟨?s36, ⟨trivial, ?m8⟩⟩⟩⟩⟩⟩, fun hb11 => ⟨?s37, ⟨?x10, ⟨?s38, ⟨?s39, ⟨trivial, ?m9⟩⟩⟩⟩⟩⟩⟩, fun hb10 => ifB_iff.2 ⟨fun hb12 => ⟨?s40, ⟨?s41, ⟨?x11, ⟨?s42, ⟨?s43, ⟨trivial, ?m10⟩⟩⟩⟩⟩⟩, fun hb12 => ⟨?s44, ⟨?x12, ⟨?s45, ⟨?s46, ⟨trivial, ?m11⟩⟩⟩⟩⟩⟩⟩, fun hb9 => ⟨?s47, fun z3 => fun hz3 => ⟨rfl, ?m12⟩⟩⟩⟩⟩⟩⟩⟩⟩
    case x0 => exact (0, 0, [])
    all_goals try exact nxP L M z2
    case s0 => exact ⟨trivial, .refl _, .refl _, rfl, .refl _, .refl _, trivial⟩
    case s1 => exact ⟨rfl, by simp [val], Nat.zero_le _, by simp, .inl (Nat.zero_le _)⟩
    all_goals rw [iN_len] at h1 h3
    all_goals have hq1 := hq0.2.2.1
    all_goals have hq2 := hq0.1
    all_goals have e1 := dg_lt h2 (by omega) z2.1
    all_goals have e2 := dg_lt h4 (by omega) z2.1
    all_goals have d1 := dg_or (L := L) z2.1
    all_goals have d2 := dg_or (L := M) z2.1
    all_goals simp only [decide_eq_true_eq, decide_eq_false_iff_not, iN_len, Int.toNat_natCast, iN_at] at *
    case s47 => exact ⟨by rw [iN_len, hq2]; have := hq0.2.2.2.2; omega, _, rfl, hq0.2.2.2.1⟩
    case m12 =>
      have hc0 : z2.2.1 = 0 := by omega
      have hv := hq0.2.1
      rw [hc0, Nat.mul_zero, Nat.add_zero, List.take_of_length_le (by omega), List.take_of_length_le (by omega)] at hv
      subst hz3
      unfold vI
      rw [natI_iN, natI_iN, natI_iN, hv]; exact .refl _
    all_goals have hn := ivP_next hq0 h2 h4 h1 h3 (by omega)
    all_goals have hn2 := hn.2
    all_goals first
      | exact hn.1
      | exact ⟨by omega, by omega⟩
      | exact ⟨⟨⟨by trivial, by trivial⟩, by trivial⟩, .refl _, .refl _, (nxP_val (by (try simp only [wrapU8]); omega) (by omega)).1, (nxP_val (by (try simp only [wrapU8]); omega) (by omega)).2, subB_succ (by omega), by trivial⟩
      | (show _ + 1 ≤ _; simp only [nxP]; omega)
  · cases hs

end Go.Proofs.YtjfncepmpabcnaaGreatDoor
