/- The law NumSums, by the pure run. -/
import Derived.Test.YtjfncepmpabcnaaGreatDoorRf
namespace Go.Proofs.YtjfncepmpabcnaaGreatDoor
open Go.RowKit
set_option linter.unusedVariables false
set_option maxRecDepth 100000

/-- What lies behind a lent list. -/
def marks : Nat → List Int
  | 0 => []
  | n + 1 => marks n ++ [8000024 + (n : Int)]
/-- Lent limbs, with what lies behind. -/
def allL (l : List Nat) : List Int := l.map Int.ofNat ++ marks 12
theorem marks_len : ∀ n, (marks n).length = n
  | 0 => rfl
  | n + 1 => by simp [marks, marks_len n]
theorem allL_len (l : List Nat) : (allL l).length = l.length + 12 := by simp [allL, marks_len]
theorem marksK_at : ∀ (n i : Nat), i < n → (marks n).getD i 0 = 8000024 + (i : Int)
  | n + 1, i, h => by
    rw [marks, List.getD_eq_getElem?_getD]
    by_cases hi : i < n
    · rw [List.getElem?_append_left (by rw [marks_len]; exact hi), ← List.getD_eq_getElem?_getD, marksK_at n i hi]
    · obtain rfl : i = n := by omega
      rw [List.getElem?_append_right (by rw [marks_len]; exact Nat.le_refl _), marks_len, Nat.sub_self]; rfl
theorem allL_lo {l : List Nat} {z : Nat} (h : z < l.length) : (allL l).getD z 0 = ((l.getD z 0 : Nat) : Int) := by
  rw [allL, List.getD_eq_getElem?_getD, List.getElem?_append_left (by simpa using h), List.getElem?_map, List.getD_eq_getElem?_getD, List.getElem?_eq_getElem h]; rfl
theorem allL_hi {l : List Nat} {z : Nat} (h1 : l.length ≤ z) (h2 : z < l.length + 12) : (allL l).getD z 0 = 8000024 + ((z : Int) - (l.length : Int)) := by
  rw [allL, List.getD_eq_getElem?_getD, List.getElem?_append_right (by simpa using h1), ← List.getD_eq_getElem?_getD, List.length_map, marksK_at _ _ (by omega)]; omega
theorem allL_take (l : List Nat) : (allL l).take l.length = l.map Int.ofNat := by
  unfold allL; rw [List.take_append_of_le_length (by simp)]; exact List.take_of_length_le (by simp)
theorem map_back (l : List Nat) : (l.map Int.ofNat).map Int.toNat = l := by
  rw [List.map_map]; exact List.map_id'' (fun x => rfl) l
theorem wU (n : Int) (h0 : 0 ≤ n) (h1 : n < 4294967296) : IntKind.u32.wrap n = n := by rw [wrapU32]; omega
/-- A leaf seen as another. -/
theorem rd_view {H : Hp} {v : Value} {f f' : Lf} {k n : Nat} {get get' : Nat → List Lf} (hv : f.view = some (k, n, get)) (hv' : f'.view = some (k, n, get')) (hg' : f'.good) (hf : f'.full n ≤ f.full n) (he : ∀ i, i < f'.full n → get' i = get i) (h : Rd H v f) : Rd H v f' := by
  cases h with
  | v => cases hv
  | zn => cases hv
  | sl hv2 hgd hc hm h0 b o val hb hcell hk hrec =>
    rw [hv] at hv2
    cases hv2
    exact .sl hv' hg' (by omega) hm h0 b o val (fun h => hb (by omega)) (fun i hi => hcell i (by omega)) (fun i hi => by rw [he i hi]; exact hk i (by omega)) (fun i hi j x hx => by rw [he i hi] at hx; exact hrec i (by omega) j x hx)
/-- Limbs of any kind, as they are read. -/
def plainL : Lf → Option (Prop × List Nat × Nat)
  | .lr l k => some (True, l, k)
  | .is .u32 M => some ((∀ x ∈ M, 0 ≤ x ∧ x < 4294967296), M.map Int.toNat, M.length)
  | .sp (.is .u32 M) m => some ((m ≤ M.length ∧ ∀ x ∈ M.take m, 0 ≤ x ∧ x < 4294967296), (M.take m).map Int.toNat, m)
  | _ => none
theorem toNat_at {M : List Int} (h : ∀ x ∈ M, 0 ≤ x ∧ x < 4294967296) {i : Nat} (hi : i < M.length) : (((M.map Int.toNat).getD i 0 : Nat) : Int) = M.getD i 0 := by
  rw [List.getD_eq_getElem?_getD, List.getElem?_map, List.getD_eq_getElem?_getD, List.getElem?_eq_getElem hi]
  have := h _ (List.getElem_mem hi)
  simp only [Option.map_some, Option.getD_some]
  omega
theorem toNat_lt {M : List Int} (h : ∀ x ∈ M, 0 ≤ x ∧ x < 4294967296) : ∀ x ∈ M.map Int.toNat, x < 4294967296 := by
  intro x hx
  obtain ⟨y, hy, rfl⟩ := List.mem_map.1 hx
  have := h y hy
  omega
theorem plainL_sub {f : Lf} {p : Prop} {l : List Nat} {k : Nat} (h : plainL f = some (p, l, k)) (hp : p) : Sub (.f f) (.f (.lr l k)) := by
  unfold plainL at h
  split at h
  · cases h; exact .refl _
  · rename_i M
    cases h
    refine ⟨fun H v hv => .f (rd_view (f := .is .u32 M) (f' := .lr (M.map Int.toNat) M.length) (k := 1) (n := M.length) (get := fun i => [.v (.int .u32 (M.getD i 0))]) (get' := fun i => [.v (.int .u32 ((M.map Int.toNat).getD i 0 : Nat))]) rfl (by simp only [Lf.view, List.length_map]) ⟨by simp, toNat_lt hp⟩ (Nat.le_refl _) (fun i hi => ?_) hv.rd)⟩
    rw [toNat_at hp hi]
  · rename_i M m
    cases h
    obtain ⟨h1, h2⟩ := hp
    have hl : (M.take k).length = k := by rw [List.length_take]; omega
    refine ⟨fun H v hv => .f (rd_view (f := .sp (.is .u32 M) k) (f' := .lr ((M.take k).map Int.toNat) k) (k := 1) (n := k) (get := fun i => [.v (.int .u32 (M.getD i 0))]) (get' := fun i => [.v (.int .u32 (((M.take k).map Int.toNat).getD i 0 : Nat))]) rfl (by simp only [Lf.view, List.length_map, hl]) ⟨by rw [List.length_map, hl]; exact Nat.le_refl _, toNat_lt h2⟩ h1 (fun i hi => ?_) hv.rd)⟩
    have hi' : i < k := hi
    rw [toNat_at h2 (by omega), List.getD_eq_getElem?_getD, List.getElem?_take, if_pos hi', List.getD_eq_getElem?_getD]
  · cases h
def sSameX : Spec
  | [.agg [.f (.v (.bool n)), .f a], .agg [.f (.v (.bool n')), .f b]] => match plainL a, plainL b with
    | some (p, l, k), some (p', l', k') => some (some (p ∧ p' ∧ k + k' ≤ 900000), .one (.f (.v (.bool ((n == n') && eqB l l')))))
    | _, _ => none
  | _ => none
theorem sub_agg2 {x y x' y' : PV} (h : Sub x x') (h' : Sub y y') : Sub (.agg [x, y]) (.agg [x', y']) := by
  refine ⟨fun H v hv => ?_⟩
  obtain ⟨vs, rfl, h1⟩ := PRs.of_agg hv
  have h2 := h1.1
  match vs, h2 with
  | [p, q], _ => exact (PRs.cons (h.out _ _ (h1.2 0 _ _ rfl rfl)) (.cons (h'.out _ _ (h1.2 1 _ _ rfl rfl)) .nil)).agg
theorem cSameX {E : World → Hp → Prop} : Contract Tryz.prog E 45 sSameX := by
  refine cSame.weaken ?_
  intro xs p r hs hp
  unfold sSameX at hs
  split at hs
  · rename_i n a n' b
    split at hs
    · rename_i q l k q' l' k' h1 h2
      cases hs
      obtain ⟨hq, hq', hk⟩ := hp _ rfl
      exact ⟨[.agg [.f (.v (.bool n)), .f (.lr l k)], .agg [.f (.v (.bool n')), .f (.lr l' k')]], _, _, .cons (sub_agg2 (.refl _) (plainL_sub h1 hq)) (.cons (sub_agg2 (.refl _) (plainL_sub h2 hq')) .nil), rfl, fun q hq => by cases hq; exact hk, .refl _⟩
    · cases hs
  · cases hs
def sMark : Spec
  | [.f (.v (.int .i64 k)), .f (.v (.int .i64 i))] => some (some (k = 1 ∧ 0 ≤ i ∧ i ≤ 1000000000), .one (.f (.v (.int .i64 (8000024 + i)))))
  | _ => none
def sMarkI : Spec
  | [.f (.v (.int .i64 k)), .f (.v (.int .i64 i))] => some (some (k = 1 ∧ 0 ≤ i ∧ i ≤ 1000), .one (.agg [.f (.v (.bool false)), .f (.is .u32 [8000024 + i])]))
  | _ => none
def sLentL : Spec
  | [.f (.lr l k)] => some (some (l.length ≤ 1000000), .one (.f (.sp (.is .u32 (allL l)) l.length)))
  | _ => none
def sLentI : Spec
  | [.agg [.f (.v (.bool n)), .f (.lr l k)]] => some (some (l.length ≤ 1000000), .one (.agg [.f (.v (.bool n)), .f (.sp (.is .u32 (allL l)) l.length)]))
  | _ => none
def sKeptL : Spec
  | [.f (.sp (.is .u32 M) m), .f (.lr l k)] => some (some (l.length ≤ 1000000 ∧ M = allL l ∧ m = l.length), .one (.f (.v (.bool true))))
  | _ => none
/-- Lent numbers, with what lies behind. -/
def nA (L : List (Bool × List Nat × Nat)) (i : Nat) : Bool := match L[i]? with | some e => e.1 | none => false
def mA (L : List (Bool × List Nat × Nat)) (i : Nat) : List Int := match L[i]? with | some e => allL e.2.1 | none => [8000024 + ((i - L.length : Nat) : Int)]
def kA (L : List (Bool × List Nat × Nat)) (i : Nat) : Nat := match L[i]? with | some e => e.2.1.length | none => 1
theorem rd_gen {H : Hp} {v : Value} {k n : Nat} {g g' : Nat → List Lf} (h : Rd H v (.gen k n g)) (hg : ∀ i, i < n → (g i).length = (g' i).length ∧ ∀ (j : Nat) (x : Lf), (g' i)[j]? = some x → ∃ y : Lf, (g i)[j]? = some y ∧ ∀ u, Rd H u y → Rd H u x) : Rd H v (.gen k n g') := by
  cases h with
  | sl hv hgd hc hm h0 b o val hb hcell hk hrec =>
    cases hv
    exact .sl (f := .gen k n g') rfl trivial hc hm h0 b o val hb hcell (fun i hi => by rw [← (hg i hi).1]; exact hk i hi) fun i hi j x hx => by
      obtain ⟨y, h1, h2⟩ := (hg i hi).2 j x hx
      exact h2 _ (hrec i hi j y h1)
theorem subB_gen {o k n m : Nat} {g g' : Nat → List Lf} (hn : n = m) (hg : ∀ i, i < n → (g i).length = (g' i).length ∧ ∀ (j : Nat) (x : Lf), (g' i)[j]? = some x → ∃ y : Lf, (g i)[j]? = some y ∧ ∀ H u, Rd H u y → Rd H u x) : SubB (.tl o (.gen k n g)) (.tl o (.gen k m g')) := ⟨fun H B v h => by
  subst hn
  cases h with
  | tl h hb => exact .tl (rd_gen h fun i hi => ⟨(hg i hi).1, fun j x hx => by obtain ⟨y, h1, h2⟩ := (hg i hi).2 j x hx; exact ⟨y, h1, h2 H⟩⟩) hb⟩
theorem subB_gen0 {o k : Nat} {g : Nat → List Lf} : SubB (.tl o (.row k [])) (.tl o (.gen k 0 g)) := ⟨fun H B v h => by
  cases h with
  | tl h hb =>
    refine .tl ?_ hb
    cases h with
    | sl hv hgd hc hm h0 b o val hb hcell hk hrec =>
      cases hv
      exact .sl (f := .gen k 0 g) rfl trivial hc hm h0 b o val hb (fun i hi => absurd hi (Nat.not_lt_zero i)) (fun i hi => absurd hi (Nat.not_lt_zero i)) fun i hi => absurd hi (Nat.not_lt_zero i)⟩
theorem subB_step {o n m : Nat} {g g' : Nat → List Lf} {a b a' b' : Lf} (hm : m = n + 1) (hlo : ∀ i, i < n → g i = g' i) (hhi : g n = [a, b]) (hhi' : g' n = [a', b']) (ha : ∀ H u, Rd H u a → Rd H u a') (hb : ∀ H u, Rd H u b → Rd H u b') : SubB (.tl o (.gen 2 (n + 1) g)) (.tl o (.gen 2 m g')) := by
  refine subB_gen hm.symm fun i hi => ?_
  by_cases h : i < n
  · rw [hlo i h]
    exact ⟨rfl, fun j x hx => ⟨x, hx, fun H u h => h⟩⟩
  · obtain rfl : i = n := by omega
    rw [hhi, hhi']
    refine ⟨rfl, fun j x hx => ?_⟩
    match j, hx with
    | 0, hx => simp at hx; subst hx; exact ⟨a, rfl, ha⟩
    | 1, hx => simp at hx; subst hx; exact ⟨b, rfl, hb⟩
    | j + 2, hx => simp at hx
theorem rd_is_sp {H : Hp} {u : Value} {kd : IntKind} {M : List Int} (h : Rd H u (.is kd M)) : Rd H u (.sp (.is kd M) M.length) := by
  cases h with
  | sl hv hgd hc hm h0 b o val hb hcell hk hrec =>
    cases hv
    exact .sl (f := .sp (.is kd M) M.length) rfl (Nat.le_refl _) hc hm h0 b o val hb hcell hk hrec
def sKeptI : Spec
  | [.agg [.f (.v (.bool n)), .f (.sp (.is .u32 M) m)], .agg [.f (.v (.bool n')), .f (.lr l k)]] => some (some (n = n' ∧ M = allL l ∧ m = l.length ∧ l.length ≤ 100000 ∧ k ≤ 100000), .one (.f (.v (.bool true))))
  | _ => none
def sKeptN : Spec
  | [.f (.sp (.gen 2 N g) m), .f (.zs L)] => some (some (N = L.length + 12 ∧ m = L.length ∧ g = (fun i => [.v (.bool (nA L i)), .sp (.is .u32 (mA L i)) (kA L i)]) ∧ L.length ≤ 1000 ∧ ∀ e ∈ L, e.2.1.length ≤ 100000 ∧ e.2.2 ≤ 100000), .one (.f (.v (.bool true))))
  | _ => none
def sLentN : Spec
  | [.f (.zs L)] => some (some (L.length ≤ 1000 ∧ ∀ e ∈ L, e.2.1.length ≤ 1000000), .one (.f (.sp (.gen 2 (L.length + 12) fun i => [.v (.bool (nA L i)), .sp (.is .u32 (mA L i)) (kA L i)]) L.length)))
  | _ => none
section
variable {E : World → Hp → Prop} (hU : Up E)
include hU
theorem cMark : Contract Tryz.prog E 102 sMark := by
  refine contract_loopsG [] Tryz.ntmps102 Tryz.func102 (by kernel_rfl) (by kernel_rfl) hU trivial ?_
  intro xs p r hs hp
  unfold sMark at hs
  split at hs
  · rename_i k i
    cases hs
    obtain ⟨rfl, h0, h1⟩ := hp _ rfl
    refine ⟨[.f (.v (.int .i64 1)), .f (.v (.int .i64 i))], [], .cons (.refl _) (.cons (.refl _) .nil), rfl, fun hgx hg => ?_⟩
    refine cast_rfl (p := true = true ∧ Sub (PV.f (Lf.v (Value.int IntKind.i64 (IntKind.i64.wrap (IntKind.i64.wrap ((1000003 : Int) * IntKind.i64.wrap ((1 : Int) + (7 : Int))) + i))))) (PV.f (Lf.v (Value.int IntKind.i64 ((8000024 : Int) + i))))) (by kernel_rfl) ?_
    refine ⟨rfl, ?m0⟩
    case m0 =>
      refine sub_int ?_
      rw [wrapI (1 + 7) (by omega), wrapI (1000003 * (1 + 7)) (by omega), wrapI _ (by omega)]
      omega
  · cases hs
theorem cMarkI : Contract Tryz.prog E 53 sMarkI := by
  refine contract_loopsG [(102, sMark)] Tryz.ntmps53 Tryz.func53 (by kernel_rfl) (by kernel_rfl) hU ⟨cMark hU, trivial⟩ ?_
  intro xs p r hs hp
  unfold sMarkI at hs
  split at hs
  · rename_i k i
    cases hs
    obtain ⟨rfl, h0, h1⟩ := hp _ rfl
    refine ⟨[.f (.v (.int .i64 1)), .f (.v (.int .i64 i))], [], .cons (.refl _) (.cons (.refl _) .nil), rfl, fun hgx hg => ?_⟩
    refine cast_rfl (p := ((1 : Int) = (1 : Int) ∧ (0 : Int) ≤ i ∧ i ≤ (1000000000 : Int)) ∧ true = true ∧ Sub (PV.agg [PV.f (Lf.v (Value.bool false)), PV.f (Lf.row 1 [[Lf.v (Value.int IntKind.u32 (IntKind.u32.wrap ((8000024 : Int) + i)))]])]) (PV.agg [PV.f (Lf.v (Value.bool false)), PV.f (Lf.is IntKind.u32 [(8000024 : Int) + i])])) (by kernel_rfl) ?_
    refine ⟨?s0, ⟨rfl, ?m0⟩⟩
    case s0 => exact ⟨rfl, h0, by omega⟩
    case m0 =>
      rw [wU _ (by omega) (by omega)]
      refine sub_agg2 (.refl _) ⟨fun H v hv => .f (rd_view (f := .row 1 [[.v (.int .u32 (8000024 + i))]]) (f' := .is .u32 [8000024 + i]) rfl rfl trivial (Nat.le_refl _) (fun j hj => ?_) hv.rd)⟩
      have : j = 0 := by have : j < 1 := hj; omega
      subst this
      rfl
  · cases hs
theorem cLentL : Contract Tryz.prog E 101 sLentL := by
  refine contract_loopsG [(102, sMark)] Tryz.ntmps101 Tryz.func101 (by kernel_rfl) (by kernel_rfl) hU ⟨cMark hU, trivial⟩ ?_
  intro xs p r hs hp
  unfold sLentL at hs
  split at hs
  · rename_i l k
    cases hs
    have hl := hp _ rfl
    refine ⟨[.f (.lr l k)], [(4, .s ⟨Nat, fun i => ⟨[(0, .f (.lr l k)), (3, .tl 0 (.is .u32 (l.map Int.ofNat ++ marks i))), (4, .f (.v (.int .i64 (i : Nat))))], [.tail 103 1]⟩, fun i => i ≤ 12, fun i => 12 - i⟩)], .cons (.refl _) .nil, rfl, fun hgx hg => ?_⟩
    refine cast_rfl (p := ((0 : Int) ≤ (0 : Int) ∧ (0 : Int) ≤ IntKind.i64.wrap ((↑l.length : Int) + (12 : Int)) ∧ IntKind.i64.wrap ((↑l.length : Int) + (12 : Int)) * (↑4 : Int) ≤ (140737488355328 : Int) ∧ IntKind.i64.wrap ((↑l.length : Int) + (12 : Int)) ≤ (↑9223372036854775807 : Int)) ∧ (0 + l.length ≤ 9223372036854775807 ∧ (0 + l.length) * 4 ≤ 140737488355328) ∧ ∃ (x1 : Nat), (((103 = 103 ∧ 1 = 1) ∧ True) ∧ SubB (PV.f (Lf.lr l k)) (PV.f (Lf.lr l k)) ∧ SubB (PV.tl 0 (Lf.is IntKind.u32 (List.replicate (Int.toNat (0 : Int)) (0 : Int) ++ List.map Int.ofNat l))) (PV.tl 0 (Lf.is IntKind.u32 (List.map Int.ofNat l ++ marks x1))) ∧ SubB (PV.f (Lf.v (Value.int IntKind.i64 (0 : Int)))) (PV.f (Lf.v (Value.int IntKind.i64 (↑x1 : Int)))) ∧ True) ∧ x1 ≤ 12 ∧ True ∧ ∀ (z2 : Nat), z2 ≤ 12 → True → ifB (decide ((↑z2 : Int) < (12 : Int))) (((1 : Int) = (1 : Int) ∧ (0 : Int) ≤ (↑z2 : Int) ∧ (↑z2 : Int) ≤ (1000000000 : Int)) ∧ ((List.map Int.ofNat l ++ marks z2).length + 1 ≤ 9223372036854775807 ∧ ((List.map Int.ofNat l ++ marks z2).length + 1) * 4 ≤ 140737488355328) ∧ ∃ (x3 : Nat), (((103 = 103 ∧ 1 = 1) ∧ True) ∧ SubB (PV.f (Lf.lr l k)) (PV.f (Lf.lr l k)) ∧ SubB (PV.tl 0 (Lf.is IntKind.u32 (List.map Int.ofNat l ++ marks z2 ++ [IntKind.u32.wrap ((8000024 : Int) + (↑z2 : Int))]))) (PV.tl 0 (Lf.is IntKind.u32 (List.map Int.ofNat l ++ marks x3))) ∧ SubB (PV.f (Lf.v (Value.int IntKind.i64 (IntKind.i64.wrap ((↑z2 : Int) + (1 : Int)))))) (PV.f (Lf.v (Value.int IntKind.i64 (↑x3 : Int)))) ∧ True) ∧ x3 ≤ 12 ∧ True ∧ (12 - x3).succ.le (12 - z2)) (((0 : Int) ≤ (↑l.length : Int) ∧ (↑l.length : Int) ≤ (↑(List.map Int.ofNat l ++ marks z2).length : Int)) ∧ true = true ∧ Sub (PV.f ((Lf.is IntKind.u32 (List.map Int.ofNat l ++ marks z2)).sp (↑l.length : Int).toNat)) (PV.f ((Lf.is IntKind.u32 (allL l)).sp l.length)))) (by kernel_rfl) ?_
    refine ⟨?s0, ⟨?s1, ⟨?x0, ⟨⟨⟨⟨rfl, rfl⟩, trivial⟩, ⟨.refl _, ⟨?m0, ⟨?m1, trivial⟩⟩⟩⟩, ⟨?s2, ⟨trivial, fun z2 => fun hq0 => fun _ => ifB_iff.2 ⟨fun hb1 => ⟨?s3, ⟨?s4, ⟨?x1, ⟨⟨⟨⟨rfl, rfl⟩, trivial⟩, ⟨.refl _, ⟨?m2, ⟨?m3, trivial⟩⟩⟩⟩, ⟨?s5, ⟨trivial, ?m4⟩⟩⟩⟩⟩⟩, fun hb1 => ⟨?s6, ⟨rfl, ?m5⟩⟩⟩⟩⟩⟩⟩⟩⟩
    case x0 => exact 0
    case x1 => exact z2 + 1
    case s0 => rw [wrapI _ ⟨by omega, by omega⟩]; exact ⟨by omega, by omega, by omega, by omega⟩
    case s1 => exact ⟨by omega, by omega⟩
    case m0 => exact subB_tl (by simp [marks])
    case m1 => exact subB_int rfl
    case s2 => omega
    case s3 => exact ⟨rfl, by omega, by omega⟩
    case s4 =>
      rw [List.length_append, List.length_map, marks_len]
      exact ⟨by omega, by omega⟩
    case m2 =>
      refine subB_tl ?_
      rw [wU _ (by omega) (by omega), marks, List.append_assoc]
    case m3 => exact subB_succ (by omega)
    case s5 => have := of_decide_eq_true hb1; omega
    case m4 => have := of_decide_eq_true hb1; show 12 - (z2 + 1) + 1 ≤ 12 - z2; omega
    case s6 =>
      rw [List.length_append, List.length_map, marks_len]
      exact ⟨by omega, by omega⟩
    case m5 =>
      have := of_decide_eq_false hb1
      obtain rfl : z2 = 12 := by omega
      rw [Int.toNat_natCast]
      exact .refl _
  · cases hs
theorem cLentI : Contract Tryz.prog E 52 sLentI := by
  refine contract_loopsG [(101, sLentL)] Tryz.ntmps52 Tryz.func52 (by kernel_rfl) (by kernel_rfl) hU ⟨cLentL hU, trivial⟩ ?_
  intro xs p r hs hp
  unfold sLentI at hs
  split at hs
  · rename_i n l k
    cases hs
    have hl := hp _ rfl
    refine ⟨[.agg [.f (.v (.bool n)), .f (.lr l k)]], [], .cons (.refl _) .nil, rfl, fun hgx hg => ?_⟩
    refine cast_rfl (p := l.length ≤ 1000000 ∧ true = true ∧ Sub (PV.agg [PV.f (Lf.v (Value.bool n)), PV.f ((Lf.is IntKind.u32 (allL l)).sp l.length)]) (PV.agg [PV.f (Lf.v (Value.bool n)), PV.f ((Lf.is IntKind.u32 (allL l)).sp l.length)])) (by kernel_rfl) ?_
    refine ⟨?s0, ⟨rfl, ?m0⟩⟩
    case s0 => exact hl
    case m0 => exact .refl _
  · cases hs
theorem cKeptL : Contract Tryz.prog E 117 sKeptL := by
  refine contract_loopsG [(102, sMark)] Tryz.ntmps117 Tryz.func117 (by kernel_rfl) (by kernel_rfl) hU ⟨cMark hU, trivial⟩ ?_
  intro xs p r hs hp
  unfold sKeptL at hs
  split at hs
  · rename_i M m l k
    cases hs
    obtain ⟨hl, rfl, rfl⟩ := hp _ rfl
    refine ⟨[.f (.sp (.is .u32 (allL l)) l.length), .f (.lr l k)], [(5, .s ⟨Nat, fun i => ⟨[(0, .f (.sp (.is .u32 (allL l)) l.length)), (1, .f (.lr l k)), (5, .f (.is .u32 (allL l))), (6, .f (.v (.int .i64 (i : Nat))))], []⟩, fun i => i ≤ l.length + 12, fun i => l.length + 12 - i⟩)], .cons (.refl _) (.cons (.refl _) .nil), rfl, fun hgx hg => ?_⟩
    refine cast_rfl (p := ifB ((↑l.length : Int) != (↑l.length : Int)) (true = true ∧ Sub (PV.f (Lf.v (Value.bool false))) (PV.f (Lf.v (Value.bool true)))) (((0 : Int) ≤ IntKind.i64.wrap ((↑l.length : Int) + (12 : Int)) ∧ IntKind.i64.wrap ((↑l.length : Int) + (12 : Int)) ≤ (↑(allL l).length : Int)) ∧ ∃ (x1 : Nat), (True ∧ SubB (PV.f ((Lf.is IntKind.u32 (allL l)).sp l.length)) (PV.f ((Lf.is IntKind.u32 (allL l)).sp l.length)) ∧ SubB (PV.f (Lf.lr l k)) (PV.f (Lf.lr l k)) ∧ SubB (PV.f (Lf.is IntKind.u32 (List.take (IntKind.i64.wrap ((↑l.length : Int) + (12 : Int))).toNat (allL l)))) (PV.f (Lf.is IntKind.u32 (allL l))) ∧ SubB (PV.f (Lf.v (Value.int IntKind.i64 (0 : Int)))) (PV.f (Lf.v (Value.int IntKind.i64 (↑x1 : Int)))) ∧ True) ∧ x1 ≤ l.length + 12 ∧ True ∧ ∀ (z2 : Nat), z2 ≤ l.length + 12 → True → ifB (decide ((↑z2 : Int) < (↑(allL l).length : Int))) (ifB (decide ((↑z2 : Int) < (↑l.length : Int))) (((0 : Int) ≤ (↑z2 : Int) ∧ (↑z2 : Int) < (↑(allL l).length : Int)) ∧ ((0 : Int) ≤ (↑z2 : Int) ∧ (↑z2 : Int) < (↑l.length : Int)) ∧ ifB (!(allL l).getD (↑z2 : Int).toNat (0 : Int) == (↑(l.getD (↑z2 : Int).toNat 0) : Int)) (true = true ∧ Sub (PV.f (Lf.v (Value.bool false))) (PV.f (Lf.v (Value.bool true)))) (ifB (decide ((↑z2 : Int) ≥ (↑l.length : Int))) (((0 : Int) ≤ (↑z2 : Int) ∧ (↑z2 : Int) < (↑(allL l).length : Int)) ∧ ((1 : Int) = (1 : Int) ∧ (0 : Int) ≤ IntKind.i64.wrap ((↑z2 : Int) - (↑l.length : Int)) ∧ IntKind.i64.wrap ((↑z2 : Int) - (↑l.length : Int)) ≤ (1000000000 : Int)) ∧ ifB (!(allL l).getD (↑z2 : Int).toNat (0 : Int) == IntKind.u32.wrap ((8000024 : Int) + IntKind.i64.wrap ((↑z2 : Int) - (↑l.length : Int)))) (true = true ∧ Sub (PV.f (Lf.v (Value.bool false))) (PV.f (Lf.v (Value.bool true)))) (∃ (x3 : Nat), (True ∧ SubB (PV.f ((Lf.is IntKind.u32 (allL l)).sp l.length)) (PV.f ((Lf.is IntKind.u32 (allL l)).sp l.length)) ∧ SubB (PV.f (Lf.lr l k)) (PV.f (Lf.lr l k)) ∧ SubB (PV.f (Lf.is IntKind.u32 (allL l))) (PV.f (Lf.is IntKind.u32 (allL l))) ∧ SubB (PV.f (Lf.v (Value.int IntKind.i64 (IntKind.i64.wrap ((↑z2 : Int) + (1 : Int)))))) (PV.f (Lf.v (Value.int IntKind.i64 (↑x3 : Int)))) ∧ True) ∧ x3 ≤ l.length + 12 ∧ True ∧ (l.length + 12 - x3).succ.le (l.length + 12 - z2))) (∃ (x3 : Nat), (True ∧ SubB (PV.f ((Lf.is IntKind.u32 (allL l)).sp l.length)) (PV.f ((Lf.is IntKind.u32 (allL l)).sp l.length)) ∧ SubB (PV.f (Lf.lr l k)) (PV.f (Lf.lr l k)) ∧ SubB (PV.f (Lf.is IntKind.u32 (allL l))) (PV.f (Lf.is IntKind.u32 (allL l))) ∧ SubB (PV.f (Lf.v (Value.int IntKind.i64 (IntKind.i64.wrap ((↑z2 : Int) + (1 : Int)))))) (PV.f (Lf.v (Value.int IntKind.i64 (↑x3 : Int)))) ∧ True) ∧ x3 ≤ l.length + 12 ∧ True ∧ (l.length + 12 - x3).succ.le (l.length + 12 - z2)))) (ifB (decide ((↑z2 : Int) ≥ (↑l.length : Int))) (((0 : Int) ≤ (↑z2 : Int) ∧ (↑z2 : Int) < (↑(allL l).length : Int)) ∧ ((1 : Int) = (1 : Int) ∧ (0 : Int) ≤ IntKind.i64.wrap ((↑z2 : Int) - (↑l.length : Int)) ∧ IntKind.i64.wrap ((↑z2 : Int) - (↑l.length : Int)) ≤ (1000000000 : Int)) ∧ ifB (!(allL l).getD (↑z2 : Int).toNat (0 : Int) == IntKind.u32.wrap ((8000024 : Int) + IntKind.i64.wrap ((↑z2 : Int) - (↑l.length : Int)))) (true = true ∧ Sub (PV.f (Lf.v (Value.bool false))) (PV.f (Lf.v (Value.bool true)))) (∃ (x3 : Nat), (True ∧ SubB (PV.f ((Lf.is IntKind.u32 (allL l)).sp l.length)) (PV.f ((Lf.is IntKind.u32 (allL l)).sp l.length)) ∧ SubB (PV.f (Lf.lr l k)) (PV.f (Lf.lr l k)) ∧ SubB (PV.f (Lf.is IntKind.u32 (allL l))) (PV.f (Lf.is IntKind.u32 (allL l))) ∧ SubB (PV.f (Lf.v (Value.int IntKind.i64 (IntKind.i64.wrap ((↑z2 : Int) + (1 : Int)))))) (PV.f (Lf.v (Value.int IntKind.i64 (↑x3 : Int)))) ∧ True) ∧ x3 ≤ l.length + 12 ∧ True ∧ (l.length + 12 - x3).succ.le (l.length + 12 - z2))) (∃ (x3 : Nat), (True ∧ SubB (PV.f ((Lf.is IntKind.u32 (allL l)).sp l.length)) (PV.f ((Lf.is IntKind.u32 (allL l)).sp l.length)) ∧ SubB (PV.f (Lf.lr l k)) (PV.f (Lf.lr l k)) ∧ SubB (PV.f (Lf.is IntKind.u32 (allL l))) (PV.f (Lf.is IntKind.u32 (allL l))) ∧ SubB (PV.f (Lf.v (Value.int IntKind.i64 (IntKind.i64.wrap ((↑z2 : Int) + (1 : Int)))))) (PV.f (Lf.v (Value.int IntKind.i64 (↑x3 : Int)))) ∧ True) ∧ x3 ≤ l.length + 12 ∧ True ∧ (l.length + 12 - x3).succ.le (l.length + 12 - z2)))) (true = true ∧ Sub (PV.f (Lf.v (Value.bool true))) (PV.f (Lf.v (Value.bool true)))))) (by kernel_rfl) ?_
    refine ifB_iff.2 ⟨fun hb0 => ⟨rfl, ?m0⟩, fun hb0 => ⟨?s0, ⟨?x0, ⟨⟨trivial, ⟨.refl _, ⟨.refl _, ⟨?m1, ⟨?m2, trivial⟩⟩⟩⟩⟩, ⟨?s1, ⟨trivial, fun z2 => fun hq1 => fun _ => ifB_iff.2 ⟨fun hb2 => ifB_iff.2 ⟨fun hb3 => ⟨?s2, ⟨?s3, ifB_iff.2 ⟨fun hb4 => ⟨rfl, ?m3⟩, fun hb4 => ifB_iff.2 ⟨fun hb5 => ⟨?s4, ⟨?s5, ifB_iff.2 ⟨fun hb6 => ⟨rfl, ?m4⟩, fun hb6 => ⟨?x1, ⟨⟨trivial, ⟨.refl _, ⟨.refl _, ⟨.refl _, ⟨?m5, trivial⟩⟩⟩⟩⟩, ⟨?s6, ⟨trivial, ?m6⟩⟩⟩⟩⟩⟩⟩, fun hb5 => ⟨?x2, ⟨⟨trivial, ⟨.refl _, ⟨.refl _, ⟨.refl _, ⟨?m7, trivial⟩⟩⟩⟩⟩, ⟨?s7, ⟨trivial, ?m8⟩⟩⟩⟩⟩⟩⟩⟩, fun hb3 => ifB_iff.2 ⟨fun hb7 => ⟨?s8, ⟨?s9, ifB_iff.2 ⟨fun hb8 => ⟨rfl, ?m9⟩, fun hb8 => ⟨?x3, ⟨⟨trivial, ⟨.refl _, ⟨.refl _, ⟨.refl _, ⟨?m10, trivial⟩⟩⟩⟩⟩, ⟨?s10, ⟨trivial, ?m11⟩⟩⟩⟩⟩⟩⟩, fun hb7 => ⟨?x4, ⟨⟨trivial, ⟨.refl _, ⟨.refl _, ⟨.refl _, ⟨?m12, trivial⟩⟩⟩⟩⟩, ⟨?s11, ⟨trivial, ?m13⟩⟩⟩⟩⟩⟩, fun hb2 => ⟨rfl, ?m14⟩⟩⟩⟩⟩⟩⟩⟩
    case x0 => exact 0
    case x1 => exact z2 + 1
    case x2 => exact z2 + 1
    case x3 => exact z2 + 1
    case x4 => exact z2 + 1
    all_goals try simp only [allL_len, Int.toNat_natCast] at *
    case m0 => simp at hb0
    case s0 => rw [wrapI _ ⟨by omega, by omega⟩]; exact ⟨by omega, by omega⟩
    case m1 =>
      refine subB_of (sub_is ?_)
      rw [wrapI _ ⟨by omega, by omega⟩]
      exact List.take_of_length_le (by rw [allL_len]; omega)
    case m2 => exact subB_int rfl
    case s1 => omega
    case m14 => exact .refl _
    all_goals have h2 := of_decide_eq_true hb2
    case m12 => exact absurd (of_decide_eq_false hb7) (by have := of_decide_eq_false hb3; omega)
    case s11 => exact absurd (of_decide_eq_false hb7) (by have := of_decide_eq_false hb3; omega)
    case m13 => exact absurd (of_decide_eq_false hb7) (by have := of_decide_eq_false hb3; omega)
    case s2 => exact ⟨by omega, by omega⟩
    case s8 => exact ⟨by omega, by omega⟩
    case s9 =>
      have := of_decide_eq_false hb3
      rw [wrapI _ ⟨by omega, by omega⟩]; exact ⟨trivial, by omega, by omega⟩
    case m9 =>
      have := of_decide_eq_false hb3
      rw [allL_hi (by omega) (by omega), wrapI _ ⟨by omega, by omega⟩, wU _ (by omega) (by omega)] at hb8
      simp at hb8
    case m10 => exact subB_succ (by omega)
    case s10 => omega
    case m11 => show l.length + 12 - (z2 + 1) + 1 ≤ l.length + 12 - z2; omega
    all_goals have h3 := of_decide_eq_true hb3
    case s3 => exact ⟨by omega, by omega⟩
    case m3 =>
      rw [allL_lo (by omega)] at hb4
      simp at hb4
    case s4 => exact ⟨by omega, by omega⟩
    case m7 => exact subB_succ (by omega)
    case s7 => omega
    case m8 => show l.length + 12 - (z2 + 1) + 1 ≤ l.length + 12 - z2; omega
    all_goals exact absurd (of_decide_eq_true hb5) (by omega)
  · cases hs
theorem cLentN : Contract Tryz.prog E 11 sLentN := by
  refine contract_loopsG [(52, sLentI), (53, sMarkI)] Tryz.ntmps11 Tryz.func11 (by kernel_rfl) (by kernel_rfl) hU ⟨cLentI hU, cMarkI hU, trivial⟩ ?_
  intro xs p r hs hp
  unfold sLentN at hs
  split at hs
  · rename_i L
    cases hs
    obtain ⟨hL, hl⟩ := hp _ rfl
    refine ⟨[.f (.zs L)], [(3, .s ⟨Nat, fun i => ⟨[(0, .f (.zs L)), (3, .tl 0 (.gen 2 i fun i => [.v (.bool (nA L i)), .sp (.is .u32 (mA L i)) (kA L i)])), (4, .f (.v (.int .i64 (i : Nat))))], [.tail 29 2]⟩, fun i => i ≤ L.length, fun i => L.length - i⟩), (8, .s ⟨Nat, fun i => ⟨[(0, .f (.zs L)), (3, .tl 0 (.gen 2 (L.length + i) fun i => [.v (.bool (nA L i)), .sp (.is .u32 (mA L i)) (kA L i)])), (6, .f (.v (.int .i64 (i : Nat))))], [.tail 29 2]⟩, fun i => i ≤ 12, fun i => 12 - i⟩)], .cons (.refl _) .nil, rfl, fun hgx hg => ?_⟩
    refine cast_rfl (p := ((0 : Int) ≤ (0 : Int) ∧ (0 : Int) ≤ IntKind.i64.wrap ((↑L.length : Int) + (12 : Int)) ∧ IntKind.i64.wrap ((↑L.length : Int) + (12 : Int)) * (↑32 : Int) ≤ (140737488355328 : Int) ∧ IntKind.i64.wrap ((↑L.length : Int) + (12 : Int)) ≤ (↑9223372036854775807 : Int)) ∧ ∃ (x1 : Nat), (((29 = 29 ∧ 2 = 2) ∧ True) ∧ SubB (PV.f (Lf.zs L)) (PV.f (Lf.zs L)) ∧ SubB (PV.tl 0 (Lf.row 2 [])) (PV.tl 0 (Lf.gen 2 x1 fun (i : Nat) => [Lf.v (Value.bool (nA L i)), (Lf.is IntKind.u32 (mA L i)).sp (kA L i)])) ∧ SubB (PV.f (Lf.v (Value.int IntKind.i64 (0 : Int)))) (PV.f (Lf.v (Value.int IntKind.i64 (↑x1 : Int)))) ∧ True) ∧ x1 ≤ L.length ∧ True ∧ ∀ (z2 : Nat), z2 ≤ L.length → True → ifB (decide ((↑z2 : Int) < (↑L.length : Int))) (((0 : Int) ≤ (↑z2 : Int) ∧ (↑z2 : Int) < (↑L.length : Int)) ∧ (L.getD (↑z2 : Int).toNat (false, [], 0)).snd.fst.length ≤ 1000000 ∧ (z2 + 1 ≤ 9223372036854775807 ∧ (z2 + 1) * 32 ≤ 140737488355328) ∧ ∃ (x3 : Nat), (((29 = 29 ∧ 2 = 2) ∧ True) ∧ SubB (PV.f (Lf.zs L)) (PV.f (Lf.zs L)) ∧ SubB (PV.tl 0 (Lf.gen 2 (z2 + 1) fun (i : Nat) => match (i + 1).ble z2 with | true => [Lf.v (Value.bool (nA L i)), (Lf.is IntKind.u32 (mA L i)).sp (kA L i)] | false => [[Lf.v (Value.bool (L.getD (↑z2 : Int).toNat (false, [], 0)).fst), (Lf.is IntKind.u32 (allL (L.getD (↑z2 : Int).toNat (false, [], 0)).snd.fst)).sp (L.getD (↑z2 : Int).toNat (false, [], 0)).snd.fst.length]].getD (i - z2) [])) (PV.tl 0 (Lf.gen 2 x3 fun (i : Nat) => [Lf.v (Value.bool (nA L i)), (Lf.is IntKind.u32 (mA L i)).sp (kA L i)])) ∧ SubB (PV.f (Lf.v (Value.int IntKind.i64 (IntKind.i64.wrap ((↑z2 : Int) + (1 : Int)))))) (PV.f (Lf.v (Value.int IntKind.i64 (↑x3 : Int)))) ∧ True) ∧ x3 ≤ L.length ∧ True ∧ (L.length - x3).succ.le (L.length - z2)) (∃ (x3 : Nat), (((29 = 29 ∧ 2 = 2) ∧ True) ∧ SubB (PV.f (Lf.zs L)) (PV.f (Lf.zs L)) ∧ SubB (PV.tl 0 (Lf.gen 2 z2 fun (i : Nat) => [Lf.v (Value.bool (nA L i)), (Lf.is IntKind.u32 (mA L i)).sp (kA L i)])) (PV.tl 0 (Lf.gen 2 (L.length + x3) fun (i : Nat) => [Lf.v (Value.bool (nA L i)), (Lf.is IntKind.u32 (mA L i)).sp (kA L i)])) ∧ SubB (PV.f (Lf.v (Value.int IntKind.i64 (0 : Int)))) (PV.f (Lf.v (Value.int IntKind.i64 (↑x3 : Int)))) ∧ True) ∧ x3 ≤ 12 ∧ True ∧ ∀ (z4 : Nat), z4 ≤ 12 → True → ifB (decide ((↑z4 : Int) < (12 : Int))) (((1 : Int) = (1 : Int) ∧ (0 : Int) ≤ (↑z4 : Int) ∧ (↑z4 : Int) ≤ (1000 : Int)) ∧ (L.length + z4 + 1 ≤ 9223372036854775807 ∧ (L.length + z4 + 1) * 32 ≤ 140737488355328) ∧ ∃ (x5 : Nat), (((29 = 29 ∧ 2 = 2) ∧ True) ∧ SubB (PV.f (Lf.zs L)) (PV.f (Lf.zs L)) ∧ SubB (PV.tl 0 (Lf.gen 2 (L.length + z4 + 1) fun (i : Nat) => match (i + 1).ble (L.length + z4) with | true => [Lf.v (Value.bool (nA L i)), (Lf.is IntKind.u32 (mA L i)).sp (kA L i)] | false => [[Lf.v (Value.bool false), Lf.is IntKind.u32 [(8000024 : Int) + (↑z4 : Int)]]].getD (i - (L.length + z4)) [])) (PV.tl 0 (Lf.gen 2 (L.length + x5) fun (i : Nat) => [Lf.v (Value.bool (nA L i)), (Lf.is IntKind.u32 (mA L i)).sp (kA L i)])) ∧ SubB (PV.f (Lf.v (Value.int IntKind.i64 (IntKind.i64.wrap ((↑z4 : Int) + (1 : Int)))))) (PV.f (Lf.v (Value.int IntKind.i64 (↑x5 : Int)))) ∧ True) ∧ x5 ≤ 12 ∧ True ∧ (12 - x5).succ.le (12 - z4)) (((0 : Int) ≤ (↑L.length : Int) ∧ (↑L.length : Int) ≤ (↑(L.length + z4) : Int)) ∧ true = true ∧ Sub (PV.f ((Lf.gen 2 (L.length + z4) fun (i : Nat) => [Lf.v (Value.bool (nA L i)), (Lf.is IntKind.u32 (mA L i)).sp (kA L i)]).sp (↑L.length : Int).toNat)) (PV.f ((Lf.gen 2 (L.length + 12) fun (i : Nat) => [Lf.v (Value.bool (nA L i)), (Lf.is IntKind.u32 (mA L i)).sp (kA L i)]).sp L.length))))) (by kernel_rfl) ?_
    refine ⟨?s0, ⟨?x0, ⟨⟨⟨⟨rfl, rfl⟩, trivial⟩, ⟨.refl _, ⟨?m0, ⟨?m1, trivial⟩⟩⟩⟩, ⟨?s1, ⟨trivial, fun z2 => fun hq0 => fun _ => ifB_iff.2 ⟨fun hb1 => ⟨?s2, ⟨?s3, ⟨?s4, ⟨?x1, ⟨⟨⟨⟨rfl, rfl⟩, trivial⟩, ⟨.refl _, ⟨?m2, ⟨?m3, trivial⟩⟩⟩⟩, ⟨?s5, ⟨trivial, ?m4⟩⟩⟩⟩⟩⟩⟩, fun hb1 => ⟨?x2, ⟨⟨⟨⟨rfl, rfl⟩, trivial⟩, ⟨.refl _, ⟨?m5, ⟨?m6, trivial⟩⟩⟩⟩, ⟨?s6, ⟨trivial, fun z4 => fun hq2 => fun _ => ifB_iff.2 ⟨fun hb3 => ⟨?s7, ⟨?s8, ⟨?x3, ⟨⟨⟨⟨rfl, rfl⟩, trivial⟩, ⟨.refl _, ⟨?m7, ⟨?m8, trivial⟩⟩⟩⟩, ⟨?s9, ⟨trivial, ?m9⟩⟩⟩⟩⟩⟩, fun hb3 => ⟨?s10, ⟨rfl, ?m10⟩⟩⟩⟩⟩⟩⟩⟩⟩⟩⟩⟩⟩
    case x0 => exact 0
    case x1 => exact z2 + 1
    case x2 => exact 0
    case x3 => exact z4 + 1
    all_goals try simp only [Int.toNat_natCast] at *
    case s0 => rw [wrapI _ ⟨by omega, by omega⟩]; exact ⟨by omega, by omega, by omega, by omega⟩
    case m0 => exact subB_gen0
    case m1 => exact subB_int rfl
    case s1 => omega
    case s2 => have := of_decide_eq_true hb1; exact ⟨by omega, by omega⟩
    case s3 =>
      have := of_decide_eq_true hb1
      have hz : z2 < L.length := by omega
      rw [List.getD_eq_getElem?_getD, List.getElem?_eq_getElem hz]
      exact hl _ (List.getElem_mem hz)
    case s4 => exact ⟨by omega, by omega⟩
    case m2 =>
      have := of_decide_eq_true hb1
      have hz : z2 < L.length := by omega
      refine subB_step rfl (fun i hi => by rw [Nat.ble_eq_true_of_le hi]) (by rw [show Nat.ble (z2 + 1) z2 = false from by rw [Bool.eq_false_iff]; intro h; have := Nat.le_of_ble_eq_true h; omega, Nat.sub_self]; rfl) rfl (fun H u h => ?_) (fun H u h => ?_)
      · rw [List.getD_eq_getElem?_getD, List.getElem?_eq_getElem hz] at h
        unfold nA; rw [List.getElem?_eq_getElem hz]; exact h
      · rw [List.getD_eq_getElem?_getD, List.getElem?_eq_getElem hz] at h
        unfold mA kA; rw [List.getElem?_eq_getElem hz]; exact h
    case m3 => exact subB_succ (by omega)
    case s5 => have := of_decide_eq_true hb1; omega
    case m4 => have := of_decide_eq_true hb1; show L.length - (z2 + 1) + 1 ≤ L.length - z2; omega
    all_goals have hzL : z2 = L.length := (by have := of_decide_eq_false hb1; omega)
    case m5 => rw [hzL]; exact .refl _
    case m6 => exact subB_int rfl
    case s6 => omega
    case s7 => exact ⟨trivial, by omega, by omega⟩
    case s8 => exact ⟨by omega, by omega⟩
    case m7 =>
      refine subB_step (by omega) (fun i hi => by rw [Nat.ble_eq_true_of_le hi]) (by rw [show Nat.ble (L.length + z4 + 1) (L.length + z4) = false from by rw [Bool.eq_false_iff]; intro h; have := Nat.le_of_ble_eq_true h; omega, Nat.sub_self]; rfl) rfl (fun H u h => ?_) (fun H u h => ?_)
      · unfold nA; rw [List.getElem?_eq_none (by omega)]; exact h
      · unfold mA kA; rw [List.getElem?_eq_none (by omega)]
        dsimp only
        rw [Nat.add_sub_cancel_left]
        exact rd_is_sp h
    case m8 => exact subB_succ (by omega)
    case s9 => have := of_decide_eq_true hb3; omega
    case m9 => have := of_decide_eq_true hb3; show 12 - (z4 + 1) + 1 ≤ 12 - z4; omega
    case s10 => exact ⟨by omega, by omega⟩
    case m10 =>
      have := of_decide_eq_false hb3
      obtain rfl : z4 = 12 := by omega
      exact .refl _
  · cases hs
theorem cKeptI : Contract Tryz.prog E 69 sKeptI := by
  refine contract_loopsG [(45, sSameX), (117, sKeptL)] Tryz.ntmps69 Tryz.func69 (by kernel_rfl) (by kernel_rfl) hU ⟨cSameX, cKeptL hU, trivial⟩ ?_
  intro xs p r hs hp
  unfold sKeptI at hs
  split at hs
  · rename_i n M m n' l k
    cases hs
    obtain ⟨rfl, rfl, rfl, hl, hk⟩ := hp _ rfl
    refine ⟨[.agg [.f (.v (.bool n)), .f (.sp (.is .u32 (allL l)) l.length)], .agg [.f (.v (.bool n)), .f (.lr l k)]], [], .cons (.refl _) (.cons (.refl _) .nil), rfl, fun hgx hg => ?_⟩
    have hlt : ∀ x ∈ l, x < 4294967296 := hgx.2.1.2.1.1.2
    refine cast_rfl (p := ((l.length ≤ (allL l).length ∧ ∀ (x : Int), x ∈ List.take l.length (allL l) → (0 : Int) ≤ x ∧ x < (4294967296 : Int)) ∧ True ∧ l.length + k ≤ 900000) ∧ ifB (n == n && eqB (List.map Int.toNat (List.take l.length (allL l))) l) ((l.length ≤ 1000000 ∧ allL l = allL l ∧ l.length = l.length) ∧ true = true ∧ Sub (PV.f (Lf.v (Value.bool true))) (PV.f (Lf.v (Value.bool true)))) (true = true ∧ Sub (PV.f (Lf.v (Value.bool false))) (PV.f (Lf.v (Value.bool true))))) (by kernel_rfl) ?_
    refine ⟨?s0, ifB_iff.2 ⟨fun hb0 => ⟨?s1, ⟨rfl, ?m0⟩⟩, fun hb0 => ⟨rfl, ?m1⟩⟩⟩
    case s0 =>
      refine ⟨⟨by rw [allL_len]; omega, ?_⟩, trivial, by omega⟩
      rw [allL_take]
      intro x hx
      obtain ⟨y, hy, rfl⟩ := List.mem_map.1 hx
      have := hlt y hy
      have e : Int.ofNat y = (y : Int) := rfl
      omega
    case s1 => exact ⟨by omega, rfl, rfl⟩
    case m0 => exact .refl _
    case m1 =>
      rw [allL_take, map_back, eqB_self, beq_self_eq_true] at hb0
      cases hb0
  · cases hs
theorem cKeptN : Contract Tryz.prog E 19 sKeptN := by
  refine contract_loopsG [(69, sKeptI), (53, sMarkI), (45, sSameX)] Tryz.ntmps19 Tryz.func19 (by kernel_rfl) (by kernel_rfl) hU ⟨cKeptI hU, cMarkI hU, cSameX, trivial⟩ ?_
  intro xs p r hs hp
  unfold sKeptN at hs
  split at hs
  · rename_i N g m L
    cases hs
    obtain ⟨rfl, rfl, rfl, hL, hl⟩ := hp _ rfl
    refine ⟨[.f (.sp (.gen 2 (L.length + 12) fun i => [.v (.bool (nA L i)), .sp (.is .u32 (mA L i)) (kA L i)]) L.length), .f (.zs L)], [(5, .s ⟨Nat, fun i => ⟨[(0, .f (.sp (.gen 2 (L.length + 12) fun i => [.v (.bool (nA L i)), .sp (.is .u32 (mA L i)) (kA L i)]) L.length)), (1, .f (.zs L)), (5, .f (.gen 2 (L.length + 12) fun i => [.v (.bool (nA L i)), .sp (.is .u32 (mA L i)) (kA L i)])), (6, .f (.v (.int .i64 (i : Nat))))], []⟩, fun i => i ≤ L.length + 12, fun i => L.length + 12 - i⟩)], .cons (.refl _) (.cons (.refl _) .nil), rfl, fun hgx hg => ?_⟩
    refine cast_rfl (p := ifB ((↑L.length : Int) != (↑L.length : Int)) (true = true ∧ Sub (PV.f (Lf.v (Value.bool false))) (PV.f (Lf.v (Value.bool true)))) (((0 : Int) ≤ IntKind.i64.wrap ((↑L.length : Int) + (12 : Int)) ∧ IntKind.i64.wrap ((↑L.length : Int) + (12 : Int)) ≤ (↑(L.length + 12) : Int)) ∧ ∃ (x1 : Nat), (True ∧ SubB (PV.f ((Lf.gen 2 (L.length + 12) fun (i : Nat) => [Lf.v (Value.bool (nA L i)), (Lf.is IntKind.u32 (mA L i)).sp (kA L i)]).sp L.length)) (PV.f ((Lf.gen 2 (L.length + 12) fun (i : Nat) => [Lf.v (Value.bool (nA L i)), (Lf.is IntKind.u32 (mA L i)).sp (kA L i)]).sp L.length)) ∧ SubB (PV.f (Lf.zs L)) (PV.f (Lf.zs L)) ∧ SubB (PV.f (Lf.gen 2 (IntKind.i64.wrap ((↑L.length : Int) + (12 : Int))).toNat fun (i : Nat) => [Lf.v (Value.bool (nA L i)), (Lf.is IntKind.u32 (mA L i)).sp (kA L i)])) (PV.f (Lf.gen 2 (L.length + 12) fun (i : Nat) => [Lf.v (Value.bool (nA L i)), (Lf.is IntKind.u32 (mA L i)).sp (kA L i)])) ∧ SubB (PV.f (Lf.v (Value.int IntKind.i64 (0 : Int)))) (PV.f (Lf.v (Value.int IntKind.i64 (↑x1 : Int)))) ∧ True) ∧ x1 ≤ L.length + 12 ∧ True ∧ ∀ (z2 : Nat), z2 ≤ L.length + 12 → True → ifB (decide ((↑z2 : Int) < (↑(L.length + 12) : Int))) (ifB (decide ((↑z2 : Int) < (↑L.length : Int))) (((0 : Int) ≤ (↑z2 : Int) ∧ (↑z2 : Int) < (↑(L.length + 12) : Int)) ∧ ((0 : Int) ≤ (↑z2 : Int) ∧ (↑z2 : Int) < (↑L.length : Int)) ∧ (nA L (↑z2 : Int).toNat = (L.getD (↑z2 : Int).toNat (false, [], 0)).fst ∧ mA L (↑z2 : Int).toNat = allL (L.getD (↑z2 : Int).toNat (false, [], 0)).snd.fst ∧ kA L (↑z2 : Int).toNat = (L.getD (↑z2 : Int).toNat (false, [], 0)).snd.fst.length ∧ (L.getD (↑z2 : Int).toNat (false, [], 0)).snd.fst.length ≤ 100000 ∧ (L.getD (↑z2 : Int).toNat (false, [], 0)).snd.snd ≤ 100000) ∧ ifB (decide ((↑z2 : Int) ≥ (↑L.length : Int))) (((0 : Int) ≤ (↑z2 : Int) ∧ (↑z2 : Int) < (↑(L.length + 12) : Int)) ∧ ((1 : Int) = (1 : Int) ∧ (0 : Int) ≤ IntKind.i64.wrap ((↑z2 : Int) - (↑L.length : Int)) ∧ IntKind.i64.wrap ((↑z2 : Int) - (↑L.length : Int)) ≤ (1000 : Int)) ∧ ((kA L (↑z2 : Int).toNat ≤ (mA L (↑z2 : Int).toNat).length ∧ ∀ (x : Int), x ∈ List.take (kA L (↑z2 : Int).toNat) (mA L (↑z2 : Int).toNat) → (0 : Int) ≤ x ∧ x < (4294967296 : Int)) ∧ (∀ (x : Int), x ∈ [(8000024 : Int) + IntKind.i64.wrap ((↑z2 : Int) - (↑L.length : Int))] → (0 : Int) ≤ x ∧ x < (4294967296 : Int)) ∧ kA L (↑z2 : Int).toNat + 1 ≤ 900000) ∧ ifB (!(nA L (↑z2 : Int).toNat == false && eqB (List.map Int.toNat (List.take (kA L (↑z2 : Int).toNat) (mA L (↑z2 : Int).toNat))) (List.map Int.toNat [(8000024 : Int) + IntKind.i64.wrap ((↑z2 : Int) - (↑L.length : Int))]))) (true = true ∧ Sub (PV.f (Lf.v (Value.bool false))) (PV.f (Lf.v (Value.bool true)))) (∃ (x3 : Nat), (True ∧ SubB (PV.f ((Lf.gen 2 (L.length + 12) fun (i : Nat) => [Lf.v (Value.bool (nA L i)), (Lf.is IntKind.u32 (mA L i)).sp (kA L i)]).sp L.length)) (PV.f ((Lf.gen 2 (L.length + 12) fun (i : Nat) => [Lf.v (Value.bool (nA L i)), (Lf.is IntKind.u32 (mA L i)).sp (kA L i)]).sp L.length)) ∧ SubB (PV.f (Lf.zs L)) (PV.f (Lf.zs L)) ∧ SubB (PV.f (Lf.gen 2 (L.length + 12) fun (i : Nat) => [Lf.v (Value.bool (nA L i)), (Lf.is IntKind.u32 (mA L i)).sp (kA L i)])) (PV.f (Lf.gen 2 (L.length + 12) fun (i : Nat) => [Lf.v (Value.bool (nA L i)), (Lf.is IntKind.u32 (mA L i)).sp (kA L i)])) ∧ SubB (PV.f (Lf.v (Value.int IntKind.i64 (IntKind.i64.wrap ((↑z2 : Int) + (1 : Int)))))) (PV.f (Lf.v (Value.int IntKind.i64 (↑x3 : Int)))) ∧ True) ∧ x3 ≤ L.length + 12 ∧ True ∧ (L.length + 12 - x3).succ.le (L.length + 12 - z2))) (∃ (x3 : Nat), (True ∧ SubB (PV.f ((Lf.gen 2 (L.length + 12) fun (i : Nat) => [Lf.v (Value.bool (nA L i)), (Lf.is IntKind.u32 (mA L i)).sp (kA L i)]).sp L.length)) (PV.f ((Lf.gen 2 (L.length + 12) fun (i : Nat) => [Lf.v (Value.bool (nA L i)), (Lf.is IntKind.u32 (mA L i)).sp (kA L i)]).sp L.length)) ∧ SubB (PV.f (Lf.zs L)) (PV.f (Lf.zs L)) ∧ SubB (PV.f (Lf.gen 2 (L.length + 12) fun (i : Nat) => [Lf.v (Value.bool (nA L i)), (Lf.is IntKind.u32 (mA L i)).sp (kA L i)])) (PV.f (Lf.gen 2 (L.length + 12) fun (i : Nat) => [Lf.v (Value.bool (nA L i)), (Lf.is IntKind.u32 (mA L i)).sp (kA L i)])) ∧ SubB (PV.f (Lf.v (Value.int IntKind.i64 (IntKind.i64.wrap ((↑z2 : Int) + (1 : Int)))))) (PV.f (Lf.v (Value.int IntKind.i64 (↑x3 : Int)))) ∧ True) ∧ x3 ≤ L.length + 12 ∧ True ∧ (L.length + 12 - x3).succ.le (L.length + 12 - z2))) (ifB (decide ((↑z2 : Int) ≥ (↑L.length : Int))) (((0 : Int) ≤ (↑z2 : Int) ∧ (↑z2 : Int) < (↑(L.length + 12) : Int)) ∧ ((1 : Int) = (1 : Int) ∧ (0 : Int) ≤ IntKind.i64.wrap ((↑z2 : Int) - (↑L.length : Int)) ∧ IntKind.i64.wrap ((↑z2 : Int) - (↑L.length : Int)) ≤ (1000 : Int)) ∧ ((kA L (↑z2 : Int).toNat ≤ (mA L (↑z2 : Int).toNat).length ∧ ∀ (x : Int), x ∈ List.take (kA L (↑z2 : Int).toNat) (mA L (↑z2 : Int).toNat) → (0 : Int) ≤ x ∧ x < (4294967296 : Int)) ∧ (∀ (x : Int), x ∈ [(8000024 : Int) + IntKind.i64.wrap ((↑z2 : Int) - (↑L.length : Int))] → (0 : Int) ≤ x ∧ x < (4294967296 : Int)) ∧ kA L (↑z2 : Int).toNat + 1 ≤ 900000) ∧ ifB (!(nA L (↑z2 : Int).toNat == false && eqB (List.map Int.toNat (List.take (kA L (↑z2 : Int).toNat) (mA L (↑z2 : Int).toNat))) (List.map Int.toNat [(8000024 : Int) + IntKind.i64.wrap ((↑z2 : Int) - (↑L.length : Int))]))) (true = true ∧ Sub (PV.f (Lf.v (Value.bool false))) (PV.f (Lf.v (Value.bool true)))) (∃ (x3 : Nat), (True ∧ SubB (PV.f ((Lf.gen 2 (L.length + 12) fun (i : Nat) => [Lf.v (Value.bool (nA L i)), (Lf.is IntKind.u32 (mA L i)).sp (kA L i)]).sp L.length)) (PV.f ((Lf.gen 2 (L.length + 12) fun (i : Nat) => [Lf.v (Value.bool (nA L i)), (Lf.is IntKind.u32 (mA L i)).sp (kA L i)]).sp L.length)) ∧ SubB (PV.f (Lf.zs L)) (PV.f (Lf.zs L)) ∧ SubB (PV.f (Lf.gen 2 (L.length + 12) fun (i : Nat) => [Lf.v (Value.bool (nA L i)), (Lf.is IntKind.u32 (mA L i)).sp (kA L i)])) (PV.f (Lf.gen 2 (L.length + 12) fun (i : Nat) => [Lf.v (Value.bool (nA L i)), (Lf.is IntKind.u32 (mA L i)).sp (kA L i)])) ∧ SubB (PV.f (Lf.v (Value.int IntKind.i64 (IntKind.i64.wrap ((↑z2 : Int) + (1 : Int)))))) (PV.f (Lf.v (Value.int IntKind.i64 (↑x3 : Int)))) ∧ True) ∧ x3 ≤ L.length + 12 ∧ True ∧ (L.length + 12 - x3).succ.le (L.length + 12 - z2))) (∃ (x3 : Nat), (True ∧ SubB (PV.f ((Lf.gen 2 (L.length + 12) fun (i : Nat) => [Lf.v (Value.bool (nA L i)), (Lf.is IntKind.u32 (mA L i)).sp (kA L i)]).sp L.length)) (PV.f ((Lf.gen 2 (L.length + 12) fun (i : Nat) => [Lf.v (Value.bool (nA L i)), (Lf.is IntKind.u32 (mA L i)).sp (kA L i)]).sp L.length)) ∧ SubB (PV.f (Lf.zs L)) (PV.f (Lf.zs L)) ∧ SubB (PV.f (Lf.gen 2 (L.length + 12) fun (i : Nat) => [Lf.v (Value.bool (nA L i)), (Lf.is IntKind.u32 (mA L i)).sp (kA L i)])) (PV.f (Lf.gen 2 (L.length + 12) fun (i : Nat) => [Lf.v (Value.bool (nA L i)), (Lf.is IntKind.u32 (mA L i)).sp (kA L i)])) ∧ SubB (PV.f (Lf.v (Value.int IntKind.i64 (IntKind.i64.wrap ((↑z2 : Int) + (1 : Int)))))) (PV.f (Lf.v (Value.int IntKind.i64 (↑x3 : Int)))) ∧ True) ∧ x3 ≤ L.length + 12 ∧ True ∧ (L.length + 12 - x3).succ.le (L.length + 12 - z2)))) (true = true ∧ Sub (PV.f (Lf.v (Value.bool true))) (PV.f (Lf.v (Value.bool true)))))) (by kernel_rfl) ?_
    refine ifB_iff.2 ⟨fun hb0 => ⟨rfl, ?m0⟩, fun hb0 => ⟨?s0, ⟨?x0, ⟨⟨trivial, ⟨.refl _, ⟨.refl _, ⟨?m1, ⟨?m2, trivial⟩⟩⟩⟩⟩, ⟨?s1, ⟨trivial, fun z2 => fun hq1 => fun _ => ifB_iff.2 ⟨fun hb2 => ifB_iff.2 ⟨fun hb3 => ⟨?s2, ⟨?s3, ⟨?s4, ifB_iff.2 ⟨fun hb4 => ⟨?s5, ⟨?s6, ⟨?s7, ifB_iff.2 ⟨fun hb5 => ⟨rfl, ?m3⟩, fun hb5 => ⟨?x1, ⟨⟨trivial, ⟨.refl _, ⟨.refl _, ⟨.refl _, ⟨?m4, trivial⟩⟩⟩⟩⟩, ⟨?s8, ⟨trivial, ?m5⟩⟩⟩⟩⟩⟩⟩⟩, fun hb4 => ⟨?x2, ⟨⟨trivial, ⟨.refl _, ⟨.refl _, ⟨.refl _, ⟨?m6, trivial⟩⟩⟩⟩⟩, ⟨?s9, ⟨trivial, ?m7⟩⟩⟩⟩⟩⟩⟩⟩, fun hb3 => ifB_iff.2 ⟨fun hb6 => ⟨?s10, ⟨?s11, ⟨?s12, ifB_iff.2 ⟨fun hb7 => ⟨rfl, ?m8⟩, fun hb7 => ⟨?x3, ⟨⟨trivial, ⟨.refl _, ⟨.refl _, ⟨.refl _, ⟨?m9, trivial⟩⟩⟩⟩⟩, ⟨?s13, ⟨trivial, ?m10⟩⟩⟩⟩⟩⟩⟩⟩, fun hb6 => ⟨?x4, ⟨⟨trivial, ⟨.refl _, ⟨.refl _, ⟨.refl _, ⟨?m11, trivial⟩⟩⟩⟩⟩, ⟨?s14, ⟨trivial, ?m12⟩⟩⟩⟩⟩⟩, fun hb2 => ⟨rfl, ?m13⟩⟩⟩⟩⟩⟩⟩⟩
    case x0 => exact 0
    case x1 => exact z2 + 1
    case x2 => exact z2 + 1
    case x3 => exact z2 + 1
    case x4 => exact z2 + 1
    all_goals try simp only [Int.toNat_natCast] at *
    case m0 => simp at hb0
    case s0 => rw [wrapI _ ⟨by omega, by omega⟩]; exact ⟨by omega, by omega⟩
    case m1 =>
      rw [wrapI _ ⟨by omega, by omega⟩, show ((L.length : Int) + 12).toNat = L.length + 12 from by omega]
      exact .refl _
    case m2 => exact subB_int rfl
    case s1 => omega
    case m13 => exact .refl _
    all_goals have h2 := of_decide_eq_true hb2
    case m11 => exact absurd (of_decide_eq_false hb6) (by have := of_decide_eq_false hb3; omega)
    case s14 => exact absurd (of_decide_eq_false hb6) (by have := of_decide_eq_false hb3; omega)
    case m12 => exact absurd (of_decide_eq_false hb6) (by have := of_decide_eq_false hb3; omega)
    case s2 => exact ⟨by omega, by omega⟩
    case s10 => exact ⟨by omega, by omega⟩
    case s11 =>
      have := of_decide_eq_false hb3
      rw [wrapI _ ⟨by omega, by omega⟩]; exact ⟨trivial, by omega, by omega⟩
    case s12 =>
      have := of_decide_eq_false hb3
      rw [wrapI _ ⟨by omega, by omega⟩]
      unfold kA mA
      rw [List.getElem?_eq_none (by omega)]
      refine ⟨⟨Nat.le_refl _, fun x hx => ?_⟩, fun x hx => ?_, (by omega : 1 + 1 ≤ 900000)⟩
      · have h := List.mem_of_mem_take hx
        simp only [List.mem_singleton] at h
        omega
      · simp only [List.mem_singleton] at hx
        omega
    case m8 =>
      have := of_decide_eq_false hb3
      rw [wrapI _ ⟨by omega, by omega⟩] at hb7
      unfold nA kA mA at hb7
      rw [List.getElem?_eq_none (by omega)] at hb7
      dsimp only at hb7
      rw [show (8000024 + ((z2 - L.length : Nat) : Int)) = 8000024 + ((z2 : Int) - (L.length : Int)) from by omega, List.take_of_length_le (by simp), eqB_self] at hb7
      cases hb7
    case m9 => exact subB_succ (by omega)
    case s13 => omega
    case m10 => show L.length + 12 - (z2 + 1) + 1 ≤ L.length + 12 - z2; omega
    all_goals have h3 := of_decide_eq_true hb3
    case s3 => exact ⟨by omega, by omega⟩
    case s4 =>
      have hz : z2 < L.length := by omega
      have hm := hl _ (List.getElem_mem hz)
      unfold nA kA mA
      rw [List.getD_eq_getElem?_getD, List.getElem?_eq_getElem hz]
      exact ⟨rfl, rfl, rfl, hm.1, hm.2⟩
    case m6 => exact subB_succ (by omega)
    case s9 => omega
    case m7 => show L.length + 12 - (z2 + 1) + 1 ≤ L.length + 12 - z2; omega
    all_goals exact absurd (of_decide_eq_true hb4) (by omega)
  · cases hs
end

end Go.Proofs.YtjfncepmpabcnaaGreatDoor

namespace Go.Proofs.YtjfncepmpabcnaaGreatDoor
open Go.RowKit
set_option linter.unusedVariables false
set_option maxRecDepth 100000

theorem cSame2 {E : World → Hp → Prop} (hU : Up E) : Contract Tryz.prog E 12 sSame := by
  refine contract_loopsG [(45, sSame)] Tryz.ntmps12 Tryz.func12 (by kernel_rfl) (by kernel_rfl) hU ⟨cSame, trivial⟩ ?_
  intro xs p r hs hp
  unfold sSame at hs
  split at hs
  · rename_i x y
    split at hs
    · rename_i n l k j n' l' k' j' hx hy
      cases hs
      have hk := hp _ rfl
      refine ⟨[rawP n l k, rawP n' l' k'], [], .cons (sub_raw hx) (.cons (sub_raw hy) .nil), rfl, fun hgx hg => ?_⟩
      refine cast_rfl (p := k + k' ≤ 900000 ∧ true = true ∧ Sub (PV.f (Lf.v (Value.bool (n == n' && eqB l l')))) (PV.f (Lf.v (Value.bool (n == n' && eqB l l'))))) (by kernel_rfl) ?_
      refine ⟨?s0, ⟨rfl, ?m0⟩⟩
      case s0 => exact hk
      case m0 => exact .refl _
    · cases hs
  · cases hs
def sAwake2 : Spec
  | [] => some (none, .one (.f (.v (.bool true))))
  | _ => none
theorem cAwake2 : Contract Tryz.prog EZ 10 sAwake2 := by
  refine contract_loopsG [(31, sOf), (50, sDiv), (51, sParse), (17, sGcd), (48, sText), (12, sSame)] Tryz.ntmps10 Tryz.func10 (by kernel_rfl) (by kernel_rfl) EZ.up ⟨cOf, cDiv, cParse, cGcd, cText, cSame2 EZ.up, trivial⟩ ?_
  intro xs p r hs hp
  unfold sAwake2 at hs
  split at hs
  · cases hs
    refine ⟨[], [], .nil, rfl, fun hgx hg => ?_⟩
    refine cast_rfl (p := ((-9223372036854775808 : Int) ≤ (-7 : Int) ∧ (-7 : Int) ≤ (9223372036854775807 : Int)) ∧ ∀ (z1 : Int), z1 = (-7 : Int) → ((-9223372036854775808 : Int) ≤ (2 : Int) ∧ (2 : Int) ≤ (9223372036854775807 : Int)) ∧ ∀ (z2 : Int), z2 = (2 : Int) → (6 ≤ 40000 ∧ zV (zNeg z2) (digs 1000000000 z2.natAbs) ≠ (0 : Int)) ∧ ∀ (z3 : Int), z3 = (zV (zNeg z1) (digs 1000000000 z1.natAbs)).fdiv (zV (zNeg z2) (digs 1000000000 z2.natAbs)) → ∀ (z4 : Int), z4 = (zV (zNeg z1) (digs 1000000000 z1.natAbs)).fmod (zV (zNeg z2) (digs 1000000000 z2.natAbs)) → ((-9223372036854775808 : Int) ≤ (7 : Int) ∧ (7 : Int) ≤ (9223372036854775807 : Int)) ∧ ∀ (z5 : Int), z5 = (7 : Int) → ((-9223372036854775808 : Int) ≤ (-2 : Int) ∧ (-2 : Int) ≤ (9223372036854775807 : Int)) ∧ ∀ (z6 : Int), z6 = (-2 : Int) → (6 ≤ 40000 ∧ zV (zNeg z6) (digs 1000000000 z6.natAbs) ≠ (0 : Int)) ∧ ∀ (z7 : Int), z7 = (zV (zNeg z5) (digs 1000000000 z5.natAbs)).fdiv (zV (zNeg z6) (digs 1000000000 z6.natAbs)) → ∀ (z8 : Int), z8 = (zV (zNeg z5) (digs 1000000000 z5.natAbs)).fmod (zV (zNeg z6) (digs 1000000000 z6.natAbs)) → ((-9223372036854775808 : Int) ≤ (-7 : Int) ∧ (-7 : Int) ≤ (9223372036854775807 : Int)) ∧ ∀ (z9 : Int), z9 = (-7 : Int) → ((-9223372036854775808 : Int) ≤ (-2 : Int) ∧ (-2 : Int) ≤ (9223372036854775807 : Int)) ∧ ∀ (z10 : Int), z10 = (-2 : Int) → (6 ≤ 40000 ∧ zV (zNeg z10) (digs 1000000000 z10.natAbs) ≠ (0 : Int)) ∧ ∀ (z11 : Int), z11 = (zV (zNeg z9) (digs 1000000000 z9.natAbs)).fdiv (zV (zNeg z10) (digs 1000000000 z10.natAbs)) → ∀ (z12 : Int), z12 = (zV (zNeg z9) (digs 1000000000 z9.natAbs)).fmod (zV (zNeg z10) (digs 1000000000 z10.natAbs)) → 2 ≤ 1000 ∧ ∀ (z13 : Int), z13 = parZ [(45 : UInt8), (48 : UInt8)] → 2 ≤ 1000 ∧ ∀ (z14 : Int), z14 = parZ [(43 : UInt8), (49 : UInt8)] → ((-9223372036854775808 : Int) ≤ (-4 : Int) ∧ (-4 : Int) ≤ (9223372036854775807 : Int)) ∧ ∀ (z15 : Int), z15 = (-4 : Int) → 7 ≤ 900000 ∧ ifB (zNeg z3 == zNeg z15 && eqB (digs 1000000000 z3.natAbs) (digs 1000000000 z15.natAbs)) (((-9223372036854775808 : Int) ≤ (1 : Int) ∧ (1 : Int) ≤ (9223372036854775807 : Int)) ∧ ∀ (z16 : Int), z16 = (1 : Int) → 6 ≤ 900000 ∧ ifB (zNeg z4 == zNeg z16 && eqB (digs (1000000000 : Nat) z4.natAbs) (digs (1000000000 : Nat) z16.natAbs)) (((-9223372036854775808 : Int) ≤ (-4 : Int) ∧ (-4 : Int) ≤ (9223372036854775807 : Int)) ∧ ∀ (z17 : Int), z17 = (-4 : Int) → 7 ≤ (900000 : Nat) ∧ ifB (zNeg z7 == zNeg z17 && eqB (digs (1000000000 : Nat) z7.natAbs) (digs (1000000000 : Nat) z17.natAbs)) (((-9223372036854775808 : Int) ≤ (-1 : Int) ∧ (-1 : Int) ≤ (9223372036854775807 : Int)) ∧ ∀ (z18 : Int), z18 = (-1 : Int) → (6 : Nat) ≤ (900000 : Nat) ∧ ifB (zNeg z8 == zNeg z18 && eqB (digs (1000000000 : Nat) z8.natAbs) (digs (1000000000 : Nat) z18.natAbs)) (((-9223372036854775808 : Int) ≤ (3 : Int) ∧ (3 : Int) ≤ (9223372036854775807 : Int)) ∧ ∀ (z19 : Int), z19 = (3 : Int) → (7 : Nat) ≤ (900000 : Nat) ∧ ifB (zNeg z11 == zNeg z19 && eqB (digs (1000000000 : Nat) z11.natAbs) (digs (1000000000 : Nat) z19.natAbs)) (((-9223372036854775808 : Int) ≤ (-1 : Int) ∧ (-1 : Int) ≤ (9223372036854775807 : Int)) ∧ ∀ (z20 : Int), z20 = (-1 : Int) → (6 : Nat) ≤ (900000 : Nat) ∧ ifB (zNeg z12 == zNeg z20 && eqB (digs (1000000000 : Nat) z12.natAbs) (digs (1000000000 : Nat) z20.natAbs)) (((-9223372036854775808 : Int) ≤ (-4 : Int) ∧ (-4 : Int) ≤ (9223372036854775807 : Int)) ∧ ∀ (z21 : Int), z21 = (-4 : Int) → ((-9223372036854775808 : Int) ≤ (6 : Int) ∧ (6 : Int) ≤ (9223372036854775807 : Int)) ∧ ∀ (z22 : Int), z22 = (6 : Int) → ((-9223372036854775808 : Int) ≤ (0 : Int) ∧ (0 : Int) ≤ (9223372036854775807 : Int)) ∧ ∀ (z23 : Int), z23 = (0 : Int) → (15 : Nat) ≤ (40000 : Nat) ∧ ∀ (z24 : Int), z24 = gcd2 (gcd2 (gcd2 (0 : Int) (zV (zNeg z21) (digs (1000000000 : Nat) z21.natAbs))) (zV (zNeg z22) (digs (1000000000 : Nat) z22.natAbs))) (zV (zNeg z23) (digs (1000000000 : Nat) z23.natAbs)) → ((-9223372036854775808 : Int) ≤ (2 : Int) ∧ (2 : Int) ≤ (9223372036854775807 : Int)) ∧ ∀ (z25 : Int), z25 = (2 : Int) → (15 : Nat) ≤ (900000 : Nat) ∧ ifB (zNeg z24 == zNeg z25 && eqB (digs (1000000000 : Nat) z24.natAbs) (digs (1000000000 : Nat) z25.natAbs)) ((0 : Nat) ≤ (90000 : Nat) ∧ true = true ∧ Sub (PV.f (Lf.v (Value.bool !okZ [(43 : UInt8), (49 : UInt8)]))) (PV.f (Lf.v (Value.bool true)))) (true = true ∧ Sub (PV.f (Lf.v (Value.bool false))) (PV.f (Lf.v (Value.bool true))))) (true = true ∧ Sub (PV.f (Lf.v (Value.bool false))) (PV.f (Lf.v (Value.bool true))))) (true = true ∧ Sub (PV.f (Lf.v (Value.bool false))) (PV.f (Lf.v (Value.bool true))))) (true = true ∧ Sub (PV.f (Lf.v (Value.bool false))) (PV.f (Lf.v (Value.bool true))))) (true = true ∧ Sub (PV.f (Lf.v (Value.bool false))) (PV.f (Lf.v (Value.bool true))))) (true = true ∧ Sub (PV.f (Lf.v (Value.bool false))) (PV.f (Lf.v (Value.bool true))))) (true = true ∧ Sub (PV.f (Lf.v (Value.bool false))) (PV.f (Lf.v (Value.bool true))))) (by kernel_rfl) ?_
    refine ⟨?s0, fun z1 => fun hz1 => ⟨?s1, fun z2 => fun hz2 => ⟨?s2, fun z3 => fun hz3 => fun z4 => fun hz4 => ⟨?s3, fun z5 => fun hz5 => ⟨?s4, fun z6 => fun hz6 => ⟨?s5, fun z7 => fun hz7 => fun z8 => fun hz8 => ⟨?s6, fun z9 => fun hz9 => ⟨?s7, fun z10 => fun hz10 => ⟨?s8, fun z11 => fun hz11 => fun z12 => fun hz12 => ⟨?s9, fun z13 => fun hz13 => ⟨?s10, fun z14 => fun hz14 => ⟨?s11, fun z15 => fun hz15 => ⟨?s12, ifB_iff.2 ⟨fun hb0 => ⟨?s13, fun z16 => fun hz16 => ⟨?s14, ifB_iff.2 ⟨fun hb1 => ⟨?s15, fun z17 => fun hz17 => ⟨?s16, ifB_iff.2 ⟨fun hb2 => ⟨?s17, fun z18 => fun hz18 => ⟨?s18, ifB_iff.2 ⟨fun hb3 => ⟨?s19, fun z19 => fun hz19 => ⟨?s20, ifB_iff.2 ⟨fun hb4 => ⟨?s21, fun z20 => fun hz20 => ⟨?s22, ifB_iff.2 ⟨fun hb5 => ⟨?s23, fun z21 => fun hz21 => ⟨?s24, fun z22 => fun hz22 => ⟨?s25, fun z23 => fun hz23 => ⟨?s26, fun z24 => fun hz24 => ⟨?s27, fun z25 => fun hz25 => ⟨?s28, ifB_iff.2 ⟨fun hb6 => ⟨?s29, ⟨rfl, ?m0⟩⟩, fun hb6 => ⟨rfl, ?m1⟩⟩⟩⟩⟩⟩⟩⟩, fun hb5 => ⟨rfl, ?m2⟩⟩⟩⟩, fun hb4 => ⟨rfl, ?m3⟩⟩⟩⟩, fun hb3 => ⟨rfl, ?m4⟩⟩⟩⟩, fun hb2 => ⟨rfl, ?m5⟩⟩⟩⟩, fun hb1 => ⟨rfl, ?m6⟩⟩⟩⟩, fun hb0 => ⟨rfl, ?m7⟩⟩⟩⟩⟩⟩⟩⟩⟩⟩⟩⟩⟩⟩⟩
    all_goals (try simp only [zV_digs] at *)
    all_goals first | omega | skip
    all_goals (try (subst hz1 hz2))
    all_goals (try (subst hz5 hz6))
    all_goals (try (subst hz9 hz10))
    all_goals first | (exact ⟨by omega, by decide⟩) | skip
    all_goals have e3 : z3 = -4 := (by rw [hz3]; decide)
    all_goals try (have e4 : z4 = 1 := (by rw [hz4]; decide))
    all_goals try (have e7 : z7 = -4 := (by rw [hz7]; decide))
    all_goals try (have e8 : z8 = -1 := (by rw [hz8]; decide))
    all_goals try (have e11 : z11 = 3 := (by rw [hz11]; decide))
    all_goals try (have e12 : z12 = -1 := (by rw [hz12]; decide))
    all_goals (try simp only [sameZ_eq, decide_eq_true_eq, decide_eq_false_iff_not] at *)
    case m0 =>
      have : okZ [43, 49] = false := by decide
      rw [this]; exact .refl _
    case m1 =>
      subst hz21 hz22 hz23
      exact absurd (hz24.trans (by decide : gcd2 (gcd2 (gcd2 0 (-4)) 6) 0 = 2)) (by omega)
    all_goals exfalso; omega
  · cases hs
/-- How many limbs. -/
def sumD : List (Bool × List Nat × Nat) → Nat
  | [] => 0
  | e :: L => e.2.1.length + sumD L
def greatB (L : List (Bool × List Nat × Nat)) : Bool := decide (1000 < sumD L) || decide (20 < L.length)
theorem sumD_snoc (L : List (Bool × List Nat × Nat)) (i : Nat) (h : i < L.length) : sumD (L.take (i + 1)) = sumD (L.take i) + (L[i]).2.1.length := by
  induction L generalizing i with
  | nil => simp at h
  | cons e L ih =>
    cases i with
    | zero => simp [sumD]
    | succ i => simp only [List.take_succ_cons, sumD, List.getElem_cons_succ]; rw [ih i (by simpa using h)]; omega
theorem sumD_take (L : List (Bool × List Nat × Nat)) (i : Nat) : sumD (L.take i) ≤ sumD L := by
  induction L generalizing i with
  | nil => simp [sumD]
  | cons e L ih =>
    cases i with
    | zero => simp [sumD]
    | succ i => simp only [List.take_succ_cons, sumD]; have := ih i; omega
def sGreat : Spec
  | [.f (.zs L)] => some (some (L.length ≤ 5000000000000 ∧ ∀ e ∈ L, e.2.1.length ≤ 140737488351232), .one (.f (.v (.bool (greatB L)))))
  | _ => none
theorem cGreat {E : World → Hp → Prop} (hU : Up E) : Contract Tryz.prog E 9 sGreat := by
  refine contract_loopsG [] Tryz.ntmps9 Tryz.func9 (by kernel_rfl) (by kernel_rfl) hU trivial ?_
  intro xs p r hs hp
  unfold sGreat at hs
  split at hs
  · rename_i L
    cases hs
    obtain ⟨hL, hl⟩ := hp _ rfl
    refine ⟨[.f (.zs L)], [(3, .s ⟨Nat × Nat, fun x => ⟨[(0, .f (.zs L)), (3, .f (.v (.int .i64 (x.2 : Nat)))), (4, .f (.v (.int .i64 (x.1 : Nat))))], []⟩, fun x => x.1 ≤ L.length ∧ x.2 = sumD (L.take x.1) ∧ x.2 ≤ 140737488360000, fun x => L.length - x.1⟩)], .cons (.refl _) .nil, rfl, fun hgx hg => ?_⟩
    refine cast_rfl (p := ∃ (x1 : Nat × Nat), (True ∧ SubB (PV.f (Lf.zs L)) (PV.f (Lf.zs L)) ∧ SubB (PV.f (Lf.v (Value.int IntKind.i64 (0 : Int)))) (PV.f (Lf.v (Value.int IntKind.i64 (↑x1.snd : Int)))) ∧ SubB (PV.f (Lf.v (Value.int IntKind.i64 (0 : Int)))) (PV.f (Lf.v (Value.int IntKind.i64 (↑x1.fst : Int)))) ∧ True) ∧ (x1.fst ≤ L.length ∧ x1.snd = sumD (List.take x1.fst L) ∧ x1.snd ≤ 140737488360000) ∧ True ∧ ∀ (z2 : Nat × Nat), z2.fst ≤ L.length ∧ z2.snd = sumD (List.take z2.fst L) ∧ z2.snd ≤ 140737488360000 → True → ifB (decide ((↑z2.fst : Int) < (↑L.length : Int))) (ifB (decide ((↑z2.snd : Int) ≤ (1000 : Int))) (((0 : Int) ≤ (↑z2.fst : Int) ∧ (↑z2.fst : Int) < (↑L.length : Int)) ∧ ∃ (x3 : Nat × Nat), (True ∧ SubB (PV.f (Lf.zs L)) (PV.f (Lf.zs L)) ∧ SubB (PV.f (Lf.v (Value.int IntKind.i64 (IntKind.i64.wrap ((↑z2.snd : Int) + (↑(L.getD (↑z2.fst : Int).toNat (false, [], 0)).snd.fst.length : Int)))))) (PV.f (Lf.v (Value.int IntKind.i64 (↑x3.snd : Int)))) ∧ SubB (PV.f (Lf.v (Value.int IntKind.i64 (IntKind.i64.wrap ((↑z2.fst : Int) + (1 : Int)))))) (PV.f (Lf.v (Value.int IntKind.i64 (↑x3.fst : Int)))) ∧ True) ∧ (x3.fst ≤ L.length ∧ x3.snd = sumD (List.take x3.fst L) ∧ x3.snd ≤ 140737488360000) ∧ True ∧ (L.length - x3.fst).succ.le (L.length - z2.fst)) (ifB (decide ((↑z2.snd : Int) > (1000 : Int))) (true = true ∧ Sub (PV.f (Lf.v (Value.bool true))) (PV.f (Lf.v (Value.bool (greatB L))))) (true = true ∧ Sub (PV.f (Lf.v (Value.bool (decide ((↑L.length : Int) > (20 : Int)))))) (PV.f (Lf.v (Value.bool (greatB L))))))) (ifB (decide ((↑z2.snd : Int) > (1000 : Int))) (true = true ∧ Sub (PV.f (Lf.v (Value.bool true))) (PV.f (Lf.v (Value.bool (greatB L))))) (true = true ∧ Sub (PV.f (Lf.v (Value.bool (decide ((↑L.length : Int) > (20 : Int)))))) (PV.f (Lf.v (Value.bool (greatB L))))))) (by kernel_rfl) ?_
    refine ⟨?x0, ⟨⟨trivial, ⟨.refl _, ⟨?m0, ⟨?m1, trivial⟩⟩⟩⟩, ⟨?s0, ⟨trivial, fun z2 => fun hq0 => fun _ => ifB_iff.2 ⟨fun hb1 => ifB_iff.2 ⟨fun hb2 => ⟨?s1, ⟨?x1, ⟨⟨trivial, ⟨.refl _, ⟨?m2, ⟨?m3, trivial⟩⟩⟩⟩, ⟨?s2, ⟨trivial, ?m4⟩⟩⟩⟩⟩, fun hb2 => ifB_iff.2 ⟨fun hb3 => ⟨rfl, ?m5⟩, fun hb3 => ⟨rfl, ?m6⟩⟩⟩, fun hb1 => ifB_iff.2 ⟨fun hb4 => ⟨rfl, ?m7⟩, fun hb4 => ⟨rfl, ?m8⟩⟩⟩⟩⟩⟩⟩
    case x0 => exact (0, 0)
    case x1 => exact (z2.1 + 1, sumD (L.take (z2.1 + 1)))
    case m0 => exact subB_int rfl
    case m1 => exact subB_int rfl
    case s0 => exact ⟨Nat.zero_le _, by simp [sumD], by omega⟩
    all_goals obtain ⟨q1, q2, q3⟩ := hq0
    all_goals have hst := sumD_take L z2.1
    case m5 =>
      have := of_decide_eq_true hb3
      refine sub_bool ?_
      unfold greatB
      rw [decide_eq_true (by omega)]; rfl
    case m6 => exact absurd (of_decide_eq_false hb3) (by have := of_decide_eq_false hb2; omega)
    case m7 =>
      have := of_decide_eq_true hb4
      refine sub_bool ?_
      unfold greatB
      rw [decide_eq_true (by omega)]; rfl
    case m8 =>
      have h1 := of_decide_eq_false hb4
      have h2 := of_decide_eq_false hb1
      have h3 : z2.1 = L.length := by omega
      rw [h3, List.take_length] at q2
      refine sub_bool ?_
      unfold greatB
      rw [decide_eq_false (show ¬ 1000 < sumD L from by omega), Bool.false_or, decide_eq_decide]
      omega
    all_goals have h1 := of_decide_eq_true hb1
    all_goals have h2 := of_decide_eq_true hb2
    all_goals have hz : z2.1 < L.length := (by omega)
    all_goals have hs := sumD_snoc L z2.1 hz
    all_goals have hle := hl _ (List.getElem_mem hz)
    case s1 => exact ⟨by omega, by omega⟩
    case m2 =>
      rw [Int.toNat_natCast, List.getD_eq_getElem?_getD, List.getElem?_eq_getElem hz, Option.getD_some, wrapI _ ⟨by omega, by omega⟩]
      refine subB_int ?_
      show (z2.2 : Int) + ((L[z2.1]).2.1.length : Int) = ((sumD (L.take (z2.1 + 1)) : Nat) : Int)
      omega
    case m3 => exact subB_int (by rw [wrapI _ ⟨by omega, by omega⟩]; show (z2.1 : Int) + 1 = ((z2.1 + 1 : Nat) : Int); omega)
    case s2 => exact ⟨by omega, rfl, by show sumD (L.take (z2.1 + 1)) ≤ _; omega⟩
    case m4 => show L.length - (z2.1 + 1) + 1 ≤ L.length - z2.1; omega
  · cases hs
/-- A lent list is read as the list. -/
theorem gen_zs {L : List (Bool × List Nat × Nat)} (h : ∀ e ∈ L, e.2.1.length ≤ e.2.2 ∧ ∀ x ∈ e.2.1, x < 4294967296) : Sub (.f (.sp (.gen 2 (L.length + 12) fun i => [.v (.bool (nA L i)), .sp (.is .u32 (mA L i)) (kA L i)]) L.length)) (.f (.zs L)) := by
  refine ⟨fun H v hv => .f ?_⟩
  have hr := hv.rd
  cases hr with
  | sl hv2 hgd hc hm h0 b o val hb hcell hk hrec =>
    cases hv2
    have hf : L.length ≤ (Lf.sp (.gen 2 (L.length + 12) fun i => [.v (.bool (nA L i)), .sp (.is .u32 (mA L i)) (kA L i)]) L.length).full L.length := Nat.le_add_right _ 12
    refine .slf (fun _ => rfl) (f := .zs L) rfl trivial (Nat.le_trans hf hc) hm h0 b o val (fun h => hb (Nat.lt_of_lt_of_le h hf)) (fun i hi => hcell i (Nat.lt_of_lt_of_le hi hf)) (fun i hi => rfl) fun i hi j x hx => ?_
    have hi' : i < L.length := hi
    obtain ⟨h1, h2⟩ := h _ (List.getElem_mem hi')
    have hd : L.getD i (false, [], 0) = L[i] := by rw [List.getD_eq_getElem?_getD, List.getElem?_eq_getElem hi']; rfl
    rw [hd] at hx
    match j, hx with
    | 0, hx =>
      simp at hx; subst hx
      have := hrec i (Nat.lt_of_lt_of_le hi hf) 0 _ rfl
      unfold nA at this
      rw [List.getElem?_eq_getElem hi'] at this
      exact this
    | 1, hx =>
      simp at hx; subst hx
      have := hrec i (Nat.lt_of_lt_of_le hi hf) 1 _ rfl
      unfold mA kA at this
      rw [List.getElem?_eq_getElem hi'] at this
      have e := plainL_sub (f := .sp (.is .u32 (allL (L[i]).2.1)) (L[i]).2.1.length) rfl ⟨by rw [allL_len]; omega, by
        rw [allL_take]
        intro x hx
        obtain ⟨y, hy, rfl⟩ := List.mem_map.1 hx
        have := h2 y hy
        have e : Int.ofNat y = (y : Int) := rfl
        omega⟩
      rw [allL_take, map_back] at e
      have r := (e.out H _ (.f this)).rd
      exact rd_view (f := .lr (L[i]).2.1 (L[i]).2.1.length) (f' := .lr (L[i]).2.1 (L[i]).2.2) rfl rfl ⟨h1, h2⟩ (Nat.le_refl _) (fun _ _ => rfl) r
    | j + 2, hx => simp at hx
/-- A function of a list, of a lent one. -/
def sOnLent (L : List (Bool × List Nat × Nat)) (sp : Spec) : Spec
  | [.f (.sp (.gen 2 N g) m)] => match sp [.f (.zs L)] with
    | some (p, r) => some (some (N = L.length + 12 ∧ m = L.length ∧ g = (fun i => [.v (.bool (nA L i)), .sp (.is .u32 (mA L i)) (kA L i)]) ∧ p.getD True), r)
    | none => none
  | _ => none
theorem onLent {E : World → Hp → Prop} {f : FuncId} {sp : Spec} (L : List (Bool × List Nat × Nat)) (hc : Contract Tryz.prog E f sp) (h : ∀ e ∈ L, e.2.1.length ≤ e.2.2 ∧ ∀ x ∈ e.2.1, x < 4294967296) : Contract Tryz.prog E f (sOnLent L sp) := by
  refine hc.weaken ?_
  intro xs p r hs hp
  unfold sOnLent at hs
  split at hs
  · rename_i N g m
    split at hs
    · rename_i p' r' h1
      cases hs
      obtain ⟨rfl, rfl, rfl, h2⟩ := hp _ rfl
      exact ⟨_, _, _, .cons (gen_zs h) .nil, h1, fun q hq => by subst hq; exact h2, .refl _⟩
    · cases hs
  · cases hs
abbrev rawL (L : List (Bool × List Nat × Nat)) : List ((Bool × List Nat) × Nat × Nat) := L.map fun e => ((e.1, e.2.1), e.2.2, e.2.2 + 1)
theorem sizes_of (L : List (Bool × List Nat × Nat)) (h : ∀ e ∈ L, e.2.2 = e.2.1.length) : sizeR (rawL L) = sumD L + 2 * L.length ∧ (∀ k, bndS (rawL L) k = k + sumD L + 2 * L.length) ∧ ∀ k, bndP (rawL L) k = k + sumD L + L.length := by
  induction L with
  | nil => exact ⟨rfl, fun k => rfl, fun k => rfl⟩
  | cons e L ih =>
    obtain ⟨h1, h2, h3⟩ := ih fun x hx => h x (List.mem_cons_of_mem _ hx)
    have := h e List.mem_cons_self
    refine ⟨?_, fun k => ?_, fun k => ?_⟩
    · simp only [rawL, List.map_cons, sizeR, sumD, List.length_cons] at h1 ⊢; omega
    · simp only [rawL, List.map_cons, bndS, sumD, List.length_cons] at h2 ⊢; rw [h2]; omega
    · simp only [rawL, List.map_cons, bndP, sumD, List.length_cons] at h3 ⊢; rw [h3]; omega
theorem sumD_mem {L : List (Bool × List Nat × Nat)} {e : Bool × List Nat × Nat} (h : e ∈ L) : e.2.1.length ≤ sumD L := by
  induction L with
  | nil => cases h
  | cons a L ih =>
    rcases List.mem_cons.1 h with rfl | h
    · simp only [sumD]; omega
    · have := ih h; simp only [sumD]; omega
theorem small_sums {L : List (Bool × List Nat × Nat)} (h : ∀ e ∈ L, e.2.2 = e.2.1.length ∧ e.2.2 ≤ 140737488351232 ∧ ∀ x ∈ e.2.1, x < 4294967296) (hg : greatB L = false) : (L.length ≤ 20 ∧ sumD L ≤ 1000) ∧ (sizeR (rawL L) ≤ 1040 ∧ bndS (rawL L) 0 ≤ 1040 ∧ bndP (rawL L) 1 ≤ 1040) ∧ ∀ e ∈ L, e.2.1.length ≤ 1000 := by
  unfold greatB at hg
  simp only [Bool.or_eq_false_iff, decide_eq_false_iff_not] at hg
  obtain ⟨h1, h2, h3⟩ := sizes_of L fun e he => (h e he).1
  have h2 := h2 0
  have h3 := h3 1
  exact ⟨⟨by omega, by omega⟩, ⟨by omega, by omega, by omega⟩, fun e he => by have := sumD_mem he; omega⟩
def sNumLaw : Spec
  | [.f (.zs L)] => some (some (L.length ≤ 5000000000000 ∧ ∀ e ∈ L, e.2.2 = e.2.1.length ∧ e.2.2 ≤ 140737488351232 ∧ ∀ x ∈ e.2.1, x < 4294967296), .one (.f (.v (.bool true))))
  | _ => none
def sGreatB (b : Bool) : Spec
  | [.f (.zs L)] => some (some (L.length ≤ 5000000000000 ∧ (∀ e ∈ L, e.2.1.length ≤ 140737488351232) ∧ greatB L = b), .one (.f (.v (.bool b))))
  | _ => none
theorem cGreatB {E : World → Hp → Prop} (hU : Up E) (b : Bool) : Contract Tryz.prog E 9 (sGreatB b) := by
  refine (cGreat hU).weaken ?_
  intro xs p r hs hp
  unfold sGreatB at hs
  split at hs
  · rename_i L
    cases hs
    obtain ⟨h1, h2, h3⟩ := hp _ rfl
    refine ⟨[.f (.zs L)], _, _, .cons (.refl _) .nil, rfl, fun q hq => by cases hq; exact ⟨h1, h2⟩, ?_⟩
    show Sub (.f (.v (.bool (greatB L)))) (.f (.v (.bool b)))
    rw [h3]; exact .refl _
  · cases hs
/-- The functions that the law calls. -/
def sumsL (b : Bool) (L : List (Bool × List Nat × Nat)) : List (FuncId × Spec) := [(9, sGreatB b), (10, sAwake2), (11, sLentN), (13, sOnLent L sAdd), (15, sOnLent L sMul), (17, sOnLent L sGcd), (14, sAddR), (16, sMulR), (18, sGcdR), (12, sSame), (19, sKeptN)]
theorem sumsC (b : Bool) (L : List (Bool × List Nat × Nat)) (h : ∀ e ∈ L, e.2.1.length ≤ e.2.2 ∧ ∀ x ∈ e.2.1, x < 4294967296) : AllC Tryz.prog EZ (sumsL b L) := ⟨cGreatB EZ.up b, cAwake2, cLentN EZ.up, onLent L cAdd h, onLent L cMul h, onLent L cGcd h, cAddZ EZ.up, cMulZ EZ.up, cGcdZ EZ.up, cSame2 EZ.up, cKeptN EZ.up, trivial⟩
/-- Each input by its own table. -/
theorem contract_eachN {P : Program} {E : World → Hp → Prop} {f : FuncId} {fn : Func} {sp : Spec} {m : Nat} (hm : fn.ntmps = m) (hf : P.funcs[f]? = some fn) (hb : fn.body = some (fn.body.getD .skip)) (hmix : P.follows .mixedOrders = true) (hU : Up E)
    (h : ∀ xs p r, sp xs = some (p, r) → (∀ q, p = some q → q) → ∃ L, AllC P E L ∧ ∃ ys, Subs xs ys ∧ Nat.ble ys.length m = true ∧ PW P (spL L) noLoops m (fn.body.getD .skip) (Ends P fn.results.toList r.out) ⟨entry 0 ys, []⟩) : Contract P E f sp := by
  intro xs p r hs hp w H vs hfr hE hvs
  obtain ⟨L, hL, h1⟩ := h xs p r hs hp
  refine contract_plain (sp := fun zs => open Classical in if zs = xs then some (p, r) else none) L hm hf hb hmix hU hL ?_ xs p r (if_pos rfl) hp w H vs hfr hE hvs
  intro zs p' r' hs' hp'
  split at hs'
  · rename_i he; subst he; cases hs'; exact h1
  · cases hs'
theorem cNumSums : Contract Tryz.prog EZ 3 sNumLaw := by
  refine contract_eachN Tryz.ntmps3 Tryz.func3 (by kernel_rfl) (by kernel_rfl) EZ.up ?_
  intro xs p r hs hp
  unfold sNumLaw at hs
  split at hs
  · rename_i L
    cases hs
    obtain ⟨hL, hl⟩ := hp _ rfl
    have hbd : ∀ e ∈ L, e.2.1.length ≤ e.2.2 ∧ ∀ x ∈ e.2.1, x < 4294967296 := fun e he => ⟨by have := (hl e he).1; omega, (hl e he).2.2⟩
    cases hgr : greatB L
    · obtain ⟨⟨u1, u2⟩, ⟨u3, u4, u5⟩, u6⟩ := small_sums hl hgr
      simp only [rawL] at u3 u4 u5
      refine ⟨sumsL false L, sumsC false L hbd, [.f (.zs L)], .cons (.refl _) .nil, rfl, ?_⟩
      refine cast_rfl (p := (L.length ≤ 5000000000000 ∧ (∀ (e : Bool × List Nat × Nat), e ∈ L → e.snd.fst.length ≤ 140737488351232) ∧ greatB L = false) ∧ (L.length ≤ 1000 ∧ ∀ (e : Bool × List Nat × Nat), e ∈ L → e.snd.fst.length ≤ 1000000) ∧ (L.length + 12 = L.length + 12 ∧ L.length = L.length ∧ ((fun (i : Nat) => [Lf.v (Value.bool (nA L i)), (Lf.is IntKind.u32 (mA L i)).sp (kA L i)]) = fun (i : Nat) => [Lf.v (Value.bool (nA L i)), (Lf.is IntKind.u32 (mA L i)).sp (kA L i)]) ∧ sizeR (List.map (fun (e : Bool × List Nat × Nat) => ((e.fst, e.snd.fst), e.snd.snd, e.snd.snd + 1)) L) ≤ 40000) ∧ ∀ (z1 : Int), z1 = sumR (List.map (fun (e : Bool × List Nat × Nat) => ((e.fst, e.snd.fst), e.snd.snd, e.snd.snd + 1)) L) (0 : Int) → sizeR (List.map (fun (e : Bool × List Nat × Nat) => ((e.fst, e.snd.fst), e.snd.snd, e.snd.snd + 1)) L) ≤ 20000 ∧ ∀ (z2 : Int), z2 = sumR (List.map (fun (e : Bool × List Nat × Nat) => ((e.fst, e.snd.fst), e.snd.snd, e.snd.snd + 1)) L) (0 : Int) → bndS (List.map (fun (e : Bool × List Nat × Nat) => ((e.fst, e.snd.fst), e.snd.snd, e.snd.snd + 1)) L) 0 + bndS (List.map (fun (e : Bool × List Nat × Nat) => ((e.fst, e.snd.fst), e.snd.snd, e.snd.snd + 1)) L) 0 ≤ 900000 ∧ ifB (zNeg z1 == zNeg z2 && eqB (digs 1000000000 z1.natAbs) (digs 1000000000 z2.natAbs)) ((L.length + 12 = L.length + 12 ∧ L.length = L.length ∧ ((fun (i : Nat) => [Lf.v (Value.bool (nA L i)), (Lf.is IntKind.u32 (mA L i)).sp (kA L i)]) = fun (i : Nat) => [Lf.v (Value.bool (nA L i)), (Lf.is IntKind.u32 (mA L i)).sp (kA L i)]) ∧ sizeR (List.map (fun (e : Bool × List Nat × Nat) => ((e.fst, e.snd.fst), e.snd.snd, e.snd.snd + 1)) L) ≤ 40000) ∧ ∀ (z3 : Int), z3 = prodR (List.map (fun (e : Bool × List Nat × Nat) => ((e.fst, e.snd.fst), e.snd.snd, e.snd.snd + 1)) L) (1 : Int) → sizeR (List.map (fun (e : Bool × List Nat × Nat) => ((e.fst, e.snd.fst), e.snd.snd, e.snd.snd + 1)) L) ≤ 10000 ∧ ∀ (z4 : Int), z4 = prodR (List.map (fun (e : Bool × List Nat × Nat) => ((e.fst, e.snd.fst), e.snd.snd, e.snd.snd + 1)) L) (1 : Int) → bndP (List.map (fun (e : Bool × List Nat × Nat) => ((e.fst, e.snd.fst), e.snd.snd, e.snd.snd + 1)) L) 1 + bndP (List.map (fun (e : Bool × List Nat × Nat) => ((e.fst, e.snd.fst), e.snd.snd, e.snd.snd + 1)) L) 1 ≤ 900000 ∧ ifB (zNeg z3 == zNeg z4 && eqB (digs 1000000000 z3.natAbs) (digs 1000000000 z4.natAbs)) ((L.length + 12 = L.length + 12 ∧ L.length = L.length ∧ ((fun (i : Nat) => [Lf.v (Value.bool (nA L i)), (Lf.is IntKind.u32 (mA L i)).sp (kA L i)]) = fun (i : Nat) => [Lf.v (Value.bool (nA L i)), (Lf.is IntKind.u32 (mA L i)).sp (kA L i)]) ∧ sizeR (List.map (fun (e : Bool × List Nat × Nat) => ((e.fst, e.snd.fst), e.snd.snd, e.snd.snd + 1)) L) ≤ 40000) ∧ ∀ (z5 : Int), z5 = gcdR (List.map (fun (e : Bool × List Nat × Nat) => ((e.fst, e.snd.fst), e.snd.snd, e.snd.snd + 1)) L) (0 : Int) → sizeR (List.map (fun (e : Bool × List Nat × Nat) => ((e.fst, e.snd.fst), e.snd.snd, e.snd.snd + 1)) L) ≤ 20000 ∧ ∀ (z6 : Int), z6 = gcdR (List.map (fun (e : Bool × List Nat × Nat) => ((e.fst, e.snd.fst), e.snd.snd, e.snd.snd + 1)) L) (0 : Int) → bndS (List.map (fun (e : Bool × List Nat × Nat) => ((e.fst, e.snd.fst), e.snd.snd, e.snd.snd + 1)) L) 0 + bndS (List.map (fun (e : Bool × List Nat × Nat) => ((e.fst, e.snd.fst), e.snd.snd, e.snd.snd + 1)) L) 0 ≤ 900000 ∧ ifB (zNeg z5 == zNeg z6 && eqB (digs 1000000000 z5.natAbs) (digs 1000000000 z6.natAbs)) ((L.length + 12 = L.length + 12 ∧ L.length = L.length ∧ ((fun (i : Nat) => [Lf.v (Value.bool (nA L i)), (Lf.is IntKind.u32 (mA L i)).sp (kA L i)]) = fun (i : Nat) => [Lf.v (Value.bool (nA L i)), (Lf.is IntKind.u32 (mA L i)).sp (kA L i)]) ∧ L.length ≤ 1000 ∧ ∀ (e : Bool × List Nat × Nat), e ∈ L → e.snd.fst.length ≤ 100000 ∧ e.snd.snd ≤ 100000) ∧ true = true ∧ Sub (PV.f (Lf.v (Value.bool true))) (PV.f (Lf.v (Value.bool true)))) (true = true ∧ Sub (PV.f (Lf.v (Value.bool false))) (PV.f (Lf.v (Value.bool true))))) (true = true ∧ Sub (PV.f (Lf.v (Value.bool false))) (PV.f (Lf.v (Value.bool true))))) (true = true ∧ Sub (PV.f (Lf.v (Value.bool false))) (PV.f (Lf.v (Value.bool true))))) (by kernel_rfl) ?_
      refine ⟨?s0, ⟨?s1, ⟨?s2, fun z1 => fun hz1 => ⟨?s3, fun z2 => fun hz2 => ⟨?s4, ifB_iff.2 ⟨fun hb0 => ⟨?s5, fun z3 => fun hz3 => ⟨?s6, fun z4 => fun hz4 => ⟨?s7, ifB_iff.2 ⟨fun hb1 => ⟨?s8, fun z5 => fun hz5 => ⟨?s9, fun z6 => fun hz6 => ⟨?s10, ifB_iff.2 ⟨fun hb2 => ⟨?s11, ⟨rfl, ?m0⟩⟩, fun hb2 => ⟨rfl, ?m1⟩⟩⟩⟩⟩, fun hb1 => ⟨rfl, ?m2⟩⟩⟩⟩⟩, fun hb0 => ⟨rfl, ?m3⟩⟩⟩⟩⟩⟩⟩
      all_goals (try (subst hz1 hz2))
      all_goals (try (subst hz3 hz4))
      all_goals (try (subst hz5 hz6))
      case s0 => exact ⟨hL, fun e he => by have := hl e he; omega, hgr⟩
      case s1 => exact ⟨by omega, fun e he => by have := u6 e he; omega⟩
      case s11 => exact ⟨rfl, rfl, rfl, by omega, fun e he => by have := u6 e he; have := hl e he; omega⟩
      case m0 => exact .refl _
      case m1 => rw [sameZ_eq, decide_eq_true rfl] at hb2; cases hb2
      case m2 => rw [sameZ_eq, decide_eq_true rfl] at hb1; cases hb1
      case m3 => rw [sameZ_eq, decide_eq_true rfl] at hb0; cases hb0
      all_goals first
        | exact ⟨rfl, rfl, rfl, by omega⟩
        | omega
    · refine ⟨sumsL true L, sumsC true L hbd, [.f (.zs L)], .cons (.refl _) .nil, rfl, ?_⟩
      refine cast_rfl (p := (L.length ≤ 5000000000000 ∧ (∀ (e : Bool × List Nat × Nat), e ∈ L → e.snd.fst.length ≤ 140737488351232) ∧ greatB L = true) ∧ true = true ∧ Sub (PV.f (Lf.v (Value.bool true))) (PV.f (Lf.v (Value.bool true)))) (by kernel_rfl) ?_
      refine ⟨?s0, ⟨rfl, ?m0⟩⟩
      case s0 => exact ⟨hL, fun e he => by have := hl e he; omega, hgr⟩
      case m0 => exact .refl _
  · cases hs

end Go.Proofs.YtjfncepmpabcnaaGreatDoor
