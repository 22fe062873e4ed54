/- The law RatioField, by the pure run. -/
import Derived.Test.YtjfncepmpabcnaaGreatDoorQa
namespace Go.Proofs.YtjfncepmpabcnaaGreatDoor
open Go.RowKit
set_option linter.unusedVariables false
set_option maxRecDepth 100000

theorem sameQ_eq (r s : Rat) : (((zNeg r.num == zNeg s.num) && eqB (digs 1000000000 r.num.natAbs) (digs 1000000000 s.num.natAbs)) && ((zNeg (r.den : Int) == zNeg (s.den : Int)) && eqB (digs 1000000000 (r.den : Int).natAbs) (digs 1000000000 (s.den : Int).natAbs))) = decide (r = s) := by
  rw [sameZ_eq, sameZ_eq, Bool.eq_iff_iff]
  simp only [Bool.and_eq_true, decide_eq_true_eq]
  constructor
  · intro ⟨h1, h2⟩; exact Rat.ext h1 (by omega)
  · intro h; subst h; exact ⟨rfl, rfl⟩
theorem lr_less {l : List Nat} {k k' : Nat} (h : l.length ≤ k') : Sub (.f (.lr l k)) (.f (.lr l k')) := by
  refine ⟨fun H v hv => ?_⟩
  have hr := hv.rd
  have hg : l.length ≤ k ∧ ∀ x ∈ l, x < 4294967296 := rd_good hr (by simp [Lf.view])
  cases hr with
  | sl hvw _ hc hm h0 b o val hb hcell hk hrec => exact .f (.sl (f := .lr l k') hvw ⟨h, hg.2⟩ hc hm h0 b o val hb hcell hk hrec)
theorem rawQ_less {n : Bool} {l : List Nat} {k : Nat} {n' : Bool} {l' : List Nat} {k' j j' : Nat} (h : l.length ≤ j) (h' : l'.length ≤ j') : Sub (rawQ n l k n' l' k') (rawQ n l j n' l' j') := by
  refine ⟨fun H v hv => ?_⟩
  obtain ⟨vs, rfl, h1⟩ := PRs.of_agg hv
  have h2 := h1.1
  match vs, h2 with
  | [p, q, r, s], _ => exact (PRs.cons (h1.2 0 _ _ rfl rfl) (.cons ((lr_less h).out _ _ (h1.2 1 _ _ rfl rfl)) (.cons (h1.2 2 _ _ rfl rfl) (.cons ((lr_less h').out _ _ (h1.2 3 _ _ rfl rfl)) .nil)))).agg
theorem Sub.trans {x y z : PV} (h : Sub x y) (h' : Sub y z) : Sub x z := ⟨fun H v hv => h'.out H v (h.out H v hv)⟩
/-- A right ratio is the form of one. -/
theorem rightQ_reps {n n' : Bool} {l l' : List Nat} (h : (!rightQ n l n' l') = false) : ∃ r : Rat, n = zNeg r.num ∧ l = digs 1000000000 r.num.natAbs ∧ n' = zNeg r.den ∧ l' = digs 1000000000 (r.den : Int).natAbs := by
  have h0 : rightQ n l n' l' = true := by simpa using h
  have h1 := takeQ_yes h0
  have h2 : rightZ n l = true := by unfold rightQ at h0; rw [Bool.and_eq_true] at h0; exact h0.1
  have h3 : rightZ n' l' = true := by unfold rightQ at h0; rw [Bool.and_eq_true, Bool.and_eq_true] at h0; exact h0.2.1
  refine ⟨takeQ n l n' l', ?_⟩
  rw [h1.1, h1.2]
  exact ⟨(rightZ_digs h2).1, (rightZ_digs h2).2, (rightZ_digs h3).1, (rightZ_digs h3).2⟩
/-- Each input by its own table. -/
theorem contract_each {P : Program} {E : World → Hp → Prop} {f : FuncId} {fn : Func} {sp : Spec} {m : Nat} (hm : fn.ntmps = m) (hf : P.funcs[f]? = some fn) (hb : fn.body = some (fn.body.getD .skip)) (hmix : P.follows .mixedOrders = true) (hU : Up E)
    (h : ∀ xs p r, sp xs = some (p, r) → (∀ q, p = some q → q) → ∃ L, AllC P E L ∧ ∃ ys, Subs xs ys ∧ Nat.ble ys.length m = true ∧ PW P (spL L) noLoops m (fn.body.getD .skip) (Ends P fn.results.toList r.out) ⟨entry 0 ys, []⟩) : Contract P E f sp := by
  intro xs p r hs hp w H vs hfr hE hvs
  obtain ⟨L, hL, h1⟩ := h xs p r hs hp
  refine contract_plain (sp := fun zs => open Classical in if zs = xs then some (p, r) else none) L hm hf hb hmix hU hL ?_ xs p r (if_pos rfl) hp w H vs hfr hE hvs
  intro zs p' r' hs' hp'
  split at hs'
  · rename_i he; subst he; cases hs'; exact h1
  · cases hs'
/-- few, told beforehand. -/
def sFewB (b : Bool) : Spec
  | [.f y] => match sliceQ y with
    | some L => some (some (L.length ≤ 1000000 ∧ (L.all fewE && decide (L.length ≤ 6)) = b), .one (.f (.v (.bool b))))
    | none => none
  | _ => none
theorem cFewB {E : World → Hp → Prop} (hU : Up E) (b : Bool) : Contract Tryz.prog E 24 (sFewB b) := by
  refine (cFew hU).weaken ?_
  intro xs p r hs hp
  unfold sFewB at hs
  split at hs
  · split at hs
    · rename_i y _ L hy
      cases hs
      have h := hp _ rfl
      refine ⟨[.f y], some (L.length ≤ 1000000), .one (.f (.v (.bool (L.all fewE && decide (L.length ≤ 6))))), .cons (.refl _) .nil, by unfold sFew; dsimp only; rw [hy], fun q hq => by cases hq; exact h.1, ?_⟩
      rw [h.2]; exact .refl _
    · cases hs
  · cases hs
/-- The functions that a law of ratios calls. -/
def lawL (b : Bool) : List (FuncId × Spec) := [(20, sAwake), (24, sFewB b), (25, sRightQ), (27, sAddQ (fun a b => a + b) 0 (3, 3) bPl), (49, sAddQ (fun a b => a * b) 1 (6, 6) bTi), (23, sSameQ), (31, sOf), (28, sWhole), (30, sSubQ), (40, sNegQ), (34, sDivQ)]
theorem lawC (b : Bool) : AllC Tryz.prog EQ (lawL b) := ⟨cAwake, cFewB EQ.up b, cRightQ EQ.up, cAddQ EQ.up, cMulQ EQ.up, cSame3 EQ.up, cOf, cWhole EQ.up, cSubQ EQ.up, cNegQ EQ.up, cDivQ EQ.up, trivial⟩
/-- A law of three ratios. -/
def sLaw3 : Spec
  | [x, y, z] => match pvQ x, pvQ y, pvQ z with
    | some _, some _, some _ => some (none, .one (.f (.v (.bool true))))
    | _, _, _ => none
  | _ => none
theorem fewE_big {n n' : Bool} {l l' : List Nat} {k k' : Nat} : fewE ((n, l, k), (n', l', k')) = true ↔ l.length ≤ 8 ∧ l'.length ≤ 8 := by
  simp only [fewE, Bool.and_eq_true, decide_eq_true_eq]
theorem cField : Contract Tryz.prog EQ 8 sLaw3 := by
  refine contract_each Tryz.ntmps8 Tryz.func8 (by kernel_rfl) (by kernel_rfl) EQ.up ?_
  intro xs p r hs hp
  unfold sLaw3 at hs
  split at hs
  · rename_i x y z
    split at hs
    · rename_i X Y Z hx hy hz
      cases hs
      obtain ⟨⟨⟨na, la⟩, ka, ja⟩, ⟨⟨na', la'⟩, ka', ja'⟩⟩ := X
      obtain ⟨⟨⟨nb, lb⟩, kb, jb⟩, ⟨⟨nb', lb'⟩, kb', jb'⟩⟩ := Y
      obtain ⟨⟨⟨nc, lc⟩, kc, jc⟩, ⟨⟨nc', lc'⟩, kc', jc'⟩⟩ := Z
      by_cases hf : (la.length ≤ 8 ∧ la'.length ≤ 8) ∧ (lb.length ≤ 8 ∧ lb'.length ≤ 8) ∧ lc.length ≤ 8 ∧ lc'.length ≤ 8
      · obtain ⟨⟨f1, f2⟩, ⟨f3, f4⟩, f5, f6⟩ := hf
        refine ⟨lawL true, lawC true, [rawQ na la 8 na' la' 8, rawQ nb lb 8 nb' lb' 8, rawQ nc lc 8 nc' lc' 8], .cons ((sub_rawQ hx).trans (rawQ_less f1 f2)) (.cons ((sub_rawQ hy).trans (rawQ_less f3 f4)) (.cons ((sub_rawQ hz).trans (rawQ_less f5 f6)) .nil)), rfl, ?_⟩
        have hw : ([((na, la, 8), (na', la', 8)), ((nb, lb, 8), (nb', lb', 8)), ((nc, lc, 8), (nc', lc', 8))] : List QE).all fewE = true := by
          simp only [List.all_cons, List.all_nil, Bool.and_true, Bool.and_eq_true, fewE_big]
          omega
        refine cast_rfl (p := (3 ≤ 1000000 ∧ ([((na, la, 8), na', la', 8), ((nb, lb, 8), nb', lb', 8), ((nc, lc, 8), nc', lc', 8)].all fewE && decide ([((na, la, 8), na', la', 8), ((nb, lb, 8), nb', lb', 8), ((nc, lc, 8), nc', lc', 8)].length ≤ 6)) = true) ∧ (8 ≤ 10000 ∧ 8 ≤ 10000) ∧ ifB (!rightQ na la na' la') (true = true ∧ Sub (PV.f (Lf.v (Value.bool true))) (PV.f (Lf.v (Value.bool true)))) ((8 ≤ 10000 ∧ 8 ≤ 10000) ∧ ifB (!rightQ nb lb nb' lb') (true = true ∧ Sub (PV.f (Lf.v (Value.bool true))) (PV.f (Lf.v (Value.bool true)))) ((8 ≤ 10000 ∧ 8 ≤ 10000) ∧ ifB (!rightQ nc lc nc' lc') (true = true ∧ Sub (PV.f (Lf.v (Value.bool true))) (PV.f (Lf.v (Value.bool true)))) ((124 ≤ 1900 ∧ 65 ≤ 1900 ∧ 2 ≤ 1000000) ∧ ∀ (z1 : Rat), z1 = List.foldl (fun (a : Rat) (e : QE) => a + ofE e) (0 : Rat) [((na, la, 8), na', la', 8), ((nb, lb, 8), nb', lb', 8)] → (68 ≤ 1900 ∧ 68 ≤ 1900 ∧ 2 ≤ 1000000) ∧ ∀ (z2 : Rat), z2 = List.foldl (fun (a : Rat) (e : QE) => a * ofE e) (1 : Rat) [((na, la, 8), na', la', 8), ((nb, lb, 8), nb', lb', 8)] → (124 ≤ 1900 ∧ 65 ≤ 1900 ∧ 2 ≤ 1000000) ∧ ∀ (z3 : Rat), z3 = List.foldl (fun (a : Rat) (e : QE) => a + ofE e) (0 : Rat) [((nb, lb, 8), nb', lb', 8), ((na, la, 8), na', la', 8)] → 378 ≤ 800000 ∧ ifB (!(zNeg z1.num == zNeg z3.num && eqB (digs 1000000000 z1.num.natAbs) (digs 1000000000 z3.num.natAbs) && (zNeg (↑z1.den : Int) == zNeg (↑z3.den : Int) && eqB (digs 1000000000 (↑z1.den : Int).natAbs) (digs 1000000000 (↑z3.den : Int).natAbs)))) (true = true ∧ Sub (PV.f (Lf.v (Value.bool false))) (PV.f (Lf.v (Value.bool true)))) ((68 ≤ 1900 ∧ 68 ≤ 1900 ∧ 2 ≤ 1000000) ∧ ∀ (z4 : Rat), z4 = List.foldl (fun (a : Rat) (e : QE) => a * ofE e) (1 : Rat) [((nb, lb, 8), nb', lb', 8), ((na, la, 8), na', la', 8)] → 272 ≤ 800000 ∧ ifB (!(zNeg z2.num == zNeg z4.num && eqB (digs 1000000000 z2.num.natAbs) (digs 1000000000 z4.num.natAbs) && (zNeg (↑z2.den : Int) == zNeg (↑z4.den : Int) && eqB (digs 1000000000 (↑z2.den : Int).natAbs) (digs 1000000000 (↑z4.den : Int).natAbs)))) (true = true ∧ Sub (PV.f (Lf.v (Value.bool false))) (PV.f (Lf.v (Value.bool true)))) ((354 ≤ 1900 ∧ 122 ≤ 1900 ∧ 2 ≤ 1000000) ∧ ∀ (z5 : Rat), z5 = List.foldl (fun (a : Rat) (e : QE) => a + ofE e) (0 : Rat) [((zNeg z1.num, digs 1000000000 z1.num.natAbs, (List.foldl bPl (3, 3) [((na, la, 8), na', la', 8), ((nb, lb, 8), nb', lb', 8)]).fst), zNeg (↑z1.den : Int), digs 1000000000 (↑z1.den : Int).natAbs, (List.foldl bPl (3, 3) [((na, la, 8), na', la', 8), ((nb, lb, 8), nb', lb', 8)]).snd), ((nc, lc, 8), nc', lc', 8)] → (231 ≤ 1900 ∧ 96 ≤ 1900 ∧ 3 ≤ 1000000) ∧ ∀ (z6 : Rat), z6 = List.foldl (fun (a : Rat) (e : QE) => a + ofE e) (0 : Rat) [((na, la, 8), na', la', 8), ((nb, lb, 8), nb', lb', 8), ((nc, lc, 8), nc', lc', 8)] → 803 ≤ 800000 ∧ ifB (!(zNeg z5.num == zNeg z6.num && eqB (digs 1000000000 z5.num.natAbs) (digs 1000000000 z6.num.natAbs) && (zNeg (↑z5.den : Int) == zNeg (↑z6.den : Int) && eqB (digs 1000000000 (↑z5.den : Int).natAbs) (digs 1000000000 (↑z6.den : Int).natAbs)))) (true = true ∧ Sub (PV.f (Lf.v (Value.bool false))) (PV.f (Lf.v (Value.bool true)))) ((128 ≤ 1900 ∧ 128 ≤ 1900 ∧ 2 ≤ 1000000) ∧ ∀ (z7 : Rat), z7 = List.foldl (fun (a : Rat) (e : QE) => a * ofE e) (1 : Rat) [((zNeg z2.num, digs 1000000000 z2.num.natAbs, (List.foldl bTi (6, 6) [((na, la, 8), na', la', 8), ((nb, lb, 8), nb', lb', 8)]).fst), zNeg (↑z2.den : Int), digs 1000000000 (↑z2.den : Int).natAbs, (List.foldl bTi (6, 6) [((na, la, 8), na', la', 8), ((nb, lb, 8), nb', lb', 8)]).snd), ((nc, lc, 8), nc', lc', 8)] → (99 ≤ 1900 ∧ 99 ≤ 1900 ∧ 3 ≤ 1000000) ∧ ∀ (z8 : Rat), z8 = List.foldl (fun (a : Rat) (e : QE) => a * ofE e) (1 : Rat) [((na, la, 8), na', la', 8), ((nb, lb, 8), nb', lb', 8), ((nc, lc, 8), nc', lc', 8)] → 454 ≤ 800000 ∧ ifB (!(zNeg z7.num == zNeg z8.num && eqB (digs 1000000000 z7.num.natAbs) (digs 1000000000 z8.num.natAbs) && (zNeg (↑z7.den : Int) == zNeg (↑z8.den : Int) && eqB (digs 1000000000 (↑z7.den : Int).natAbs) (digs 1000000000 (↑z8.den : Int).natAbs)))) (true = true ∧ Sub (PV.f (Lf.v (Value.bool false))) (PV.f (Lf.v (Value.bool true)))) ((184 ≤ 1900 ∧ 125 ≤ 1900 ∧ 2 ≤ 1000000) ∧ ∀ (z9 : Rat), z9 = List.foldl (fun (a : Rat) (e : QE) => a * ofE e) (1 : Rat) [((nc, lc, 8), nc', lc', 8), ((zNeg z1.num, digs 1000000000 z1.num.natAbs, (List.foldl bPl (3, 3) [((na, la, 8), na', la', 8), ((nb, lb, 8), nb', lb', 8)]).fst), zNeg (↑z1.den : Int), digs 1000000000 (↑z1.den : Int).natAbs, (List.foldl bPl (3, 3) [((na, la, 8), na', la', 8), ((nb, lb, 8), nb', lb', 8)]).snd)] → (68 ≤ 1900 ∧ 68 ≤ 1900 ∧ 2 ≤ 1000000) ∧ ∀ (z10 : Rat), z10 = List.foldl (fun (a : Rat) (e : QE) => a * ofE e) (1 : Rat) [((nc, lc, 8), nc', lc', 8), ((na, la, 8), na', la', 8)] → (68 ≤ 1900 ∧ 68 ≤ 1900 ∧ 2 ≤ 1000000) ∧ ∀ (z11 : Rat), z11 = List.foldl (fun (a : Rat) (e : QE) => a * ofE e) (1 : Rat) [((nc, lc, 8), nc', lc', 8), ((nb, lb, 8), nb', lb', 8)] → (424 ≤ 1900 ∧ 185 ≤ 1900 ∧ 2 ≤ (1000000 : Nat)) ∧ ∀ (z12 : Rat), z12 = List.foldl (fun (a : Rat) (e : QE) => a + ofE e) (0 : Rat) [((zNeg z10.num, digs (1000000000 : Nat) z10.num.natAbs, (List.foldl bTi ((6 : Nat), (6 : Nat)) [((nc, lc, (8 : Nat)), nc', lc', (8 : Nat)), ((na, la, (8 : Nat)), na', la', (8 : Nat))]).fst), zNeg (↑z10.den : Int), digs (1000000000 : Nat) (↑z10.den : Int).natAbs, (List.foldl bTi ((6 : Nat), (6 : Nat)) [((nc, lc, (8 : Nat)), nc', lc', (8 : Nat)), ((na, la, (8 : Nat)), na', la', (8 : Nat))]).snd), ((zNeg z11.num, digs (1000000000 : Nat) z11.num.natAbs, (List.foldl bTi ((6 : Nat), (6 : Nat)) [((nc, lc, (8 : Nat)), nc', lc', (8 : Nat)), ((nb, lb, (8 : Nat)), nb', lb', (8 : Nat))]).fst), zNeg (↑z11.den : Int), digs (1000000000 : Nat) (↑z11.den : Int).natAbs, (List.foldl bTi ((6 : Nat), (6 : Nat)) [((nc, lc, (8 : Nat)), nc', lc', (8 : Nat)), ((nb, lb, (8 : Nat)), nb', lb', (8 : Nat))]).snd)] → 918 ≤ (800000 : Nat) ∧ ifB (!(zNeg z9.num == zNeg z12.num && eqB (digs (1000000000 : Nat) z9.num.natAbs) (digs (1000000000 : Nat) z12.num.natAbs) && (zNeg (↑z9.den : Int) == zNeg (↑z12.den : Int) && eqB (digs (1000000000 : Nat) (↑z9.den : Int).natAbs) (digs (1000000000 : Nat) (↑z12.den : Int).natAbs)))) (true = true ∧ Sub (PV.f (Lf.v (Value.bool false))) (PV.f (Lf.v (Value.bool true)))) (((-9223372036854775808 : Int) ≤ (0 : Int) ∧ (0 : Int) ≤ (9223372036854775807 : Int)) ∧ ∀ (z13 : Int), z13 = (0 : Int) → (3 : Nat) ≤ (1900 : Nat) ∧ ∀ (z14 : Rat), (z14 = match rightZ (zNeg z13) (digs (1000000000 : Nat) z13.natAbs) with | true => (↑(zV (zNeg z13) (digs (1000000000 : Nat) z13.natAbs)) : Rat) | false => (0 : Rat)) → ((124 : Nat) ≤ (300 : Nat) ∧ (65 : Nat) ≤ (300 : Nat) ∧ (8 : Nat) ≤ (300 : Nat) ∧ (8 : Nat) ≤ (300 : Nat)) ∧ ∀ (z15 : Rat), z15 = takeQ (zNeg z1.num) (digs (1000000000 : Nat) z1.num.natAbs) (zNeg (↑z1.den : Int)) (digs (1000000000 : Nat) (↑z1.den : Int).natAbs) - takeQ nb lb nb' lb' → (617 : Nat) ≤ (800000 : Nat) ∧ ifB (!(zNeg z15.num == na && eqB (digs (1000000000 : Nat) z15.num.natAbs) la && (zNeg (↑z15.den : Int) == na' && eqB (digs (1000000000 : Nat) (↑z15.den : Int).natAbs) la'))) (true = true ∧ Sub (PV.f (Lf.v (Value.bool false))) (PV.f (Lf.v (Value.bool true)))) (((8 : Nat) ≤ (1900 : Nat) ∧ (8 : Nat) ≤ (1900 : Nat)) ∧ ∀ (z16 : Rat), z16 = -takeQ na la na' la' → ((130 : Nat) ≤ (1900 : Nat) ∧ (68 : Nat) ≤ (1900 : Nat) ∧ (2 : Nat) ≤ (1000000 : Nat)) ∧ ∀ (z17 : Rat), z17 = List.foldl (fun (a : Rat) (e : QE) => a + ofE e) (0 : Rat) [((na, la, (8 : Nat)), na', la', (8 : Nat)), ((zNeg z16.num, digs (1000000000 : Nat) z16.num.natAbs, (8 : Nat) + (3 : Nat)), zNeg (↑z16.den : Int), digs (1000000000 : Nat) (↑z16.den : Int).natAbs, (8 : Nat) + (3 : Nat))] → (210 : Nat) ≤ (800000 : Nat) ∧ ifB (!(zNeg z17.num == zNeg z14.num && eqB (digs (1000000000 : Nat) z17.num.natAbs) (digs (1000000000 : Nat) z14.num.natAbs) && (zNeg (↑z17.den : Int) == zNeg (↑z14.den : Int) && eqB (digs (1000000000 : Nat) (↑z17.den : Int).natAbs) (digs (1000000000 : Nat) (↑z14.den : Int).natAbs)))) (true = true ∧ Sub (PV.f (Lf.v (Value.bool false))) (PV.f (Lf.v (Value.bool true)))) (((124 : Nat) ≤ (10000 : Nat) ∧ (65 : Nat) ≤ (10000 : Nat)) ∧ ifB (!rightQ (zNeg z1.num) (digs (1000000000 : Nat) z1.num.natAbs) (zNeg (↑z1.den : Int)) (digs (1000000000 : Nat) (↑z1.den : Int).natAbs)) (true = true ∧ Sub (PV.f (Lf.v (Value.bool false))) (PV.f (Lf.v (Value.bool true)))) (((68 : Nat) ≤ (10000 : Nat) ∧ (68 : Nat) ≤ (10000 : Nat)) ∧ ifB (!rightQ (zNeg z2.num) (digs (1000000000 : Nat) z2.num.natAbs) (zNeg (↑z2.den : Int)) (digs (1000000000 : Nat) (↑z2.den : Int).natAbs)) (true = true ∧ Sub (PV.f (Lf.v (Value.bool false))) (PV.f (Lf.v (Value.bool true)))) (((68 : Nat) ≤ (1900 : Nat) ∧ (68 : Nat) ≤ (1900 : Nat) ∧ (8 : Nat) ≤ (1900 : Nat) ∧ (8 : Nat) ≤ (1900 : Nat)) ∧ ∀ (z18 : Rat), z18 = takeQ (zNeg z2.num) (digs (1000000000 : Nat) z2.num.natAbs) (zNeg (↑z2.den : Int)) (digs (1000000000 : Nat) (↑z2.den : Int).natAbs) / takeQ nb lb nb' lb' → ∀ (z19 : Int), (z19 = if takeQ nb lb nb' lb' = (0 : Rat) then (9 : Int) else (0 : Int)) → (28 : Nat) ≤ (800000 : Nat) ∧ ifB (!(z19 == (9 : Int)) == (nb == zNeg z14.num && eqB lb (digs (1000000000 : Nat) z14.num.natAbs) && (nb' == zNeg (↑z14.den : Int) && eqB lb' (digs (1000000000 : Nat) (↑z14.den : Int).natAbs)))) (true = true ∧ Sub (PV.f (Lf.v (Value.bool false))) (PV.f (Lf.v (Value.bool true)))) (ifB (z19 != (0 : Int)) ((224 : Nat) ≤ (800000 : Nat) ∧ ifB (zNeg z18.num == zNeg z14.num && eqB (digs (1000000000 : Nat) z18.num.natAbs) (digs (1000000000 : Nat) z14.num.natAbs) && (zNeg (↑z18.den : Int) == zNeg (↑z14.den : Int) && eqB (digs (1000000000 : Nat) (↑z18.den : Int).natAbs) (digs (1000000000 : Nat) (↑z14.den : Int).natAbs))) (true = true ∧ Sub (PV.f (Lf.v (Value.bool true))) (PV.f (Lf.v (Value.bool true)))) (ifB (z19 == (0 : Int)) ((228 : Nat) ≤ (800000 : Nat) ∧ true = true ∧ Sub (PV.f (Lf.v (Value.bool (zNeg z18.num == na && eqB (digs (1000000000 : Nat) z18.num.natAbs) la && (zNeg (↑z18.den : Int) == na' && eqB (digs (1000000000 : Nat) (↑z18.den : Int).natAbs) la'))))) (PV.f (Lf.v (Value.bool true)))) (true = true ∧ Sub (PV.f (Lf.v (Value.bool false))) (PV.f (Lf.v (Value.bool true)))))) (ifB (z19 == (0 : Int)) ((228 : Nat) ≤ (800000 : Nat) ∧ true = true ∧ Sub (PV.f (Lf.v (Value.bool (zNeg z18.num == na && eqB (digs (1000000000 : Nat) z18.num.natAbs) la && (zNeg (↑z18.den : Int) == na' && eqB (digs (1000000000 : Nat) (↑z18.den : Int).natAbs) la'))))) (PV.f (Lf.v (Value.bool true)))) (true = true ∧ Sub (PV.f (Lf.v (Value.bool false))) (PV.f (Lf.v (Value.bool true))))))))))))))))))) (by kernel_rfl) ?_
        refine ⟨?s0, ⟨?s1, ifB_iff.2 ⟨fun hb0 => ⟨rfl, ?m0⟩, fun hb0 => ⟨?s2, ifB_iff.2 ⟨fun hb1 => ⟨rfl, ?m1⟩, fun hb1 => ⟨?s3, ifB_iff.2 ⟨fun hb2 => ⟨rfl, ?m2⟩, fun hb2 => ⟨?s4, fun z1 => fun hz1 => ⟨?s5, fun z2 => fun hz2 => ⟨?s6, fun z3 => fun hz3 => ⟨?s7, ifB_iff.2 ⟨fun hb3 => ⟨rfl, ?m3⟩, fun hb3 => ⟨?s8, fun z4 => fun hz4 => ⟨?s9, ifB_iff.2 ⟨fun hb4 => ⟨rfl, ?m4⟩, fun hb4 => ⟨?s10, fun z5 => fun hz5 => ⟨?s11, fun z6 => fun hz6 => ⟨?s12, ifB_iff.2 ⟨fun hb5 => ⟨rfl, ?m5⟩, fun hb5 => ⟨?s13, fun z7 => fun hz7 => ⟨?s14, fun z8 => fun hz8 => ⟨?s15, ifB_iff.2 ⟨fun hb6 => ⟨rfl, ?m6⟩, fun hb6 => ⟨?s16, fun z9 => fun hz9 => ⟨?s17, fun z10 => fun hz10 => ⟨?s18, fun z11 => fun hz11 => ⟨?s19, fun z12 => fun hz12 => ⟨?s20, ifB_iff.2 ⟨fun hb7 => ⟨rfl, ?m7⟩, fun hb7 => ⟨?s21, fun z13 => fun hz13 => ⟨?s22, fun z14 => fun hz14 => ⟨?s23, fun z15 => fun hz15 => ⟨?s24, ifB_iff.2 ⟨fun hb8 => ⟨rfl, ?m8⟩, fun hb8 => ⟨?s25, fun z16 => fun hz16 => ⟨?s26, fun z17 => fun hz17 => ⟨?s27, ifB_iff.2 ⟨fun hb9 => ⟨rfl, ?m9⟩, fun hb9 => ⟨?s28, ifB_iff.2 ⟨fun hb10 => ⟨rfl, ?m10⟩, fun hb10 => ⟨?s29, ifB_iff.2 ⟨fun hb11 => ⟨rfl, ?m11⟩, fun hb11 => ⟨?s30, fun z18 => fun hz18 => fun z19 => fun hz19 => ⟨?s31, ifB_iff.2 ⟨fun hb12 => ⟨rfl, ?m12⟩, fun hb12 => ifB_iff.2 ⟨fun hb13 => ⟨?s32, ifB_iff.2 ⟨fun hb14 => ⟨rfl, ?m13⟩, fun hb14 => ifB_iff.2 ⟨fun hb15 => ⟨?s33, ⟨rfl, ?m14⟩⟩, fun hb15 => ⟨rfl, ?m15⟩⟩⟩⟩, fun hb13 => ifB_iff.2 ⟨fun hb16 => ⟨?s34, ⟨rfl, ?m16⟩⟩, fun hb16 => ⟨rfl, ?m17⟩⟩⟩⟩⟩⟩⟩⟩⟩⟩⟩⟩⟩⟩⟩⟩⟩⟩⟩⟩⟩⟩⟩⟩⟩⟩⟩⟩⟩⟩⟩⟩⟩⟩⟩⟩⟩⟩⟩⟩⟩⟩⟩⟩⟩⟩⟩⟩
        case s0 => exact ⟨by decide, by rw [hw]; rfl⟩
        all_goals clear hw
        all_goals first
          | decide
          | exact .refl _
          | (obtain ⟨a, rfl, rfl, rfl, rfl⟩ := rightQ_reps hb0
             obtain ⟨b, rfl, rfl, rfl, rfl⟩ := rightQ_reps hb1
             obtain ⟨c, rfl, rfl, rfl, rfl⟩ := rightQ_reps hb2
             clear hx hy hz hp hb0 hb1 hb2 f1 f2 f3 f4 f5 f6
             try subst hz13
             try (rw [rightZ_of, zV_digs] at hz14; dsimp only at hz14; rw [Rat.intCast_zero] at hz14)
             simp only [List.foldl_cons, List.foldl_nil, ofE, takeQ_canon, rightQ_canon, Bool.not_true] at *
             simp only [sameQ_eq] at *
             first
             | (rw [decide_eq_true (show z18 = a by grind)]; exact .refl _)
             | (exfalso; grind))
      · refine ⟨lawL false, lawC false, [rawQ na la ka na' la' ka', rawQ nb lb kb nb' lb' kb', rawQ nc lc kc nc' lc' kc'], .cons (sub_rawQ hx) (.cons (sub_rawQ hy) (.cons (sub_rawQ hz) .nil)), rfl, ?_⟩
        have hw : ([((na, la, ka), (na', la', ka')), ((nb, lb, kb), (nb', lb', kb')), ((nc, lc, kc), (nc', lc', kc'))] : List QE).all fewE = false := by
          simp only [List.all_cons, List.all_nil, Bool.and_true, Bool.eq_false_iff, ne_eq, Bool.and_eq_true, fewE_big]
          omega
        refine cast_rfl (p := (3 ≤ 1000000 ∧ ([((na, la, ka), na', la', ka'), ((nb, lb, kb), nb', lb', kb'), ((nc, lc, kc), nc', lc', kc')].all fewE && decide ([((na, la, ka), na', la', ka'), ((nb, lb, kb), nb', lb', kb'), ((nc, lc, kc), nc', lc', kc')].length ≤ 6)) = false) ∧ true = true ∧ Sub (PV.f (Lf.v (Value.bool true))) (PV.f (Lf.v (Value.bool true)))) (by kernel_rfl) ?_
        refine ⟨?s0, ⟨rfl, ?m0⟩⟩
        case s0 => exact ⟨by decide, by rw [hw]; rfl⟩
    · cases hs
  · cases hs

end Go.Proofs.YtjfncepmpabcnaaGreatDoor
