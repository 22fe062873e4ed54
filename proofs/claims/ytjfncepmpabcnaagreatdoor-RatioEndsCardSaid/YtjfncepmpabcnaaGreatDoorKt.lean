/- The law RatioTells, by the pure run. -/
import Derived.Test.YtjfncepmpabcnaaGreatDoorKq
namespace Go.Proofs.YtjfncepmpabcnaaGreatDoor
open Go.RowKit
set_option linter.unusedVariables false
set_option maxRecDepth 100000

theorem lr_less {l : List Nat} {k k' : Nat} (h : l.length ≤ k') : Sub (.f (.lr l k)) (.f (.lr l k')) := by
  refine ⟨fun H v hv => ?_⟩
  have hr := hv.rd
  have hg : l.length ≤ k ∧ ∀ x ∈ l, x < 4294967296 := rd_good hr (by simp [Lf.view])
  exact .f (rd_view (f := .lr l k) (f' := .lr l k') rfl rfl ⟨h, hg.2⟩ (Nat.le_refl _) (fun _ _ => rfl) hr)
theorem rawQ_less {n : Bool} {l : List Nat} {k : Nat} {n' : Bool} {l' : List Nat} {k' j j' : Nat} (h : l.length ≤ j) (h' : l'.length ≤ j') : Sub (rawQ n l k n' l' k') (rawQ n l j n' l' j') :=
  agg_sub (.cons (.refl _) (.cons (lr_less h) (.cons (.refl _) (.cons (lr_less h') .nil))))
/-- few, told beforehand. -/
def sFewB (b : Bool) : Spec
  | [.f y] => match sliceQ y with
    | some L => some (some (L.length ≤ 1000000 ∧ (L.all fewE && decide (L.length ≤ 6)) = b), .one (.f (.v (.bool b))))
    | none => none
  | _ => none
theorem cFewB {E : World → Hp → Prop} (hU : Up E) (b : Bool) : Contract Tryz.prog E 24 (sFewB b) := by
  refine (cFew hU).weaken ?_
  intro xs p r hs hp
  unfold sFewB at hs
  split at hs
  · split at hs
    · rename_i y _ L hy
      cases hs
      have h := hp _ rfl
      refine ⟨[.f y], some (L.length ≤ 1000000), .one (.f (.v (.bool (L.all fewE && decide (L.length ≤ 6))))), .cons (.refl _) .nil, by unfold sFew; dsimp only; rw [hy], fun q hq => by cases hq; exact h.1, ?_⟩
      rw [h.2]; exact .refl _
    · cases hs
  · cases hs
/-- The functions that the law calls. -/
def tellsL (b : Bool) : List (FuncId × Spec) := [(20, sAwake), (24, sFewB b), (33, sLentQ), (34, lentS sDivQ), (35, sDivQR), (36, lentS sOfN), (37, sOfNR), (23, sSameQ), (26, lentS sCmpQ), (38, sCmpQ), (25, lentS sRightQ), (39, sRightR), (40, lentS sNegQ), (41, sNegQ), (30, lentS sSubQ), (42, sSubQR), (28, lentS sWhole), (43, sWhole), (32, lentS sTextQ), (44, sTextQ), (45, sSame), (29, lentS sFloor), (46, sFloorR), (47, sKeptQ)]
theorem tellsC (b : Bool) : AllC Tryz.prog EQ (tellsL b) := ⟨cAwake, cFewB EQ.up b, cLentQ EQ.up, (cDivQ EQ.up).lent, cDivQR EQ.up, (cOfN EQ.up).lent, cOfNR EQ.up, cSame3 EQ.up, (cCmpQ EQ.up).lent, cCmpR EQ.up, (cRightQ EQ.up).lent, cRightR EQ.up, (cNegQ EQ.up).lent, cNegR EQ.up, (cSubQ EQ.up).lent, cSubQR EQ.up, (cWhole EQ.up).lent, cWholeR EQ.up, (cTextQ.env (fun _ _ h => h.1)).lent, cTextR EQ.up, cSame, (cFloor EQ.up).lent, cFloorR EQ.up, cKeptQ EQ.up, trivial⟩
/-- A law of two ratios. -/
def sLaw2 : Spec
  | [x, y] => match pvQ x, pvQ y with
    | some _, some _ => some (none, .one (.f (.v (.bool true))))
    | _, _ => none
  | _ => none
theorem fewE_big {n n' : Bool} {l l' : List Nat} {k k' : Nat} : fewE ((n, l, k), (n', l', k')) = true ↔ l.length ≤ 8 ∧ l'.length ≤ 8 := by
  simp only [fewE, Bool.and_eq_true, decide_eq_true_eq]
theorem text_short {n n' : Bool} {l l' : List Nat} (h : ∀ x ∈ l, x < 4294967296) (h' : ∀ x ∈ l', x < 4294967296) (hl : l.length ≤ 8) (hl' : l'.length ≤ 8) : (zText (takeQ n l n' l').num).length ≤ 1000000 ∧ (zText ((takeQ n l n' l').den : Int)).length ≤ 1000000 := by
  cases hr : rightQ n l n' l' with
  | false =>
    rw [takeQ_no hr]
    have a1 := zText_len (z := (0 : Rat).num) (k := 1) (by unfold ZB; decide)
    have a2 := zText_len (z := ((0 : Rat).den : Int)) (k := 1) (by unfold ZB; decide)
    exact ⟨by omega, by omega⟩
  | true =>
    obtain ⟨e1, e2⟩ := takeQ_yes hr
    rw [e1, e2]
    have a1 := zText_len (zV_zb n l h)
    have a2 := zText_len (zV_zb n' l' h')
    exact ⟨by omega, by omega⟩
/-- Each input by its own table. -/
theorem contract_eachT {P : Program} {E : World → Hp → Prop} {f : FuncId} {fn : Func} {sp : Spec} {m : Nat} (hm : fn.ntmps = m) (hf : P.funcs[f]? = some fn) (hb : fn.body = some (fn.body.getD .skip)) (hmix : P.follows .mixedOrders = true) (hU : Up E)
    (h : ∀ xs p r, sp xs = some (p, r) → (∀ q, p = some q → q) → ∃ L, AllC P E L ∧ ∃ ys, Subs xs ys ∧ Nat.ble ys.length m = true ∧ (goodA ys → PW P (spL L) noLoops m (fn.body.getD .skip) (Ends P fn.results.toList r.out) ⟨entry 0 ys, []⟩)) : Contract P E f sp := by
  intro xs p r hs hp w H vs hfr hE hvs
  obtain ⟨L, hL, ys, h1, h2, h3⟩ := h xs p r hs hp
  have hg : goodA ys := PRs.good (h1.prs hvs)
  refine contract_plain (sp := fun zs => open Classical in if zs = xs then some (p, r) else none) L hm hf hb hmix hU hL ?_ xs p r (if_pos rfl) hp w H vs hfr hE hvs
  intro zs p' r' hs' hp'
  split at hs'
  · rename_i he; subst he; cases hs'; exact ⟨ys, h1, h2, h3 hg⟩
  · cases hs'
theorem cTells : Contract Tryz.prog EQ 6 sLaw2 := by
  refine contract_eachT Tryz.ntmps6 Tryz.func6 (by kernel_rfl) (by kernel_rfl) EQ.up ?_
  intro xs p r hs hp
  unfold sLaw2 at hs
  split at hs
  · rename_i x y
    split at hs
    · rename_i X Y hx hy
      cases hs
      obtain ⟨⟨⟨na, la⟩, ka, ja⟩, ⟨⟨na', la'⟩, ka', ja'⟩⟩ := X
      obtain ⟨⟨⟨nb, lb⟩, kb, jb⟩, ⟨⟨nb', lb'⟩, kb', jb'⟩⟩ := Y
      by_cases hf : (la.length ≤ 8 ∧ la'.length ≤ 8) ∧ lb.length ≤ 8 ∧ lb'.length ≤ 8
      · obtain ⟨⟨f1, f2⟩, f3, f4⟩ := hf
        refine ⟨tellsL true, tellsC true, [rawQ na la 8 na' la' 8, rawQ nb lb 8 nb' lb' 8], .cons (Subs.trans2 (sub_rawQ hx) (rawQ_less f1 f2)) (.cons (Subs.trans2 (sub_rawQ hy) (rawQ_less f3 f4)) .nil), rfl, fun hg => ?_⟩
        have hw : ([((na, la, 8), (na', la', 8)), ((nb, lb, 8), (nb', lb', 8))] : List QE).all fewE = true := by
          simp only [List.all_cons, List.all_nil, Bool.and_true, Bool.and_eq_true, fewE_big]
          omega
        have e1 := lent_ok (l := la) hg.1.2.1.1.2
        have e2 := lent_ok (l := la') hg.1.2.2.2.1.1.2
        have e3 := lent_ok (l := lb) hg.2.1.2.1.1.2
        have e4 := lent_ok (l := lb') hg.2.1.2.2.2.1.1.2
        obtain ⟨t1, t2⟩ := text_short (n := na) (n' := na') hg.1.2.1.1.2 hg.1.2.2.2.1.1.2 f1 f2
        refine cast_rfl (p := (2 ≤ 1000000 ∧ ([((na, la, 8), na', la', 8), ((nb, lb, 8), nb', lb', 8)].all fewE && decide ([((na, la, 8), na', la', 8), ((nb, lb, 8), nb', lb', 8)].length ≤ 6)) = true) ∧ (la.length ≤ 1000000 ∧ la'.length ≤ 1000000) ∧ (lb.length ≤ 1000000 ∧ lb'.length ≤ 1000000) ∧ (((True ∧ (la.length ≤ (allL la).length ∧ ∀ (x : Int), x ∈ List.take la.length (allL la) → (0 : Int) ≤ x ∧ x < (4294967296 : Int)) ∧ True ∧ (la'.length ≤ (allL la').length ∧ ∀ (x : Int), x ∈ List.take la'.length (allL la') → (0 : Int) ≤ x ∧ x < (4294967296 : Int)) ∧ True) ∧ (True ∧ (lb.length ≤ (allL lb).length ∧ ∀ (x : Int), x ∈ List.take lb.length (allL lb) → (0 : Int) ≤ x ∧ x < (4294967296 : Int)) ∧ True ∧ (lb'.length ≤ (allL lb').length ∧ ∀ (x : Int), x ∈ List.take lb'.length (allL lb') → (0 : Int) ≤ x ∧ x < (4294967296 : Int)) ∧ True) ∧ True) ∧ la.length ≤ 1900 ∧ la'.length ≤ 1900 ∧ lb.length ≤ 1900 ∧ lb'.length ≤ 1900) ∧ ∀ (z1 : Rat), z1 = takeQ na (List.map Int.toNat (List.take la.length (allL la))) na' (List.map Int.toNat (List.take la'.length (allL la'))) / takeQ nb (List.map Int.toNat (List.take lb.length (allL lb))) nb' (List.map Int.toNat (List.take lb'.length (allL lb'))) → ∀ (z2 : Int), (z2 = if takeQ nb (List.map Int.toNat (List.take lb.length (allL lb))) nb' (List.map Int.toNat (List.take lb'.length (allL lb'))) = (0 : Rat) then (9 : Int) else (0 : Int)) → (8 ≤ 300 ∧ 8 ≤ 300 ∧ 8 ≤ 300 ∧ 8 ≤ 300) ∧ ∀ (z3 : Rat), z3 = takeQ na la na' la' / takeQ nb lb nb' lb' → ∀ (z4 : Int), (z4 = if takeQ nb lb nb' lb' = (0 : Rat) then (9 : Int) else (0 : Int)) → (((True ∧ (la.length ≤ (allL la).length ∧ ∀ (x : Int), x ∈ List.take la.length (allL la) → (0 : Int) ≤ x ∧ x < (4294967296 : Int)) ∧ True) ∧ (True ∧ (lb.length ≤ (allL lb).length ∧ ∀ (x : Int), x ∈ List.take lb.length (allL lb) → (0 : Int) ≤ x ∧ x < (4294967296 : Int)) ∧ True) ∧ True) ∧ la.length ≤ 8700 ∧ lb.length ≤ 8700) ∧ ∀ (z5 : Rat), z5 = ofRat na (List.map Int.toNat (List.take la.length (allL la))) nb (List.map Int.toNat (List.take lb.length (allL lb))) → ∀ (z6 : Int), z6 = ofErr na (List.map Int.toNat (List.take la.length (allL la))) nb (List.map Int.toNat (List.take lb.length (allL lb))) → (8 ≤ 900 ∧ 8 ≤ 900) ∧ ∀ (z7 : Rat), z7 = ofRat na la nb lb → ∀ (z8 : Int), z8 = ofErr na la nb lb → ifB (z2 != z4) (true = true ∧ Sub (PV.f (Lf.v (Value.bool false))) (PV.f (Lf.v (Value.bool true)))) (ifB (z6 != z8) (true = true ∧ Sub (PV.f (Lf.v (Value.bool false))) (PV.f (Lf.v (Value.bool true)))) (la.length + lb'.length + 30 + (la'.length + lb.length + 30) + 46 + 46 ≤ 800000 ∧ ifB (!(zNeg z1.num == zNeg z3.num && eqB (digs 1000000000 z1.num.natAbs) (digs 1000000000 z3.num.natAbs) && (zNeg (↑z1.den : Int) == zNeg (↑z3.den : Int) && eqB (digs 1000000000 (↑z1.den : Int).natAbs) (digs 1000000000 (↑z3.den : Int).natAbs)))) (true = true ∧ Sub (PV.f (Lf.v (Value.bool false))) (PV.f (Lf.v (Value.bool true)))) (la.length + 6 + (lb.length + 6) + 14 + 14 ≤ 800000 ∧ ifB (!(zNeg z5.num == zNeg z7.num && eqB (digs 1000000000 z5.num.natAbs) (digs 1000000000 z7.num.natAbs) && (zNeg (↑z5.den : Int) == zNeg (↑z7.den : Int) && eqB (digs 1000000000 (↑z5.den : Int).natAbs) (digs 1000000000 (↑z7.den : Int).natAbs)))) (true = true ∧ Sub (PV.f (Lf.v (Value.bool false))) (PV.f (Lf.v (Value.bool true)))) ((((True ∧ (la.length ≤ (allL la).length ∧ ∀ (x : Int), x ∈ List.take la.length (allL la) → (0 : Int) ≤ x ∧ x < (4294967296 : Int)) ∧ True ∧ (la'.length ≤ (allL la').length ∧ ∀ (x : Int), x ∈ List.take la'.length (allL la') → (0 : Int) ≤ x ∧ x < (4294967296 : Int)) ∧ True) ∧ (True ∧ (lb.length ≤ (allL lb).length ∧ ∀ (x : Int), x ∈ List.take lb.length (allL lb) → (0 : Int) ≤ x ∧ x < (4294967296 : Int)) ∧ True ∧ (lb'.length ≤ (allL lb').length ∧ ∀ (x : Int), x ∈ List.take lb'.length (allL lb') → (0 : Int) ≤ x ∧ x < (4294967296 : Int)) ∧ True) ∧ True) ∧ la.length ≤ 1900 ∧ la'.length ≤ 1900 ∧ lb.length ≤ 1900 ∧ lb'.length ≤ 1900) ∧ (8 ≤ 1900 ∧ 8 ≤ 1900 ∧ 8 ≤ 1900 ∧ 8 ≤ 1900) ∧ ifB (cmpI ((takeQ na (List.map Int.toNat (List.take la.length (allL la))) na' (List.map Int.toNat (List.take la'.length (allL la')))).num * (↑(takeQ nb (List.map Int.toNat (List.take lb.length (allL lb))) nb' (List.map Int.toNat (List.take lb'.length (allL lb')))).den : Int)) ((takeQ nb (List.map Int.toNat (List.take lb.length (allL lb))) nb' (List.map Int.toNat (List.take lb'.length (allL lb')))).num * (↑(takeQ na (List.map Int.toNat (List.take la.length (allL la))) na' (List.map Int.toNat (List.take la'.length (allL la')))).den : Int)) != cmpI ((takeQ na la na' la').num * (↑(takeQ nb lb nb' lb').den : Int)) ((takeQ nb lb nb' lb').num * (↑(takeQ na la na' la').den : Int))) (true = true ∧ Sub (PV.f (Lf.v (Value.bool false))) (PV.f (Lf.v (Value.bool true)))) ((((True ∧ (la.length ≤ (allL la).length ∧ ∀ (x : Int), x ∈ List.take la.length (allL la) → (0 : Int) ≤ x ∧ x < (4294967296 : Int)) ∧ True ∧ (la'.length ≤ (allL la').length ∧ ∀ (x : Int), x ∈ List.take la'.length (allL la') → (0 : Int) ≤ x ∧ x < (4294967296 : Int)) ∧ True) ∧ True) ∧ la.length ≤ 8700 ∧ la'.length ≤ 8700) ∧ (8 ≤ 9000 ∧ 8 ≤ 9000) ∧ ifB (!rightQ na (List.map Int.toNat (List.take la.length (allL la))) na' (List.map Int.toNat (List.take la'.length (allL la'))) == rightQ na la na' la') (true = true ∧ Sub (PV.f (Lf.v (Value.bool false))) (PV.f (Lf.v (Value.bool true)))) ((((True ∧ (la.length ≤ (allL la).length ∧ ∀ (x : Int), x ∈ List.take la.length (allL la) → (0 : Int) ≤ x ∧ x < (4294967296 : Int)) ∧ True ∧ (la'.length ≤ (allL la').length ∧ ∀ (x : Int), x ∈ List.take la'.length (allL la') → (0 : Int) ≤ x ∧ x < (4294967296 : Int)) ∧ True) ∧ True) ∧ la.length ≤ 1900 ∧ la'.length ≤ 1900) ∧ ∀ (z9 : Rat), z9 = -takeQ na (List.map Int.toNat (List.take la.length (allL la))) na' (List.map Int.toNat (List.take la'.length (allL la'))) → (8 ≤ 1900 ∧ 8 ≤ 1900) ∧ ∀ (z10 : Rat), z10 = -takeQ na la na' la' → la.length + 3 + (la'.length + 3) + 11 + 11 ≤ 800000 ∧ ifB (!(zNeg z9.num == zNeg z10.num && eqB (digs 1000000000 z9.num.natAbs) (digs 1000000000 z10.num.natAbs) && (zNeg (↑z9.den : Int) == zNeg (↑z10.den : Int) && eqB (digs 1000000000 (↑z9.den : Int).natAbs) (digs 1000000000 (↑z10.den : Int).natAbs)))) (true = true ∧ Sub (PV.f (Lf.v (Value.bool false))) (PV.f (Lf.v (Value.bool true)))) ((((True ∧ (la.length ≤ (allL la).length ∧ ∀ (x : Int), x ∈ List.take la.length (allL la) → (0 : Int) ≤ x ∧ x < (4294967296 : Int)) ∧ True ∧ (la'.length ≤ (allL la').length ∧ ∀ (x : Int), x ∈ List.take la'.length (allL la') → (0 : Int) ≤ x ∧ x < (4294967296 : Int)) ∧ True) ∧ (True ∧ (lb.length ≤ (allL lb).length ∧ ∀ (x : Int), x ∈ List.take lb.length (allL lb) → (0 : Int) ≤ x ∧ x < (4294967296 : Int)) ∧ True ∧ (lb'.length ≤ (allL lb').length ∧ ∀ (x : Int), x ∈ List.take lb'.length (allL lb') → (0 : Int) ≤ x ∧ x < (4294967296 : Int)) ∧ True) ∧ True) ∧ la.length ≤ 300 ∧ la'.length ≤ 300 ∧ lb.length ≤ 300 ∧ lb'.length ≤ 300) ∧ ∀ (z11 : Rat), z11 = takeQ na (List.map Int.toNat (List.take la.length (allL la))) na' (List.map Int.toNat (List.take la'.length (allL la'))) - takeQ nb (List.map Int.toNat (List.take lb.length (allL lb))) nb' (List.map Int.toNat (List.take lb'.length (allL lb'))) → (8 ≤ 20 ∧ 8 ≤ 20 ∧ 8 ≤ 20 ∧ 8 ≤ 20) ∧ ∀ (z12 : Rat), z12 = takeQ na la na' la' - takeQ nb lb nb' lb' → la.length + (2 : Nat) * la'.length + lb.length + (2 : Nat) * lb'.length + (150 : Nat) + (la'.length + lb'.length + (100 : Nat)) + 198 + 116 ≤ 800000 ∧ ifB (!(zNeg z11.num == zNeg z12.num && eqB (digs (1000000000 : Nat) z11.num.natAbs) (digs (1000000000 : Nat) z12.num.natAbs) && (zNeg (↑z11.den : Int) == zNeg (↑z12.den : Int) && eqB (digs (1000000000 : Nat) (↑z11.den : Int).natAbs) (digs (1000000000 : Nat) (↑z12.den : Int).natAbs)))) (true = true ∧ Sub (PV.f (Lf.v (Value.bool false))) (PV.f (Lf.v (Value.bool true)))) ((((True ∧ (la.length ≤ (allL la).length ∧ ∀ (x : Int), x ∈ List.take la.length (allL la) → (0 : Int) ≤ x ∧ x < (4294967296 : Int)) ∧ True) ∧ True) ∧ la.length ≤ (1900 : Nat)) ∧ ∀ (z13 : Rat), (z13 = match rightZ na (List.map Int.toNat (List.take la.length (allL la))) with | true => (↑(zV na (List.map Int.toNat (List.take la.length (allL la)))) : Rat) | false => (0 : Rat)) → 8 ≤ (1900 : Nat) ∧ ∀ (z14 : Rat), (z14 = match rightZ na la with | true => (↑(zV na la) : Rat) | false => (0 : Rat)) → la.length + (3 : Nat) + (6 : Nat) + (11 : Nat) + (6 : Nat) ≤ (800000 : Nat) ∧ ifB (!(zNeg z13.num == zNeg z14.num && eqB (digs (1000000000 : Nat) z13.num.natAbs) (digs (1000000000 : Nat) z14.num.natAbs) && (zNeg (↑z13.den : Int) == zNeg (↑z14.den : Int) && eqB (digs (1000000000 : Nat) (↑z13.den : Int).natAbs) (digs (1000000000 : Nat) (↑z14.den : Int).natAbs)))) (true = true ∧ Sub (PV.f (Lf.v (Value.bool false))) (PV.f (Lf.v (Value.bool true)))) ((((True ∧ (la.length ≤ (allL la).length ∧ ∀ (x : Int), x ∈ List.take la.length (allL la) → (0 : Int) ≤ x ∧ x < (4294967296 : Int)) ∧ True ∧ (la'.length ≤ (allL la').length ∧ ∀ (x : Int), x ∈ List.take la'.length (allL la') → (0 : Int) ≤ x ∧ x < (4294967296 : Int)) ∧ True) ∧ True) ∧ la.length ≤ (1900 : Nat) ∧ la'.length ≤ (1900 : Nat) ∧ (zText (takeQ na (List.map Int.toNat (List.take la.length (allL la))) na' (List.map Int.toNat (List.take la'.length (allL la')))).num).length ≤ (1000000 : Nat) ∧ (zText (↑(takeQ na (List.map Int.toNat (List.take la.length (allL la))) na' (List.map Int.toNat (List.take la'.length (allL la')))).den : Int)).length ≤ (1000000 : Nat)) ∧ ((8 : Nat) ≤ (1900 : Nat) ∧ (8 : Nat) ≤ (1900 : Nat) ∧ (zText (takeQ na la na' la').num).length ≤ (1000000 : Nat) ∧ (zText (↑(takeQ na la na' la').den : Int)).length ≤ (1000000 : Nat)) ∧ ifB (!(ByteArray.mk (textQ (takeQ na (List.map Int.toNat (List.take la.length (allL la))) na' (List.map Int.toNat (List.take la'.length (allL la'))))).toArray).toList == (ByteArray.mk (textQ (takeQ na la na' la')).toArray).toList) (true = true ∧ Sub (PV.f (Lf.v (Value.bool false))) (PV.f (Lf.v (Value.bool true)))) ((((True ∧ (la.length ≤ (allL la).length ∧ ∀ (x : Int), x ∈ List.take la.length (allL la) → (0 : Int) ≤ x ∧ x < (4294967296 : Int)) ∧ True ∧ (la'.length ≤ (allL la').length ∧ ∀ (x : Int), x ∈ List.take la'.length (allL la') → (0 : Int) ≤ x ∧ x < (4294967296 : Int)) ∧ True) ∧ True) ∧ la.length ≤ (1900 : Nat) ∧ la'.length ≤ (1900 : Nat)) ∧ ∀ (z15 : Int), z15 = (takeQ na (List.map Int.toNat (List.take la.length (allL la))) na' (List.map Int.toNat (List.take la'.length (allL la')))).floor → ((8 : Nat) ≤ (900 : Nat) ∧ (8 : Nat) ≤ (900 : Nat)) ∧ ∀ (z16 : Int), z16 = (takeQ na la na' la').floor → la.length + (4 : Nat) + (12 : Nat) ≤ (900000 : Nat) ∧ ifB (!(zNeg z15 == zNeg z16 && eqB (digs (1000000000 : Nat) z15.natAbs) (digs (1000000000 : Nat) z16.natAbs))) (true = true ∧ Sub (PV.f (Lf.v (Value.bool false))) (PV.f (Lf.v (Value.bool true)))) (((na = na ∧ allL la = allL la ∧ la.length = la.length ∧ la.length ≤ (100000 : Nat) ∧ (8 : Nat) ≤ (100000 : Nat)) ∧ na' = na' ∧ allL la' = allL la' ∧ la'.length = la'.length ∧ la'.length ≤ (100000 : Nat) ∧ (8 : Nat) ≤ (100000 : Nat)) ∧ ((nb = nb ∧ allL lb = allL lb ∧ lb.length = lb.length ∧ lb.length ≤ (100000 : Nat) ∧ (8 : Nat) ≤ (100000 : Nat)) ∧ nb' = nb' ∧ allL lb' = allL lb' ∧ lb'.length = lb'.length ∧ lb'.length ≤ (100000 : Nat) ∧ (8 : Nat) ≤ (100000 : Nat)) ∧ true = true ∧ Sub (PV.f (Lf.v (Value.bool true))) (PV.f (Lf.v (Value.bool true))))))))))))))) (by kernel_rfl) ?_
        refine ⟨?s0, ⟨?s1, ⟨?s2, ⟨?s3, fun z1 => fun hz1 => fun z2 => fun hz2 => ⟨?s4, fun z3 => fun hz3 => fun z4 => fun hz4 => ⟨?s5, fun z5 => fun hz5 => fun z6 => fun hz6 => ⟨?s6, fun z7 => fun hz7 => fun z8 => fun hz8 => ifB_iff.2 ⟨fun hb0 => ⟨rfl, ?m0⟩, fun hb0 => ifB_iff.2 ⟨fun hb1 => ⟨rfl, ?m1⟩, fun hb1 => ⟨?s7, ifB_iff.2 ⟨fun hb2 => ⟨rfl, ?m2⟩, fun hb2 => ⟨?s8, ifB_iff.2 ⟨fun hb3 => ⟨rfl, ?m3⟩, fun hb3 => ⟨?s9, ⟨?s10, ifB_iff.2 ⟨fun hb4 => ⟨rfl, ?m4⟩, fun hb4 => ⟨?s11, ⟨?s12, ifB_iff.2 ⟨fun hb5 => ⟨rfl, ?m5⟩, fun hb5 => ⟨?s13, fun z9 => fun hz9 => ⟨?s14, fun z10 => fun hz10 => ⟨?s15, ifB_iff.2 ⟨fun hb6 => ⟨rfl, ?m6⟩, fun hb6 => ⟨?s16, fun z11 => fun hz11 => ⟨?s17, fun z12 => fun hz12 => ⟨?s18, ifB_iff.2 ⟨fun hb7 => ⟨rfl, ?m7⟩, fun hb7 => ⟨?s19, fun z13 => fun hz13 => ⟨?s20, fun z14 => fun hz14 => ⟨?s21, ifB_iff.2 ⟨fun hb8 => ⟨rfl, ?m8⟩, fun hb8 => ⟨?s22, ⟨?s23, ifB_iff.2 ⟨fun hb9 => ⟨rfl, ?m9⟩, fun hb9 => ⟨?s24, fun z15 => fun hz15 => ⟨?s25, fun z16 => fun hz16 => ⟨?s26, ifB_iff.2 ⟨fun hb10 => ⟨rfl, ?m10⟩, fun hb10 => ⟨?s27, ⟨?s28, ⟨rfl, ?m11⟩⟩⟩⟩⟩⟩⟩⟩⟩⟩⟩⟩⟩⟩⟩⟩⟩⟩⟩⟩⟩⟩⟩⟩⟩⟩⟩⟩⟩⟩⟩⟩⟩⟩⟩⟩⟩⟩⟩⟩⟩
        case s0 => exact ⟨by decide, by rw [hw]; rfl⟩
        case m11 => exact .refl _
        all_goals clear hw hx hy hp hg
        all_goals simp only [allL_take, map_back] at *
        all_goals try (subst hz1 hz2 hz3 hz4 hz5 hz6 hz7 hz8)
        all_goals try (subst hz9 hz10)
        all_goals try (subst hz11 hz12)
        all_goals try (subst hz13 hz14)
        all_goals try (subst hz15 hz16)
        case m0 => simp at hb0
        case m1 => simp at hb1
        case m2 => simp [eqB_self] at hb2
        case m3 => simp [eqB_self] at hb3
        case m4 => simp at hb4
        case m5 => simp at hb5
        case m6 => simp [eqB_self] at hb6
        case m7 => simp [eqB_self] at hb7
        case m8 => simp [eqB_self] at hb8
        case m9 => simp at hb9
        case m10 => simp [eqB_self] at hb10
        all_goals repeat' apply And.intro
        all_goals first
          | trivial
          | omega
          | exact e1.1
          | exact e1.2
          | exact e2.1
          | exact e2.2
          | exact e3.1
          | exact e3.2
          | exact e4.1
          | exact e4.2
      · refine ⟨tellsL false, tellsC false, [rawQ na la ka na' la' ka', rawQ nb lb kb nb' lb' kb'], .cons (sub_rawQ hx) (.cons (sub_rawQ hy) .nil), rfl, fun hg => ?_⟩
        have hw : ([((na, la, ka), (na', la', ka')), ((nb, lb, kb), (nb', lb', kb'))] : List QE).all fewE = false := by
          simp only [List.all_cons, List.all_nil, Bool.and_true, Bool.eq_false_iff, ne_eq, Bool.and_eq_true, fewE_big]
          omega
        refine cast_rfl (p := (2 ≤ 1000000 ∧ ([((na, la, ka), na', la', ka'), ((nb, lb, kb), nb', lb', kb')].all fewE && decide ([((na, la, ka), na', la', ka'), ((nb, lb, kb), nb', lb', kb')].length ≤ 6)) = false) ∧ true = true ∧ Sub (PV.f (Lf.v (Value.bool true))) (PV.f (Lf.v (Value.bool true)))) (by kernel_rfl) ?_
        refine ⟨?s0, ⟨rfl, ?m0⟩⟩
        case s0 => exact ⟨by decide, by rw [hw]; rfl⟩
        case m0 => exact .refl _
    · cases hs
  · cases hs

end Go.Proofs.YtjfncepmpabcnaaGreatDoor
