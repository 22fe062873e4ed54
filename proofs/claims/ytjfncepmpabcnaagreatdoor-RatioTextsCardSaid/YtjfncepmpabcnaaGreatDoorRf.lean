/- The reference of chapter 2 by the pure run: the other ones. -/
import Derived.Test.YtjfncepmpabcnaaGreatDoorRd
namespace Go.Proofs.YtjfncepmpabcnaaGreatDoor
open Go.RowKit
set_option linter.unusedVariables false
set_option maxRecDepth 100000

theorem vB_digs (n : Nat) : vB (digs 1000000000 n) = n := val_digs _ (by omega) n
theorem zV_vB (neg : Bool) (l : List Nat) : zV neg l = zOf neg (vB l) := rfl
theorem zV_dig (neg : Bool) (n : Nat) : zV neg (digs 1000000000 n) = zOf neg n := by unfold zV; rw [val_digs _ (by omega)]
theorem sub_zP {z : Int} {k k' : Nat} (h : ZB z k') : Sub (zP z k) (zP z k') := ⟨fun H v hv => by
  obtain ⟨vs, rfl, h1⟩ := PRs.of_agg hv
  obtain ⟨p, q, rfl⟩ : ∃ p q, vs = [p, q] := by
    have := h1.1
    match vs, this with
    | [p, q], _ => exact ⟨p, q, rfl⟩
  have h2 := (sub_zd (k := k) h).out H q ((h1.2 1 _ _ rfl rfl))
  exact (PRs.cons (h1.2 0 _ _ rfl rfl) (.cons h2 .nil)).agg⟩
theorem asR_good {f g : Lf} {n : Bool} {l : List Nat} {k j : Nat} (h : asR f g = some ((n, l), k, j)) (hf : f.good) (hg : g.good) : l.length ≤ k ∧ (∀ y ∈ l, y < 4294967296) ∧ ZB (zV n l) j := by
  unfold asR at h
  split at h
  · rename_i z z' k'
    cases h
    refine ⟨zd_len hg, digs_small z', ?_⟩
    rw [zV_dig]
    replace hg : ZB z' k := hg
    unfold ZB at hg ⊢
    rw [zOf_abs]; exact hg
  · rename_i n' z' k'
    cases h
    refine ⟨zd_len hg, digs_small z', ?_⟩
    rw [zV_dig]
    replace hg : ZB z' k := hg
    unfold ZB at hg ⊢
    rw [zOf_abs]; exact hg
  · rename_i n' l' k'
    cases h
    exact ⟨hg.1, hg.2, (zV_zb n l hg.2).mono (by have := hg.1; omega)⟩
  · cases h
    exact ⟨Nat.le_refl _, by simp, by cases n <;> (unfold ZB; decide)⟩
  · cases h
theorem pvR_good {x : PV} {n : Bool} {l : List Nat} {k j : Nat} (h : pvR x = some ((n, l), k, j)) (hg : goodP x) : l.length ≤ k ∧ (∀ y ∈ l, y < 4294967296) ∧ ZB (zV n l) j := by
  unfold pvR at h
  split at h
  · exact asR_good h hg.1.1 hg.2.1.1
  · cases h
theorem rowsR_good {R : List (List Lf)} {l : List ((Bool × List Nat) × Nat × Nat)} (h : rowsR R = some l) (hg : (Lf.row 2 R).deep) : ∀ x ∈ l, x.1.2.length ≤ x.2.1 ∧ (∀ y ∈ x.1.2, y < 4294967296) ∧ ZB (zV x.1.1 x.1.2) x.2.2 := by
  obtain ⟨h1, h2⟩ := rowsR_at h
  intro x hx
  obtain ⟨i, hi, rfl⟩ := List.getElem_of_mem hx
  obtain ⟨f, g, h3, h4⟩ := h2 i _ (List.getElem?_eq_getElem hi)
  have hil : i < R.length := (List.getElem?_eq_some_iff.1 h3).1
  have hget : R.getD i [] = [f, g] := by rw [List.getD_eq_getElem?_getD, h3]; rfl
  have h5 : ∀ (j : Nat) (q : Lf), ([f, g] : List Lf)[j]? = some q → q.good := by
    intro j q hq
    have := hg i hil j q
    dsimp only at this
    rw [hget] at this
    exact this hq
  exact asR_good h4 (h5 0 f rfl) (h5 1 g rfl)
theorem sliceR_good {y : Lf} {l : List ((Bool × List Nat) × Nat × Nat)} (h : sliceR y = some l) (hg : y.deep) : ∀ x ∈ l, x.1.2.length ≤ x.2.1 ∧ (∀ y ∈ x.1.2, y < 4294967296) ∧ ZB (zV x.1.1 x.1.2) x.2.2 := by
  unfold sliceR at h
  split at h
  · exact rowsR_good h hg
  · rename_i L
    cases h
    intro x hx
    obtain ⟨e, he, rfl⟩ := List.mem_map.1 hx
    obtain ⟨i, hi, rfl⟩ := List.getElem_of_mem he
    have h1 := hg i hi 1 _ rfl
    have h2 : L.getD i (false, [], 0) = L[i] := by rw [List.getD_eq_getElem?_getD, List.getElem?_eq_getElem hi]; rfl
    rw [h2] at h1
    obtain ⟨h3, h4⟩ := h1
    exact ⟨h3, h4, (zV_zb _ _ h4).mono (by dsimp only; omega)⟩
  · cases h; intro x hx; cases hx
  · cases h
theorem asR_j {f g : Lf} {n : Bool} {l : List Nat} {k j : Nat} (h : asR f g = some ((n, l), k, j)) : j ≤ k + 1 := by
  unfold asR at h
  split at h <;> cases h <;> omega
theorem sliceR_j {y : Lf} {l : List ((Bool × List Nat) × Nat × Nat)} (h : sliceR y = some l) : ∀ x ∈ l, x.2.2 ≤ x.2.1 + 1 := by
  unfold sliceR at h
  split at h
  · obtain ⟨h1, h2⟩ := rowsR_at h
    intro x hx
    obtain ⟨i, hi, rfl⟩ := List.getElem_of_mem hx
    obtain ⟨f, g, h3, h4⟩ := h2 i _ (List.getElem?_eq_getElem hi)
    exact asR_j h4
  · cases h
    intro x hx
    obtain ⟨e, he, rfl⟩ := List.mem_map.1 hx
    exact Nat.le_refl _
  · cases h; intro x hx; cases hx
  · cases h
theorem bndS_size : ∀ (l : List ((Bool × List Nat) × Nat × Nat)) (a : Nat), (∀ x ∈ l, x.2.2 ≤ x.2.1 + 1) → bndS l a ≤ a + sizeR l
  | [], a, _ => Nat.le_refl _
  | x :: l, a, h => by
    have h1 := bndS_size l (a + x.2.2 + 1) fun y hy => h y (List.mem_cons_of_mem _ hy)
    have h2 := h x List.mem_cons_self
    simp only [bndS, sizeR]
    omega
theorem sizeR_mem : ∀ {l : List ((Bool × List Nat) × Nat × Nat)}, ∀ x ∈ l, x.2.1 + 2 ≤ sizeR l
  | y :: l, x, h => by
    simp only [sizeR]
    rcases List.mem_cons.1 h with rfl | h
    · omega
    · have := sizeR_mem x h; omega
theorem subB_of {x y : Lf} (h : Sub (.f x) (.f y)) : SubB (.f x) (.f y) := ⟨fun H B v hv => .f ((h.out H v (.f hv.rd)).rd)⟩
theorem subB_zdB {z z' : Int} {k k' : Nat} (hz : z = z') (h : ZB z' k') : SubB (.f (.zd z k)) (.f (.zd z' k')) := by subst hz; exact subB_of (sub_zd h)
theorem sizeR_len : ∀ l : List ((Bool × List Nat) × Nat × Nat), 2 * l.length ≤ sizeR l
  | [] => Nat.le_refl _
  | x :: l => by have := sizeR_len l; simp only [sizeR, List.length_cons]; omega
/-- As rows of numbers. -/
def zsOf (l : List ((Bool × List Nat) × Nat × Nat)) : List (Bool × List Nat × Nat) := l.map fun x => (x.1.1, x.1.2, x.2.1)
theorem zsOf_at {l : List ((Bool × List Nat) × Nat × Nat)} {i : Nat} (h : i < l.length) : (zsOf l).getD i (false, [], 0) = ((l[i]).1.1, (l[i]).1.2, (l[i]).2.1) := by
  unfold zsOf
  simp only [List.getD_eq_getElem?_getD, List.getElem?_map, List.getElem?_eq_getElem h, Option.map_some, Option.getD_some]
theorem sub_zs {y : Lf} {l : List ((Bool × List Nat) × Nat × Nat)} (h : sliceR y = some l) : Sub (.f y) (.f (.zs (zsOf l))) := by
  refine ⟨fun H v hv => ?_⟩
  unfold sliceR at h
  split at h
  · rename_i R
    obtain ⟨h1, h2⟩ := rowsR_at h
    cases hv.rd with
    | @sl _ k n get ao cap hview hg hc hm h0 b o val hb hcell hk hrec =>
      simp only [Lf.view, Option.some.injEq, Prod.mk.injEq] at hview
      obtain ⟨rfl, rfl, rfl⟩ := hview
      refine .f (.slf (fun _ => rfl) (f := .zs (zsOf l)) (get := fun i => [.v (.bool ((zsOf l).getD i (false, [], 0)).1), .lr ((zsOf l).getD i (false, [], 0)).2.1 ((zsOf l).getD i (false, [], 0)).2.2]) (by simp [Lf.view, zsOf, h1]) trivial hc hm h0 b o val hb hcell (fun i hi => rfl) (fun i hi j x hx => ?_))
      have hil : i < l.length := by rw [h1]; exact hi
      obtain ⟨f, g, h3, h4⟩ := h2 i _ (List.getElem?_eq_getElem hil)
      have hget : R.getD i [] = [f, g] := by rw [List.getD_eq_getElem?_getD, h3]; rfl
      rw [zsOf_at hil] at hx
      have r0 := hrec i hi 0 f (by show (R.getD i [])[0]? = _; rw [hget]; rfl)
      have r1 := hrec i hi 1 g (by show (R.getD i [])[1]? = _; rw [hget]; rfl)
      generalize hli : l[i] = e at *
      obtain ⟨⟨n, q⟩, k, jj⟩ := e
      obtain ⟨r2, r3⟩ := rd_raw h4 r0 r1
      match j with
      | 0 => cases hx; exact r2
      | 1 => cases hx; exact r3
      | j + 2 => cases hx
  · rename_i L
    cases h
    have : zsOf (L.map fun e => ((e.1, e.2.1), e.2.2, e.2.2 + 1)) = L := by
      unfold zsOf
      rw [List.map_map]
      have : ((fun x : (Bool × List Nat) × Nat × Nat => (x.1.1, x.1.2, x.2.1)) ∘ fun e : Bool × List Nat × Nat => ((e.1, e.2.1), e.2.2, e.2.2 + 1)) = id := by funext e; rfl
      rw [this, List.map_id]
    rw [this]; exact hv
  · cases h
    have := hv.rd.val rfl
    subst this
    exact .f (nil_rd (f := .zs []) rfl trivial)
  · cases h
def sNormZ : Spec
  | [x] => match pvR x with
    | some ((n, l), k, j) => some (some (k ≤ 1000000), .nm Int (zV n l) fun z => zP z j)
    | none => none
  | _ => none
def sOfB : Spec
  | [.f (.v (.bool neg)), .f x] => match limL x with
    | some (l, k) => some (some (k ≤ 1000000), .nm Int (zV neg l) fun z => zP z (k + 1))
    | none => none
  | _ => none
section
variable {E : World → Hp → Prop}
theorem cNormZ : Contract Tryz.prog E 58 sNormZ := by
  intro xs p r hs hp w H vs hf hE hvs
  unfold sNormZ at hs
  split at hs
  · rename_i x
    split at hs
    · rename_i n l k j hx
      cases hs
      have hb := hp _ rfl
      obtain ⟨v, rfl, hv⟩ := one_arg hvs
      obtain ⟨h1, h2, h3⟩ := pvR_iz hx hv hf
      refine (refNorm_any v _ k w (h1.iz h2) hb).mono ?_
      rintro e w' ⟨u, rfl, hio, hbl⟩
      exact ⟨_, u, rfl, ext_all hf hbl, io_pr hio h3⟩
    · cases hs
  · cases hs
theorem cOfB : Contract Tryz.prog E 61 sOfB := by
  intro xs p r hs hp w H vs hf hE hvs
  unfold sOfB at hs
  split at hs
  · rename_i neg x
    split at hs
    · rename_i l k hx
      cases hs
      have hb := hp _ rfl
      obtain ⟨u, v, rfl, hu, hv⟩ := two_args hvs
      have := hu.val
      subst this
      obtain ⟨h1, h2, h3⟩ := limL_rd hx hv.rd hf
      refine (refofR_any neg v l w h1 (by omega) h3).mono ?_
      rintro e w' ⟨u, rfl, hio, hbl⟩
      exact ⟨_, u, rfl, ext_all hf hbl, io_pr hio ((zV_zb neg l h3).mono (by omega))⟩
    · cases hs
  · cases hs
theorem cOfR : Contract Tryz.prog E 56 sOf := by
  intro xs p r hs hp w H vs hf hE hvs
  unfold sOf at hs
  split at hs
  · rename_i n
    cases hs
    obtain ⟨h1, h2⟩ := hp _ rfl
    obtain ⟨v, rfl, hv⟩ := one_arg hvs
    have := hv.val
    subst this
    refine (refOfZ_any n w h1 h2).mono ?_
    rintro e w' ⟨u, rfl, hio, hbl⟩
    refine ⟨_, u, rfl, ext_all hf hbl, io_pr hio ?_⟩
    show n.natAbs < 1000000000 ^ 3
    have : (1000000000 : Nat) ^ 3 = 1000000000000000000000000000 := by decide
    omega
  · cases hs
end
def sRightL : Spec
  | [.f x] => match limL x with
    | some (l, k) => some (some (k ≤ 1000000), .one (.f (.v (.bool (rgtB l)))))
    | none => none
  | _ => none
def sTextL : Spec
  | [.f x] => match limL x with
    | some (l, k) => some (some (k ≤ 1000000), .one (.f (.v (.string ⟨(Lib.decDigits (vB l)).toArray⟩))))
    | none => none
  | _ => none
theorem rgt_last {l : List Nat} (h : 0 < l.length) : (l.getLast? != some 0) = (l.getD (l.length - 1) 0 != 0) := by
  rw [List.getLast?_eq_getElem?, List.getD_eq_getElem?_getD, List.getElem?_eq_getElem (show l.length - 1 < l.length by omega)]
  simp [bne]
theorem cRightL {E : World → Hp → Prop} (hU : Up E) : Contract Tryz.prog E 121 sRightL := by
  refine contract_loopsG [] Tryz.ntmps121 Tryz.func121 (by kernel_rfl) (by kernel_rfl) hU trivial ?_
  intro xs p r hs hp
  unfold sRightL at hs
  split at hs
  · rename_i x
    split at hs
    · rename_i l k hx
      cases hs
      have hk := hp _ rfl
      refine ⟨[.f (.lr l k)], [(2, .s ⟨Nat, fun i => ⟨[(0, .f (.lr l k)), (3, .f (.v (.int .i64 (i : Nat))))], []⟩, fun i => i ≤ l.length ∧ ∀ j, j < i → dg l j < 1000000000, fun i => l.length - i⟩)], .cons (limL_sub hx) .nil, rfl, fun hgx hg => ?_⟩
      obtain ⟨a1, a2⟩ := hg.1.1
      refine cast_rfl (p := ∃ (x1 : Nat), (True ∧ SubB (PV.f (Lf.lr l k)) (PV.f (Lf.lr l k)) ∧ SubB (PV.f (Lf.v (Value.int IntKind.i64 (0 : Int)))) (PV.f (Lf.v (Value.int IntKind.i64 (↑x1 : Int)))) ∧ True) ∧ (x1 ≤ l.length ∧ ∀ (j : Nat), j < x1 → dg l j < 1000000000) ∧ True ∧ ∀ (z2 : Nat), (z2 ≤ l.length ∧ ∀ (j : Nat), j < z2 → dg l j < 1000000000) → True → ifB (decide ((↑z2 : Int) < (↑l.length : Int))) (((0 : Int) ≤ (↑z2 : Int) ∧ (↑z2 : Int) < (↑l.length : Int)) ∧ ifB (decide ((↑(l.getD (↑z2 : Int).toNat 0) : Int) ≥ (1000000000 : Int))) (true = true ∧ Sub (PV.f (Lf.v (Value.bool false))) (PV.f (Lf.v (Value.bool (rgtB l))))) (∃ (x3 : Nat), (True ∧ SubB (PV.f (Lf.lr l k)) (PV.f (Lf.lr l k)) ∧ SubB (PV.f (Lf.v (Value.int IntKind.i64 (IntKind.i64.wrap ((↑z2 : Int) + (1 : Int)))))) (PV.f (Lf.v (Value.int IntKind.i64 (↑x3 : Int)))) ∧ True) ∧ (x3 ≤ l.length ∧ ∀ (j : Nat), j < x3 → dg l j < 1000000000) ∧ True ∧ (l.length - x3).succ.le (l.length - z2))) (ifB ((↑l.length : Int) == (0 : Int)) (true = true ∧ Sub (PV.f (Lf.v (Value.bool true))) (PV.f (Lf.v (Value.bool (rgtB l))))) (((0 : Int) ≤ IntKind.i64.wrap ((↑l.length : Int) - (1 : Int)) ∧ IntKind.i64.wrap ((↑l.length : Int) - (1 : Int)) < (↑l.length : Int)) ∧ true = true ∧ Sub (PV.f (Lf.v (Value.bool ((↑(l.getD (IntKind.i64.wrap ((↑l.length : Int) - (1 : Int))).toNat 0) : Int) != (0 : Int))))) (PV.f (Lf.v (Value.bool (rgtB l))))))) (by kernel_rfl) ?_
      refine ⟨?x0, ⟨⟨trivial, ⟨.refl _, ⟨?m0, trivial⟩⟩⟩, ⟨?s0, ⟨trivial, fun z2 => fun hq0 => fun _ => ifB_iff.2 ⟨fun hb1 => ⟨?s1, ifB_iff.2 ⟨fun hb2 => ⟨rfl, ?m1⟩, fun hb2 => ⟨?x1, ⟨⟨trivial, ⟨.refl _, ⟨?m2, trivial⟩⟩⟩, ⟨?s2, ⟨trivial, ?m3⟩⟩⟩⟩⟩⟩, fun hb1 => ifB_iff.2 ⟨fun hb3 => ⟨rfl, ?m4⟩, fun hb3 => ⟨?s3, ⟨rfl, ?m5⟩⟩⟩⟩⟩⟩⟩⟩
      case x0 => exact 0
      case x1 => exact z2 + 1
      case m0 => exact .refl _
      case s0 => exact ⟨Nat.zero_le _, fun j hj => absurd hj (Nat.not_lt_zero j)⟩
      case s1 => exact ⟨by omega, of_decide_eq_true hb1⟩
      case m1 =>
        have h1 := of_decide_eq_true hb1
        have h2 := of_decide_eq_true hb2
        rw [Int.toNat_natCast] at h2
        rw [rgtB_out (k := z2) (by omega) (by unfold dg; omega)]; exact .refl _
      case m2 => exact subB_succ (by have := of_decide_eq_true hb1; omega)
      case s2 =>
        have h1 := of_decide_eq_true hb1
        have h2 := of_decide_eq_false hb2
        rw [Int.toNat_natCast] at h2
        refine ⟨by omega, fun j hj => ?_⟩
        rcases Nat.lt_or_ge j z2 with h | h
        · exact hq0.2 j h
        · obtain rfl : j = z2 := by omega
          unfold dg; omega
      case m3 => have := of_decide_eq_true hb1; show l.length - (z2 + 1) + 1 ≤ l.length - z2; omega
      case m4 =>
        have h1 := eq_of_beq hb3
        have : l = [] := List.length_eq_zero_iff.1 (by omega)
        subst this; exact .refl _
      all_goals have h0 : 0 < l.length := (by
        rcases Nat.eq_zero_or_pos l.length with h | h
        · rw [h] at hb3; cases hb3
        · exact h)
      case s3 => rw [wI _ (by omega) (by omega)]; exact ⟨by omega, by omega⟩
      case m5 =>
        have h1 := of_decide_eq_false hb1
        have hw : (IntKind.i64.wrap ((l.length : Int) - 1)).toNat = l.length - 1 := by rw [wI _ (by omega) (by omega)]; omega
        have hall : l.all (fun x => decide (x < 1000000000)) = true := by
          rw [List.all_eq_true]
          intro x hx
          obtain ⟨j, hj, rfl⟩ := List.getElem_of_mem hx
          have h2 := hq0.2 j (by omega)
          rw [dg_eq _ _ hj] at h2
          exact decide_eq_true h2
        have hr : rgtB l = (l.getD (l.length - 1) 0 != 0) := by unfold rgtB; rw [hall, Bool.true_and, rgt_last h0]
        rw [hw, hr]
        refine sub_bool ?_
        rw [Bool.eq_iff_iff, bne_iff_ne, bne_iff_ne]
        omega
    · cases hs
  · cases hs
/-- The decimals' signs. -/
theorem dec_digs : ∀ n : Nat, 0 < n → Lib.decDigits n = ((digs 10 n).map (fun d => UInt8.ofNat (48 + d))).reverse := by
  intro n
  induction n using Nat.strongRecOn with
  | _ n ih =>
    intro h0
    rw [digs_cons 10 (by omega) n (by omega)]
    by_cases h : n < 10
    · rw [Lib.decDigits_one h, Nat.div_eq_of_lt h, digs_zero, Nat.mod_eq_of_lt h]; rfl
    · rw [Lib.decDigits, dif_neg h, ih (n / 10) (by omega) (by omega)]
      simp
theorem nums_str (l : List Nat) : strOfNums (iN l) = ⟨(l.map (fun d => UInt8.ofNat d)).toArray⟩ := by
  unfold strOfNums iN
  simp [List.map_map, Function.comp_def]
theorem drop_set_last {l : List Nat} {j x : Nat} (h : j < l.length) : (l.set j x).drop j = x :: l.drop (j + 1) := by
  rw [drop_dg _ j (by simpa using h), dg_set1 _ _ _ _ h, if_pos rfl, List.drop_set_of_lt (by omega)]
theorem take_snocN {l : List Nat} {i : Nat} (h : i < l.length) : l.take (i + 1) = l.take i ++ [dg l i] := by
  rw [List.take_add_one, List.getElem?_eq_getElem h, dg_eq _ _ h]; rfl
theorem cTextL {E : World → Hp → Prop} (hU : Up E) : Contract Tryz.prog E 124 sTextL := by
  refine contract_loopsG [(110, sReadL)] Tryz.ntmps124 Tryz.func124 (by kernel_rfl) (by kernel_rfl) hU ⟨cReadL hU, trivial⟩ ?_
  intro xs p r hs hp
  unfold sTextL at hs
  split at hs
  · rename_i x
    split at hs
    · rename_i l k hx
      cases hs
      have hk := hp _ rfl
      refine ⟨[.f (.lr l k)], [(6, .s ⟨Nat × List Nat, fun x => ⟨[(3, .f (.is .u8 (iN (digs 10 (vB l))))), (4, .wr 0), (5, .f (.v (.int .i64 (x.1 : Nat))))], [.own 5 (.is .u8 (iN x.2))]⟩,
        fun x => x.2.length = (digs 10 (vB l)).length ∧ x.1 ≤ x.2.length ∧ x.2.drop (x.2.length - x.1) = (((digs 10 (vB l)).take x.1).map (48 + ·)).reverse, fun x => (digs 10 (vB l)).length - x.1⟩)], .cons (limL_sub hx) .nil, rfl, fun hgx hg => ?_⟩
      obtain ⟨a1, a2⟩ := hg.1.1
      have hlen := lim_len a2 a1
      refine cast_rfl (p := k ≤ 1000000 ∧ ∀ (z1 : Nat), z1 = vB l → ifB ((↑(iN (digs 10 z1)).length : Int) == (0 : Int)) (true = true ∧ Sub (PV.f (Lf.v (Value.string (ByteArray.mk #[(48 : UInt8)])))) (PV.f (Lf.v (Value.string (ByteArray.mk (Lib.decDigits (vB l)).toArray))))) (((0 : Int) ≤ (↑(iN (digs 10 z1)).length : Int) ∧ (↑(iN (digs 10 z1)).length : Int) ≤ (↑(iN (digs 10 z1)).length : Int) ∧ (↑(iN (digs 10 z1)).length : Int) * (↑1 : Int) ≤ (140737488355328 : Int) ∧ (↑(iN (digs 10 z1)).length : Int) ≤ (↑9223372036854775807 : Int)) ∧ ∃ (x2 : Nat × List Nat), (((5 = 5 ∧ Lf.is IntKind.u8 (iN x2.snd) = Lf.is IntKind.u8 (List.replicate (↑(iN (digs 10 z1)).length : Int).toNat (0 : Int))) ∧ True) ∧ SubB (PV.f (Lf.is IntKind.u8 (iN (digs 10 z1)))) (PV.f (Lf.is IntKind.u8 (iN (digs 10 (vB l))))) ∧ SubB (PV.wr 0) (PV.wr 0) ∧ SubB (PV.f (Lf.v (Value.int IntKind.i64 (0 : Int)))) (PV.f (Lf.v (Value.int IntKind.i64 (↑x2.fst : Int)))) ∧ True) ∧ (x2.snd.length = (digs 10 (vB l)).length ∧ x2.fst ≤ x2.snd.length ∧ List.drop (x2.snd.length - x2.fst) x2.snd = (List.map (fun (x : Nat) => 48 + x) (List.take x2.fst (digs 10 (vB l)))).reverse) ∧ True ∧ ∀ (z3 : Nat × List Nat), z3.snd.length = (digs 10 (vB l)).length ∧ z3.fst ≤ z3.snd.length ∧ List.drop (z3.snd.length - z3.fst) z3.snd = (List.map (fun (x : Nat) => 48 + x) (List.take z3.fst (digs 10 (vB l)))).reverse → True → ifB (decide ((↑z3.fst : Int) < (↑(iN (digs 10 (vB l))).length : Int))) (((0 : Int) ≤ (↑z3.fst : Int) ∧ (↑z3.fst : Int) < (↑(iN (digs 10 (vB l))).length : Int)) ∧ ((0 : Int) ≤ IntKind.i64.wrap (IntKind.i64.wrap ((↑(iN (digs 10 (vB l))).length : Int) - (1 : Int)) - (↑z3.fst : Int)) ∧ IntKind.i64.wrap (IntKind.i64.wrap ((↑(iN (digs 10 (vB l))).length : Int) - (1 : Int)) - (↑z3.fst : Int)) < (↑(iN z3.snd).length : Int)) ∧ ∃ (x4 : Nat × List Nat), (((5 = 5 ∧ Lf.is IntKind.u8 (iN x4.snd) = Lf.is IntKind.u8 ((iN z3.snd).set (IntKind.i64.wrap (IntKind.i64.wrap ((↑(iN (digs 10 (vB l))).length : Int) - (1 : Int)) - (↑z3.fst : Int))).toNat (IntKind.u8.wrap ((48 : Int) + (iN (digs 10 (vB l))).getD (↑z3.fst : Int).toNat (0 : Int))))) ∧ True) ∧ SubB (PV.f (Lf.is IntKind.u8 (iN (digs 10 (vB l))))) (PV.f (Lf.is IntKind.u8 (iN (digs 10 (vB l))))) ∧ SubB (PV.wr 0) (PV.wr 0) ∧ SubB (PV.f (Lf.v (Value.int IntKind.i64 (IntKind.i64.wrap ((↑z3.fst : Int) + (1 : Int)))))) (PV.f (Lf.v (Value.int IntKind.i64 (↑x4.fst : Int)))) ∧ True) ∧ (x4.snd.length = (digs 10 (vB l)).length ∧ x4.fst ≤ x4.snd.length ∧ List.drop (x4.snd.length - x4.fst) x4.snd = (List.map (fun (x : Nat) => 48 + x) (List.take x4.fst (digs 10 (vB l)))).reverse) ∧ True ∧ ((digs 10 (vB l)).length - x4.fst).succ.le ((digs 10 (vB l)).length - z3.fst)) (true = true ∧ Sub (PV.f (Lf.v (Value.string (strOfNums (iN z3.snd))))) (PV.f (Lf.v (Value.string (ByteArray.mk (Lib.decDigits (vB l)).toArray))))))) (by kernel_rfl) ?_
      refine ⟨?s0, fun z1 => fun hz1 => ifB_iff.2 ⟨fun hb0 => ⟨rfl, ?m0⟩, fun hb0 => ⟨?s1, ⟨?x0, ⟨?s2, ⟨?s3, ⟨trivial, fun z3 => fun hq1 => fun _ => ifB_iff.2 ⟨fun hb2 => ⟨?s4, ⟨?s5, ⟨?x1, ⟨?s6, ⟨?s7, ⟨trivial, ?m1⟩⟩⟩⟩⟩⟩, fun hb2 => ⟨rfl, ?m2⟩⟩⟩⟩⟩⟩⟩⟩⟩
      case s0 => exact hk
      case x0 => exact (0, List.replicate (digs 10 (vB l)).length 0)
      case x1 => exact (z3.1 + 1, z3.2.set (z3.2.length - 1 - z3.1) (48 + dg (digs 10 (vB l)) z3.1))
      all_goals subst hz1
      case m0 =>
        have h1 := eq_of_beq hb0
        rw [iN_len] at h1
        have h2 : digs 10 (vB l) = [] := List.length_eq_zero_iff.1 (by omega)
        have h3 := val_digs 10 (by omega) (vB l)
        rw [h2] at h3
        rw [show vB l = 0 from h3.symm, Lib.decDigits_one (by omega)]; exact .refl _
      all_goals have hn0 : 0 < vB l := (by
        rcases Nat.eq_zero_or_pos (vB l) with h | h
        · rw [h] at hb0; cases hb0
        · exact h)
      case s1 => rw [iN_len]; exact ⟨by omega, by omega, by omega, by omega⟩
      case s2 => exact ⟨⟨⟨rfl, by rw [iN_len, Int.toNat_natCast, iN_rep]⟩, trivial⟩, .refl _, .refl _, .refl _, trivial⟩
      case s3 => exact ⟨by simp, Nat.zero_le _, by simp⟩
      all_goals obtain ⟨b1, b2, b3⟩ := hq1
      all_goals rw [iN_len] at hb2
      case s4 => rw [iN_len]; exact ⟨by omega, of_decide_eq_true hb2⟩
      case m2 =>
        have h1 := of_decide_eq_false hb2
        have h2 : z3.1 = z3.2.length := by omega
        rw [h2, Nat.sub_self, List.drop_zero, List.take_of_length_le (by omega)] at b3
        rw [nums_str, b3, dec_digs _ hn0, List.map_reverse, List.map_map]
        exact .refl _
      all_goals have h1 := of_decide_eq_true hb2
      all_goals have h1' : z3.1 < (digs 10 (vB l)).length := (by omega)
      all_goals have hd := dg_lt (digs_lt 10 (by omega) (vB l)) (by omega) z3.1
      all_goals have hw : IntKind.i64.wrap (IntKind.i64.wrap (((iN (digs 10 (vB l))).length : Int) - 1) - (z3.1 : Int)) = ((z3.2.length - 1 - z3.1 : Nat) : Int) := (by rw [iN_len, wI (((digs 10 (vB l)).length : Int) - 1) (by omega) (by omega), wI _ (by omega) (by omega)]; omega)
      case s5 => rw [hw, iN_len]; exact ⟨by omega, by omega⟩
      case s6 => exact ⟨⟨⟨rfl, by rw [hw, Int.toNat_natCast, Int.toNat_natCast, iN_at, wrap8 _ (by omega), iN_set]; congr 2⟩, trivial⟩, .refl _, .refl _, subB_succ (by omega), trivial⟩
      case s7 =>
        refine ⟨by simp [b1], by simp; omega, ?_⟩
        dsimp only
        rw [List.length_set, show z3.2.length - (z3.1 + 1) = z3.2.length - 1 - z3.1 by omega, drop_set_last (by omega), show z3.2.length - 1 - z3.1 + 1 = z3.2.length - z3.1 by omega, b3, take_snocN h1']
        simp
      case m1 => show (digs 10 (vB l)).length - (z3.1 + 1) + 1 ≤ (digs 10 (vB l)).length - z3.1; omega
    · cases hs
  · cases hs
theorem bndS_ge : ∀ (l : List ((Bool × List Nat) × Nat × Nat)) (a : Nat), a ≤ bndS l a
  | [], a => Nat.le_refl _
  | x :: l, a => Nat.le_trans (by omega) (bndS_ge l _)
theorem bndS_take : ∀ (l : List ((Bool × List Nat) × Nat × Nat)) (a i : Nat), bndS (l.take i) a ≤ bndS l a
  | [], a, i => by simp
  | x :: l, a, 0 => by simp only [List.take_zero, bndS]; exact Nat.le_trans (by omega) (bndS_ge l _)
  | x :: l, a, i + 1 => by simp only [List.take_succ_cons, bndS]; exact bndS_take l _ i
theorem gcdR_snoc (l : List ((Bool × List Nat) × Nat × Nat)) (i : Nat) (h : i < l.length) (a : Int) : gcdR (l.take (i + 1)) a = gcd2 (gcdR (l.take i) a) (zV (l[i]).1.1 (l[i]).1.2) := by
  rw [List.take_add_one, List.getElem?_eq_getElem h, gcdR_eq, gcdR_eq, List.foldl_append]; rfl
def sGcdR : Spec
  | [.f y] => match sliceR y with
    | some l => some (some (sizeR l ≤ 20000), .nm Int (gcdR l 0) fun z => zP z (bndS l 0))
    | none => none
  | _ => none
end Go.Proofs.YtjfncepmpabcnaaGreatDoor

namespace Go.Proofs.YtjfncepmpabcnaaGreatDoor
open Go.RowKit
set_option linter.unusedVariables false
set_option maxRecDepth 100000

theorem vB_dig (z : Int) : vB (digs 1000000000 z.natAbs) = z.natAbs := vB_digs _
theorem pvR_j {x : PV} {n : Bool} {l : List Nat} {k j : Nat} (h : pvR x = some ((n, l), k, j)) : j ≤ k + 1 := by
  unfold pvR at h
  split at h
  · exact asR_j h
  · cases h
theorem bndS_mem : ∀ (l : List ((Bool × List Nat) × Nat × Nat)) (a : Nat), ∀ x ∈ l, x.2.2 ≤ bndS l a
  | y :: l, a, x, h => by
    simp only [bndS]
    rcases List.mem_cons.1 h with rfl | h
    · exact Nat.le_trans (by omega) (bndS_ge l _)
    · exact bndS_mem l _ x h
theorem cCmpZ {E : World → Hp → Prop} (hU : Up E) : Contract Tryz.prog E 86 sCmp := by
  refine contract_loopsG [(58, sNormZ), (122, sCmpL)] Tryz.ntmps86 Tryz.func86 (by kernel_rfl) (by kernel_rfl) hU ⟨cNormZ, cCmpL hU, trivial⟩ ?_
  intro xs p r hs hp
  unfold sCmp at hs
  split at hs
  · rename_i x y
    split at hs
    · rename_i n l k j n' l' k' j' hx hy
      cases hs
      have hk := hp _ rfl
      refine ⟨[rawP n l k, rawP n' l' k'], [], .cons (sub_raw hx) (.cons (sub_raw hy) .nil), rfl, fun hgx hg => ?_⟩
      refine cast_rfl (p := k ≤ 1000000 ∧ ∀ (z1 : Int), z1 = zV n l → k' ≤ 1000000 ∧ ∀ (z2 : Int), z2 = zV n' l' → ifB (zNeg z1) (ifB (!zNeg z2) (true = true ∧ Sub (PV.f (Lf.v (Value.int IntKind.i64 (-1 : Int)))) (PV.f (Lf.v (Value.int IntKind.i64 (cmpI (zV n l) (zV n' l')))))) (ifB (!zNeg z1) (ifB (zNeg z2) (true = true ∧ Sub (PV.f (Lf.v (Value.int IntKind.i64 (1 : Int)))) (PV.f (Lf.v (Value.int IntKind.i64 (cmpI (zV n l) (zV n' l')))))) (ifB (zNeg z1) ((k' + 1 ≤ 1000000 ∧ k + 1 ≤ 1000000) ∧ true = true ∧ Sub (PV.f (Lf.v (Value.int IntKind.i64 (ordN (vB (digs 1000000000 z2.natAbs)) (vB (digs 1000000000 z1.natAbs)))))) (PV.f (Lf.v (Value.int IntKind.i64 (cmpI (zV n l) (zV n' l')))))) ((k + 1 ≤ 1000000 ∧ k' + 1 ≤ 1000000) ∧ true = true ∧ Sub (PV.f (Lf.v (Value.int IntKind.i64 (ordN (vB (digs 1000000000 z1.natAbs)) (vB (digs 1000000000 z2.natAbs)))))) (PV.f (Lf.v (Value.int IntKind.i64 (cmpI (zV n l) (zV n' l')))))))) (ifB (zNeg z1) ((k' + 1 ≤ 1000000 ∧ k + 1 ≤ 1000000) ∧ true = true ∧ Sub (PV.f (Lf.v (Value.int IntKind.i64 (ordN (vB (digs 1000000000 z2.natAbs)) (vB (digs 1000000000 z1.natAbs)))))) (PV.f (Lf.v (Value.int IntKind.i64 (cmpI (zV n l) (zV n' l')))))) ((k + 1 ≤ 1000000 ∧ k' + 1 ≤ 1000000) ∧ true = true ∧ Sub (PV.f (Lf.v (Value.int IntKind.i64 (ordN (vB (digs 1000000000 z1.natAbs)) (vB (digs 1000000000 z2.natAbs)))))) (PV.f (Lf.v (Value.int IntKind.i64 (cmpI (zV n l) (zV n' l'))))))))) (ifB (!zNeg z1) (ifB (zNeg z2) (true = true ∧ Sub (PV.f (Lf.v (Value.int IntKind.i64 (1 : Int)))) (PV.f (Lf.v (Value.int IntKind.i64 (cmpI (zV n l) (zV n' l')))))) (ifB (zNeg z1) ((k' + 1 ≤ 1000000 ∧ k + 1 ≤ 1000000) ∧ true = true ∧ Sub (PV.f (Lf.v (Value.int IntKind.i64 (ordN (vB (digs 1000000000 z2.natAbs)) (vB (digs 1000000000 z1.natAbs)))))) (PV.f (Lf.v (Value.int IntKind.i64 (cmpI (zV n l) (zV n' l')))))) ((k + 1 ≤ 1000000 ∧ k' + 1 ≤ 1000000) ∧ true = true ∧ Sub (PV.f (Lf.v (Value.int IntKind.i64 (ordN (vB (digs 1000000000 z1.natAbs)) (vB (digs 1000000000 z2.natAbs)))))) (PV.f (Lf.v (Value.int IntKind.i64 (cmpI (zV n l) (zV n' l')))))))) (ifB (zNeg z1) ((k' + 1 ≤ 1000000 ∧ k + 1 ≤ 1000000) ∧ true = true ∧ Sub (PV.f (Lf.v (Value.int IntKind.i64 (ordN (vB (digs 1000000000 z2.natAbs)) (vB (digs 1000000000 z1.natAbs)))))) (PV.f (Lf.v (Value.int IntKind.i64 (cmpI (zV n l) (zV n' l')))))) ((k + 1 ≤ 1000000 ∧ k' + 1 ≤ 1000000) ∧ true = true ∧ Sub (PV.f (Lf.v (Value.int IntKind.i64 (ordN (vB (digs 1000000000 z1.natAbs)) (vB (digs 1000000000 z2.natAbs)))))) (PV.f (Lf.v (Value.int IntKind.i64 (cmpI (zV n l) (zV n' l'))))))))) (by kernel_rfl) ?_
      refine ⟨?s0, fun z1 => fun hz1 => ⟨?s1, fun z2 => fun hz2 => ifB_iff.2 ⟨fun hb0 => ifB_iff.2 ⟨fun hb1 => ⟨rfl, ?m0⟩, fun hb1 => ifB_iff.2 ⟨fun hb2 => ifB_iff.2 ⟨fun hb3 => ⟨rfl, ?m1⟩, fun hb3 => ifB_iff.2 ⟨fun hb4 => ⟨?s2, ⟨rfl, ?m2⟩⟩, fun hb4 => ⟨?s3, ⟨rfl, ?m3⟩⟩⟩⟩, fun hb2 => ifB_iff.2 ⟨fun hb5 => ⟨?s4, ⟨rfl, ?m4⟩⟩, fun hb5 => ⟨?s5, ⟨rfl, ?m5⟩⟩⟩⟩⟩, fun hb0 => ifB_iff.2 ⟨fun hb6 => ifB_iff.2 ⟨fun hb7 => ⟨rfl, ?m6⟩, fun hb7 => ifB_iff.2 ⟨fun hb8 => ⟨?s6, ⟨rfl, ?m7⟩⟩, fun hb8 => ⟨?s7, ⟨rfl, ?m8⟩⟩⟩⟩, fun hb6 => ifB_iff.2 ⟨fun hb9 => ⟨?s8, ⟨rfl, ?m9⟩⟩, fun hb9 => ⟨?s9, ⟨rfl, ?m10⟩⟩⟩⟩⟩⟩⟩
      case s0 => omega
      case s1 => omega
      all_goals try rw [← hz1, ← hz2]
      all_goals try rw [vB_dig, vB_dig]
      all_goals simp only [zNeg, Bool.not_eq_true', decide_eq_true_eq, decide_eq_false_iff_not, Bool.not_eq_false'] at *
      all_goals first
        | exact ⟨by omega, by omega⟩
        | (refine sub_int ?_
           unfold cmpI
           try unfold ordN
           repeat' split
           all_goals omega)
    · cases hs
  · cases hs
theorem cRightZ {E : World → Hp → Prop} (hU : Up E) : Contract Tryz.prog E 85 sRight := by
  refine contract_loopsG [(121, sRightL)] Tryz.ntmps85 Tryz.func85 (by kernel_rfl) (by kernel_rfl) hU ⟨cRightL hU, trivial⟩ ?_
  intro xs p r hs hp
  unfold sRight at hs
  split at hs
  · rename_i x
    split at hs
    · rename_i n l k j hx
      cases hs
      have hk := hp _ rfl
      refine ⟨[rawP n l k], [], .cons (sub_raw hx) .nil, rfl, fun hgx hg => ?_⟩
      refine cast_rfl (p := k ≤ 1000000 ∧ ifB (rgtB l) (ifB (!n) (true = true ∧ Sub (PV.f (Lf.v (Value.bool true))) (PV.f (Lf.v (Value.bool (rightZ n l))))) (true = true ∧ Sub (PV.f (Lf.v (Value.bool (decide ((↑l.length : Int) > (0 : Int)))))) (PV.f (Lf.v (Value.bool (rightZ n l)))))) (true = true ∧ Sub (PV.f (Lf.v (Value.bool false))) (PV.f (Lf.v (Value.bool (rightZ n l)))))) (by kernel_rfl) ?_
      refine ⟨?s0, ifB_iff.2 ⟨fun hb0 => ifB_iff.2 ⟨fun hb1 => ⟨rfl, ?m0⟩, fun hb1 => ⟨rfl, ?m1⟩⟩, fun hb0 => ⟨rfl, ?m2⟩⟩⟩
      case s0 => exact hk
      case m0 =>
        refine sub_bool ?_
        unfold rightZ
        rw [hb0, hb1]; rfl
      case m1 =>
        refine sub_bool ?_
        unfold rightZ
        rw [hb0, hb1, Bool.true_and, Bool.false_or, Bool.eq_iff_iff, decide_eq_true_eq, decide_eq_true_eq]
        omega
      case m2 =>
        refine sub_bool ?_
        unfold rightZ
        rw [hb0]; rfl
    · cases hs
  · cases hs
theorem cTextZ {E : World → Hp → Prop} (hU : Up E) : Contract Tryz.prog E 93 sText := by
  refine contract_loopsG [(58, sNormZ), (124, sTextL)] Tryz.ntmps93 Tryz.func93 (by kernel_rfl) (by kernel_rfl) hU ⟨cNormZ, cTextL hU, trivial⟩ ?_
  intro xs p r hs hp
  unfold sText at hs
  split at hs
  · rename_i x
    split at hs
    · rename_i n l k j hx
      cases hs
      have hk := hp _ rfl
      refine ⟨[rawP n l k], [], .cons (sub_raw hx) .nil, rfl, fun hgx hg => ?_⟩
      refine cast_rfl (p := k ≤ 1000000 ∧ ∀ (z1 : Int), z1 = zV n l → k + 1 ≤ 1000000 ∧ ifB (zNeg z1) ((↑(1 + (ByteArray.mk (Lib.decDigits (vB (digs 1000000000 z1.natAbs))).toArray).size) : Int) ≤ IntKind.i64.max ∧ true = true ∧ Sub (PV.f (Lf.v (Value.string (ByteArray.mk #[(45 : UInt8)] ++ ByteArray.mk (Lib.decDigits (vB (digs 1000000000 z1.natAbs))).toArray)))) (PV.f (Lf.v (Value.string (ByteArray.mk (zText (zV n l)).toArray))))) (true = true ∧ Sub (PV.f (Lf.v (Value.string (ByteArray.mk (Lib.decDigits (vB (digs 1000000000 z1.natAbs))).toArray)))) (PV.f (Lf.v (Value.string (ByteArray.mk (zText (zV n l)).toArray)))))) (by kernel_rfl) ?_
      refine ⟨?s0, fun z1 => fun hz1 => ⟨?s1, ifB_iff.2 ⟨fun hb0 => ⟨?s2, ⟨rfl, ?m0⟩⟩, fun hb0 => ⟨rfl, ?m1⟩⟩⟩⟩
      case s0 => omega
      case s1 => omega
      all_goals try rw [← hz1]
      all_goals try rw [vB_dig]
      case s2 =>
        have h1 : (Lib.decDigits z1.natAbs).length ≤ 9 * (k + 1) + 1 := dec_len (k := k + 1) (by
          rw [hz1]
          exact (pvR_good hx hgx.1).2.2.mono (pvR_j hx))
        have h2 : IntKind.i64.max = 9223372036854775807 := by decide
        rw [h2]
        simp [ByteArray.size]
        omega
      case m0 => rw [zText_neg hb0]; exact .refl _
      case m1 => rw [zText_pos hb0]; exact .refl _
    · cases hs
  · cases hs
theorem cParseZ {E : World → Hp → Prop} : Contract Tryz.prog E 74 sParse := by
  intro xs p r hs hp w H vs hf hE hvs
  unfold sParse at hs
  split at hs
  · rename_i s
    cases hs
    have hsz := hp _ rfl
    obtain ⟨v, rfl, hv⟩ := one_arg hvs
    have := hv.val
    subst this
    refine (refParse_any s w (by omega)).mono ?_
    rintro e w' ⟨x, rfl, hio, hbl⟩
    refine ⟨_, _, rfl, ext_all hf hbl, ?_⟩
    exact .tup rfl fun i v x hv hx => by
      match i with
      | 0 => simp at hv hx; subst hv hx; exact io_pr hio (parZ_zb hsz)
      | 1 => simp at hv hx; subst hv hx; exact .f (.v _ rfl)
      | i + 2 => simp at hv
  · cases hs
theorem cGcdZ {E : World → Hp → Prop} (hU : Up E) : Contract Tryz.prog E 18 sGcdR := by
  refine contract_loopsG [(67, sTrimL), (68, sDivL), (61, sOfB)] Tryz.ntmps18 Tryz.func18 (by kernel_rfl) (by kernel_rfl) hU ⟨cTrimL, cDivL hU, cOfB, trivial⟩ ?_
  intro xs p r hs hp
  unfold sGcdR at hs
  split at hs
  · rename_i y
    split at hs
    · rename_i l hl
      cases hs
      have hk := hp _ rfl
      have hsub := sub_zs hl
      have hL : (zsOf l).length = l.length := by simp [zsOf]
      refine ⟨[.f (.zs (zsOf l))], [(3, .s ⟨Nat × Nat, fun x => ⟨[(0, .f (.zs (zsOf l))), (2, .bp 0 0), (3, .f (.zd (x.2 : Int) (bndS l 0))), (4, .f (.v (.int .i64 (x.1 : Nat))))], [.cells [.f (.v (.bool false)), .f (.v (.slice none 0 0))]]⟩,
        fun x => x.1 ≤ l.length ∧ (x.2 : Int) = gcdR (l.take x.1) 0, fun x => l.length - x.1⟩), (6, ⟨Nat × Nat × Nat, fun x => ⟨[(0, .f (.zs (zsOf l))), (2, .bp 0 0), (3, .f (.zd (x.2.1 : Int) (bndS l 0 + 1))), (4, .f (.v (.int .i64 (x.1 : Nat)))), (5, .f (.zd (x.2.2 : Int) (bndS l 0 + 1)))], [.cells [.f (.v (.bool false)), .f (.v (.slice none 0 0))]]⟩,
        fun x => ZB (x.2.1 : Int) (bndS l 0 + 1) ∧ ZB (x.2.2 : Int) (bndS l 0 + 1), fun x => x.2.2, fun x y => x.1 = y.1 ∧ Nat.gcd x.2.1 x.2.2 = Nat.gcd y.2.1 y.2.2⟩)], .cons hsub .nil, rfl, fun hgx hg => ?_⟩
      have hgood := sliceR_good hl hgx.1.2
      have hbnd : ∀ i, ZB (gcdR (l.take i) 0) (bndS l 0) := fun i => (gcdR_zb _ 0 0 (ZB.zero 0) fun x hx => (hgood x (List.mem_of_mem_take hx)).2.2).mono (bndS_take l 0 i)
      have hbl := bndS_size l 0 (sliceR_j hl)
      have hll := sizeR_len l
      have hK : ∀ x ∈ l, x.2.2 ≤ bndS l 0 := bndS_mem l 0
      refine cast_rfl (p := ∃ (x1 : Nat × Nat), (((SubB (PV.f (Lf.v (Value.bool false))) (PV.f (Lf.v (Value.bool false))) ∧ SubB (PV.f (Lf.v (Value.slice none 0 0))) (PV.f (Lf.v (Value.slice none 0 0))) ∧ True) ∧ True) ∧ SubB (PV.f (Lf.zs (zsOf l))) (PV.f (Lf.zs (zsOf l))) ∧ SubB (PV.bp 0 0) (PV.bp 0 0) ∧ SubB (PV.f (Lf.v (Value.slice none 0 0))) (PV.f (Lf.zd (↑x1.snd : Int) (bndS l 0))) ∧ SubB (PV.f (Lf.v (Value.int IntKind.i64 (0 : Int)))) (PV.f (Lf.v (Value.int IntKind.i64 (↑x1.fst : Int)))) ∧ True) ∧ (x1.fst ≤ l.length ∧ (↑x1.snd : Int) = gcdR (List.take x1.fst l) (0 : Int)) ∧ True ∧ ∀ (z2 : Nat × Nat), z2.fst ≤ l.length ∧ (↑z2.snd : Int) = gcdR (List.take z2.fst l) (0 : Int) → True → ifB (decide ((↑z2.fst : Int) < (↑(zsOf l).length : Int))) (((0 : Int) ≤ (↑z2.fst : Int) ∧ (↑z2.fst : Int) < (↑(zsOf l).length : Int)) ∧ ((zsOf l).getD (↑z2.fst : Int).toNat (false, [], 0)).snd.snd ≤ 1000000 ∧ ∀ (z3 : Nat), z3 = vB ((zsOf l).getD (↑z2.fst : Int).toNat (false, [], 0)).snd.fst → ∃ (x4 : Nat × Nat × Nat), (((SubB (PV.f (Lf.v (Value.bool false))) (PV.f (Lf.v (Value.bool false))) ∧ SubB (PV.f (Lf.v (Value.slice none 0 0))) (PV.f (Lf.v (Value.slice none 0 0))) ∧ True) ∧ True) ∧ SubB (PV.f (Lf.zs (zsOf l))) (PV.f (Lf.zs (zsOf l))) ∧ SubB (PV.bp 0 0) (PV.bp 0 0) ∧ SubB (PV.f (Lf.zd (↑z2.snd : Int) (bndS l 0))) (PV.f (Lf.zd (↑x4.snd.fst : Int) (bndS l 0 + 1))) ∧ SubB (PV.f (Lf.v (Value.int IntKind.i64 (↑z2.fst : Int)))) (PV.f (Lf.v (Value.int IntKind.i64 (↑x4.fst : Int)))) ∧ SubB (PV.f (Lf.zd (↑z3 : Int) (((zsOf l).getD (↑z2.fst : Int).toNat (false, [], 0)).snd.snd + 1))) (PV.f (Lf.zd (↑x4.snd.snd : Int) (bndS l 0 + 1))) ∧ True) ∧ (ZB (↑x4.snd.fst : Int) (bndS l 0 + 1) ∧ ZB (↑x4.snd.snd : Int) (bndS l 0 + 1)) ∧ (x4.fst = x4.fst ∧ x4.snd.fst.gcd x4.snd.snd = x4.snd.fst.gcd x4.snd.snd) ∧ ∀ (z5 : Nat × Nat × Nat), ZB (↑z5.snd.fst : Int) (bndS l 0 + 1) ∧ ZB (↑z5.snd.snd : Int) (bndS l 0 + 1) → x4.fst = z5.fst ∧ x4.snd.fst.gcd x4.snd.snd = z5.snd.fst.gcd z5.snd.snd → ifB (decide ((↑(digs 1000000000 (↑z5.snd.snd : Int).natAbs).length : Int) > (0 : Int))) ((bndS l 0 + 1 ≤ 100000 ∧ bndS l 0 + 1 ≤ 100000 ∧ vB (digs 1000000000 (↑z5.snd.snd : Int).natAbs) ≠ 0) ∧ ∀ (z6 : Nat), z6 = vB (digs 1000000000 (↑z5.snd.fst : Int).natAbs) / vB (digs 1000000000 (↑z5.snd.snd : Int).natAbs) → ∀ (z7 : Nat), z7 = vB (digs 1000000000 (↑z5.snd.fst : Int).natAbs) % vB (digs 1000000000 (↑z5.snd.snd : Int).natAbs) → ∃ (x8 : Nat × Nat × Nat), (((SubB (PV.f (Lf.v (Value.bool false))) (PV.f (Lf.v (Value.bool false))) ∧ SubB (PV.f (Lf.v (Value.slice none 0 0))) (PV.f (Lf.v (Value.slice none 0 0))) ∧ True) ∧ True) ∧ SubB (PV.f (Lf.zs (zsOf l))) (PV.f (Lf.zs (zsOf l))) ∧ SubB (PV.bp 0 0) (PV.bp 0 0) ∧ SubB (PV.f (Lf.zd (↑z5.snd.snd : Int) (bndS l 0 + 1))) (PV.f (Lf.zd (↑x8.snd.fst : Int) (bndS l 0 + 1))) ∧ SubB (PV.f (Lf.v (Value.int IntKind.i64 (↑z5.fst : Int)))) (PV.f (Lf.v (Value.int IntKind.i64 (↑x8.fst : Int)))) ∧ SubB (PV.f (Lf.zd (↑z7 : Int) (bndS l 0 + 1 + 1))) (PV.f (Lf.zd (↑x8.snd.snd : Int) (bndS l 0 + 1))) ∧ True) ∧ (ZB (↑x8.snd.fst : Int) (bndS l 0 + 1) ∧ ZB (↑x8.snd.snd : Int) (bndS l 0 + 1)) ∧ (x4.fst = x8.fst ∧ x4.snd.fst.gcd x4.snd.snd = x8.snd.fst.gcd x8.snd.snd) ∧ x8.snd.snd.succ.le z5.snd.snd) (∃ (x6 : Nat × Nat), (((SubB (PV.f (Lf.v (Value.bool false))) (PV.f (Lf.v (Value.bool false))) ∧ SubB (PV.f (Lf.v (Value.slice none 0 0))) (PV.f (Lf.v (Value.slice none 0 0))) ∧ True) ∧ True) ∧ SubB (PV.f (Lf.zs (zsOf l))) (PV.f (Lf.zs (zsOf l))) ∧ SubB (PV.bp 0 0) (PV.bp 0 0) ∧ SubB (PV.f (Lf.zd (↑z5.snd.fst : Int) (bndS l 0 + 1))) (PV.f (Lf.zd (↑x6.snd : Int) (bndS l 0))) ∧ SubB (PV.f (Lf.v (Value.int IntKind.i64 (IntKind.i64.wrap ((↑z5.fst : Int) + (1 : Int)))))) (PV.f (Lf.v (Value.int IntKind.i64 (↑x6.fst : Int)))) ∧ True) ∧ (x6.fst ≤ l.length ∧ (↑x6.snd : Int) = gcdR (List.take x6.fst l) (0 : Int)) ∧ True ∧ (l.length - x6.fst).succ.le (l.length - z2.fst))) (bndS l 0 ≤ 1000000 ∧ ∀ (z3 : Int), z3 = zV false (digs 1000000000 (↑z2.snd : Int).natAbs) → true = true ∧ Sub (PV.agg [PV.f (Lf.zn z3), PV.f (Lf.zd z3 (bndS l 0 + 1))]) (PV.agg [PV.f (Lf.zn (gcdR l (0 : Int))), PV.f (Lf.zd (gcdR l (0 : Int)) (bndS l 0))]))) (by kernel_rfl) ?_
      refine ⟨?x0, ⟨⟨⟨⟨.refl _, ⟨.refl _, trivial⟩⟩, trivial⟩, ⟨.refl _, ⟨.refl _, ⟨?m0, ⟨?m1, trivial⟩⟩⟩⟩⟩, ⟨?s0, ⟨trivial, fun z2 => fun hq0 => fun _ => ifB_iff.2 ⟨fun hb1 => ⟨?s1, ⟨?s2, fun z3 => fun hz3 => ⟨?x1, ⟨⟨⟨⟨.refl _, ⟨.refl _, trivial⟩⟩, trivial⟩, ⟨.refl _, ⟨.refl _, ⟨?m2, ⟨?m3, ⟨?m4, trivial⟩⟩⟩⟩⟩⟩, ⟨?s3, ⟨?s4, fun z5 => fun hq2 => fun hq3 => ifB_iff.2 ⟨fun hb4 => ⟨?s5, fun z6 => fun hz6 => fun z7 => fun hz7 => ⟨?x2, ⟨⟨⟨⟨.refl _, ⟨.refl _, trivial⟩⟩, trivial⟩, ⟨.refl _, ⟨.refl _, ⟨?m5, ⟨?m6, ⟨?m7, trivial⟩⟩⟩⟩⟩⟩, ⟨?s6, ⟨?s7, ?m8⟩⟩⟩⟩⟩, fun hb4 => ⟨?x3, ⟨⟨⟨⟨.refl _, ⟨.refl _, trivial⟩⟩, trivial⟩, ⟨.refl _, ⟨.refl _, ⟨?m9, ⟨?m10, trivial⟩⟩⟩⟩⟩, ⟨?s8, ⟨trivial, ?m11⟩⟩⟩⟩⟩⟩⟩⟩⟩⟩⟩, fun hb1 => ⟨?s9, fun z3 => fun hz3 => ⟨rfl, ?m12⟩⟩⟩⟩⟩⟩⟩
      case x0 => exact (0, 0)
      case x1 => exact (z2.1, z2.2, z3)
      case x2 => exact (z5.1, z5.2.2, z7)
      case x3 => exact (z2.1 + 1, z5.2.1)
      case m0 => exact subB_of (sub_nil0 _)
      case m1 => exact .refl _
      case s0 => exact ⟨Nat.zero_le _, rfl⟩
      case s9 => omega
      case m12 =>
        have h1 := of_decide_eq_false hb1
        have h2 : z2.1 = l.length := by omega
        have h3 := hq0.2
        rw [h2, List.take_of_length_le (Nat.le_refl _)] at h3
        have : z3 = gcdR l 0 := by rw [hz3, Int.natAbs_natCast, zV_dig, zOf_false]; exact h3
        subst this
        have h4 := hbnd l.length
        rw [List.take_of_length_le (Nat.le_refl _)] at h4
        exact sub_zP h4
      all_goals have h1 := of_decide_eq_true hb1
      all_goals have hil : z2.1 < l.length := (by omega)
      all_goals have hat := zsOf_at hil
      all_goals have hmem := List.getElem_mem hil
      all_goals have hsz := sizeR_mem _ hmem
      all_goals simp only [Int.toNat_natCast, hat] at *
      case s1 => exact ⟨by omega, by omega⟩
      case s2 => omega
      all_goals have hg1 : ZB (z2.2 : Int) (bndS l 0 + 1) := (by rw [hq0.2]; exact (hbnd _).mono (by omega))
      all_goals have hz3a : (zV (l[z2.1]).1.1 (l[z2.1]).1.2).natAbs = z3 := (by rw [hz3, zV_vB, zOf_abs])
      all_goals have hz3b : ZB (z3 : Int) (bndS l 0 + 1) := (by
        have h5 := (hgood _ hmem).2.2.mono (hK _ hmem)
        unfold ZB at h5
        rw [hz3a] at h5
        exact ZB.mono (k := bndS l 0 + 1) (j := bndS l 0) (by unfold ZB; rw [Int.natAbs_natCast]; exact h5) (by omega))
      case m2 => exact subB_zdB rfl hg1
      case m3 => exact .refl _
      case m4 => exact subB_zdB rfl hz3b
      case s3 => exact ⟨hg1, hz3b⟩
      case s4 => exact ⟨by trivial, by trivial⟩
      all_goals obtain ⟨c1, c2⟩ := hq2
      all_goals obtain ⟨e1, e2⟩ := hq3
      all_goals have hgc : ((Nat.gcd z2.2 z3 : Nat) : Int) = gcdR (l.take (z2.1 + 1)) 0 := (by
        rw [gcdR_snoc l z2.1 hil, ← hq0.2]
        unfold gcd2
        rw [hz3a, Int.natAbs_natCast])
      all_goals simp only [Int.natAbs_natCast, vB_digs] at *
      case m9 =>
        have h5 : digs 1000000000 z5.2.2 = [] := List.length_eq_zero_iff.1 (by have := of_decide_eq_false hb4; omega)
        have h6 := val_digs 1000000000 (by omega) z5.2.2
        rw [h5] at h6
        have h7 : z5.2.2 = 0 := h6.symm
        rw [h7, Nat.gcd_zero_right] at e2
        exact subB_zdB rfl (by rw [← e2, hgc]; exact hbnd _)
      case m10 => exact subB_int (by rw [← e1]; exact wI _ (by omega) (by omega))
      case s8 =>
        have h5 : digs 1000000000 z5.2.2 = [] := List.length_eq_zero_iff.1 (by have := of_decide_eq_false hb4; omega)
        have h6 := val_digs 1000000000 (by omega) z5.2.2
        rw [h5] at h6
        have h7 : z5.2.2 = 0 := h6.symm
        rw [h7, Nat.gcd_zero_right] at e2
        exact ⟨hil, by rw [← e2]; exact hgc⟩
      case m11 => show l.length - (z2.1 + 1) + 1 ≤ l.length - z2.1; omega
      all_goals have h0 : z5.2.2 ≠ 0 := (by
        intro hc
        rw [hc] at hb4
        cases hb4)
      case s5 => exact ⟨by omega, by omega, h0⟩
      all_goals have hml : z7 < z5.2.2 := (by rw [hz7]; exact Nat.mod_lt _ (by omega))
      case m5 => exact .refl _
      case m6 => exact .refl _
      case m7 => exact subB_zdB rfl (c2.leN (Nat.le_of_lt hml))
      case s6 => exact ⟨c2, c2.leN (Nat.le_of_lt hml)⟩
      case s7 => exact ⟨e1, by rw [e2, hz7, Nat.gcd_comm z5.2.1, Nat.gcd_rec, Nat.gcd_comm]⟩
      case m8 => exact hml
    · cases hs
  · cases hs

end Go.Proofs.YtjfncepmpabcnaaGreatDoor
