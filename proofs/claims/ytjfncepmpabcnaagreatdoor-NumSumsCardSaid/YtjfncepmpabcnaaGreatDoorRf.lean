/- The reference of chapter 2 by the pure run: the other ones. -/
import Derived.Test.YtjfncepmpabcnaaGreatDoorRd
namespace Go.Proofs.YtjfncepmpabcnaaGreatDoor
open Go.RowKit
set_option linter.unusedVariables false
set_option maxRecDepth 100000

theorem vB_digs (n : Nat) : vB (digs 1000000000 n) = n := val_digs _ (by omega) n
theorem zV_vB (neg : Bool) (l : List Nat) : zV neg l = zOf neg (vB l) := rfl
theorem zV_dig (neg : Bool) (n : Nat) : zV neg (digs 1000000000 n) = zOf neg n := by unfold zV; rw [val_digs _ (by omega)]
theorem zV_self (z : Int) : zV (zNeg z) (digs 1000000000 z.natAbs) = z := by rw [zV_dig, zOf_self]
theorem sub_zP {z : Int} {k k' : Nat} (h : ZB z k') : Sub (zP z k) (zP z k') := ⟨fun H v hv => by
  obtain ⟨vs, rfl, h1⟩ := PRs.of_agg hv
  obtain ⟨p, q, rfl⟩ : ∃ p q, vs = [p, q] := by
    have := h1.1
    match vs, this with
    | [p, q], _ => exact ⟨p, q, rfl⟩
  have h2 := (sub_zd (k := k) h).out H q ((h1.2 1 _ _ rfl rfl))
  exact (PRs.cons (h1.2 0 _ _ rfl rfl) (.cons h2 .nil)).agg⟩
theorem asR_good {f g : Lf} {n : Bool} {l : List Nat} {k j : Nat} (h : asR f g = some ((n, l), k, j)) (hf : f.good) (hg : g.good) : l.length ≤ k ∧ (∀ y ∈ l, y < 4294967296) ∧ ZB (zV n l) j := by
  unfold asR at h
  split at h
  · rename_i z z' k'
    cases h
    refine ⟨zd_len hg, digs_small z', ?_⟩
    rw [zV_dig]
    replace hg : ZB z' k := hg
    unfold ZB at hg ⊢
    rw [zOf_abs]; exact hg
  · rename_i n' z' k'
    cases h
    refine ⟨zd_len hg, digs_small z', ?_⟩
    rw [zV_dig]
    replace hg : ZB z' k := hg
    unfold ZB at hg ⊢
    rw [zOf_abs]; exact hg
  · rename_i n' l' k'
    cases h
    exact ⟨hg.1, hg.2, (zV_zb n l hg.2).mono (by have := hg.1; omega)⟩
  · cases h
    exact ⟨Nat.le_refl _, by simp, by cases n <;> (unfold ZB; decide)⟩
  · cases h
theorem pvR_good {x : PV} {n : Bool} {l : List Nat} {k j : Nat} (h : pvR x = some ((n, l), k, j)) (hg : goodP x) : l.length ≤ k ∧ (∀ y ∈ l, y < 4294967296) ∧ ZB (zV n l) j := by
  unfold pvR at h
  split at h
  · exact asR_good h hg.1.1 hg.2.1.1
  · cases h
theorem rowsR_good {R : List (List Lf)} {l : List ((Bool × List Nat) × Nat × Nat)} (h : rowsR R = some l) (hg : (Lf.row 2 R).deep) : ∀ x ∈ l, x.1.2.length ≤ x.2.1 ∧ (∀ y ∈ x.1.2, y < 4294967296) ∧ ZB (zV x.1.1 x.1.2) x.2.2 := by
  obtain ⟨h1, h2⟩ := rowsR_at h
  intro x hx
  obtain ⟨i, hi, rfl⟩ := List.getElem_of_mem hx
  obtain ⟨f, g, h3, h4⟩ := h2 i _ (List.getElem?_eq_getElem hi)
  have hil : i < R.length := (List.getElem?_eq_some_iff.1 h3).1
  have hget : R.getD i [] = [f, g] := by rw [List.getD_eq_getElem?_getD, h3]; rfl
  have h5 : ∀ (j : Nat) (q : Lf), ([f, g] : List Lf)[j]? = some q → q.good := by
    intro j q hq
    have := hg i hil j q
    dsimp only at this
    rw [hget] at this
    exact this hq
  exact asR_good h4 (h5 0 f rfl) (h5 1 g rfl)
theorem sliceR_good {y : Lf} {l : List ((Bool × List Nat) × Nat × Nat)} (h : sliceR y = some l) (hg : y.deep) : ∀ x ∈ l, x.1.2.length ≤ x.2.1 ∧ (∀ y ∈ x.1.2, y < 4294967296) ∧ ZB (zV x.1.1 x.1.2) x.2.2 := by
  unfold sliceR at h
  split at h
  · exact rowsR_good h hg
  · rename_i L
    cases h
    intro x hx
    obtain ⟨e, he, rfl⟩ := List.mem_map.1 hx
    obtain ⟨i, hi, rfl⟩ := List.getElem_of_mem he
    have h1 := hg i hi 1 _ rfl
    have h2 : L.getD i (false, [], 0) = L[i] := by rw [List.getD_eq_getElem?_getD, List.getElem?_eq_getElem hi]; rfl
    rw [h2] at h1
    obtain ⟨h3, h4⟩ := h1
    exact ⟨h3, h4, (zV_zb _ _ h4).mono (by dsimp only; omega)⟩
  · cases h; intro x hx; cases hx
  · cases h
theorem asR_j {f g : Lf} {n : Bool} {l : List Nat} {k j : Nat} (h : asR f g = some ((n, l), k, j)) : j ≤ k + 1 := by
  unfold asR at h
  split at h <;> cases h <;> omega
theorem sliceR_j {y : Lf} {l : List ((Bool × List Nat) × Nat × Nat)} (h : sliceR y = some l) : ∀ x ∈ l, x.2.2 ≤ x.2.1 + 1 := by
  unfold sliceR at h
  split at h
  · obtain ⟨h1, h2⟩ := rowsR_at h
    intro x hx
    obtain ⟨i, hi, rfl⟩ := List.getElem_of_mem hx
    obtain ⟨f, g, h3, h4⟩ := h2 i _ (List.getElem?_eq_getElem hi)
    exact asR_j h4
  · cases h
    intro x hx
    obtain ⟨e, he, rfl⟩ := List.mem_map.1 hx
    exact Nat.le_refl _
  · cases h; intro x hx; cases hx
  · cases h
theorem bndS_size : ∀ (l : List ((Bool × List Nat) × Nat × Nat)) (a : Nat), (∀ x ∈ l, x.2.2 ≤ x.2.1 + 1) → bndS l a ≤ a + sizeR l
  | [], a, _ => Nat.le_refl _
  | x :: l, a, h => by
    have h1 := bndS_size l (a + x.2.2 + 1) fun y hy => h y (List.mem_cons_of_mem _ hy)
    have h2 := h x List.mem_cons_self
    simp only [bndS, sizeR]
    omega
theorem bndP_size : ∀ (l : List ((Bool × List Nat) × Nat × Nat)) (a : Nat), (∀ x ∈ l, x.2.2 ≤ x.2.1 + 1) → bndP l a ≤ a + sizeR l
  | [], a, _ => Nat.le_refl _
  | x :: l, a, h => by
    have h1 := bndP_size l (a + x.2.2) fun y hy => h y (List.mem_cons_of_mem _ hy)
    have h2 := h x List.mem_cons_self
    simp only [bndP, sizeR]
    omega
theorem sizeR_mem : ∀ {l : List ((Bool × List Nat) × Nat × Nat)}, ∀ x ∈ l, x.2.1 + 2 ≤ sizeR l
  | y :: l, x, h => by
    simp only [sizeR]
    rcases List.mem_cons.1 h with rfl | h
    · omega
    · have := sizeR_mem x h; omega
theorem subB_of {x y : Lf} (h : Sub (.f x) (.f y)) : SubB (.f x) (.f y) := ⟨fun H B v hv => .f ((h.out H v (.f hv.rd)).rd)⟩
theorem subB_zdB {z z' : Int} {k k' : Nat} (hz : z = z') (h : ZB z' k') : SubB (.f (.zd z k)) (.f (.zd z' k')) := by subst hz; exact subB_of (sub_zd h)
theorem sizeR_len : ∀ l : List ((Bool × List Nat) × Nat × Nat), 2 * l.length ≤ sizeR l
  | [] => Nat.le_refl _
  | x :: l => by have := sizeR_len l; simp only [sizeR, List.length_cons]; omega
/-- As rows of numbers. -/
def zsOf (l : List ((Bool × List Nat) × Nat × Nat)) : List (Bool × List Nat × Nat) := l.map fun x => (x.1.1, x.1.2, x.2.1)
theorem zsOf_at {l : List ((Bool × List Nat) × Nat × Nat)} {i : Nat} (h : i < l.length) : (zsOf l).getD i (false, [], 0) = ((l[i]).1.1, (l[i]).1.2, (l[i]).2.1) := by
  unfold zsOf
  simp only [List.getD_eq_getElem?_getD, List.getElem?_map, List.getElem?_eq_getElem h, Option.map_some, Option.getD_some]
theorem sub_zs {y : Lf} {l : List ((Bool × List Nat) × Nat × Nat)} (h : sliceR y = some l) : Sub (.f y) (.f (.zs (zsOf l))) := by
  refine ⟨fun H v hv => ?_⟩
  unfold sliceR at h
  split at h
  · rename_i R
    obtain ⟨h1, h2⟩ := rowsR_at h
    cases hv.rd with
    | @sl _ k n get ao cap hview hg hc hm h0 b o val hb hcell hk hrec =>
      simp only [Lf.view, Option.some.injEq, Prod.mk.injEq] at hview
      obtain ⟨rfl, rfl, rfl⟩ := hview
      refine .f (.slf (fun _ => rfl) (f := .zs (zsOf l)) (get := fun i => [.v (.bool ((zsOf l).getD i (false, [], 0)).1), .lr ((zsOf l).getD i (false, [], 0)).2.1 ((zsOf l).getD i (false, [], 0)).2.2]) (by simp [Lf.view, zsOf, h1]) trivial hc hm h0 b o val hb hcell (fun i hi => rfl) (fun i hi j x hx => ?_))
      have hil : i < l.length := by rw [h1]; exact hi
      obtain ⟨f, g, h3, h4⟩ := h2 i _ (List.getElem?_eq_getElem hil)
      have hget : R.getD i [] = [f, g] := by rw [List.getD_eq_getElem?_getD, h3]; rfl
      rw [zsOf_at hil] at hx
      have r0 := hrec i hi 0 f (by show (R.getD i [])[0]? = _; rw [hget]; rfl)
      have r1 := hrec i hi 1 g (by show (R.getD i [])[1]? = _; rw [hget]; rfl)
      generalize hli : l[i] = e at *
      obtain ⟨⟨n, q⟩, k, jj⟩ := e
      obtain ⟨r2, r3⟩ := rd_raw h4 r0 r1
      match j with
      | 0 => cases hx; exact r2
      | 1 => cases hx; exact r3
      | j + 2 => cases hx
  · rename_i L
    cases h
    have : zsOf (L.map fun e => ((e.1, e.2.1), e.2.2, e.2.2 + 1)) = L := by
      unfold zsOf
      rw [List.map_map]
      have : ((fun x : (Bool × List Nat) × Nat × Nat => (x.1.1, x.1.2, x.2.1)) ∘ fun e : Bool × List Nat × Nat => ((e.1, e.2.1), e.2.2, e.2.2 + 1)) = id := by funext e; rfl
      rw [this, List.map_id]
    rw [this]; exact hv
  · cases h
    have := hv.rd.val rfl
    subst this
    exact .f (nil_rd (f := .zs []) rfl trivial)
  · cases h
def sNormZ : Spec
  | [x] => match pvR x with
    | some ((n, l), k, j) => some (some (k ≤ 1000000), .nm Int (zV n l) fun z => zP z j)
    | none => none
  | _ => none
def sOfB : Spec
  | [.f (.v (.bool neg)), .f x] => match limL x with
    | some (l, k) => some (some (k ≤ 1000000), .nm Int (zV neg l) fun z => zP z (k + 1))
    | none => none
  | _ => none
section
variable {E : World → Hp → Prop}
theorem cNormZ : Contract Tryz.prog E 58 sNormZ := by
  intro xs p r hs hp w H vs hf hE hvs
  unfold sNormZ at hs
  split at hs
  · rename_i x
    split at hs
    · rename_i n l k j hx
      cases hs
      have hb := hp _ rfl
      obtain ⟨v, rfl, hv⟩ := one_arg hvs
      obtain ⟨h1, h2, h3⟩ := pvR_iz hx hv hf
      refine (refNorm_any v _ k w (h1.iz h2) hb).mono ?_
      rintro e w' ⟨u, rfl, hio, hbl⟩
      exact ⟨_, u, rfl, ext_all hf hbl, io_pr hio h3⟩
    · cases hs
  · cases hs
theorem cOfB : Contract Tryz.prog E 61 sOfB := by
  intro xs p r hs hp w H vs hf hE hvs
  unfold sOfB at hs
  split at hs
  · rename_i neg x
    split at hs
    · rename_i l k hx
      cases hs
      have hb := hp _ rfl
      obtain ⟨u, v, rfl, hu, hv⟩ := two_args hvs
      have := hu.val
      subst this
      obtain ⟨h1, h2, h3⟩ := limL_rd hx hv.rd hf
      refine (refofR_any neg v l w h1 (by omega) h3).mono ?_
      rintro e w' ⟨u, rfl, hio, hbl⟩
      exact ⟨_, u, rfl, ext_all hf hbl, io_pr hio ((zV_zb neg l h3).mono (by omega))⟩
    · cases hs
  · cases hs
theorem cOfR : Contract Tryz.prog E 56 sOf := by
  intro xs p r hs hp w H vs hf hE hvs
  unfold sOf at hs
  split at hs
  · rename_i n
    cases hs
    obtain ⟨h1, h2⟩ := hp _ rfl
    obtain ⟨v, rfl, hv⟩ := one_arg hvs
    have := hv.val
    subst this
    refine (refOfZ_any n w h1 h2).mono ?_
    rintro e w' ⟨u, rfl, hio, hbl⟩
    refine ⟨_, u, rfl, ext_all hf hbl, io_pr hio ?_⟩
    show n.natAbs < 1000000000 ^ 3
    have : (1000000000 : Nat) ^ 3 = 1000000000000000000000000000 := by decide
    omega
  · cases hs
end
def sPlusZ : Spec
  | [x, y] => match pvR x, pvR y with
    | some ((n, l), k, j), some ((n', l'), k', j') => some (some (k + k' ≤ 40000), .nm Int (zV n l + zV n' l') fun z => zP z (j + j' + 1))
    | _, _ => none
  | _ => none
theorem cPlusZ {E : World → Hp → Prop} (hU : Up E) : Contract Tryz.prog E 57 sPlusZ := by
  refine contract_loopsG [(61, sOfB), (106, sAddL), (107, sSubL)] Tryz.ntmps57 Tryz.func57 (by kernel_rfl) (by kernel_rfl) hU ⟨cOfB, cAddL, cSubL hU, trivial⟩ ?_
  intro xs p r hs hp
  unfold sPlusZ at hs
  split at hs
  · rename_i x y
    split at hs
    · rename_i n l k j n' l' k' j' hx hy
      cases hs
      have hk := hp _ rfl
      refine ⟨[rawP n l k, rawP n' l' k'], [], .cons (sub_raw hx) (.cons (sub_raw hy) .nil), rfl, fun hgx hg => ?_⟩
      obtain ⟨a1, a2, a3⟩ := pvR_good hx hgx.1
      obtain ⟨b1, b2, b3⟩ := pvR_good hy hgx.2.1
      have hzb := a3.add b3
      refine cast_rfl (p := ifB (n == n') (sizeL [(l, k), (l', k')] ≤ 100000 ∧ ∀ (z1 : Nat), z1 = sumL' [(l, k), (l', k')] 0 → sizeL [(l, k), (l', k')] ≤ 1000000 ∧ ∀ (z2 : Int), z2 = zV n (digs 1000000000 (↑z1 : Int).natAbs) → true = true ∧ Sub (PV.agg [PV.f (Lf.zn z2), PV.f (Lf.zd z2 (sizeL [(l, k), (l', k')] + 1))]) (PV.agg [PV.f (Lf.zn (zV n l + zV n' l')), PV.f (Lf.zd (zV n l + zV n' l') (j + j' + 1))])) ((k ≤ 100000 ∧ k' ≤ 100000) ∧ ∀ (z1 : Nat), z1 = vB l - vB l' → ifB (decide (vB l' ≤ vB l)) (k + 1 ≤ 1000000 ∧ ∀ (z2 : Int), z2 = zV n (digs 1000000000 (↑z1 : Int).natAbs) → true = true ∧ Sub (PV.agg [PV.f (Lf.zn z2), PV.f (Lf.zd z2 (k + 1 + 1))]) (PV.agg [PV.f (Lf.zn (zV n l + zV n' l')), PV.f (Lf.zd (zV n l + zV n' l') (j + j' + 1))])) ((k' ≤ 100000 ∧ k ≤ 100000) ∧ ∀ (z2 : Nat), z2 = vB l' - vB l → k' + 1 ≤ 1000000 ∧ ∀ (z3 : Int), z3 = zV n' (digs 1000000000 (↑z2 : Int).natAbs) → true = true ∧ Sub (PV.agg [PV.f (Lf.zn z3), PV.f (Lf.zd z3 (k' + 1 + 1))]) (PV.agg [PV.f (Lf.zn (zV n l + zV n' l')), PV.f (Lf.zd (zV n l + zV n' l') (j + j' + 1))])))) (by kernel_rfl) ?_
      refine ifB_iff.2 ⟨fun hb0 => ⟨?s0, fun z1 => fun hz1 => ⟨?s1, fun z2 => fun hz2 => ⟨rfl, ?m0⟩⟩⟩, fun hb0 => ⟨?s2, fun z1 => fun hz1 => ifB_iff.2 ⟨fun hb1 => ⟨?s3, fun z2 => fun hz2 => ⟨rfl, ?m1⟩⟩, fun hb1 => ⟨?s4, fun z2 => fun hz2 => ⟨?s5, fun z3 => fun hz3 => ⟨rfl, ?m2⟩⟩⟩⟩⟩⟩
      case s0 => simp only [sizeL]; omega
      case s1 => simp only [sizeL]; omega
      case s2 => omega
      case m0 =>
        have hn := eq_of_beq hb0
        subst hn
        have e1 : z2 = zV n l + zV n l' := by
          rw [hz2, Int.natAbs_natCast, zV_dig, hz1]
          simp only [sumL', Nat.zero_add]
          rw [zOf_add]; rfl
        subst e1
        exact sub_zP hzb
      all_goals have hn : n = !n' := (by cases n <;> cases n' <;> first | rfl | cases hb0)
      case s3 => omega
      case s4 => omega
      case s5 => omega
      case m1 =>
        have hle := of_decide_eq_true hb1
        have e1 : z2 = zV n l + zV n' l' := by
          rw [hz2, Int.natAbs_natCast, zV_dig, hz1, zOf_sub _ hle, zV_vB n l, zV_vB n' l']
          subst hn
          rw [zOf_not, zOf_not]; omega
        subst e1
        exact sub_zP hzb
      case m2 =>
        have hle := of_decide_eq_false hb1
        have e1 : z3 = zV n l + zV n' l' := by
          rw [hz3, Int.natAbs_natCast, zV_dig, hz2, zOf_sub _ (by omega), zV_vB n l, zV_vB n' l']
          subst hn
          rw [zOf_not]; omega
        subst e1
        exact sub_zP hzb
    · cases hs
  · cases hs
theorem bndS_ge : ∀ (l : List ((Bool × List Nat) × Nat × Nat)) (a : Nat), a ≤ bndS l a
  | [], a => Nat.le_refl _
  | x :: l, a => Nat.le_trans (by omega) (bndS_ge l _)
theorem bndS_take : ∀ (l : List ((Bool × List Nat) × Nat × Nat)) (a i : Nat), bndS (l.take i) a ≤ bndS l a
  | [], a, i => by simp
  | x :: l, a, 0 => by simp only [List.take_zero, bndS]; exact Nat.le_trans (by omega) (bndS_ge l _)
  | x :: l, a, i + 1 => by simp only [List.take_succ_cons, bndS]; exact bndS_take l _ i
theorem bndP_ge : ∀ (l : List ((Bool × List Nat) × Nat × Nat)) (a : Nat), a ≤ bndP l a
  | [], a => Nat.le_refl _
  | x :: l, a => Nat.le_trans (by omega) (bndP_ge l _)
theorem bndP_take : ∀ (l : List ((Bool × List Nat) × Nat × Nat)) (a i : Nat), bndP (l.take i) a ≤ bndP l a
  | [], a, i => by simp
  | x :: l, a, 0 => by simp only [List.take_zero, bndP]; exact Nat.le_trans (by omega) (bndP_ge l _)
  | x :: l, a, i + 1 => by simp only [List.take_succ_cons, bndP]; exact bndP_take l _ i
theorem sumR_snoc (l : List ((Bool × List Nat) × Nat × Nat)) (i : Nat) (h : i < l.length) (a : Int) : sumR (l.take (i + 1)) a = sumR (l.take i) a + zV (l[i]).1.1 (l[i]).1.2 := by
  rw [List.take_add_one, List.getElem?_eq_getElem h, sumR_eq, sumR_eq, List.foldl_append]; rfl
theorem prodR_snoc (l : List ((Bool × List Nat) × Nat × Nat)) (i : Nat) (h : i < l.length) (a : Int) : prodR (l.take (i + 1)) a = prodR (l.take i) a * zV (l[i]).1.1 (l[i]).1.2 := by
  rw [List.take_add_one, List.getElem?_eq_getElem h, prodR_eq, prodR_eq, List.foldl_append]; rfl
theorem gcdR_snoc (l : List ((Bool × List Nat) × Nat × Nat)) (i : Nat) (h : i < l.length) (a : Int) : gcdR (l.take (i + 1)) a = gcd2 (gcdR (l.take i) a) (zV (l[i]).1.1 (l[i]).1.2) := by
  rw [List.take_add_one, List.getElem?_eq_getElem h, gcdR_eq, gcdR_eq, List.foldl_append]; rfl
def sAddR : Spec
  | [.f y] => match sliceR y with
    | some l => some (some (sizeR l ≤ 20000), .nm Int (sumR l 0) fun z => zP z (bndS l 0))
    | none => none
  | _ => none
def sMulR : Spec
  | [.f y] => match sliceR y with
    | some l => some (some (sizeR l ≤ 10000), .nm Int (prodR l 1) fun z => zP z (bndP l 1))
    | none => none
  | _ => none
def sGcdR : Spec
  | [.f y] => match sliceR y with
    | some l => some (some (sizeR l ≤ 20000), .nm Int (gcdR l 0) fun z => zP z (bndS l 0))
    | none => none
  | _ => none
theorem cAddZ {E : World → Hp → Prop} (hU : Up E) : Contract Tryz.prog E 14 sAddR := by
  refine contract_loopsG [(56, sOf), (58, sNormZ), (57, sPlusZ)] Tryz.ntmps14 Tryz.func14 (by kernel_rfl) (by kernel_rfl) hU ⟨cOfR, cNormZ, cPlusZ hU, trivial⟩ ?_
  intro xs p r hs hp
  unfold sAddR at hs
  split at hs
  · rename_i y
    split at hs
    · rename_i l hl
      cases hs
      have hk := hp _ rfl
      have hsub := sub_zs hl
      have hL : (zsOf l).length = l.length := by simp [zsOf]
      refine ⟨[.f (.zs (zsOf l))], [(3, .s ⟨Nat × Int, fun x => ⟨[(0, .f (.zs (zsOf l))), (2, .bp 0 0), (3, .bp 1 0), (4, .f (.v (.int .i64 (x.1 : Nat))))], [.cells [.f (.v (.bool false)), .f (.v (.slice none 0 0))], .cells [.f (.zn x.2), .f (.zd x.2 (bndS l 0))]]⟩,
        fun x => x.1 ≤ l.length ∧ x.2 = sumR (l.take x.1) 0, fun x => l.length - x.1⟩)], .cons hsub .nil, rfl, fun hgx hg => ?_⟩
      have hgood := sliceR_good hl hgx.1.2
      have hbnd : ∀ i, ZB (sumR (l.take i) 0) (bndS l 0) := fun i => (sumR_zb _ 0 0 (ZB.zero 0) fun x hx => (hgood x (List.mem_of_mem_take hx)).2.2).mono (bndS_take l 0 i)
      have hall := hbnd l.length
      rw [List.take_of_length_le (Nat.le_refl _)] at hall
      have hbl := bndS_size l 0 (sliceR_j hl)
      have hll := sizeR_len l
      refine cast_rfl (p := ((-9223372036854775808 : Int) ≤ (0 : Int) ∧ (0 : Int) ≤ (9223372036854775807 : Int)) ∧ ∀ (z1 : Int), z1 = (0 : Int) → ∃ (x2 : Nat × Int), (((SubB (PV.f (Lf.v (Value.bool false))) (PV.f (Lf.v (Value.bool false))) ∧ SubB (PV.f (Lf.v (Value.slice none 0 0))) (PV.f (Lf.v (Value.slice none 0 0))) ∧ True) ∧ (SubB (PV.f (Lf.zn z1)) (PV.f (Lf.zn x2.snd)) ∧ SubB (PV.f (Lf.zd z1 3)) (PV.f (Lf.zd x2.snd (bndS l 0))) ∧ True) ∧ True) ∧ SubB (PV.f (Lf.zs (zsOf l))) (PV.f (Lf.zs (zsOf l))) ∧ SubB (PV.bp 0 0) (PV.bp 0 0) ∧ SubB (PV.bp 1 0) (PV.bp 1 0) ∧ SubB (PV.f (Lf.v (Value.int IntKind.i64 (0 : Int)))) (PV.f (Lf.v (Value.int IntKind.i64 (↑x2.fst : Int)))) ∧ True) ∧ (x2.fst ≤ l.length ∧ x2.snd = sumR (List.take x2.fst l) (0 : Int)) ∧ True ∧ ∀ (z3 : Nat × Int), z3.fst ≤ l.length ∧ z3.snd = sumR (List.take z3.fst l) (0 : Int) → True → ifB (decide ((↑z3.fst : Int) < (↑(zsOf l).length : Int))) (((0 : Int) ≤ (↑z3.fst : Int) ∧ (↑z3.fst : Int) < (↑(zsOf l).length : Int)) ∧ ((zsOf l).getD (↑z3.fst : Int).toNat (false, [], 0)).snd.snd ≤ 1000000 ∧ ∀ (z4 : Int), z4 = zV ((zsOf l).getD (↑z3.fst : Int).toNat (false, [], 0)).fst ((zsOf l).getD (↑z3.fst : Int).toNat (false, [], 0)).snd.fst → bndS l 0 + (((zsOf l).getD (↑z3.fst : Int).toNat (false, [], 0)).snd.snd + 1) ≤ 40000 ∧ ∀ (z5 : Int), z5 = zV (zNeg z3.snd) (digs 1000000000 z3.snd.natAbs) + zV (zNeg z4) (digs 1000000000 z4.natAbs) → ∃ (x6 : Nat × Int), (((SubB (PV.f (Lf.v (Value.bool false))) (PV.f (Lf.v (Value.bool false))) ∧ SubB (PV.f (Lf.v (Value.slice none 0 0))) (PV.f (Lf.v (Value.slice none 0 0))) ∧ True) ∧ (SubB (PV.f (Lf.zn z5)) (PV.f (Lf.zn x6.snd)) ∧ SubB (PV.f (Lf.zd z5 (bndS l 0 + (((zsOf l).getD (↑z3.fst : Int).toNat (false, [], 0)).snd.snd + 1) + 1))) (PV.f (Lf.zd x6.snd (bndS l 0))) ∧ True) ∧ True) ∧ SubB (PV.f (Lf.zs (zsOf l))) (PV.f (Lf.zs (zsOf l))) ∧ SubB (PV.bp 0 0) (PV.bp 0 0) ∧ SubB (PV.bp 1 0) (PV.bp 1 0) ∧ SubB (PV.f (Lf.v (Value.int IntKind.i64 (IntKind.i64.wrap ((↑z3.fst : Int) + (1 : Int)))))) (PV.f (Lf.v (Value.int IntKind.i64 (↑x6.fst : Int)))) ∧ True) ∧ (x6.fst ≤ l.length ∧ x6.snd = sumR (List.take x6.fst l) (0 : Int)) ∧ True ∧ (l.length - x6.fst).succ.le (l.length - z3.fst)) (true = true ∧ Sub (PV.agg [PV.f (Lf.zn z3.snd), PV.f (Lf.zd z3.snd (bndS l 0))]) (PV.agg [PV.f (Lf.zn (sumR l (0 : Int))), PV.f (Lf.zd (sumR l (0 : Int)) (bndS l 0))]))) (by kernel_rfl) ?_
      refine ⟨?s0, fun z1 => fun hz1 => ⟨?x0, ⟨⟨⟨⟨.refl _, ⟨.refl _, trivial⟩⟩, ⟨⟨?m0, ⟨?m1, trivial⟩⟩, trivial⟩⟩, ⟨.refl _, ⟨.refl _, ⟨.refl _, ⟨?m2, trivial⟩⟩⟩⟩⟩, ⟨?s1, ⟨trivial, fun z3 => fun hq0 => fun _ => ifB_iff.2 ⟨fun hb1 => ⟨?s2, ⟨?s3, fun z4 => fun hz4 => ⟨?s4, fun z5 => fun hz5 => ⟨?x1, ⟨⟨⟨⟨.refl _, ⟨.refl _, trivial⟩⟩, ⟨⟨?m3, ⟨?m4, trivial⟩⟩, trivial⟩⟩, ⟨.refl _, ⟨.refl _, ⟨.refl _, ⟨?m5, trivial⟩⟩⟩⟩⟩, ⟨?s5, ⟨trivial, ?m6⟩⟩⟩⟩⟩⟩⟩, fun hb1 => ⟨rfl, ?m7⟩⟩⟩⟩⟩⟩⟩
      case x0 => exact (0, 0)
      case x1 => exact (z3.1 + 1, z5)
      case s0 => omega
      case m0 => exact subB_zn hz1
      case m1 => exact subB_zdB hz1 (ZB.zero _)
      case m2 => exact .refl _
      case s1 => exact ⟨Nat.zero_le _, rfl⟩
      case m7 =>
        have h1 := of_decide_eq_false hb1
        have h2 : z3.1 = l.length := by omega
        have h3 := hq0.2
        rw [h2, List.take_of_length_le (Nat.le_refl _)] at h3
        rw [h3]; exact .refl _
      all_goals have h1 := of_decide_eq_true hb1
      all_goals have hil : z3.1 < l.length := (by omega)
      all_goals have hat := zsOf_at hil
      all_goals have hmem := List.getElem_mem hil
      all_goals have hsz := sizeR_mem _ hmem
      all_goals simp only [Int.toNat_natCast, hat] at *
      case s2 => exact ⟨by omega, by omega⟩
      case s3 => omega
      case s4 => omega
      all_goals have hz : z5 = sumR (l.take (z3.1 + 1)) 0 := (by rw [hz5, zV_self, zV_self, hz4, sumR_snoc l z3.1 hil, ← hq0.2])
      case m3 => exact .refl _
      case m4 => exact subB_zdB rfl (by rw [hz]; exact hbnd _)
      case m5 => exact subB_succ (by omega)
      case s5 => exact ⟨hil, hz⟩
      case m6 => show l.length - (z3.1 + 1) + 1 ≤ l.length - z3.1; omega
    · cases hs
  · cases hs

end Go.Proofs.YtjfncepmpabcnaaGreatDoor

namespace Go.Proofs.YtjfncepmpabcnaaGreatDoor
open Go.RowKit
set_option linter.unusedVariables false
set_option maxRecDepth 100000

theorem vB_dig (z : Int) : vB (digs 1000000000 z.natAbs) = z.natAbs := vB_digs _
theorem sgn_bne (a b : Bool) : (!a == b) = (a != b) := by cases a <;> cases b <;> rfl
theorem bndS_mem : ∀ (l : List ((Bool × List Nat) × Nat × Nat)) (a : Nat), ∀ x ∈ l, x.2.2 ≤ bndS l a
  | y :: l, a, x, h => by
    simp only [bndS]
    rcases List.mem_cons.1 h with rfl | h
    · exact Nat.le_trans (by omega) (bndS_ge l _)
    · exact bndS_mem l _ x h
theorem cMulZ {E : World → Hp → Prop} (hU : Up E) : Contract Tryz.prog E 16 sMulR := by
  refine contract_loopsG [(56, sOf), (58, sNormZ), (61, sOfB), (62, sMulL)] Tryz.ntmps16 Tryz.func16 (by kernel_rfl) (by kernel_rfl) hU ⟨cOfR, cNormZ, cOfB, cMulL, trivial⟩ ?_
  intro xs p r hs hp
  unfold sMulR at hs
  split at hs
  · rename_i y
    split at hs
    · rename_i l hl
      cases hs
      have hk := hp _ rfl
      have hsub := sub_zs hl
      have hL : (zsOf l).length = l.length := by simp [zsOf]
      refine ⟨[.f (.zs (zsOf l))], [(3, .s ⟨Nat × Int, fun x => ⟨[(0, .f (.zs (zsOf l))), (2, .bp 0 0), (3, .bp 1 0), (4, .f (.v (.int .i64 (x.1 : Nat))))], [.cells [.f (.v (.bool false)), .f (.v (.slice none 0 0))], .cells [.f (.zn x.2), .f (.zd x.2 (bndP l 1))]]⟩,
        fun x => x.1 ≤ l.length ∧ x.2 = prodR (l.take x.1) 1, fun x => l.length - x.1⟩)], .cons hsub .nil, rfl, fun hgx hg => ?_⟩
      have hgood := sliceR_good hl hgx.1.2
      have hbnd : ∀ i, ZB (prodR (l.take i) 1) (bndP l 1) := fun i => (prodR_zb _ 1 1 ZB.one fun x hx => (hgood x (List.mem_of_mem_take hx)).2.2).mono (bndP_take l 1 i)
      have hbl := bndP_size l 1 (sliceR_j hl)
      have hll := sizeR_len l
      refine cast_rfl (p := ((-9223372036854775808 : Int) ≤ (1 : Int) ∧ (1 : Int) ≤ (9223372036854775807 : Int)) ∧ ∀ (z1 : Int), z1 = (1 : Int) → ∃ (x2 : Nat × Int), (((SubB (PV.f (Lf.v (Value.bool false))) (PV.f (Lf.v (Value.bool false))) ∧ SubB (PV.f (Lf.v (Value.slice none 0 0))) (PV.f (Lf.v (Value.slice none 0 0))) ∧ True) ∧ (SubB (PV.f (Lf.zn z1)) (PV.f (Lf.zn x2.snd)) ∧ SubB (PV.f (Lf.zd z1 3)) (PV.f (Lf.zd x2.snd (bndP l 1))) ∧ True) ∧ True) ∧ SubB (PV.f (Lf.zs (zsOf l))) (PV.f (Lf.zs (zsOf l))) ∧ SubB (PV.bp 0 0) (PV.bp 0 0) ∧ SubB (PV.bp 1 0) (PV.bp 1 0) ∧ SubB (PV.f (Lf.v (Value.int IntKind.i64 (0 : Int)))) (PV.f (Lf.v (Value.int IntKind.i64 (↑x2.fst : Int)))) ∧ True) ∧ (x2.fst ≤ l.length ∧ x2.snd = prodR (List.take x2.fst l) (1 : Int)) ∧ True ∧ ∀ (z3 : Nat × Int), z3.fst ≤ l.length ∧ z3.snd = prodR (List.take z3.fst l) (1 : Int) → True → ifB (decide ((↑z3.fst : Int) < (↑(zsOf l).length : Int))) (((0 : Int) ≤ (↑z3.fst : Int) ∧ (↑z3.fst : Int) < (↑(zsOf l).length : Int)) ∧ ((zsOf l).getD (↑z3.fst : Int).toNat (false, [], 0)).snd.snd ≤ 1000000 ∧ ∀ (z4 : Int), z4 = zV ((zsOf l).getD (↑z3.fst : Int).toNat (false, [], 0)).fst ((zsOf l).getD (↑z3.fst : Int).toNat (false, [], 0)).snd.fst → sizeL [(digs 1000000000 z3.snd.natAbs, bndP l 1), (digs 1000000000 z4.natAbs, ((zsOf l).getD (↑z3.fst : Int).toNat (false, [], 0)).snd.snd + 1)] ≤ 100000 ∧ ∀ (z5 : Nat), z5 = prodL' [(digs 1000000000 z3.snd.natAbs, bndP l 1), (digs 1000000000 z4.natAbs, ((zsOf l).getD (↑z3.fst : Int).toNat (false, [], 0)).snd.snd + 1)] 1 → sizeL [(digs 1000000000 z3.snd.natAbs, bndP l 1), (digs 1000000000 z4.natAbs, ((zsOf l).getD (↑z3.fst : Int).toNat (false, [], 0)).snd.snd + 1)] + 1 ≤ 1000000 ∧ ∀ (z6 : Int), z6 = zV (!zNeg z3.snd == zNeg z4) (digs 1000000000 (↑z5 : Int).natAbs) → ∃ (x7 : Nat × Int), (((SubB (PV.f (Lf.v (Value.bool false))) (PV.f (Lf.v (Value.bool false))) ∧ SubB (PV.f (Lf.v (Value.slice none 0 0))) (PV.f (Lf.v (Value.slice none 0 0))) ∧ True) ∧ (SubB (PV.f (Lf.zn z6)) (PV.f (Lf.zn x7.snd)) ∧ SubB (PV.f (Lf.zd z6 (sizeL [(digs 1000000000 z3.snd.natAbs, bndP l 1), (digs 1000000000 z4.natAbs, ((zsOf l).getD (↑z3.fst : Int).toNat (false, [], 0)).snd.snd + 1)] + 1 + 1))) (PV.f (Lf.zd x7.snd (bndP l 1))) ∧ True) ∧ True) ∧ SubB (PV.f (Lf.zs (zsOf l))) (PV.f (Lf.zs (zsOf l))) ∧ SubB (PV.bp 0 0) (PV.bp 0 0) ∧ SubB (PV.bp 1 0) (PV.bp 1 0) ∧ SubB (PV.f (Lf.v (Value.int IntKind.i64 (IntKind.i64.wrap ((↑z3.fst : Int) + (1 : Int)))))) (PV.f (Lf.v (Value.int IntKind.i64 (↑x7.fst : Int)))) ∧ True) ∧ (x7.fst ≤ l.length ∧ x7.snd = prodR (List.take x7.fst l) (1 : Int)) ∧ True ∧ (l.length - x7.fst).succ.le (l.length - z3.fst)) (true = true ∧ Sub (PV.agg [PV.f (Lf.zn z3.snd), PV.f (Lf.zd z3.snd (bndP l 1))]) (PV.agg [PV.f (Lf.zn (prodR l (1 : Int))), PV.f (Lf.zd (prodR l (1 : Int)) (bndP l 1))]))) (by kernel_rfl) ?_
      refine ⟨?s0, fun z1 => fun hz1 => ⟨?x0, ⟨⟨⟨⟨.refl _, ⟨.refl _, trivial⟩⟩, ⟨⟨?m0, ⟨?m1, trivial⟩⟩, trivial⟩⟩, ⟨.refl _, ⟨.refl _, ⟨.refl _, ⟨?m2, trivial⟩⟩⟩⟩⟩, ⟨?s1, ⟨trivial, fun z3 => fun hq0 => fun _ => ifB_iff.2 ⟨fun hb1 => ⟨?s2, ⟨?s3, fun z4 => fun hz4 => ⟨?s4, fun z5 => fun hz5 => ⟨?s5, fun z6 => fun hz6 => ⟨?x1, ⟨⟨⟨⟨.refl _, ⟨.refl _, trivial⟩⟩, ⟨⟨?m3, ⟨?m4, trivial⟩⟩, trivial⟩⟩, ⟨.refl _, ⟨.refl _, ⟨.refl _, ⟨?m5, trivial⟩⟩⟩⟩⟩, ⟨?s6, ⟨trivial, ?m6⟩⟩⟩⟩⟩⟩⟩⟩, fun hb1 => ⟨rfl, ?m7⟩⟩⟩⟩⟩⟩⟩
      case x0 => exact (0, 1)
      case x1 => exact (z3.1 + 1, z6)
      case s0 => omega
      case m0 => exact subB_zn hz1
      case m1 => exact subB_zdB hz1 (ZB.one.mono (bndP_ge l 1))
      case m2 => exact .refl _
      case s1 => exact ⟨Nat.zero_le _, rfl⟩
      case m7 =>
        have h1 := of_decide_eq_false hb1
        have h2 : z3.1 = l.length := by omega
        have h3 := hq0.2
        rw [h2, List.take_of_length_le (Nat.le_refl _)] at h3
        rw [h3]; exact .refl _
      all_goals have h1 := of_decide_eq_true hb1
      all_goals have hil : z3.1 < l.length := (by omega)
      all_goals have hat := zsOf_at hil
      all_goals have hmem := List.getElem_mem hil
      all_goals have hsz := sizeR_mem _ hmem
      all_goals simp only [Int.toNat_natCast, hat] at *
      case s2 => exact ⟨by omega, by omega⟩
      case s3 => omega
      case s4 => simp only [sizeL]; omega
      case s5 => simp only [sizeL]; omega
      all_goals have hz : z6 = prodR (l.take (z3.1 + 1)) 1 := (by
        rw [hz6, zV_dig, hz5]
        simp only [prodL', Nat.one_mul, vB_dig]
        rw [prodR_snoc l z3.1 hil, ← hq0.2, ← hz4, Int.natAbs_natCast, sgn_bne, times_z])
      case m3 => exact .refl _
      case m4 => exact subB_zdB rfl (by rw [hz]; exact hbnd _)
      case m5 => exact subB_succ (by omega)
      case s6 => exact ⟨hil, hz⟩
      case m6 => show l.length - (z3.1 + 1) + 1 ≤ l.length - z3.1; omega
    · cases hs
  · cases hs
theorem cGcdZ {E : World → Hp → Prop} (hU : Up E) : Contract Tryz.prog E 18 sGcdR := by
  refine contract_loopsG [(67, sTrimL), (68, sDivL), (61, sOfB)] Tryz.ntmps18 Tryz.func18 (by kernel_rfl) (by kernel_rfl) hU ⟨cTrimL, cDivL hU, cOfB, trivial⟩ ?_
  intro xs p r hs hp
  unfold sGcdR at hs
  split at hs
  · rename_i y
    split at hs
    · rename_i l hl
      cases hs
      have hk := hp _ rfl
      have hsub := sub_zs hl
      have hL : (zsOf l).length = l.length := by simp [zsOf]
      refine ⟨[.f (.zs (zsOf l))], [(3, .s ⟨Nat × Nat, fun x => ⟨[(0, .f (.zs (zsOf l))), (2, .bp 0 0), (3, .f (.zd (x.2 : Int) (bndS l 0))), (4, .f (.v (.int .i64 (x.1 : Nat))))], [.cells [.f (.v (.bool false)), .f (.v (.slice none 0 0))]]⟩,
        fun x => x.1 ≤ l.length ∧ (x.2 : Int) = gcdR (l.take x.1) 0, fun x => l.length - x.1⟩), (6, ⟨Nat × Nat × Nat, fun x => ⟨[(0, .f (.zs (zsOf l))), (2, .bp 0 0), (3, .f (.zd (x.2.1 : Int) (bndS l 0 + 1))), (4, .f (.v (.int .i64 (x.1 : Nat)))), (5, .f (.zd (x.2.2 : Int) (bndS l 0 + 1)))], [.cells [.f (.v (.bool false)), .f (.v (.slice none 0 0))]]⟩,
        fun x => ZB (x.2.1 : Int) (bndS l 0 + 1) ∧ ZB (x.2.2 : Int) (bndS l 0 + 1), fun x => x.2.2, fun x y => x.1 = y.1 ∧ Nat.gcd x.2.1 x.2.2 = Nat.gcd y.2.1 y.2.2⟩)], .cons hsub .nil, rfl, fun hgx hg => ?_⟩
      have hgood := sliceR_good hl hgx.1.2
      have hbnd : ∀ i, ZB (gcdR (l.take i) 0) (bndS l 0) := fun i => (gcdR_zb _ 0 0 (ZB.zero 0) fun x hx => (hgood x (List.mem_of_mem_take hx)).2.2).mono (bndS_take l 0 i)
      have hbl := bndS_size l 0 (sliceR_j hl)
      have hll := sizeR_len l
      have hK : ∀ x ∈ l, x.2.2 ≤ bndS l 0 := bndS_mem l 0
      refine cast_rfl (p := ∃ (x1 : Nat × Nat), (((SubB (PV.f (Lf.v (Value.bool false))) (PV.f (Lf.v (Value.bool false))) ∧ SubB (PV.f (Lf.v (Value.slice none 0 0))) (PV.f (Lf.v (Value.slice none 0 0))) ∧ True) ∧ True) ∧ SubB (PV.f (Lf.zs (zsOf l))) (PV.f (Lf.zs (zsOf l))) ∧ SubB (PV.bp 0 0) (PV.bp 0 0) ∧ SubB (PV.f (Lf.v (Value.slice none 0 0))) (PV.f (Lf.zd (↑x1.snd : Int) (bndS l 0))) ∧ SubB (PV.f (Lf.v (Value.int IntKind.i64 (0 : Int)))) (PV.f (Lf.v (Value.int IntKind.i64 (↑x1.fst : Int)))) ∧ True) ∧ (x1.fst ≤ l.length ∧ (↑x1.snd : Int) = gcdR (List.take x1.fst l) (0 : Int)) ∧ True ∧ ∀ (z2 : Nat × Nat), z2.fst ≤ l.length ∧ (↑z2.snd : Int) = gcdR (List.take z2.fst l) (0 : Int) → True → ifB (decide ((↑z2.fst : Int) < (↑(zsOf l).length : Int))) (((0 : Int) ≤ (↑z2.fst : Int) ∧ (↑z2.fst : Int) < (↑(zsOf l).length : Int)) ∧ ((zsOf l).getD (↑z2.fst : Int).toNat (false, [], 0)).snd.snd ≤ 1000000 ∧ ∀ (z3 : Nat), z3 = vB ((zsOf l).getD (↑z2.fst : Int).toNat (false, [], 0)).snd.fst → ∃ (x4 : Nat × Nat × Nat), (((SubB (PV.f (Lf.v (Value.bool false))) (PV.f (Lf.v (Value.bool false))) ∧ SubB (PV.f (Lf.v (Value.slice none 0 0))) (PV.f (Lf.v (Value.slice none 0 0))) ∧ True) ∧ True) ∧ SubB (PV.f (Lf.zs (zsOf l))) (PV.f (Lf.zs (zsOf l))) ∧ SubB (PV.bp 0 0) (PV.bp 0 0) ∧ SubB (PV.f (Lf.zd (↑z2.snd : Int) (bndS l 0))) (PV.f (Lf.zd (↑x4.snd.fst : Int) (bndS l 0 + 1))) ∧ SubB (PV.f (Lf.v (Value.int IntKind.i64 (↑z2.fst : Int)))) (PV.f (Lf.v (Value.int IntKind.i64 (↑x4.fst : Int)))) ∧ SubB (PV.f (Lf.zd (↑z3 : Int) (((zsOf l).getD (↑z2.fst : Int).toNat (false, [], 0)).snd.snd + 1))) (PV.f (Lf.zd (↑x4.snd.snd : Int) (bndS l 0 + 1))) ∧ True) ∧ (ZB (↑x4.snd.fst : Int) (bndS l 0 + 1) ∧ ZB (↑x4.snd.snd : Int) (bndS l 0 + 1)) ∧ (x4.fst = x4.fst ∧ x4.snd.fst.gcd x4.snd.snd = x4.snd.fst.gcd x4.snd.snd) ∧ ∀ (z5 : Nat × Nat × Nat), ZB (↑z5.snd.fst : Int) (bndS l 0 + 1) ∧ ZB (↑z5.snd.snd : Int) (bndS l 0 + 1) → x4.fst = z5.fst ∧ x4.snd.fst.gcd x4.snd.snd = z5.snd.fst.gcd z5.snd.snd → ifB (decide ((↑(digs 1000000000 (↑z5.snd.snd : Int).natAbs).length : Int) > (0 : Int))) ((bndS l 0 + 1 ≤ 100000 ∧ bndS l 0 + 1 ≤ 100000 ∧ vB (digs 1000000000 (↑z5.snd.snd : Int).natAbs) ≠ 0) ∧ ∀ (z6 : Nat), z6 = vB (digs 1000000000 (↑z5.snd.fst : Int).natAbs) / vB (digs 1000000000 (↑z5.snd.snd : Int).natAbs) → ∀ (z7 : Nat), z7 = vB (digs 1000000000 (↑z5.snd.fst : Int).natAbs) % vB (digs 1000000000 (↑z5.snd.snd : Int).natAbs) → ∃ (x8 : Nat × Nat × Nat), (((SubB (PV.f (Lf.v (Value.bool false))) (PV.f (Lf.v (Value.bool false))) ∧ SubB (PV.f (Lf.v (Value.slice none 0 0))) (PV.f (Lf.v (Value.slice none 0 0))) ∧ True) ∧ True) ∧ SubB (PV.f (Lf.zs (zsOf l))) (PV.f (Lf.zs (zsOf l))) ∧ SubB (PV.bp 0 0) (PV.bp 0 0) ∧ SubB (PV.f (Lf.zd (↑z5.snd.snd : Int) (bndS l 0 + 1))) (PV.f (Lf.zd (↑x8.snd.fst : Int) (bndS l 0 + 1))) ∧ SubB (PV.f (Lf.v (Value.int IntKind.i64 (↑z5.fst : Int)))) (PV.f (Lf.v (Value.int IntKind.i64 (↑x8.fst : Int)))) ∧ SubB (PV.f (Lf.zd (↑z7 : Int) (bndS l 0 + 1 + 1))) (PV.f (Lf.zd (↑x8.snd.snd : Int) (bndS l 0 + 1))) ∧ True) ∧ (ZB (↑x8.snd.fst : Int) (bndS l 0 + 1) ∧ ZB (↑x8.snd.snd : Int) (bndS l 0 + 1)) ∧ (x4.fst = x8.fst ∧ x4.snd.fst.gcd x4.snd.snd = x8.snd.fst.gcd x8.snd.snd) ∧ x8.snd.snd.succ.le z5.snd.snd) (∃ (x6 : Nat × Nat), (((SubB (PV.f (Lf.v (Value.bool false))) (PV.f (Lf.v (Value.bool false))) ∧ SubB (PV.f (Lf.v (Value.slice none 0 0))) (PV.f (Lf.v (Value.slice none 0 0))) ∧ True) ∧ True) ∧ SubB (PV.f (Lf.zs (zsOf l))) (PV.f (Lf.zs (zsOf l))) ∧ SubB (PV.bp 0 0) (PV.bp 0 0) ∧ SubB (PV.f (Lf.zd (↑z5.snd.fst : Int) (bndS l 0 + 1))) (PV.f (Lf.zd (↑x6.snd : Int) (bndS l 0))) ∧ SubB (PV.f (Lf.v (Value.int IntKind.i64 (IntKind.i64.wrap ((↑z5.fst : Int) + (1 : Int)))))) (PV.f (Lf.v (Value.int IntKind.i64 (↑x6.fst : Int)))) ∧ True) ∧ (x6.fst ≤ l.length ∧ (↑x6.snd : Int) = gcdR (List.take x6.fst l) (0 : Int)) ∧ True ∧ (l.length - x6.fst).succ.le (l.length - z2.fst))) (bndS l 0 ≤ 1000000 ∧ ∀ (z3 : Int), z3 = zV false (digs 1000000000 (↑z2.snd : Int).natAbs) → true = true ∧ Sub (PV.agg [PV.f (Lf.zn z3), PV.f (Lf.zd z3 (bndS l 0 + 1))]) (PV.agg [PV.f (Lf.zn (gcdR l (0 : Int))), PV.f (Lf.zd (gcdR l (0 : Int)) (bndS l 0))]))) (by kernel_rfl) ?_
      refine ⟨?x0, ⟨⟨⟨⟨.refl _, ⟨.refl _, trivial⟩⟩, trivial⟩, ⟨.refl _, ⟨.refl _, ⟨?m0, ⟨?m1, trivial⟩⟩⟩⟩⟩, ⟨?s0, ⟨trivial, fun z2 => fun hq0 => fun _ => ifB_iff.2 ⟨fun hb1 => ⟨?s1, ⟨?s2, fun z3 => fun hz3 => ⟨?x1, ⟨⟨⟨⟨.refl _, ⟨.refl _, trivial⟩⟩, trivial⟩, ⟨.refl _, ⟨.refl _, ⟨?m2, ⟨?m3, ⟨?m4, trivial⟩⟩⟩⟩⟩⟩, ⟨?s3, ⟨?s4, fun z5 => fun hq2 => fun hq3 => ifB_iff.2 ⟨fun hb4 => ⟨?s5, fun z6 => fun hz6 => fun z7 => fun hz7 => ⟨?x2, ⟨⟨⟨⟨.refl _, ⟨.refl _, trivial⟩⟩, trivial⟩, ⟨.refl _, ⟨.refl _, ⟨?m5, ⟨?m6, ⟨?m7, trivial⟩⟩⟩⟩⟩⟩, ⟨?s6, ⟨?s7, ?m8⟩⟩⟩⟩⟩, fun hb4 => ⟨?x3, ⟨⟨⟨⟨.refl _, ⟨.refl _, trivial⟩⟩, trivial⟩, ⟨.refl _, ⟨.refl _, ⟨?m9, ⟨?m10, trivial⟩⟩⟩⟩⟩, ⟨?s8, ⟨trivial, ?m11⟩⟩⟩⟩⟩⟩⟩⟩⟩⟩⟩, fun hb1 => ⟨?s9, fun z3 => fun hz3 => ⟨rfl, ?m12⟩⟩⟩⟩⟩⟩⟩
      case x0 => exact (0, 0)
      case x1 => exact (z2.1, z2.2, z3)
      case x2 => exact (z5.1, z5.2.2, z7)
      case x3 => exact (z2.1 + 1, z5.2.1)
      case m0 => exact subB_of (sub_nil0 _)
      case m1 => exact .refl _
      case s0 => exact ⟨Nat.zero_le _, rfl⟩
      case s9 => omega
      case m12 =>
        have h1 := of_decide_eq_false hb1
        have h2 : z2.1 = l.length := by omega
        have h3 := hq0.2
        rw [h2, List.take_of_length_le (Nat.le_refl _)] at h3
        have : z3 = gcdR l 0 := by rw [hz3, Int.natAbs_natCast, zV_dig, zOf_false]; exact h3
        subst this
        have h4 := hbnd l.length
        rw [List.take_of_length_le (Nat.le_refl _)] at h4
        exact sub_zP h4
      all_goals have h1 := of_decide_eq_true hb1
      all_goals have hil : z2.1 < l.length := (by omega)
      all_goals have hat := zsOf_at hil
      all_goals have hmem := List.getElem_mem hil
      all_goals have hsz := sizeR_mem _ hmem
      all_goals simp only [Int.toNat_natCast, hat] at *
      case s1 => exact ⟨by omega, by omega⟩
      case s2 => omega
      all_goals have hg1 : ZB (z2.2 : Int) (bndS l 0 + 1) := (by rw [hq0.2]; exact (hbnd _).mono (by omega))
      all_goals have hz3a : (zV (l[z2.1]).1.1 (l[z2.1]).1.2).natAbs = z3 := (by rw [hz3, zV_vB, zOf_abs])
      all_goals have hz3b : ZB (z3 : Int) (bndS l 0 + 1) := (by
        have h5 := (hgood _ hmem).2.2.mono (hK _ hmem)
        unfold ZB at h5
        rw [hz3a] at h5
        exact ZB.mono (k := bndS l 0 + 1) (j := bndS l 0) (by unfold ZB; rw [Int.natAbs_natCast]; exact h5) (by omega))
      case m2 => exact subB_zdB rfl hg1
      case m3 => exact .refl _
      case m4 => exact subB_zdB rfl hz3b
      case s3 => exact ⟨hg1, hz3b⟩
      case s4 => exact ⟨by trivial, by trivial⟩
      all_goals obtain ⟨c1, c2⟩ := hq2
      all_goals obtain ⟨e1, e2⟩ := hq3
      all_goals have hgc : ((Nat.gcd z2.2 z3 : Nat) : Int) = gcdR (l.take (z2.1 + 1)) 0 := (by
        rw [gcdR_snoc l z2.1 hil, ← hq0.2]
        unfold gcd2
        rw [hz3a, Int.natAbs_natCast])
      all_goals simp only [Int.natAbs_natCast, vB_digs] at *
      case m9 =>
        have h5 : digs 1000000000 z5.2.2 = [] := List.length_eq_zero_iff.1 (by have := of_decide_eq_false hb4; omega)
        have h6 := val_digs 1000000000 (by omega) z5.2.2
        rw [h5] at h6
        have h7 : z5.2.2 = 0 := h6.symm
        rw [h7, Nat.gcd_zero_right] at e2
        exact subB_zdB rfl (by rw [← e2, hgc]; exact hbnd _)
      case m10 => exact subB_int (by rw [← e1]; exact wI _ (by omega) (by omega))
      case s8 =>
        have h5 : digs 1000000000 z5.2.2 = [] := List.length_eq_zero_iff.1 (by have := of_decide_eq_false hb4; omega)
        have h6 := val_digs 1000000000 (by omega) z5.2.2
        rw [h5] at h6
        have h7 : z5.2.2 = 0 := h6.symm
        rw [h7, Nat.gcd_zero_right] at e2
        exact ⟨hil, by rw [← e2]; exact hgc⟩
      case m11 => show l.length - (z2.1 + 1) + 1 ≤ l.length - z2.1; omega
      all_goals have h0 : z5.2.2 ≠ 0 := (by
        intro hc
        rw [hc] at hb4
        cases hb4)
      case s5 => exact ⟨by omega, by omega, h0⟩
      all_goals have hml : z7 < z5.2.2 := (by rw [hz7]; exact Nat.mod_lt _ (by omega))
      case m5 => exact .refl _
      case m6 => exact .refl _
      case m7 => exact subB_zdB rfl (c2.leN (Nat.le_of_lt hml))
      case s6 => exact ⟨c2, c2.leN (Nat.le_of_lt hml)⟩
      case s7 => exact ⟨e1, by rw [e2, hz7, Nat.gcd_comm z5.2.1, Nat.gcd_rec, Nat.gcd_comm]⟩
      case m8 => exact hml
    · cases hs
  · cases hs

end Go.Proofs.YtjfncepmpabcnaaGreatDoor
