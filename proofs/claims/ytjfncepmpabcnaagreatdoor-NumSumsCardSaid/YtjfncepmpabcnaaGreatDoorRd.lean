/- The reference of chapter 1 by the pure run: what is handed out. -/
import Derived.Test.YtjfncepmpabcnaaGreatDoorRc
import Derived.Test.YtjfncepmpabcnaaGreatDoorRefG
import Derived.Test.YtjfncepmpabcnaaGreatDoorNumK
import Derived.Lib.IndexBytes
namespace Go.Proofs.YtjfncepmpabcnaaGreatDoor
open Go.RowKit
set_option linter.unusedVariables false
set_option maxRecDepth 100000

theorem rd_isN {H : Hp} {v : Value} {kd : IntKind} {l : List Nat} {w : World} (h : Rd H v (.is kd (iN l))) (hw : Fro H w) : RdI w v kd l := by
  obtain ⟨ao, cap, val, rfl, h1, h2, h3, h4, b, o, h5, h6⟩ := rd_row h rfl
  have hm : cap ≤ maxLen := by
    cases h with
    | sl hv hg hc hm => exact hm
  rw [iN_len] at *
  refine ⟨ao, cap, rfl, h1, hm, h2, fun i hi => ⟨⟨b, o, none⟩, h5 (by omega), ?_⟩⟩
  have h7 := h6 i (by omega)
  rw [flatV_get (by omega)] at h7
  have h8 := (h4 (i / 1) (by rw [Nat.div_one]; exact hi) (i % 1) _ (by rw [Nat.mod_one]; rfl)).val rfl
  rw [h8, Nat.div_one, iN_at] at h7
  rw [at_add]
  exact hw _ _ _ h7
/-- Limbs, as they came. -/
def limL : Lf → Option (List Nat × Nat)
  | .lr l k => some (l, k)
  | .zd z k => some (digs 1000000000 z.natAbs, k)
  | .v (.slice none 0 0) => some ([], 0)
  | _ => none
theorem limL_rd {H : Hp} {v : Value} {f : Lf} {l : List Nat} {k : Nat} {w : World} (h : limL f = some (l, k)) (hv : Rd H v f) (hw : Fro H w) : RdI w v .u32 l ∧ l.length ≤ k ∧ ∀ x ∈ l, x < 4294967296 := by
  unfold limL at h
  split at h
  · cases h
    have hg := hv.good'
    exact ⟨rd_lim (k := 0) hv rfl hw, hg.1, hg.2⟩
  · rename_i z k'
    cases h
    have hg : ZB z k := hv.good'
    exact ⟨rd_lim (k := 0) hv rfl hw, zd_len hg, digs_small z⟩
  · cases h
    have := hv.val rfl
    subst this
    exact ⟨⟨none, 0, rfl, Nat.le_refl _, by unfold maxLen; omega, fun _ => rfl, fun i hi => absurd hi (Nat.not_lt_zero i)⟩, Nat.le_refl _, by simp⟩
  · cases h
theorem limL_sub {f : Lf} {l : List Nat} {k : Nat} (h : limL f = some (l, k)) : Sub (.f f) (.f (.lr l k)) := by
  refine ⟨fun H v hv => ?_⟩
  have hr := hv.rd
  unfold limL at h
  split at h
  · cases h; exact hv
  · rename_i z k'
    cases h
    cases hr with
    | sl hv hg hc hm h0 b o val hb hcell hk hrec => exact .f (.sl (f := .lr _ k) hv ⟨zd_len hg, digs_small z⟩ hc hm h0 b o val hb hcell hk hrec)
  · cases h
    have := hr.val rfl
    subst this
    exact .f (.slf (fun _ => rfl) (f := .lr [] 0) (k := 1) (n := 0) rfl ⟨Nat.le_refl _, by simp⟩ (Nat.le_refl _) (by unfold maxLen; omega) (fun _ => rfl) 0 0 (fun _ _ => undef) (fun h => by omega) (fun i h => by omega) (fun i h => by omega) (fun i h => by omega))
  · cases h
theorem sub_zd {z : Int} {k k' : Nat} (h : ZB z k') : Sub (.f (.zd z k)) (.f (.zd z k')) := ⟨fun H v hv => by
  cases hv.rd with
  | sl hv hg hc hm h0 b o val hb hcell hkk hrec => exact .f (.sl (f := .zd z k') hv h hc hm h0 b o val hb hcell hkk hrec)⟩
/-- The value of limbs as they came. -/
def vB (l : List Nat) : Nat := val 1000000000 l
theorem zb_vB {l : List Nat} {k : Nat} (h : ∀ x ∈ l, x < 4294967296) (hk : l.length ≤ k) : ZB (vB l : Nat) (k + 1) := by
  exact (zV_zb false l h).mono (by omega)
/-- A number's limbs. -/
def lP (n k : Nat) : PV := .f (.zd (n : Int) k)
def sWriteD : Spec
  | [.f (.is .u8 l)] => some (some (R10 l 100000000), .nm Nat (vI l) fun n => lP n l.length)
  | _ => none
def sReadL : Spec
  | [.f x] => match limL x with
    | some (l, k) => some (some (k ≤ 1000000), .nm Nat (vB l) dP)
    | none => none
  | _ => none
def sTrimL : Spec
  | [.f x] => match limL x with
    | some (l, k) => some (some (k ≤ 1000000), .nm Nat (vB l) fun n => lP n (k + 1))
    | none => none
  | _ => none
def rowsL : List (List Lf) → Option (List (List Nat × Nat))
  | [] => some []
  | [x] :: r => match limL x, rowsL r with
    | some y, some l => some (y :: l)
    | _, _ => none
  | _ :: _ => none
def sumL' : List (List Nat × Nat) → Nat → Nat
  | [], a => a
  | x :: l, a => sumL' l (a + vB x.1)
def prodL' : List (List Nat × Nat) → Nat → Nat
  | [], a => a
  | x :: l, a => prodL' l (a * vB x.1)
def sizeL : List (List Nat × Nat) → Nat
  | [] => 0
  | x :: l => 2 * x.2 + 2 + sizeL l
def sAddL : Spec
  | [.f (.row 1 R)] => match rowsL R with
    | some l => some (some (sizeL l ≤ 100000), .nm Nat (sumL' l 0) fun n => lP n (sizeL l))
    | none => none
  | _ => none
def sMulL : Spec
  | [.f (.row 1 R)] => match rowsL R with
    | some l => some (some (sizeL l ≤ 100000), .nm Nat (prodL' l 1) fun n => lP n (sizeL l + 1))
    | none => none
  | _ => none
section
variable {E : World → Hp → Prop}
theorem zb_len10 {n k : Nat} (h : (digs 10 n).length ≤ k) : ZB (n : Int) k := by
  unfold ZB
  rw [Int.natAbs_natCast]
  exact Nat.lt_of_lt_of_le (lt_pow_digs h) (Nat.pow_le_pow_left (by omega) k)
theorem own_lP {w w' : World} {H : Hp} {v : Value} {n k : Nat} {e : TypeId} (ho : Own w' w.heap.size e .u32 v (digs 1000000000 n)) (hz : ZB (n : Int) k) : PR (Hall H w w') B0 v (lP n k) :=
  .f (own_rd (z := (n : Int)) (by rw [Int.natAbs_natCast]; exact ho) hz)
theorem cWriteD : Contract Tryz.prog E 111 sWriteD := by
  intro xs p r hs hp w H vs hf hE hvs
  unfold sWriteD at hs
  split at hs
  · rename_i l
    cases hs
    obtain ⟨h1, n, rfl⟩ := hp _ rfl
    obtain ⟨v, rfl, hv⟩ := one_arg hvs
    rw [iN_len] at h1
    refine (refWrite_any v _ w (rd_isN hv.rd hf) h1 (digs_rgt 10 (by omega) n)).mono ?_
    rintro e w' ⟨u, rfl, ho, hbl⟩
    refine ⟨_, u, rfl, ext_all hf hbl, ?_⟩
    show PR _ _ _ (lP (vI (iN (digs 10 n))) _)
    rw [val_digs 10 (by omega)] at ho
    rw [vI_digs, iN_len]
    exact own_lP ho (zb_len10 (Nat.le_refl _))
  · cases hs
theorem cReadL (hU : Up E) : Contract Tryz.prog E 110 sReadL := by
  refine (cReadD hU).weaken fun xs p r hs hp => ?_
  unfold sReadL at hs
  split at hs
  · rename_i x
    split at hs
    · rename_i l k hx
      cases hs
      exact ⟨_, _, _, .cons (limL_sub hx) .nil, rfl, hp, .refl _⟩
    · cases hs
  · cases hs
theorem cTrimL : Contract Tryz.prog E 67 sTrimL := by
  intro xs p r hs hp w H vs hf hE hvs
  unfold sTrimL at hs
  split at hs
  · rename_i x
    split at hs
    · rename_i l k hx
      cases hs
      have hk := hp _ rfl
      obtain ⟨v, rfl, hv⟩ := one_arg hvs
      obtain ⟨h1, h2, h3⟩ := limL_rd hx hv.rd hf
      refine (refTrimR_any v l w h1 (Nat.le_trans h2 hk) h3).mono ?_
      rintro e w' ⟨u, rfl, ho, hbl⟩
      exact ⟨_, u, rfl, ext_all hf hbl, own_lP ho (zb_vB h3 h2)⟩
    · cases hs
  · cases hs
theorem rowsL_at : ∀ {R : List (List Lf)} {l : List (List Nat × Nat)}, rowsL R = some l → l.length = R.length ∧ ∀ (i : Nat) (y : List Nat × Nat), l[i]? = some y → ∃ x, R[i]? = some [x] ∧ limL x = some y
  | [], l, h => by simp only [rowsL, Option.some.injEq] at h; subst h; exact ⟨rfl, fun i y hy => by simp at hy⟩
  | [x] :: R, l, h => by
    simp only [rowsL] at h
    split at h
    · rename_i y l' hy hl
      cases h
      obtain ⟨h1, h2⟩ := rowsL_at hl
      refine ⟨by simp [h1], fun i z hz => ?_⟩
      cases i with
      | zero => cases hz; exact ⟨x, rfl, hy⟩
      | succ i => exact h2 i z hz
    · cases h
  | [] :: R, l, h => by simp [rowsL] at h
  | (_ :: _ :: _) :: R, l, h => by simp [rowsL] at h
theorem rowsL_rd {H : Hp} {v : Value} {R : List (List Lf)} {l : List (List Nat × Nat)} {w : World} (h : rowsL R = some l) (hv : Rd H v (.row 1 R)) (hw : Fro H w) : RdRows w v .u32 (l.map (·.1)) ∧ (∀ x ∈ l, x.1.length ≤ x.2) ∧ ∀ x ∈ l, ∀ y ∈ x.1, y < 4294967296 := by
  obtain ⟨h1, h2⟩ := rowsL_at h
  obtain ⟨ao, cap, vv, rfl, h3, h4, h5, h6, b, o, h7, h8⟩ := rd_row hv rfl
  have hm : cap ≤ maxLen := by
    cases hv with
    | sl hv hg hc hm => exact hm
  have key : ∀ i y, l[i]? = some y → ∃ u, w.cell? ⟨b, o + i, none⟩ = some u ∧ RdI w u .u32 y.1 ∧ y.1.length ≤ y.2 ∧ ∀ z ∈ y.1, z < 4294967296 := by
    intro i y hy
    obtain ⟨x, h9, h10⟩ := h2 i y hy
    have hi : i < R.length := (List.getElem?_eq_some_iff.1 h9).1
    have h11 := h8 i (by omega)
    rw [flatV_get (by omega), Nat.div_one, Nat.mod_one] at h11
    have hget : R.getD i [] = [x] := by rw [List.getD_eq_getElem?_getD, h9]; rfl
    have h12 := h6 i hi 0 x (by rw [hget]; rfl)
    exact ⟨_, hw _ _ _ h11, limL_rd h10 h12 hw⟩
  have kmem : ∀ y ∈ l, y.1.length ≤ y.2 ∧ ∀ z ∈ y.1, z < 4294967296 := by
    intro y hy
    obtain ⟨i, hi, rfl⟩ := List.getElem_of_mem hy
    obtain ⟨u, _, _, h9⟩ := key i _ (List.getElem?_eq_getElem hi)
    exact h9
  refine ⟨⟨ao, cap, by simp [h1], by simp [h1]; exact h3, hm, fun i hi => ?_⟩, fun y hy => (kmem y hy).1, fun y hy => (kmem y hy).2⟩
  rw [List.length_map] at hi
  obtain ⟨u, h9, h10, _⟩ := key i _ (List.getElem?_eq_getElem hi)
  refine ⟨⟨b, o, none⟩, u, h7 (by omega), by rw [at_add]; exact h9, ?_⟩
  have : rowOf (l.map (·.1)) i = (l[i]).1 := by
    unfold rowOf
    rw [List.getD_eq_getElem?_getD, List.getElem?_map, List.getElem?_eq_getElem hi]; rfl
  rw [this]; exact h10
theorem sizeL_wgt : ∀ {l : List (List Nat × Nat)}, (∀ x ∈ l, x.1.length ≤ x.2) → wgt (l.map (·.1)) ≤ sizeL l
  | [], _ => Nat.le_refl _
  | x :: l, h => by
    have h1 := sizeL_wgt (l := l) fun y hy => h y (List.mem_cons_of_mem _ hy)
    have h2 := h x List.mem_cons_self
    simp only [List.map_cons, wgt, sizeL]
    omega
theorem sumL_eq : ∀ (l : List (List Nat × Nat)) (a : Nat), (l.map (·.1)).foldl (fun n a => n + val 1000000000 a) a = sumL' l a
  | [], a => rfl
  | x :: l, a => sumL_eq l _
theorem prodL_eq : ∀ (l : List (List Nat × Nat)) (a : Nat), (l.map (·.1)).foldl (fun n a => n * val 1000000000 a) a = prodL' l a
  | [], a => rfl
  | x :: l, a => prodL_eq l _
theorem sumL_zb : ∀ (l : List (List Nat × Nat)) (a k : Nat), ZB (a : Int) k → (∀ x ∈ l, ZB (vB x.1 : Nat) (x.2 + 1)) → ZB (sumL' l a : Nat) (k + sizeL l)
  | [], a, k, h, _ => h
  | x :: l, a, k, h, hl => by
    have h1 : ZB ((a + vB x.1 : Nat) : Int) (k + (x.2 + 1) + 1) := by
      have := h.add (hl x List.mem_cons_self)
      rw [Int.natCast_add]
      exact this.mono (by omega)
    have h2 := sumL_zb l _ _ h1 fun y hy => hl y (List.mem_cons_of_mem _ hy)
    exact h2.mono (by simp only [sizeL]; omega)
theorem prodL_zb : ∀ (l : List (List Nat × Nat)) (a k : Nat), ZB (a : Int) k → (∀ x ∈ l, ZB (vB x.1 : Nat) (x.2 + 1)) → ZB (prodL' l a : Nat) (k + sizeL l)
  | [], a, k, h, _ => h
  | x :: l, a, k, h, hl => by
    have h1 : ZB ((a * vB x.1 : Nat) : Int) (k + (x.2 + 1)) := by
      rw [Int.natCast_mul]
      exact h.mul (hl x List.mem_cons_self)
    have h2 := prodL_zb l _ _ h1 fun y hy => hl y (List.mem_cons_of_mem _ hy)
    exact h2.mono (by simp only [sizeL]; omega)
theorem cAddL : Contract Tryz.prog E 106 sAddL := by
  intro xs p r hs hp w H vs hf hE hvs
  unfold sAddL at hs
  split at hs
  · rename_i R
    split at hs
    · rename_i l hl
      cases hs
      have hk := hp _ rfl
      obtain ⟨v, rfl, hv⟩ := one_arg hvs
      obtain ⟨h1, h2, h3⟩ := rowsL_rd hl hv.rd hf
      have hw2 := sizeL_wgt h2
      refine (refAdd_any v _ w h1 (by omega) (fun a ha x hx => ?_)).mono ?_
      · obtain ⟨y, hy, rfl⟩ := List.mem_map.1 ha
        exact h3 y hy x hx
      · rintro e w' ⟨u, rfl, ho, hbl⟩
        refine ⟨_, u, rfl, ext_all hf hbl, ?_⟩
        unfold sumV at ho
        rw [sumL_eq] at ho
        have := sumL_zb l 0 0 (by unfold ZB; decide) fun x hx => zb_vB (h3 x hx) (h2 x hx)
        rw [Nat.zero_add] at this
        exact own_lP ho this
    · cases hs
  · cases hs
theorem cMulL : Contract Tryz.prog E 62 sMulL := by
  intro xs p r hs hp w H vs hf hE hvs
  unfold sMulL at hs
  split at hs
  · rename_i R
    split at hs
    · rename_i l hl
      cases hs
      have hk := hp _ rfl
      obtain ⟨v, rfl, hv⟩ := one_arg hvs
      obtain ⟨h1, h2, h3⟩ := rowsL_rd hl hv.rd hf
      have hw2 := sizeL_wgt h2
      refine (refMul_any v _ w h1 (by omega) (fun a ha x hx => ?_)).mono ?_
      · obtain ⟨y, hy, rfl⟩ := List.mem_map.1 ha
        exact h3 y hy x hx
      · rintro e w' ⟨u, rfl, ho, hbl⟩
        refine ⟨_, u, rfl, ext_all hf hbl, ?_⟩
        unfold prodV at ho
        rw [prodL_eq] at ho
        have := prodL_zb l 1 1 (by unfold ZB; decide) fun x hx => zb_vB (h3 x hx) (h2 x hx)
        rw [Nat.add_comm] at this
        exact own_lP ho this
    · cases hs
  · cases hs
def sSubL : Spec
  | [.f x, .f y] => match limL x, limL y with
    | some (l, k), some (m, j) => some (some (k ≤ 100000 ∧ j ≤ 100000), .nm Nat (vB l - vB m) fun d => .tup [lP d (k + 1), .f (.v (.bool (decide (vB m ≤ vB l))))])
    | _, _ => none
  | _ => none
def sDivL : Spec
  | [.f x, .f y] => match limL x, limL y with
    | some (l, k), some (m, j) => some (some (k ≤ 100000 ∧ j ≤ 100000 ∧ vB m ≠ 0), .nm2 Nat Nat (vB l / vB m) (vB l % vB m) fun q r => .tup [lP q (k + 1), lP r (j + 1), .f (.v (.bool true))])
    | _, _ => none
  | _ => none
theorem lim_len {l : List Nat} {k : Nat} (h : ∀ x ∈ l, x < 4294967296) (hk : l.length ≤ k) : (digs 10 (vB l)).length ≤ 10 * k := Nat.le_trans (digs_val_len h) (Nat.mul_le_mul_left 10 hk)
theorem R10_lim {l : List Nat} {k n : Nat} (h : ∀ x ∈ l, x < 4294967296) (hk : l.length ≤ k) (hn : 10 * k ≤ n) : R10 (iN (digs 10 (vB l))) n := R10_digs (Nat.le_trans (lim_len h hk) hn)
theorem tup_sub {l m : List PV} (h : Subs l m) : Sub (.tup l) (.tup m) := ⟨fun H v hv => by
  obtain ⟨vs, rfl, h1⟩ := PRs.of_tup hv
  have h2 := h.prs h1
  exact .tup (by simpa using h2.1) fun i v x hv hx => h2.2 i v x (by simpa using hv) hx⟩
theorem ZB.leN {n m k : Nat} (h : ZB (n : Int) k) (hm : m ≤ n) : ZB (m : Int) k := by
  unfold ZB at *
  rw [Int.natAbs_natCast] at *
  omega
theorem sub_nil0 (k : Nat) : Sub (.f (.v (.slice none 0 0))) (.f (.zd ((0 : Nat) : Int) k)) := ⟨fun H v hv => by
  have := hv.rd.val rfl
  subst this
  exact .f (nil_rd (f := .zd 0 k) (k := 1) (get := fun i => [.v (.int .u32 ((digs 1000000000 (0 : Int).natAbs).getD i 0 : Nat))]) (by simp [Lf.view, digs_zero]) (ZB.zero k))⟩
theorem cSubL (hU : Up E) : Contract Tryz.prog E 107 sSubL := by
  refine contract_loopsG [(110, sReadL), (141, sOrderD), (142, sLessD), (111, sWriteD)] Tryz.ntmps107 Tryz.func107 (by kernel_rfl) (by kernel_rfl) hU ⟨cReadL hU, cOrderD hU, cLessD hU, cWriteD, trivial⟩ ?_
  intro xs p r hs hp
  unfold sSubL at hs
  split at hs
  · rename_i x y
    split at hs
    · rename_i l k m j hx hy
      cases hs
      obtain ⟨h1, h2⟩ := hp _ rfl
      refine ⟨[.f (.lr l k), .f (.lr m j)], [], .cons (limL_sub hx) (.cons (limL_sub hy) .nil), rfl, fun hgx hg => ?_⟩
      obtain ⟨a1, a2⟩ := hg.1.1
      obtain ⟨b1, b2⟩ := hg.2.1.1
      refine cast_rfl (p := k ≤ 1000000 ∧ ∀ (z1 : Nat), z1 = vB l → j ≤ 1000000 ∧ ∀ (z2 : Nat), z2 = vB m → (R10 (iN (digs 10 z1)) 1000000000 ∧ R10 (iN (digs 10 z2)) 1000000000) ∧ ifB (decide (ordN (vI (iN (digs 10 z1))) (vI (iN (digs 10 z2))) < (0 : Int))) (true = true ∧ Sub (PV.tup [PV.f (Lf.v (Value.slice none 0 0)), PV.f (Lf.v (Value.bool false))]) (PV.tup [PV.f (Lf.zd (↑(vB l - vB m) : Int) (k + 1)), PV.f (Lf.v (Value.bool (decide (vB m ≤ vB l))))])) ((R10 (iN (digs 10 z1)) 100000000 ∧ R10 (iN (digs 10 z2)) 100000000 ∧ vI (iN (digs 10 z2)) ≤ vI (iN (digs 10 z1))) ∧ ∀ (z3 : Nat), z3 = vI (iN (digs 10 z1)) - vI (iN (digs 10 z2)) → R10 (iN (digs 10 z3)) 100000000 ∧ ∀ (z4 : Nat), z4 = vI (iN (digs 10 z3)) → true = true ∧ Sub (PV.tup [PV.f (Lf.zd (↑z4 : Int) (iN (digs 10 z3)).length), PV.f (Lf.v (Value.bool true))]) (PV.tup [PV.f (Lf.zd (↑(vB l - vB m) : Int) (k + 1)), PV.f (Lf.v (Value.bool (decide (vB m ≤ vB l))))]))) (by kernel_rfl) ?_
      refine ⟨?s0, fun z1 => fun hz1 => ⟨?s1, fun z2 => fun hz2 => ⟨?s2, ifB_iff.2 ⟨fun hb0 => ⟨rfl, ?m0⟩, fun hb0 => ⟨?s3, fun z3 => fun hz3 => ⟨?s4, fun z4 => fun hz4 => ⟨rfl, ?m1⟩⟩⟩⟩⟩⟩⟩
      case s0 => omega
      case s1 => omega
      all_goals subst hz1 hz2
      case s2 => exact ⟨R10_lim a2 a1 (by omega), R10_lim b2 b1 (by omega)⟩
      all_goals rw [vI_digs, vI_digs] at hb0
      case m0 =>
        have hlt : vB l < vB m := by have := of_decide_eq_true hb0; have h4 := ordN_ge (vB l) (vB m); omega
        rw [show vB l - vB m = 0 by omega, decide_eq_false (show ¬ vB m ≤ vB l by omega)]
        exact tup_sub (.cons (sub_nil0 _) (.cons (.refl _) .nil))
      all_goals have hge : vB m ≤ vB l := (by have := of_decide_eq_false hb0; have h4 := ordN_ge (vB l) (vB m); omega)
      case s3 => exact ⟨R10_lim a2 a1 (by omega), R10_lim b2 b1 (by omega), by rw [vI_digs, vI_digs]; exact hge⟩
      all_goals rw [vI_digs, vI_digs] at hz3
      all_goals subst hz3
      case s4 => exact R10_digs (Nat.le_trans (digs_length_mono 10 (by omega) (Nat.sub_le _ _)) (Nat.le_trans (lim_len a2 a1) (by omega)))
      case m1 =>
        rw [vI_digs] at hz4
        subst hz4
        rw [decide_eq_true hge]
        exact tup_sub (.cons (sub_zd ((zb_vB a2 a1).leN (Nat.sub_le _ _))) (.cons (.refl _) .nil))
    · cases hs
  · cases hs
theorem cDivL (hU : Up E) : Contract Tryz.prog E 68 sDivL := by
  refine contract_loopsG [(110, sReadL), (116, sPartedD), (111, sWriteD)] Tryz.ntmps68 Tryz.func68 (by kernel_rfl) (by kernel_rfl) hU ⟨cReadL hU, cPartedD hU, cWriteD, trivial⟩ ?_
  intro xs p r hs hp
  unfold sDivL at hs
  split at hs
  · rename_i x y
    split at hs
    · rename_i l k m j hx hy
      cases hs
      obtain ⟨h1, h2, h3⟩ := hp _ rfl
      refine ⟨[.f (.lr l k), .f (.lr m j)], [], .cons (limL_sub hx) (.cons (limL_sub hy) .nil), rfl, fun hgx hg => ?_⟩
      obtain ⟨a1, a2⟩ := hg.1.1
      obtain ⟨b1, b2⟩ := hg.2.1.1
      refine cast_rfl (p := j ≤ 1000000 ∧ ∀ (z1 : Nat), z1 = vB m → ifB ((↑(iN (digs 10 z1)).length : Int) == (0 : Int)) (true = true ∧ Sub (PV.tup [PV.f (Lf.v (Value.slice none 0 0)), PV.f (Lf.v (Value.slice none 0 0)), PV.f (Lf.v (Value.bool false))]) (PV.tup [PV.f (Lf.zd (↑(vB l / vB m) : Int) (k + 1)), PV.f (Lf.zd (↑(vB l % vB m) : Int) (j + 1)), PV.f (Lf.v (Value.bool true))])) (k ≤ 1000000 ∧ ∀ (z2 : Nat), z2 = vB l → (R10 (iN (digs 10 z2)) 10000000 ∧ R10 (iN (digs 10 z1)) 10000000 ∧ 0 < vI (iN (digs 10 z1))) ∧ ∀ (z3 : Nat), z3 = vI (iN (digs 10 z2)) / vI (iN (digs 10 z1)) → ∀ (z4 : Nat), z4 = vI (iN (digs 10 z2)) % vI (iN (digs 10 z1)) → R10 (iN (digs 10 z3)) 100000000 ∧ ∀ (z5 : Nat), z5 = vI (iN (digs 10 z3)) → R10 (iN (digs 10 z4)) 100000000 ∧ ∀ (z6 : Nat), z6 = vI (iN (digs 10 z4)) → true = true ∧ Sub (PV.tup [PV.f (Lf.zd (↑z5 : Int) (iN (digs 10 z3)).length), PV.f (Lf.zd (↑z6 : Int) (iN (digs 10 z4)).length), PV.f (Lf.v (Value.bool true))]) (PV.tup [PV.f (Lf.zd (↑(vB l / vB m) : Int) (k + 1)), PV.f (Lf.zd (↑(vB l % vB m) : Int) (j + 1)), PV.f (Lf.v (Value.bool true))]))) (by kernel_rfl) ?_
      refine ⟨?s0, fun z1 => fun hz1 => ifB_iff.2 ⟨fun hb0 => ⟨rfl, ?m0⟩, fun hb0 => ⟨?s1, fun z2 => fun hz2 => ⟨?s2, fun z3 => fun hz3 => fun z4 => fun hz4 => ⟨?s3, fun z5 => fun hz5 => ⟨?s4, fun z6 => fun hz6 => ⟨rfl, ?m1⟩⟩⟩⟩⟩⟩⟩
      case s0 => omega
      all_goals subst hz1
      case m0 =>
        exfalso
        have h4 : digs 10 (vB m) = [] := List.length_eq_zero_iff.1 (by have := eq_of_beq hb0; rw [iN_len] at this; omega)
        have h5 := val_digs 10 (by omega) (vB m)
        rw [h4] at h5
        exact h3 h5.symm
      case s1 => omega
      all_goals subst hz2
      case s2 => exact ⟨R10_lim a2 a1 (by omega), R10_lim b2 b1 (by omega), by rw [vI_digs]; omega⟩
      all_goals rw [vI_digs, vI_digs] at hz3 hz4
      all_goals subst hz3 hz4
      case s3 => exact R10_digs (Nat.le_trans (digs_length_mono 10 (by omega) (Nat.div_le_self _ _)) (Nat.le_trans (lim_len a2 a1) (by omega)))
      case s4 => exact R10_digs (Nat.le_trans (digs_length_mono 10 (by omega) (Nat.le_of_lt (Nat.mod_lt _ (by omega)))) (Nat.le_trans (lim_len b2 b1) (by omega)))
      case m1 =>
        rw [vI_digs] at hz5 hz6
        subst hz5 hz6
        exact tup_sub (.cons (sub_zd ((zb_vB a2 a1).leN (Nat.div_le_self _ _))) (.cons (sub_zd ((zb_vB b2 b1).leN (Nat.le_of_lt (Nat.mod_lt _ (by omega))))) (.cons (.refl _) .nil)))
    · cases hs
  · cases hs
end

end Go.Proofs.YtjfncepmpabcnaaGreatDoor
