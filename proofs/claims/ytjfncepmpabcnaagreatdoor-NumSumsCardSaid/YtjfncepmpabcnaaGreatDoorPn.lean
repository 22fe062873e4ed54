/- The contracts of the layer num, as the pure run takes them. The contracts of the layer num, as the pure run takes them: the other ones. -/
import Derived.Test.YtjfncepmpabcnaaGreatDoorPe
import Derived.Test.YtjfncepmpabcnaaGreatDoorNumL
import Derived.Test.YtjfncepmpabcnaaGreatDoorSame
import Derived.Test.YtjfncepmpabcnaaGreatDoorNumK
namespace Go.Proofs.YtjfncepmpabcnaaGreatDoor
open Go.RowKit
set_option linter.unusedVariables false

/-- What is told of the program's table. -/
def EZ (w : World) (_ : Hp) : Prop := Tab w
theorem EZ.up : Up EZ := fun w H w' H' he h => Tab.keep h he.bel
/-- All memory behind a call stays. -/
def Hall (H : Hp) (w w' : World) : Hp := fun b j => if b < w.heap.size then H b j else w'.cell? ⟨b, j, none⟩
theorem ext_all {H : Hp} {w w' : World} (hf : Fro H w) (hb : Below w.heap.size w w') : Ext w H w' (Hall H w w') := by
  refine ⟨hb, fun b j v h => ?_, fun b j v h => ?_, fun b j v h1 h2 => ?_⟩
  · unfold Hall; rw [if_pos (hf.lt h)]; exact h
  · unfold Hall at h
    split at h
    · rename_i hlt; exact (hb.cell (p := ⟨b, j, none⟩) hlt).trans (hf b j v h)
    · exact h
  · unfold Hall at h1
    split at h1
    · rw [h1] at h2; cases h2
    · omega
/-- THE api.Int of z, in at most k limbs. -/
def zP (z : Int) (k : Nat) : PV := .agg [.f (.zn z), .f (.zd z k)]
theorem digs_small (z : Int) : ∀ x ∈ digs 1000000000 z.natAbs, x < 4294967296 := fun x hx => by
  have := (digs_rgt 1000000000 (by omega) z.natAbs).1 x hx
  omega
theorem own_rd {w w' : World} {H : Hp} {v : Value} {z : Int} {k : Nat} {e : TypeId} (ho : Own w' w.heap.size e .u32 v (digs 1000000000 z.natAbs)) (hz : ZB z k) : Rd (Hall H w w') v (.zd z k) := by
  obtain ⟨ao, cap, hv, hc, hm, h0, hcell⟩ := ho.rd
  subst hv
  rcases ho.2 with ⟨hn, hl⟩ | ⟨g, cap', cur, hs, hg, hh, r⟩
  · simp only [Value.slice.injEq] at hn
    obtain ⟨rfl, -, rfl⟩ := hn
    exact .slf (fun _ => rfl) (k := 1) (n := (digs 1000000000 z.natAbs).length) (get := fun i => [.v (.int .u32 ((digs 1000000000 z.natAbs).getD i 0 : Nat))]) rfl hz hc hm h0 0 0 (fun i j => .int .u32 ((digs 1000000000 z.natAbs).getD i 0 : Nat))
      (fun h => by omega) (fun i hi => by omega) (fun i hi => rfl) (fun i hi => by omega)
  · cases hs
    refine .slf (fun _ => rfl) (k := 1) (n := (digs 1000000000 z.natAbs).length) (get := fun i => [.v (.int .u32 ((digs 1000000000 z.natAbs).getD i 0 : Nat))]) rfl hz hc hm h0 g 0 (fun i j => .int .u32 ((digs 1000000000 z.natAbs).getD i 0 : Nat))
      (fun _ => rfl) (fun i hi j hj => ?_) (fun i hi => rfl) (fun i hi j x hx => ?_)
    · obtain ⟨ad, h1, h2⟩ := hcell i hi
      cases h1
      unfold Hall
      rw [if_neg (by omega)]
      rw [at_add] at h2
      obtain rfl : j = 0 := by omega
      simp only [Nat.mul_one, Nat.add_zero]
      exact h2
    · cases j with
      | zero => simp at hx; subst hx; exact .v _ rfl
      | succ j => simp at hx
theorem io_pr {w w' : World} {H : Hp} {x : Value} {z : Int} {k : Nat} {e : TypeId} (h : IO w' w.heap.size e x z) (hz : ZB z k) : PR (Hall H w w') B0 x (zP z k) := by
  obtain ⟨s, rfl, h2⟩ := h
  have := (PRs.cons (H := Hall H w w') (B := B0) (.f (.zn z)) (.cons (.f (own_rd h2 hz)) .nil)).agg
  simpa [zP] using this
/-- A number by its two leaves: what came, at most how many limbs, how great. -/
def asR : Lf → Lf → Option ((Bool × List Nat) × Nat × Nat)
  | .zn z, .zd z' k => some ((zNeg z, digs 1000000000 z'.natAbs), k, k)
  | .v (.bool n), .zd z' k => some ((n, digs 1000000000 z'.natAbs), k, k)
  | .v (.bool n), .lr l k => some ((n, l), k, k + 1)
  | .v (.bool n), .v (.slice none 0 0) => some ((n, []), 0, 1)
  | _, _ => none
theorem rd_lim {H : Hp} {v : Value} {f : Lf} {l : List Nat} {k : Nat} (h : Rd H v f) (hf : f.view = some (1, l.length, fun i => [.v (.int .u32 (l.getD i 0 : Nat))])) {w : World} (hw : Fro H w) : RdI w v .u32 l := by
  cases h with
  | v => cases hf
  | zn => cases hf
  | @sl _ k n get ao cap hv hg hc hm h0 b o val hb hcell hk hrec =>
    rw [hv] at hf
    simp only [Option.some.injEq, Prod.mk.injEq] at hf
    obtain ⟨rfl, rfl, rfl⟩ := hf
    have hfl := Lf.full_le hv hg
    replace hc := Nat.le_trans hfl hc
    refine ⟨ao, cap, rfl, hc, hm, h0, fun i hi => ⟨⟨b, o, none⟩, hb (by omega), ?_⟩⟩
    have h1 := hcell i (by omega) 0 (by omega)
    have h2 := (hrec i (by omega) 0 _ rfl).val rfl
    rw [h2] at h1
    have h3 := hw _ _ _ h1
    rw [at_add]
    simpa [dg] using h3
theorem zd_len {z : Int} {k : Nat} (h : ZB z k) : (digs 1000000000 z.natAbs).length ≤ k := h.len
theorem rd_good {H : Hp} {v : Value} {f : Lf} (h : Rd H v f) (hf : f.view ≠ none) : f.good := by
  cases h with
  | v => exact absurd rfl hf
  | zn => exact absurd rfl hf
  | sl hv hg => exact hg
theorem asR_iv {H : Hp} {x y : Value} {f g : Lf} {n : Bool} {l : List Nat} {k j : Nat} {w : World} (h : asR f g = some ((n, l), k, j)) (hx : Rd H x f) (hy : Rd H y g) (hw : Fro H w) :
    IV w (.agg #[x, y]) n l ∧ l.length ≤ k ∧ ZB (zV n l) j := by
  unfold asR at h
  split at h
  · rename_i z z' k'
    cases h
    have h1 := hx.val rfl
    subst h1
    have hz : ZB z' k := rd_good hy (by simp [Lf.view])
    refine ⟨⟨y, rfl, rd_lim (k := 0) hy rfl hw, digs_small z'⟩, zd_len hz, ?_⟩
    unfold ZB zV; rw [zOf_abs, val_digs _ (by omega)]; exact hz
  · rename_i n' z' k'
    cases h
    have h1 := hx.val rfl
    subst h1
    have hz : ZB z' k := rd_good hy (by simp [Lf.view])
    refine ⟨⟨y, rfl, rd_lim (k := 0) hy rfl hw, digs_small z'⟩, zd_len hz, ?_⟩
    unfold ZB zV; rw [zOf_abs, val_digs _ (by omega)]; exact hz
  · rename_i n' l' k'
    cases h
    have h1 := hx.val rfl
    subst h1
    obtain ⟨h2, h3⟩ : l.length ≤ k ∧ ∀ x ∈ l, x < 4294967296 := rd_good hy (by simp [Lf.view])
    exact ⟨⟨y, rfl, rd_lim (k := 0) hy rfl hw, h3⟩, h2, (zV_zb n l h3).mono (by omega)⟩
  · rename_i n'
    cases h
    have h1 := hx.val rfl
    have h2 := hy.val rfl
    subst h1 h2
    exact ⟨⟨_, rfl, ⟨none, 0, rfl, by simp, by unfold maxLen; omega, fun _ => rfl, fun i hi => by simp at hi⟩, by simp⟩, by simp, by cases n <;> (unfold ZB; decide)⟩
  · cases h
theorem agg2 {H : Hp} {B : Hd} {v : Value} {f g : Lf} (h : PR H B v (.agg [.f f, .f g])) : ∃ x y, v = .agg #[x, y] ∧ Rd H x f ∧ Rd H y g := by
  obtain ⟨vs, rfl, h1⟩ := PRs.of_agg h
  obtain ⟨x, y, rfl⟩ : ∃ x y, vs = [x, y] := by
    have := h1.1
    match vs, this with
    | [x, y], _ => exact ⟨x, y, rfl⟩
  exact ⟨x, y, rfl, (h1.2 0 x _ rfl rfl).rd, (h1.2 1 y _ rfl rfl).rd⟩
theorem one_arg {H : Hp} {B : Hd} {vs : List Value} {x : PV} (h : PRs H B vs [x]) : ∃ v, vs = [v] ∧ PR H B v x := by
  have := h.1
  match vs, this with
  | [v], _ => exact ⟨v, rfl, h.2 0 v x rfl rfl⟩
theorem two_args {H : Hp} {B : Hd} {vs : List Value} {x y : PV} (h : PRs H B vs [x, y]) : ∃ u v, vs = [u, v] ∧ PR H B u x ∧ PR H B v y := by
  have := h.1
  match vs, this with
  | [u, v], _ => exact ⟨u, v, rfl, h.2 0 u x rfl rfl, h.2 1 v y rfl rfl⟩
def rowsR : List (List Lf) → Option (List ((Bool × List Nat) × Nat × Nat))
  | [] => some []
  | [f, g] :: L => match asR f g, rowsR L with
    | some x, some l => some (x :: l)
    | _, _ => none
  | _ :: _ => none
def sliceR : Lf → Option (List ((Bool × List Nat) × Nat × Nat))
  | .row 2 L => rowsR L
  | .zs L => some (L.map fun e => ((e.1, e.2.1), e.2.2, e.2.2 + 1))
  | .v (.slice none 0 0) => some []
  | _ => none
def zsRow (L : List (Bool × List Nat × Nat)) : List (List Lf) := L.map fun e => [.v (.bool e.1), .lr e.2.1 e.2.2]
theorem rowsR_zs : ∀ L : List (Bool × List Nat × Nat), rowsR (zsRow L) = some (L.map fun e => ((e.1, e.2.1), e.2.2, e.2.2 + 1))
  | [] => rfl
  | e :: L => by
    have := rowsR_zs L
    unfold zsRow at this ⊢
    simp only [List.map_cons, rowsR, asR, this]
theorem zsRow_at {L : List (Bool × List Nat × Nat)} {i : Nat} (h : i < L.length) : (zsRow L).getD i [] = [.v (.bool (L.getD i (false, [], 0)).1), .lr (L.getD i (false, [], 0)).2.1 (L.getD i (false, [], 0)).2.2] := by
  unfold zsRow
  simp only [List.getD_eq_getElem?_getD, List.getElem?_map, List.getElem?_eq_getElem h, Option.map_some, Option.getD_some]
theorem zs_row {H : Hp} {v : Value} {L : List (Bool × List Nat × Nat)} (h : Rd H v (.zs L)) : Rd H v (.row 2 (zsRow L)) := by
  cases h with
  | @sl _ k n get ao cap hview hg hc hm h0 b o val hb hcell hk hrec =>
    simp only [Lf.view, Option.some.injEq, Prod.mk.injEq] at hview
    obtain ⟨rfl, rfl, rfl⟩ := hview
    refine .slf (fun _ => rfl) (f := .row 2 (zsRow L)) (get := fun i => (zsRow L).getD i []) (by simp [Lf.view, zsRow]) trivial hc hm h0 b o val hb hcell (fun i hi => ?_) (fun i hi j x hx => ?_)
    · rw [zsRow_at hi]; rfl
    · rw [zsRow_at hi] at hx; exact hrec i hi j x hx
def sumR : List ((Bool × List Nat) × Nat × Nat) → Int → Int
  | [], a => a
  | x :: l, a => sumR l (a + zV x.1.1 x.1.2)
def prodR : List ((Bool × List Nat) × Nat × Nat) → Int → Int
  | [], a => a
  | x :: l, a => prodR l (a * zV x.1.1 x.1.2)
def gcdR : List ((Bool × List Nat) × Nat × Nat) → Int → Int
  | [], a => a
  | x :: l, a => gcdR l (gcd2 a (zV x.1.1 x.1.2))
def sizeR : List ((Bool × List Nat) × Nat × Nat) → Nat
  | [] => 0
  | x :: l => x.2.1 + 2 + sizeR l
def bndS : List ((Bool × List Nat) × Nat × Nat) → Nat → Nat
  | [], k => k
  | x :: l, k => bndS l (k + x.2.2 + 1)
def bndP : List ((Bool × List Nat) × Nat × Nat) → Nat → Nat
  | [], k => k
  | x :: l, k => bndP l (k + x.2.2)
theorem rowsR_at : ∀ {L : List (List Lf)} {l : List ((Bool × List Nat) × Nat × Nat)}, rowsR L = some l → l.length = L.length ∧ ∀ (i : Nat) x, l[i]? = some x → ∃ f g, L[i]? = some [f, g] ∧ asR f g = some x
  | [], l, h => by simp only [rowsR, Option.some.injEq] at h; subst h; simp
  | [f, g] :: L, l, h => by
    simp only [rowsR] at h
    split at h
    · rename_i x l' hx hl
      cases h
      obtain ⟨h1, h2⟩ := rowsR_at hl
      refine ⟨by simp [h1], fun i y hy => ?_⟩
      cases i with
      | zero => simp at hy; subst hy; exact ⟨f, g, rfl, hx⟩
      | succ i => obtain ⟨f', g', h3, h4⟩ := h2 i y (by simpa using hy); exact ⟨f', g', by simpa using h3, h4⟩
    · cases h
  | [] :: L, l, h => by simp [rowsR] at h
  | [_] :: L, l, h => by simp [rowsR] at h
  | (_ :: _ :: _ :: _) :: L, l, h => by simp [rowsR] at h
theorem wg_le : ∀ {l : List ((Bool × List Nat) × Nat × Nat)}, (∀ x ∈ l, x.1.2.length ≤ x.2.1) → wgZ (l.map (·.1)) ≤ sizeR l
  | [], _ => Nat.le_refl _
  | x :: l, h => by
    have h1 := wg_le (l := l) (fun y hy => h y (List.mem_cons_of_mem _ hy))
    have h2 := h x List.mem_cons_self
    simp only [List.map_cons, wgZ, sizeR]; omega
theorem foldS (op : Int → Int → Int) : ∀ (l : List ((Bool × List Nat) × Nat × Nat)) (a : Int), foldZ op a (l.map (·.1)) = l.foldl (fun a x => op a (zV x.1.1 x.1.2)) a
  | [], a => rfl
  | x :: l, a => by
    have := foldS op l (op a (zV x.1.1 x.1.2))
    simp only [foldZ, List.map_cons, List.foldl_cons] at this ⊢
    exact this
theorem sumR_eq : ∀ (l : List ((Bool × List Nat) × Nat × Nat)) (a : Int), sumR l a = l.foldl (fun a x => a + zV x.1.1 x.1.2) a
  | [], a => rfl
  | x :: l, a => sumR_eq l _
theorem prodR_eq : ∀ (l : List ((Bool × List Nat) × Nat × Nat)) (a : Int), prodR l a = l.foldl (fun a x => a * zV x.1.1 x.1.2) a
  | [], a => rfl
  | x :: l, a => prodR_eq l _
theorem gcdR_eq : ∀ (l : List ((Bool × List Nat) × Nat × Nat)) (a : Int), gcdR l a = l.foldl (fun a x => gcd2 a (zV x.1.1 x.1.2)) a
  | [], a => rfl
  | x :: l, a => gcdR_eq l _
theorem sumR_zb : ∀ (l : List ((Bool × List Nat) × Nat × Nat)) (a : Int) (k : Nat), ZB a k → (∀ x ∈ l, ZB (zV x.1.1 x.1.2) x.2.2) → ZB (sumR l a) (bndS l k)
  | [], a, k, h, _ => h
  | x :: l, a, k, h, hl => sumR_zb l _ _ (h.add (hl x List.mem_cons_self)) (fun y hy => hl y (List.mem_cons_of_mem _ hy))
theorem prodR_zb : ∀ (l : List ((Bool × List Nat) × Nat × Nat)) (a : Int) (k : Nat), ZB a k → (∀ x ∈ l, ZB (zV x.1.1 x.1.2) x.2.2) → ZB (prodR l a) (bndP l k)
  | [], a, k, h, _ => h
  | x :: l, a, k, h, hl => prodR_zb l _ _ (h.mul (hl x List.mem_cons_self)) (fun y hy => hl y (List.mem_cons_of_mem _ hy))
theorem gcdR_zb : ∀ (l : List ((Bool × List Nat) × Nat × Nat)) (a : Int) (k : Nat), ZB a k → (∀ x ∈ l, ZB (zV x.1.1 x.1.2) x.2.2) → ZB (gcdR l a) (bndS l k)
  | [], a, k, h, _ => h
  | x :: l, a, k, h, hl => gcdR_zb l _ _ (zb_gcd2 h (hl x List.mem_cons_self)) (fun y hy => hl y (List.mem_cons_of_mem _ hy))
theorem sliceR_rd {H : Hp} {B : Hd} {v : Value} {f : Lf} {l : List ((Bool × List Nat) × Nat × Nat)} {w : World} (h : sliceR f = some l) (hv : PR H B v (.f f)) (hw : Fro H w) :
    RdZ w v (l.map (·.1)) ∧ (∀ x ∈ l, x.1.2.length ≤ x.2.1) ∧ ∀ x ∈ l, ZB (zV x.1.1 x.1.2) x.2.2 := by
  have hcase : (∃ L, rowsR L = some l ∧ PR H B v (.f (.row 2 L))) ∨ (f = .v (.slice none 0 0) ∧ l = []) := by
    unfold sliceR at h
    split at h
    · rename_i L; exact .inl ⟨L, h, hv⟩
    · rename_i L; cases h; exact .inl ⟨_, rowsR_zs L, .f (zs_row hv.rd)⟩
    · cases h; exact .inr ⟨rfl, rfl⟩
    · cases h
  rcases hcase with ⟨L, h, hv⟩ | ⟨rfl, rfl⟩
  · obtain ⟨h1, h2⟩ := rowsR_at h
    have hr := hv.rd
    cases hr with
    | @sl _ k n get ao cap hview hg hc hm h0 b o val hb hcell hk hrec =>
      simp only [Lf.view, Option.some.injEq, Prod.mk.injEq] at hview
      obtain ⟨rfl, rfl, rfl⟩ := hview
      replace hb : 0 < L.length → ao = some ⟨b, o, none⟩ := hb
      have key : ∀ (i : Nat) x, l[i]? = some x → ∃ p q, H b (o + i * 2) = some p ∧ H b (o + i * 2 + 1) = some q ∧ IV w (.agg #[p, q]) x.1.1 x.1.2 ∧ x.1.2.length ≤ x.2.1 ∧ ZB (zV x.1.1 x.1.2) x.2.2 := by
        intro i x hx
        obtain ⟨f, g, h3, h4⟩ := h2 i x hx
        have hi : i < L.length := (List.getElem?_eq_some_iff.1 h3).1
        have hget : L.getD i [] = [f, g] := by rw [List.getD_eq_getElem?_getD, h3]; rfl
        have e0 := hcell i hi 0 (by omega)
        have e1 := hcell i hi 1 (by omega)
        have r0 := hrec i hi 0 f (by show (L.getD i [])[0]? = _; rw [hget]; rfl)
        have r1 := hrec i hi 1 g (by show (L.getD i [])[1]? = _; rw [hget]; rfl)
        obtain ⟨⟨n, l'⟩, k, j⟩ := x
        exact ⟨_, _, e0, e1, asR_iv h4 r0 r1 hw⟩
      refine ⟨⟨ao, cap, by simp [h1], by simp [h1]; exact hc, hm, fun i hi => ?_⟩, fun x hx => ?_, fun x hx => ?_⟩
      · rw [List.length_map] at hi
        obtain ⟨p, q, e0, e1, ⟨s, hs, hrd, hlt⟩, _, _⟩ := key i _ (List.getElem?_eq_getElem hi)
        cases hs
        have hsg : sgnAt (l.map (·.1)) i = (l[i]).1.1 := by rw [sgnAt_eq (by simpa using hi)]; simp
        have hli : limAt (l.map (·.1)) i = (l[i]).1.2 := by rw [limAt_eq (by simpa using hi)]; simp
        refine ⟨⟨b, o, none⟩, q, hb (by omega), ?_, ?_, by rw [hli]; exact hrd, by rw [hli]; exact hlt⟩
        · rw [at_add, hsg]; exact hw _ _ _ e0
        · rw [at_add]; exact hw _ _ _ e1
      · obtain ⟨i, hi, rfl⟩ := List.getElem_of_mem hx
        obtain ⟨p, q, _, _, _, h5, _⟩ := key i _ (List.getElem?_eq_getElem hi)
        exact h5
      · obtain ⟨i, hi, rfl⟩ := List.getElem_of_mem hx
        obtain ⟨p, q, _, _, _, _, h5⟩ := key i _ (List.getElem?_eq_getElem hi)
        exact h5
  · have := hv.val
    subst this
    exact ⟨⟨none, 0, rfl, by simp, by unfold maxLen; omega, fun i hi => by simp at hi⟩, by simp, by simp⟩

def sAdd : Spec
  | [.f y] => match sliceR y with
    | some l => some (some (sizeR l ≤ 40000), .nm Int (sumR l 0) fun z => zP z (bndS l 0))
    | none => none
  | _ => none
def sMul : Spec
  | [.f y] => match sliceR y with
    | some l => some (some (sizeR l ≤ 40000), .nm Int (prodR l 1) fun z => zP z (bndP l 1))
    | none => none
  | _ => none
def sGcd : Spec
  | [.f y] => match sliceR y with
    | some l => some (some (sizeR l ≤ 40000), .nm Int (gcdR l 0) fun z => zP z (bndS l 0))
    | none => none
  | _ => none
theorem slice_contract {E : World → Hp → Prop} {f : FuncId} {op : Int → Int → Int} {a0 : Int} {sp : Spec} (K : List ((Bool × List Nat) × Nat × Nat) → Nat) (R : List ((Bool × List Nat) × Nat × Nat) → Int)
    (hsp : ∀ xs p r, sp xs = some (p, r) → ∃ y l, xs = [.f y] ∧ sliceR y = some l ∧ p = some (sizeR l ≤ 40000) ∧ r.out = zP (R l) (K l)) (hR : ∀ l, R l = l.foldl (fun a x => op a (zV x.1.1 x.1.2)) a0) (hK : ∀ l, (∀ x ∈ l, ZB (zV x.1.1 x.1.2) x.2.2) → ZB (R l) (K l))
    (h : ∀ (u : Value) (L : List (Bool × List Nat)) (w : World), RdZ w u L → wgZ L ≤ 40000 → Calls Tryz.prog f #[u] w fun e w' => ∃ x, e = .returned x ∧ IO w' w.heap.size 103 x (foldZ op a0 L) ∧ Below w.heap.size w w') : Contract Tryz.prog E f sp := by
  intro xs p r hs hp w H vs hf hE hvs
  obtain ⟨y, l, rfl, hl, rfl, hr⟩ := hsp xs p r hs
  have hsz := hp _ rfl
  obtain ⟨v, rfl, hv⟩ := one_arg hvs
  obtain ⟨h1, h2, h3⟩ := sliceR_rd hl hv hf
  refine (h v _ w h1 (Nat.le_trans (wg_le h2) hsz)).mono ?_
  rintro e w' ⟨x, rfl, hio, hb⟩
  refine ⟨_, x, rfl, ext_all hf hb, ?_⟩
  rw [hr]
  rw [foldS, ← hR] at hio
  exact io_pr hio (hK l h3)
theorem cAdd {E : World → Hp → Prop} : Contract Tryz.prog E 13 sAdd := by
  refine slice_contract (op := fun a b => a + b) (a0 := 0) (fun l => bndS l 0) (fun l => sumR l 0) (fun xs p r h => ?_) (fun l => sumR_eq l 0) (fun l h => sumR_zb l 0 0 (ZB.zero 0) h) numAdd_any
  unfold sAdd at h
  split at h
  · rename_i y
    split at h
    · rename_i l hl
      cases h; exact ⟨y, l, rfl, hl, rfl, rfl⟩
    · cases h
  · cases h
theorem cMul {E : World → Hp → Prop} : Contract Tryz.prog E 15 sMul := by
  refine slice_contract (op := fun a b => a * b) (a0 := 1) (fun l => bndP l 1) (fun l => prodR l 1) (fun xs p r h => ?_) (fun l => prodR_eq l 1) (fun l h => prodR_zb l 1 1 ZB.one h) numMul_any
  unfold sMul at h
  split at h
  · rename_i y
    split at h
    · rename_i l hl
      cases h; exact ⟨y, l, rfl, hl, rfl, rfl⟩
    · cases h
  · cases h
theorem cGcd {E : World → Hp → Prop} : Contract Tryz.prog E 17 sGcd := by
  refine slice_contract (op := gcd2) (a0 := 0) (fun l => bndS l 0) (fun l => gcdR l 0) (fun xs p r h => ?_) (fun l => gcdR_eq l 0) (fun l h => gcdR_zb l 0 0 (ZB.zero 0) h) numGcd_any
  unfold sGcd at h
  split at h
  · rename_i y
    split at h
    · rename_i l hl
      cases h; exact ⟨y, l, rfl, hl, rfl, rfl⟩
    · cases h
  · cases h

end Go.Proofs.YtjfncepmpabcnaaGreatDoor

namespace Go.Proofs.YtjfncepmpabcnaaGreatDoor
open Go.RowKit
set_option linter.unusedVariables false

def pvR : PV → Option ((Bool × List Nat) × Nat × Nat)
  | .agg [.f a, .f b] => asR a b
  | _ => none
theorem pvR_iz {H : Hp} {B : Hd} {v : Value} {x : PV} {n : Bool} {l : List Nat} {k j : Nat} {w : World} (h : pvR x = some ((n, l), k, j)) (hv : PR H B v x) (hw : Fro H w) : IV w v n l ∧ l.length ≤ k ∧ ZB (zV n l) j := by
  unfold pvR at h
  split at h
  · obtain ⟨p, q, rfl, h1, h2⟩ := agg2 hv
    exact asR_iv h h1 h2 hw
  · cases h
/-- What came. -/
def rawP (n : Bool) (l : List Nat) (k : Nat) : PV := .agg [.f (.v (.bool n)), .f (.lr l k)]
theorem rd_raw {H : Hp} {x y : Value} {f g : Lf} {n : Bool} {l : List Nat} {k j : Nat} (h : asR f g = some ((n, l), k, j)) (hx : Rd H x f) (hy : Rd H y g) : Rd H x (.v (.bool n)) ∧ Rd H y (.lr l k) := by
  unfold asR at h
  split at h
  · rename_i z z' k'
    cases h
    have h1 := hx.val rfl
    subst h1
    have hz : ZB z' k := rd_good hy (by simp [Lf.view])
    refine ⟨.v _ rfl, ?_⟩
    cases hy with
    | sl hv hg hc hm h0 b o val hb hcell hk hrec => exact .sl (f := .lr _ k) hv ⟨zd_len hz, digs_small z'⟩ hc hm h0 b o val hb hcell hk hrec
  · rename_i n' z' k'
    cases h
    have h1 := hx.val rfl
    subst h1
    have hz : ZB z' k := rd_good hy (by simp [Lf.view])
    refine ⟨.v _ rfl, ?_⟩
    cases hy with
    | sl hv hg hc hm h0 b o val hb hcell hk hrec => exact .sl (f := .lr _ k) hv ⟨zd_len hz, digs_small z'⟩ hc hm h0 b o val hb hcell hk hrec
  · rename_i n' l' k'
    cases h
    exact ⟨hx, hy⟩
  · rename_i n'
    cases h
    have h2 := hy.val rfl
    subst h2
    exact ⟨hx, .slf (fun _ => rfl) (f := .lr [] 0) (k := 1) (n := 0) rfl ⟨Nat.le_refl _, by simp⟩ (Nat.le_refl _) (by unfold maxLen; omega) (fun _ => rfl) 0 0 (fun _ _ => undef) (fun h => by omega) (fun i h => by omega) (fun i h => by omega) (fun i h => by omega)⟩
  · cases h
theorem sub_raw {x : PV} {n : Bool} {l : List Nat} {k j : Nat} (h : pvR x = some ((n, l), k, j)) : Sub x (rawP n l k) := by
  refine ⟨fun H v hv => ?_⟩
  unfold pvR at h
  split at h
  · obtain ⟨p, q, rfl, h1, h2⟩ := agg2 hv
    obtain ⟨h3, h4⟩ := rd_raw h h1 h2
    have := (PRs.cons (H := H) (B := B0) (.f h3) (.cons (.f h4) .nil)).agg
    simpa [rawP] using this
  · cases h
def sOf : Spec
  | [.f (.v (.int .i64 n))] => some (some (-9223372036854775808 ≤ n ∧ n ≤ 9223372036854775807), .nm Int n fun z => zP z 3)
  | _ => none
def sDiv : Spec
  | [x, y] => match pvR x, pvR y with
    | some ((n, l), k, j), some ((n', l'), k', j') => some (some (k + k' ≤ 40000 ∧ zV n' l' ≠ 0), .nm2 Int Int (Int.fdiv (zV n l) (zV n' l')) (Int.fmod (zV n l) (zV n' l')) fun q r => .tup [zP q (j + 1), zP r j', .f (.v (.int .i64 0))])
    | _, _ => none
  | _ => none
def sText : Spec
  | [x] => match pvR x with
    | some ((n, l), k, _) => some (some (k ≤ 90000), .one (.f (.v (.string ⟨(zText (zV n l)).toArray⟩))))
    | none => none
  | _ => none
/-- SameInt: of what came. -/
def sSame : Spec
  | [x, y] => match pvR x, pvR y with
    | some ((n, l), k, _), some ((n', l'), k', _) => some (some (k + k' ≤ 900000), .one (.f (.v (.bool ((n == n') && eqB l l')))))
    | _, _ => none
  | _ => none
def sParse : Spec
  | [.f (.v (.string s))] => some (some (s.size ≤ 1000), .nm Int (parZ s.data.toList) fun z => .tup [zP z 1000, .f (.v (.bool (okZ s.data.toList)))])
  | _ => none
section
variable {E : World → Hp → Prop}
theorem cOf : Contract Tryz.prog E 31 sOf := by
  intro xs p r hs hp w H vs hf hE hvs
  unfold sOf at hs
  split at hs
  · rename_i n
    cases hs
    obtain ⟨h1, h2⟩ := hp _ rfl
    obtain ⟨v, rfl, hv⟩ := one_arg hvs
    have := hv.val
    subst this
    refine (numOf_any n w h1 h2).mono ?_
    rintro e w' ⟨u, rfl, hio, hbl⟩
    refine ⟨_, u, rfl, ext_all hf hbl, io_pr hio ?_⟩
    show n.natAbs < 1000000000 ^ 3
    have : (1000000000 : Nat) ^ 3 = 1000000000000000000000000000 := by decide
    omega
  · cases hs
theorem cDiv : Contract Tryz.prog E 50 sDiv := by
  intro xs p r hs hp w H vs hf hE hvs
  unfold sDiv at hs
  split at hs
  · rename_i x y
    split at hs
    · rename_i n l k j n' l' k' j' hx hy
      cases hs
      have hb := hp _ rfl
      obtain ⟨u, v, rfl, hu, hv⟩ := two_args hvs
      obtain ⟨h1, h2, h3⟩ := pvR_iz hx hu hf
      obtain ⟨h4, h5, h6⟩ := pvR_iz hy hv hf
      obtain ⟨hb, h0⟩ := hb
      refine (numDivMod_any u v _ _ k k' w (h1.iz h2) (h4.iz h5) hb).mono ?_
      rintro e w' ⟨q, r, m, rfl, hbl, -, hn⟩
      obtain ⟨rfl, h7, h8⟩ := hn h0
      refine ⟨_, _, rfl, ext_all hf hbl, ?_⟩
      exact .tup rfl fun i v x hv hx => by
        match i with
        | 0 => simp at hv hx; subst hv hx; exact io_pr h7 (h3.fdiv h0)
        | 1 => simp at hv hx; subst hv hx; exact io_pr h8 (h6.fmod h0)
        | 2 => simp at hv hx; subst hv hx; exact .f (.v _ rfl)
        | i + 3 => simp at hv
    · cases hs
  · cases hs
theorem cText : Contract Tryz.prog EZ 48 sText := by
  intro xs p r hs hp w H vs hf hE hvs
  unfold sText at hs
  split at hs
  · rename_i x
    split at hs
    · rename_i n l k j hx
      cases hs
      have hb := hp _ rfl
      obtain ⟨v, rfl, hv⟩ := one_arg hvs
      obtain ⟨h1, h2, h3⟩ := pvR_iz hx hv hf
      refine (numText_any v _ k w (h1.iz h2) hb hE).mono ?_
      rintro e w' ⟨rfl, hbl⟩
      exact ⟨H, _, rfl, Ext.below hf hbl, .f (.v _ rfl)⟩
    · cases hs
  · cases hs
theorem cSame : Contract Tryz.prog E 45 sSame := by
  intro xs p r hs hp w H vs hf hE hvs
  unfold sSame at hs
  split at hs
  · rename_i x y
    split at hs
    · rename_i n l k j n' l' k' j' hx hy
      cases hs
      have hb := hp _ rfl
      obtain ⟨u, v, rfl, hu, hv⟩ := two_args hvs
      obtain ⟨h1, h2, h3⟩ := pvR_iz hx hu hf
      obtain ⟨h4, h5, h6⟩ := pvR_iz hy hv hf
      refine (sameInt_any u v n n' l l' w h1 h4 (by omega)).mono ?_
      rintro e w' ⟨rfl, hbl⟩
      exact ⟨H, _, rfl, Ext.below hf hbl, .f (.v _ rfl)⟩
    · cases hs
  · cases hs
theorem parZ_zbk {l : List UInt8} {k : Nat} (h : l.length ≤ k) : ZB (parZ l) k := by
  cases ho : okZ l with
  | false => rw [parZ_no ho]; exact ZB.zero k
  | true =>
    rw [parZ_ok ho]
    unfold ZB
    rw [zOf_abs]
    have h1 : okT (restZ l) = true := by unfold okZ at ho; rw [Bool.and_eq_true] at ho; exact ho.1
    have h2 : decB (restZ l) = true := by
      unfold okT at h1
      cases hb : decB (restZ l)
      · rw [hb] at h1; simp at h1
      · rfl
    have h3 : (restZ l).length ≤ k := by
      unfold restZ Lib.trimPrefix
      split
      · simp; omega
      · exact h
    exact Nat.lt_of_lt_of_le (numD_lt _ h2) (Nat.le_trans (Nat.pow_le_pow_right (by omega) h3) (Nat.pow_le_pow_left (by omega) k))
theorem parZ_zb {s : ByteArray} (h : s.size ≤ 1000) : ZB (parZ s.data.toList) 1000 :=
  parZ_zbk (by rw [Array.length_toList]; exact h)
theorem cParse : Contract Tryz.prog E 51 sParse := by
  intro xs p r hs hp w H vs hf hE hvs
  unfold sParse at hs
  split at hs
  · rename_i s
    cases hs
    have hb := hp _ rfl
    obtain ⟨v, rfl, hv⟩ := one_arg hvs
    have := hv.val
    subst this
    refine (numParse_any s w (by omega)).mono ?_
    rintro e w' ⟨u, rfl, hio, hbl⟩
    refine ⟨_, _, rfl, ext_all hf hbl, .tup rfl fun i v x hv hx => ?_⟩
    match i with
    | 0 => simp at hv hx; subst hv hx; exact io_pr hio (parZ_zb hb)
    | 1 => simp at hv hx; subst hv hx; exact .f (.v _ rfl)
    | i + 2 => simp at hv
  · cases hs
end

end Go.Proofs.YtjfncepmpabcnaaGreatDoor
