/- the nat calls, as the laws make them: numbers in, numbers out. -/
import Derived.Test.YtopdncbgpolohaaDoorLawB
namespace Go.Proofs.YtopdncbgpolohaaDoor
open Go.RowKit

/-- v reads as a row of limbs, at most k of them, of value n. -/
def NV (w : World) (v : Value) (n k : Nat) : Prop := ∃ l, RdI w v .u32 l ∧ (∀ x ∈ l, x < 4294967296) ∧ l.length ≤ k ∧ val 1000000000 l = n
/-- v reads as THE limbs of n, at most k of them. -/
def N2 (w : World) (v : Value) (n k : Nat) : Prop := RdI w v .u32 (digs 1000000000 n) ∧ (digs 1000000000 n).length ≤ k

theorem NV.keep {w w' : World} {v : Value} {n k : Nat} (h : NV w v n k) (hb : Below w.heap.size w w') : NV w' v n k := by
  obtain ⟨l, h1, h2⟩ := h
  exact ⟨l, h1.keep hb, h2⟩
theorem N2.keep {w w' : World} {v : Value} {n k : Nat} (h : N2 w v n k) (hb : Below w.heap.size w w') : N2 w' v n k := ⟨h.1.keep hb, h.2⟩
theorem N2.nv {w : World} {v : Value} {n k : Nat} (h : N2 w v n k) : NV w v n k :=
  ⟨_, h.1, fun x hx => Nat.lt_trans (digs_lt _ (by omega) _ x hx) (by omega), h.2, val_digs _ (by omega) _⟩
theorem NV.of {w : World} {v : Value} {l : List Nat} {k : Nat} (h : RdI w v .u32 l) (h1 : ∀ x ∈ l, x < 4294967296) (h2 : l.length ≤ k) : NV w v (val 1000000000 l) k := ⟨l, h, h1, h2, rfl⟩
theorem NV.val_lt {w : World} {v : Value} {n k : Nat} (h : NV w v n k) : n < 1000000000 ^ (2 * k) := by
  obtain ⟨l, _, h1, h2, rfl⟩ := h
  exact Nat.lt_of_lt_of_le (val_lt_any l h1) (Nat.pow_le_pow_right (by omega) (by omega))
theorem rd_one {w : World} {k : IntKind} {v : Value} {l : List Nat} (h : RdI w v k l) : ∃ ao n ac, v = .slice ao n ac := by
  obtain ⟨ao, ac, h, _⟩ := h
  exact ⟨ao, _, ac, h⟩
theorem N2.one {w : World} {v : Value} {n k : Nat} (h : N2 w v n k) : ∃ ao n ac, v = .slice ao n ac := rd_one h.1
theorem N2.len {w : World} {ao : Option Addr} {m ac n k : Nat} (h : N2 w (.slice ao m ac) n k) : m = (digs 1000000000 n).length := by
  obtain ⟨_, _, h, _⟩ := h.1
  injection h
theorem NV.lit1 (w : World) (x b : Nat) (y : Int) (hy : y = (x : Nat)) (hb : b = w.heap.size) (hx : x < 4294967296) : NV (w.alloc (.cells #[.int .u32 y] 32)) (.slice (some ⟨b, 0, none⟩) 1 1) x 1 :=
  ⟨[x], rd_lit w .u32 [x] b 1 _ _ hb (by rw [hy]; rfl) rfl (by simp), by simp; exact hx, by simp, by simp [val]⟩

theorem below1 {w w' : World} (o : Obj) (hb : Below (w.alloc o).heap.size (w.alloc o) w') : Below w.heap.size w w' :=
  ((Below.refl _ _).alloc (Nat.le_refl _) _).trans (hb.mono (by simp only [size_alloc]; omega))

theorem sumV2 (l m : List Nat) : sumV [l, m] = val 1000000000 l + val 1000000000 m := by simp [sumV]
theorem sumV3 (l m r : List Nat) : sumV [l, m, r] = val 1000000000 l + val 1000000000 m + val 1000000000 r := by simp [sumV]
theorem prodV2 (l m : List Nat) : prodV [l, m] = val 1000000000 l * val 1000000000 m := by simp [prodV]
theorem prodV3 (l m r : List Nat) : prodV [l, m, r] = val 1000000000 l * val 1000000000 m * val 1000000000 r := by simp [prodV]

theorem add2 {v1 v2 : Value} {n1 n2 k1 k2 : Nat} {w : World} {b : Nat} (h1 : NV w v1 n1 k1) (h2 : NV w v2 n2 k2) (hk : k1 + k2 ≤ 10000) (hb : b = w.heap.size) :
    Calls Tryd.prog 11 #[.slice (some ⟨b, 0, none⟩) 2 2] (w.alloc (.cells #[v1, v2] 26)) fun e w' => ∃ u, e = .returned u ∧ N2 w' u (n1 + n2) (2 * k1 + 2 * k2 + 1) ∧ Below w.heap.size w w' := by
  have H1 := h1.val_lt
  have H2 := h2.val_lt
  obtain ⟨l, hl, hl1, hl2, rfl⟩ := h1
  obtain ⟨m, hm, hm1, hm2, rfl⟩ := h2
  refine (natAdd_any _ [l, m] _ (rdRows2 w .u32 v1 v2 l m b _ hb hl hm) (by simp [wgt]; omega) (by simp; exact ⟨hl1, hm1⟩) (by simp)).mono ?_
  rintro e w' ⟨u, rfl, hu, hbw⟩
  rw [sumV2] at hu
  exact ⟨u, rfl, ⟨hu.rd, digs_length_le _ (by omega) _ _ (add_lt_pow H1 H2)⟩, below1 _ hbw⟩
theorem add3 {v1 v2 v3 : Value} {n1 n2 n3 k1 k2 k3 : Nat} {w : World} {b : Nat} (h1 : NV w v1 n1 k1) (h2 : NV w v2 n2 k2) (h3 : NV w v3 n3 k3) (hk : k1 + k2 + k3 ≤ 10000) (hb : b = w.heap.size) :
    Calls Tryd.prog 11 #[.slice (some ⟨b, 0, none⟩) 3 3] (w.alloc (.cells #[v1, v2, v3] 26)) fun e w' => ∃ u, e = .returned u ∧ N2 w' u (n1 + n2 + n3) (2 * k1 + 2 * k2 + 2 * k3 + 2) ∧ Below w.heap.size w w' := by
  have H1 := h1.val_lt
  have H2 := h2.val_lt
  have H3 := h3.val_lt
  obtain ⟨l, hl, hl1, hl2, rfl⟩ := h1
  obtain ⟨m, hm, hm1, hm2, rfl⟩ := h2
  obtain ⟨r, hr, hr1, hr2, rfl⟩ := h3
  refine (natAdd_any _ [l, m, r] _ (rdRows3 w .u32 v1 v2 v3 l m r b _ hb hl hm hr) (by simp [wgt]; omega) (by simp; exact ⟨hl1, hm1, hr1⟩) (by simp)).mono ?_
  rintro e w' ⟨u, rfl, hu, hbw⟩
  rw [sumV3] at hu
  refine ⟨u, rfl, ⟨hu.rd, digs_length_le _ (by omega) _ _ ?_⟩, below1 _ hbw⟩
  have := add_lt_pow (add_lt_pow H1 H2) H3
  exact Nat.lt_of_lt_of_le this (Nat.pow_le_pow_right (by omega) (by omega))
theorem mul2 {v1 v2 : Value} {n1 n2 k1 k2 : Nat} {w : World} {b : Nat} (h1 : NV w v1 n1 k1) (h2 : NV w v2 n2 k2) (hk : k1 + k2 ≤ 10000) (hb : b = w.heap.size) :
    Calls Tryd.prog 13 #[.slice (some ⟨b, 0, none⟩) 2 2] (w.alloc (.cells #[v1, v2] 26)) fun e w' => ∃ u, e = .returned u ∧ N2 w' u (n1 * n2) (2 * k1 + 2 * k2 + 1) ∧ Below w.heap.size w w' := by
  have H1 := h1.val_lt
  have H2 := h2.val_lt
  obtain ⟨l, hl, hl1, hl2, rfl⟩ := h1
  obtain ⟨m, hm, hm1, hm2, rfl⟩ := h2
  refine (natMul_any _ [l, m] _ (rdRows2 w .u32 v1 v2 l m b _ hb hl hm) (by simp [wgt]; omega) (by simp; exact ⟨hl1, hm1⟩) (by simp)).mono ?_
  rintro e w' ⟨u, rfl, hu, hbw⟩
  rw [prodV2] at hu
  exact ⟨u, rfl, ⟨hu.rd, digs_length_le _ (by omega) _ _ (mul_lt_pow H1 H2)⟩, below1 _ hbw⟩
theorem mul3 {v1 v2 v3 : Value} {n1 n2 n3 k1 k2 k3 : Nat} {w : World} {b : Nat} (h1 : NV w v1 n1 k1) (h2 : NV w v2 n2 k2) (h3 : NV w v3 n3 k3) (hk : k1 + k2 + k3 ≤ 10000) (hb : b = w.heap.size) :
    Calls Tryd.prog 13 #[.slice (some ⟨b, 0, none⟩) 3 3] (w.alloc (.cells #[v1, v2, v3] 26)) fun e w' => ∃ u, e = .returned u ∧ N2 w' u (n1 * n2 * n3) (2 * k1 + 2 * k2 + 2 * k3 + 2) ∧ Below w.heap.size w w' := by
  have H1 := h1.val_lt
  have H2 := h2.val_lt
  have H3 := h3.val_lt
  obtain ⟨l, hl, hl1, hl2, rfl⟩ := h1
  obtain ⟨m, hm, hm1, hm2, rfl⟩ := h2
  obtain ⟨r, hr, hr1, hr2, rfl⟩ := h3
  refine (natMul_any _ [l, m, r] _ (rdRows3 w .u32 v1 v2 v3 l m r b _ hb hl hm hr) (by simp [wgt]; omega) (by simp; exact ⟨hl1, hm1, hr1⟩) (by simp)).mono ?_
  rintro e w' ⟨u, rfl, hu, hbw⟩
  rw [prodV3] at hu
  refine ⟨u, rfl, ⟨hu.rd, digs_length_le _ (by omega) _ _ ?_⟩, below1 _ hbw⟩
  have := mul_lt_pow (mul_lt_pow H1 H2) H3
  exact Nat.lt_of_lt_of_le this (Nat.pow_le_pow_right (by omega) (by omega))
theorem sub2 {v1 v2 : Value} {n1 n2 k1 k2 : Nat} {w : World} (h1 : NV w v1 n1 k1) (h2 : NV w v2 n2 k2) (hk : k1 + k2 ≤ 100000) :
    Calls Tryd.prog 15 #[v1, v2] w fun e w' => ∃ u, e = .returned (.tuple #[u, .bool (decide (n2 ≤ n1))]) ∧ N2 w' u (n1 - n2) (2 * k1) ∧ Below w.heap.size w w' := by
  have H1 := h1.val_lt
  obtain ⟨l, hl, hl1, hl2, rfl⟩ := h1
  obtain ⟨m, hm, hm1, hm2, rfl⟩ := h2
  refine (natSub_any _ _ l m w hl hm (by omega) hl1 (by omega) hm1).mono ?_
  rintro e w' ⟨u, rfl, hu, hbw⟩
  exact ⟨u, rfl, ⟨hu.rd, digs_length_le _ (by omega) _ _ (by omega)⟩, hbw⟩
theorem trim2 {v : Value} {n k : Nat} {w : World} (h1 : NV w v n k) (hk : k ≤ 100000) :
    Calls Tryd.prog 16 #[v] w fun e w' => ∃ u, e = .returned u ∧ N2 w' u n (2 * k) ∧ Below w.heap.size w w' := by
  have H1 := h1.val_lt
  obtain ⟨l, hl, hl1, hl2, rfl⟩ := h1
  refine (natTrim_any _ l w hl (by omega) hl1).mono ?_
  rintro e w' ⟨u, rfl, hu, hbw⟩
  exact ⟨u, rfl, ⟨hu.rd, digs_length_le _ (by omega) _ _ H1⟩, hbw⟩
theorem cmp2 {v1 v2 : Value} {n1 n2 k1 k2 : Nat} {w : World} (h1 : NV w v1 n1 k1) (h2 : NV w v2 n2 k2) (hk : k1 + k2 ≤ 100000) :
    Calls Tryd.prog 19 #[v1, v2] w fun e w' => e = .returned (.int .i64 (cmpI (n1 : Nat) (n2 : Nat))) ∧ Below w.heap.size w w' := by
  obtain ⟨l, hl, hl1, hl2, rfl⟩ := h1
  obtain ⟨m, hm, hm1, hm2, rfl⟩ := h2
  exact natCmp_any _ _ l m w hl hm (by omega) hl1 (by omega) hm1
theorem right2 {v : Value} {n k : Nat} {w : World} (h1 : N2 w v n k) (hk : k ≤ 100000) :
    Calls Tryd.prog 17 #[v] w fun e w' => e = .returned (.bool true) ∧ w = w' := by
  have := natRight_any _ _ w h1.1 (by have := h1.2; omega)
  rw [(rgtB_iff _).2 (digs_rgt _ (by omega) _)] at this
  exact this
theorem same2 {v1 v2 : Value} {n1 n2 k1 k2 : Nat} {w : World} (h1 : N2 w v1 n1 k1) (h2 : N2 w v2 n2 k2) (hk : k1 + k2 ≤ 100000) (he : n1 = n2) :
    Calls Tryd.prog 10 #[v1, v2] w fun e w' => e = .returned (.bool true) ∧ Below w.heap.size w w' := by
  subst he
  refine (same_any _ _ _ _ w h1.1 h2.1 (by have := h1.2; omega)).mono ?_
  rintro e w' ⟨rfl, n, rfl⟩
  rw [eqB_self]
  exact ⟨rfl, belowN (Below.refl _ _) _⟩
theorem div2 {v1 v2 : Value} {n1 n2 k1 k2 : Nat} {w : World} (h1 : NV w v1 n1 k1) (h2 : NV w v2 n2 k2) (hk : k1 + k2 ≤ 100000) (hp : 0 < n2) :
    Calls Tryd.prog 18 #[v1, v2] w fun e w' => ∃ q r, e = .returned (.tuple #[q, r, .bool true]) ∧ N2 w' q (n1 / n2) (2 * k1) ∧ N2 w' r (n1 % n2) (2 * k2) ∧ Below w.heap.size w w' := by
  have H1 := h1.val_lt
  have H2 := h2.val_lt
  obtain ⟨l, hl, hl1, hl2, rfl⟩ := h1
  obtain ⟨m, hm, hm1, hm2, rfl⟩ := h2
  refine (natDivMod_pos _ _ l m w hl hm (by omega) hl1 (by omega) hm1 hp).mono ?_
  rintro e w' ⟨q, r, rfl, hq, hr, hbw⟩
  refine ⟨q, r, rfl, ⟨hq.rd, digs_length_le _ (by omega) _ _ ?_⟩, ⟨hr.rd, digs_length_le _ (by omega) _ _ ?_⟩, hbw⟩
  · exact Nat.lt_of_le_of_lt (Nat.div_le_self _ _) H1
  · exact Nat.lt_of_lt_of_le (Nat.mod_lt _ hp) (by omega)
theorem div0 {v1 v2 : Value} {k2 : Nat} {w : World} (h2 : NV w v2 0 k2) (hk : k2 ≤ 100000) :
    Calls Tryd.prog 18 #[v1, v2] w fun e w' => e = .returned (.tuple #[.slice none 0 0, .slice none 0 0, .bool false]) ∧ Below w.heap.size w w' := by
  obtain ⟨m, hm, hm1, hm2, h0⟩ := h2
  exact natDivMod_zero _ _ m w hm (by omega) hm1 h0

end Go.Proofs.YtopdncbgpolohaaDoor
