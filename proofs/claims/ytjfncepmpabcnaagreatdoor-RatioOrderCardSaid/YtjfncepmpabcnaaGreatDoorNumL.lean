/- The layer num as a law calls it: what is told of a region's values, the calls, the lists. -/
import Derived.Test.YtjfncepmpabcnaaGreatDoorOp
import Derived.Test.YtjfncepmpabcnaaGreatDoorSame
import Derived.Test.YtjfncepmpabcnaaGreatDoorNumI
import Derived.Test.YtjfncepmpabcnaaGreatDoorNumJ
import Derived.Test.YtjfncepmpabcnaaGreatDoorNumH
import Derived.Test.YtjfncepmpabcnaaGreatDoorZText
namespace Go.Proofs.YtjfncepmpabcnaaGreatDoor
open Go.RowKit
set_option linter.unusedSimpArgs false
set_option linter.unusedVariables false

/-- A number's sign and limbs. -/
def zl (z : Int) : Bool × List Nat := (zNeg z, digs 1000000000 z.natAbs)
theorem zV_zl (z : Int) : zV (zl z).1 (zl z).2 = z := zV_digs z
/-- v reads as numbers that stand for ys, in k limbs or fewer. -/
def LZ (w : World) (v : Value) (ys : List Int) (k : Nat) : Prop := ∃ L, RdZ w v L ∧ wgZ L ≤ k ∧ L.map (fun p => zV p.1 p.2) = ys
theorem LZ.keep {w w' : World} {v : Value} {ys : List Int} {k : Nat} (h : LZ w v ys k) (hb : Below w.heap.size w w') : LZ w' v ys k := by
  obtain ⟨L, h1, h2⟩ := h; exact ⟨L, h1.keep hb, h2⟩
/-- What is told of an operation's value: a number that stands for z; THE number z; THE number z, owned; numbers; THE numbers; a value; a variable. -/
inductive Fk where
  | nz (z : Int) (k : Nat)
  | ni (z : Int)
  | no (z : Int)
  | nl (ys : List Int) (k : Nat)
  | nc (zs : List Int)
  | nv (v : Value)
  | np (vs : List Value)
  | nw (p : Bool × List Nat)
  | nr (L : List (Bool × List Nat))
  | nq (q r n : Int)
  | nb (z : Int) (b : Bool)
  | nm (src m : Nat) (ks : List (Nat × Value))
  | ne (src k : Nat)
def Fk.says : Fk → (Nat → Value) → Nat → Nat → World → Value → Prop
  | .nz y k, _, _, _, w, t => IZ w t y k
  | .ni z, _, _, _, w, t => I2 w t z
  | .no z, _, lo, hi, w, t => ∃ a : World, a.heap.size = hi ∧ IO a lo 103 t z ∧ Fr a lo w
  | .nl ys k, _, _, _, w, t => LZ w t ys k
  | .nc zs, _, _, _, w, t => RdZ w t (zs.map zl)
  | .nv x, _, _, _, _, t => t = x
  | .np vs, _, lo, hi, w, t => t = .pointer (some ⟨lo, 0, none⟩) ∧ hi = lo + 1 ∧ Box w lo vs
  | .nw p, _, _, _, w, t => IV w t p.1 p.2
  | .nr L, _, _, _, w, t => RdZ w t L
  | .nq q r n, _, lo, hi, w, t => ∃ a : World, a.heap.size = hi ∧ (∃ x x', t = .tuple #[x, x', .int .i64 n] ∧ IO a lo 103 x q ∧ IO a lo 103 x' r) ∧ Fr a lo w
  | .nb z b, _, lo, hi, w, t => ∃ a : World, a.heap.size = hi ∧ (∃ x, t = .tuple #[x, .bool b] ∧ IO a lo 103 x z) ∧ Fr a lo w
  | .nm src m ks, s, _, _, _, t => t = s src ∧ ∃ vs : Array Value, t = .tuple vs ∧ vs.size = m ∧ ∀ p ∈ ks, vs[p.1]? = some p.2
  | .ne src k, s, _, _, _, t => ∃ vs : Array Value, s src = .tuple vs ∧ vs[k]? = some t
theorem Fk.keep (k : Fk) {s : Nat → Value} {lo hi : Nat} {w w' : World} {t : Value} (h : k.says s lo hi w t) (hb : Below w.heap.size w w') : k.says s lo hi w' t := by
  cases k with
  | nz y k => exact IZ.keep (z := y) h hb
  | ni z => exact I2.keep (z := z) h hb
  | no z => obtain ⟨a, h1, h2, h3⟩ := h; exact ⟨a, h1, h2, h3.below hb⟩
  | nl ys k => exact LZ.keep h hb
  | nc zs => exact RdZ.keep h hb
  | nv x => exact h
  | np vs => exact ⟨h.1, h.2.1, h.2.2.below hb⟩
  | nw p => exact IV.keep (neg := p.1) (l := p.2) h hb
  | nr L => exact RdZ.keep (L := L) h hb
  | nq q r n => obtain ⟨a, h1, h2, h3⟩ := h; exact ⟨a, h1, h2, h3.below hb⟩
  | nb z b => obtain ⟨a, h1, h2, h3⟩ := h; exact ⟨a, h1, h2, h3.below hb⟩
  | nm src m ks => exact h
  | ne src k => exact h
def Fk.at (l : List Fk) (i : Nat) : Fk := l.getD i (.nv undef)
theorem Fk.oi {z : Int} {s : Nat → Value} {lo hi : Nat} {w : World} {t : Value} (h : (Fk.no z).says s lo hi w t) : I2 w t z := by
  obtain ⟨a, h1, h2, h3⟩ := h; exact (h2.fr h3).i2

section
variable {w0 w : World} {s : Nat → Value} {t : Value}
theorem fk_v {v : Value} (h : ∃ lo hi, w0.heap.size ≤ lo ∧ lo ≤ hi ∧ hi ≤ w.heap.size ∧ (Fk.nv v).says s lo hi w t) : t = v := by obtain ⟨lo, hi, -, -, -, h⟩ := h; exact h
theorem fk_i {z : Int} (h : ∃ lo hi, w0.heap.size ≤ lo ∧ lo ≤ hi ∧ hi ≤ w.heap.size ∧ (Fk.ni z).says s lo hi w t) : I2 w t z := by obtain ⟨lo, hi, -, -, -, h⟩ := h; exact h
theorem fk_o {z : Int} (h : ∃ lo hi, w0.heap.size ≤ lo ∧ lo ≤ hi ∧ hi ≤ w.heap.size ∧ (Fk.no z).says s lo hi w t) : I2 w t z := by obtain ⟨lo, hi, -, -, -, h⟩ := h; exact Fk.oi h
theorem fk_z {z : Int} {k : Nat} (h : ∃ lo hi, w0.heap.size ≤ lo ∧ lo ≤ hi ∧ hi ≤ w.heap.size ∧ (Fk.nz z k).says s lo hi w t) : IZ w t z k := by obtain ⟨lo, hi, -, -, -, h⟩ := h; exact h
theorem fk_l {ys : List Int} {k : Nat} (h : ∃ lo hi, w0.heap.size ≤ lo ∧ lo ≤ hi ∧ hi ≤ w.heap.size ∧ (Fk.nl ys k).says s lo hi w t) : LZ w t ys k := by obtain ⟨lo, hi, -, -, -, h⟩ := h; exact h
theorem fk_w {p : Bool × List Nat} (h : ∃ lo hi, w0.heap.size ≤ lo ∧ lo ≤ hi ∧ hi ≤ w.heap.size ∧ (Fk.nw p).says s lo hi w t) : IV w t p.1 p.2 := by obtain ⟨lo, hi, -, -, -, h⟩ := h; exact h
theorem fk_r {L : List (Bool × List Nat)} (h : ∃ lo hi, w0.heap.size ≤ lo ∧ lo ≤ hi ∧ hi ≤ w.heap.size ∧ (Fk.nr L).says s lo hi w t) : RdZ w t L := by obtain ⟨lo, hi, -, -, -, h⟩ := h; exact h
theorem fk_c {zs : List Int} (h : ∃ lo hi, w0.heap.size ≤ lo ∧ lo ≤ hi ∧ hi ≤ w.heap.size ∧ (Fk.nc zs).says s lo hi w t) : RdZ w t (zs.map zl) := by obtain ⟨lo, hi, -, -, -, h⟩ := h; exact h
theorem fk_m {src m : Nat} {ks : List (Nat × Value)} (h : ∃ lo hi, w0.heap.size ≤ lo ∧ lo ≤ hi ∧ hi ≤ w.heap.size ∧ (Fk.nm src m ks).says s lo hi w t) : ∃ vs : Array Value, t = .tuple vs ∧ vs.size = m ∧ ∀ p ∈ ks, vs[p.1]? = some p.2 := by obtain ⟨lo, hi, -, -, -, h⟩ := h; exact h.2
theorem fk_q {q r n : Int} (h : ∃ lo hi, w0.heap.size ≤ lo ∧ lo ≤ hi ∧ hi ≤ w.heap.size ∧ (Fk.nq q r n).says s lo hi w t) : ∃ x x', t = .tuple #[x, x', .int .i64 n] := by obtain ⟨lo, hi, -, -, -, a, -, ⟨x, x', h, -⟩, -⟩ := h; exact ⟨x, x', h⟩
theorem fk_b {z : Int} {b : Bool} (h : ∃ lo hi, w0.heap.size ≤ lo ∧ lo ≤ hi ∧ hi ≤ w.heap.size ∧ (Fk.nb z b).says s lo hi w t) : ∃ x, t = .tuple #[x, .bool b] := by obtain ⟨lo, hi, -, -, -, a, -, ⟨x, h, -⟩, -⟩ := h; exact ⟨x, h⟩
end

theorem op_call1 {P : Program} {a : Act} {w : World} {K : Act → World → Prop} {Q : Exit → Act → World → Prop} {d n : Nat} {f : FuncId} {ts : Array TypeId} {ty : TypeId} {pos : String} {af : Array Edge} {g : Option (Nat × Bool)} {R : Ending → World → Prop}
    (hf : plainF P f = true) (hc : Calls P f #[a.tmps.getD n undef] w R) (hR : ∀ e w', R e w' → ∃ v, e = .returned v ∧ K (a.put (some d) v) w') :
    (Oper.mk (some d) (.call ⟨.value (.func f), #[.tmp n], ts⟩) ty pos af g).wp P a w K Q := op_call hf (by simp [Act.eval]) hc hR
theorem op_call2 {P : Program} {a : Act} {w : World} {K : Act → World → Prop} {Q : Exit → Act → World → Prop} {d n m : Nat} {f : FuncId} {ts : Array TypeId} {ty : TypeId} {pos : String} {af : Array Edge} {g : Option (Nat × Bool)} {R : Ending → World → Prop}
    (hf : plainF P f = true) (hc : Calls P f #[a.tmps.getD n undef, a.tmps.getD m undef] w R) (hR : ∀ e w', R e w' → ∃ v, e = .returned v ∧ K (a.put (some d) v) w') :
    (Oper.mk (some d) (.call ⟨.value (.func f), #[.tmp n, .tmp m], ts⟩) ty pos af g).wp P a w K Q := op_call hf (by simp [Act.eval]) hc hR
theorem op_callc {P : Program} {a : Act} {w : World} {K : Act → World → Prop} {Q : Exit → Act → World → Prop} {d : Nat} {v : Value} {f : FuncId} {ts : Array TypeId} {ty : TypeId} {pos : String} {af : Array Edge} {g : Option (Nat × Bool)} {R : Ending → World → Prop}
    (hf : plainF P f = true) (hc : Calls P f #[v] w R) (hR : ∀ e w', R e w' → ∃ v, e = .returned v ∧ K (a.put (some d) v) w') :
    (Oper.mk (some d) (.call ⟨.value (.func f), #[.const v], ts⟩) ty pos af g).wp P a w K Q := op_call hf (by simp [Act.eval]) hc hR
theorem op_call0 {P : Program} {a : Act} {w : World} {K : Act → World → Prop} {Q : Exit → Act → World → Prop} {d : Nat} {f : FuncId} {ts : Array TypeId} {ty : TypeId} {pos : String} {af : Array Edge} {g : Option (Nat × Bool)} {R : Ending → World → Prop}
    (hf : plainF P f = true) (hc : Calls P f #[] w R) (hR : ∀ e w', R e w' → ∃ v, e = .returned v ∧ K (a.put (some d) v) w') :
    (Oper.mk (some d) (.call ⟨.value (.func f), #[], ts⟩) ty pos af g).wp P a w K Q := op_call hf (by simp) hc hR

/-- An api.Int out of a variable. -/
theorem ld_int (w : World) (b j : Nat) (v0 v1 : Value) (h0 : w.cell? ⟨b, j, none⟩ = some v0) (h1 : w.cell? ⟨b, j + 1, none⟩ = some v1) :
    (Instr.loadAt 29 (.pointer (some ⟨b, j, none⟩))).run Tryz.prog w = .ok (.agg #[v0, v1]) w := by
  go_simp
theorem al_int (w : World) : (Instr.alloc 29 true (.tuple #[])).run Tryz.prog w = .ok (.pointer (some ⟨w.heap.size, 0, none⟩)) (w.alloc (.cells #[.bool false, .slice none 0 0] 29)) := by
  go_simp
theorem rdz_lit (w : World) (L : List (Bool × List Nat)) (b n : Nat) (cs : Array Value) (e : TypeId) (hb : b = w.heap.size) (hn : n = L.length) (hl : L.length ≤ 1000)
    (h : ∀ i, i < L.length → ∃ s, cs[i * 2]? = some (.bool (sgnAt L i)) ∧ cs[i * 2 + 1]? = some s ∧ RdI w s .u32 (limAt L i) ∧ ∀ x ∈ limAt L i, x < 4294967296) :
    RdZ (w.alloc (.cells cs e)) (.slice (some ⟨b, 0, none⟩) n n) L := by
  subst hn
  refine ⟨_, _, rfl, Nat.le_refl _, by unfold maxLen; omega, fun i hi => ?_⟩
  obtain ⟨s, h1, h2, h3, h4⟩ := h i hi
  have hadd : (⟨b, 0, none⟩ : Addr).add (i * 2) = ⟨b, i * 2, none⟩ := by unfold Addr.add; split <;> simp_all
  refine ⟨_, s, rfl, ?_, ?_, h3.keep ((Below.refl _ _).alloc (Nat.le_refl _) _), h4⟩
  · rw [hadd, cell_new _ _ _ _ _ hb]; exact h1
  · rw [hadd]; dsimp only; rw [cell_new _ _ _ _ _ hb]; exact h2
theorem IV.sh2 {w : World} {v : Value} {neg : Bool} {l : List Nat} (h : IV w v neg l) : ∃ ao ac, v = .agg #[.bool neg, .slice ao l.length ac] ∧ RdI w (.slice ao l.length ac) .u32 l ∧ ∀ x ∈ l, x < 4294967296 := by
  obtain ⟨s, rfl, ⟨ao, ac, rfl, h2⟩, h3⟩ := h; exact ⟨ao, ac, rfl, ⟨ao, ac, rfl, h2⟩, h3⟩
/-- What a slice of numbers that is laid out makes. -/
def Lays (w : World) (n : Nat) (vs : Array (Nat × Value)) (L : List (Bool × List Nat)) : Prop :=
  ∃ x w', (Instr.buildSlice 22 n vs).run Tryz.prog w = .ok x w' ∧ Below w.heap.size w w' ∧ RdZ w' x L
theorem lay1 {w : World} {v0 : Value} {p0 : Bool × List Nat} (h0 : IV w v0 p0.1 p0.2) : Lays w 1 #[(0, v0)] [p0] := by
  obtain ⟨a0, c0, rfl, r0, x0⟩ := h0.sh2
  refine ⟨.slice (some ⟨w.heap.size, 0, none⟩) 1 1, w.alloc (.cells #[.bool p0.1, .slice a0 p0.2.length c0] 29), ?_, (Below.refl _ _).alloc (Nat.le_refl _) _, rdz_lit w [p0] _ _ _ _ rfl rfl (by simp) fun i hi => ?_⟩
  · go_simp
  · match i, hi with
    | 0, _ => exact ⟨_, rfl, rfl, r0, x0⟩
theorem lay2 {w : World} {v0 v1 : Value} {p0 p1 : Bool × List Nat} (h0 : IV w v0 p0.1 p0.2) (h1 : IV w v1 p1.1 p1.2) : Lays w 2 #[(0, v0), (1, v1)] [p0, p1] := by
  obtain ⟨a0, c0, rfl, r0, x0⟩ := h0.sh2
  obtain ⟨a1, c1, rfl, r1, x1⟩ := h1.sh2
  refine ⟨.slice (some ⟨w.heap.size, 0, none⟩) 2 2, w.alloc (.cells #[.bool p0.1, .slice a0 p0.2.length c0, .bool p1.1, .slice a1 p1.2.length c1] 29), ?_, (Below.refl _ _).alloc (Nat.le_refl _) _, rdz_lit w [p0, p1] _ _ _ _ rfl rfl (by simp) fun i hi => ?_⟩
  · go_simp
  · match i, hi with
    | 0, _ => exact ⟨_, rfl, rfl, r0, x0⟩
    | 1, _ => exact ⟨_, rfl, rfl, r1, x1⟩
theorem lay3 {w : World} {v0 v1 v2 : Value} {p0 p1 p2 : Bool × List Nat} (h0 : IV w v0 p0.1 p0.2) (h1 : IV w v1 p1.1 p1.2) (h2 : IV w v2 p2.1 p2.2) : Lays w 3 #[(0, v0), (1, v1), (2, v2)] [p0, p1, p2] := by
  obtain ⟨a0, c0, rfl, r0, x0⟩ := h0.sh2
  obtain ⟨a1, c1, rfl, r1, x1⟩ := h1.sh2
  obtain ⟨a2, c2, rfl, r2, x2⟩ := h2.sh2
  refine ⟨.slice (some ⟨w.heap.size, 0, none⟩) 3 3, w.alloc (.cells #[.bool p0.1, .slice a0 p0.2.length c0, .bool p1.1, .slice a1 p1.2.length c1, .bool p2.1, .slice a2 p2.2.length c2] 29), ?_, (Below.refl _ _).alloc (Nat.le_refl _) _, rdz_lit w [p0, p1, p2] _ _ _ _ rfl rfl (by simp) fun i hi => ?_⟩
  · go_simp
  · match i, hi with
    | 0, _ => exact ⟨_, rfl, rfl, r0, x0⟩
    | 1, _ => exact ⟨_, rfl, rfl, r1, x1⟩
    | 2, _ => exact ⟨_, rfl, rfl, r2, x2⟩
set_option maxHeartbeats 1000000 in
theorem lay7 {w : World} {v0 v1 v2 v3 v4 v5 v6 : Value} {p0 p1 p2 p3 p4 p5 p6 : Bool × List Nat} (h0 : IV w v0 p0.1 p0.2) (h1 : IV w v1 p1.1 p1.2) (h2 : IV w v2 p2.1 p2.2) (h3 : IV w v3 p3.1 p3.2) (h4 : IV w v4 p4.1 p4.2) (h5 : IV w v5 p5.1 p5.2) (h6 : IV w v6 p6.1 p6.2) :
    Lays w 7 #[(0, v0), (1, v1), (2, v2), (3, v3), (4, v4), (5, v5), (6, v6)] [p0, p1, p2, p3, p4, p5, p6] := by
  obtain ⟨a0, c0, rfl, r0, x0⟩ := h0.sh2
  obtain ⟨a1, c1, rfl, r1, x1⟩ := h1.sh2
  obtain ⟨a2, c2, rfl, r2, x2⟩ := h2.sh2
  obtain ⟨a3, c3, rfl, r3, x3⟩ := h3.sh2
  obtain ⟨a4, c4, rfl, r4, x4⟩ := h4.sh2
  obtain ⟨a5, c5, rfl, r5, x5⟩ := h5.sh2
  obtain ⟨a6, c6, rfl, r6, x6⟩ := h6.sh2
  refine ⟨.slice (some ⟨w.heap.size, 0, none⟩) 7 7, w.alloc (.cells #[.bool p0.1, .slice a0 p0.2.length c0, .bool p1.1, .slice a1 p1.2.length c1, .bool p2.1, .slice a2 p2.2.length c2, .bool p3.1, .slice a3 p3.2.length c3, .bool p4.1, .slice a4 p4.2.length c4, .bool p5.1, .slice a5 p5.2.length c5, .bool p6.1, .slice a6 p6.2.length c6] 29), ?_, (Below.refl _ _).alloc (Nat.le_refl _) _, rdz_lit w [p0, p1, p2, p3, p4, p5, p6] _ _ _ _ rfl rfl (by simp) fun i hi => ?_⟩
  · go_simp
  · match i, hi with
    | 0, _ => exact ⟨_, rfl, rfl, r0, x0⟩
    | 1, _ => exact ⟨_, rfl, rfl, r1, x1⟩
    | 2, _ => exact ⟨_, rfl, rfl, r2, x2⟩
    | 3, _ => exact ⟨_, rfl, rfl, r3, x3⟩
    | 4, _ => exact ⟨_, rfl, rfl, r4, x4⟩
    | 5, _ => exact ⟨_, rfl, rfl, r5, x5⟩
    | 6, _ => exact ⟨_, rfl, rfl, r6, x6⟩
/-- What numbers that are laid out make. -/
def LaysZ (w : World) (n : Nat) (vs : Array (Nat × Value)) (ys : List Int) (k : Nat) : Prop :=
  ∃ x w', (Instr.buildSlice 22 n vs).run Tryz.prog w = .ok x w' ∧ Below w.heap.size w w' ∧ LZ w' x ys k
theorem lz1 {w : World} {v0 : Value} {y0 : Int} {k0 : Nat} (h0 : IZ w v0 y0 k0) : LaysZ w 1 #[(0, v0)] [y0] (k0 + 2) := by
  obtain ⟨n0, l0, i0, e0, rfl⟩ := h0
  obtain ⟨x, w', hr, hb, hl⟩ := lay1 (p0 := (n0, l0)) i0
  exact ⟨x, w', hr, hb, _, hl, by simp only [wgZ]; omega, rfl⟩
theorem lz2 {w : World} {v0 v1 : Value} {y0 y1 : Int} {k0 k1 : Nat} (h0 : IZ w v0 y0 k0) (h1 : IZ w v1 y1 k1) : LaysZ w 2 #[(0, v0), (1, v1)] [y0, y1] (k0 + k1 + 4) := by
  obtain ⟨n0, l0, i0, e0, rfl⟩ := h0
  obtain ⟨n1, l1, i1, e1, rfl⟩ := h1
  obtain ⟨x, w', hr, hb, hl⟩ := lay2 (p0 := (n0, l0)) (p1 := (n1, l1)) i0 i1
  exact ⟨x, w', hr, hb, _, hl, by simp only [wgZ]; omega, rfl⟩
theorem lz3 {w : World} {v0 v1 v2 : Value} {y0 y1 y2 : Int} {k0 k1 k2 : Nat} (h0 : IZ w v0 y0 k0) (h1 : IZ w v1 y1 k1) (h2 : IZ w v2 y2 k2) : LaysZ w 3 #[(0, v0), (1, v1), (2, v2)] [y0, y1, y2] (k0 + k1 + k2 + 6) := by
  obtain ⟨n0, l0, i0, e0, rfl⟩ := h0
  obtain ⟨n1, l1, i1, e1, rfl⟩ := h1
  obtain ⟨n2, l2, i2, e2, rfl⟩ := h2
  obtain ⟨x, w', hr, hb, hl⟩ := lay3 (p0 := (n0, l0)) (p1 := (n1, l1)) (p2 := (n2, l2)) i0 i1 i2
  exact ⟨x, w', hr, hb, _, hl, by simp only [wgZ]; omega, rfl⟩
theorem LZ.nil (w : World) : LZ w (.slice none 0 0) [] 0 := ⟨[], ⟨none, 0, rfl, by simp, by unfold maxLen; omega, fun i hi => by simp at hi⟩, Nat.le_refl _, rfl⟩

/-- What a call for one number tells. -/
def TellsO (z : Int) (w : World) (e : Ending) (w' : World) : Prop := ∃ x, e = .returned x ∧ IO w' w.heap.size 103 x z ∧ Below w.heap.size w w'
/-- What a call for a value tells. -/
def TellsV (v : Value) (w : World) (e : Ending) (w' : World) : Prop := e = .returned v ∧ Below w.heap.size w w'
theorem TellsO.step {z : Int} {w : World} {sv : Nat → Value} {K : Act → World → Prop} {a : Act} {d : Nat} (hK : ∀ w' u, Below w.heap.size w w' → (Fk.no z).says sv w.heap.size w'.heap.size w' u → K (a.put (some d) u) w') :
    ∀ e w', TellsO z w e w' → ∃ v, e = .returned v ∧ K (a.put (some d) v) w' := by
  rintro e w' ⟨x, rfl, hi, hb⟩
  exact ⟨x, rfl, hK _ _ hb ⟨w', rfl, hi, Fr.refl _ _⟩⟩
theorem TellsV.step {v : Value} {w : World} {sv : Nat → Value} {K : Act → World → Prop} {a : Act} {d : Nat} (hK : ∀ w' u, Below w.heap.size w w' → (Fk.nv v).says sv w.heap.size w'.heap.size w' u → K (a.put (some d) u) w') :
    ∀ e w', TellsV v w e w' → ∃ v, e = .returned v ∧ K (a.put (some d) v) w' := by
  rintro e w' ⟨rfl, hb⟩
  exact ⟨v, rfl, hK _ _ hb rfl⟩

theorem foldZ_map (op : Int → Int → Int) (z0 : Int) (L : List (Bool × List Nat)) : foldZ op z0 L = (L.map fun p => zV p.1 p.2).foldl op z0 := by
  unfold foldZ; rw [List.foldl_map]
def gcd2 (a b : Int) : Int := ((Nat.gcd a.natAbs b.natAbs : Nat) : Int)
theorem zb_gcd2 {y z : Int} {a b : Nat} (h1 : ZB y a) (h2 : ZB z b) : ZB (gcd2 y z) (a + b + 1) := by
  have h3 : (gcd2 y z).natAbs ≤ y.natAbs + z.natAbs := by
    unfold gcd2
    rw [Int.natAbs_natCast]
    rcases Nat.eq_zero_or_pos y.natAbs with h | h
    · rw [h, Nat.gcd_zero_left]; omega
    · have := Nat.gcd_le_left z.natAbs h; omega
  exact Nat.lt_of_le_of_lt h3 (pow_add_le h1 h2)
theorem add_law {u : Value} {ys : List Int} {k : Nat} {z : Int} {w : World} (hu : LZ w u ys k) (hk : k ≤ 40000) (hz : ys.foldl (fun a b => a + b) 0 = z) : Calls Tryz.prog 13 #[u] w (TellsO z w) := by
  obtain ⟨L, h1, h2, h3⟩ := hu
  subst h3
  refine (numAdd_any u L w h1 (by omega)).mono fun e w' h => ?_
  rw [foldZ_map, hz] at h; exact h
theorem mul_law {u : Value} {ys : List Int} {k : Nat} {z : Int} {w : World} (hu : LZ w u ys k) (hk : k ≤ 40000) (hz : ys.foldl (fun a b => a * b) 1 = z) : Calls Tryz.prog 15 #[u] w (TellsO z w) := by
  obtain ⟨L, h1, h2, h3⟩ := hu
  subst h3
  refine (numMul_any u L w h1 (by omega)).mono fun e w' h => ?_
  rw [foldZ_map, hz] at h; exact h
theorem gcd_law {u : Value} {ys : List Int} {k : Nat} {z : Int} {w : World} (hu : LZ w u ys k) (hk : k ≤ 40000) (hz : ys.foldl gcd2 0 = z) : Calls Tryz.prog 17 #[u] w (TellsO z w) := by
  obtain ⟨L, h1, h2, h3⟩ := hu
  subst h3
  refine (numGcd_any u L w h1 (by omega)).mono fun e w' h => ?_
  rw [foldZ_map] at h
  subst hz
  exact h
theorem neg_law {v : Value} {y z : Int} {k : Nat} {w : World} (hv : IZ w v y k) (hk : k ≤ 100000) (hz : -y = z) : Calls Tryz.prog 91 #[v] w (TellsO z w) := by
  subst hz; exact numNeg_any v y k w hv hk
theorem of_law (n z : Int) (w : World) (h1 : -9223372036854775808 ≤ n) (h2 : n ≤ 9223372036854775807) (hz : n = z) : Calls Tryz.prog 31 #[.int .i64 n] w (TellsO z w) := by
  subst hz; exact numOf_any n w h1 h2
theorem cmp_law {v u : Value} {y x : Int} {k j : Nat} {w : World} {c : Int} (hv : IZ w v y k) (hu : IZ w u x j) (hk : k + j ≤ 90000) (hc : cmpI y x = c) : Calls Tryz.prog 70 #[v, u] w (TellsV (.int .i64 c) w) := by
  subst hc; exact numCmp_any v u y x k j w hv hu hk
theorem text_law {v : Value} {y : Int} {k : Nat} {w : World} (hv : IZ w v y k) (hk : k ≤ 90000) (ht : Tab w) : Calls Tryz.prog 48 #[v] w (TellsV (.string ⟨(zText y).toArray⟩) w) := numText_any v y k w hv hk ht
theorem right_law {v : Value} {y : Int} {k : Nat} {w : World} (hv : I2 w v y) (hb : ZB y k) (hk : k ≤ 90000) : Calls Tryz.prog 77 #[v] w (TellsV (.bool true) w) := by
  refine (numRight_any v _ _ w hv.iv (by have := hb.len; omega)).mono fun e w' h => ?_
  rw [rightZ_of] at h; exact h
theorem same_law {v u : Value} {y x : Int} {k : Nat} {b : Bool} {w : World} (hv : I2 w v y) (hu : I2 w u x) (hb : ZB y k) (hk : k ≤ 900000) (he : decide (y = x) = b) : Calls Tryz.prog 12 #[v, u] w (TellsV (.bool b) w) := by
  subst he; exact same02_any v u y x k w hv hu hb (by omega)

/-- A quotient and a rest, and an error. -/
def TellsQ (q r n : Int) (w : World) (e : Ending) (w' : World) : Prop :=
  ∃ x x', e = .returned (.tuple #[x, x', .int .i64 n]) ∧ IO w' w.heap.size 103 x q ∧ IO w' w.heap.size 103 x' r ∧ Below w.heap.size w w'
theorem div_law {v u : Value} {y x q r : Int} {k j : Nat} {w : World} (hv : IZ w v y k) (hu : IZ w u x j) (hk : k + j ≤ 40000) (h0 : x ≠ 0) (hq : Int.fdiv y x = q) (hr : Int.fmod y x = r) :
    Calls Tryz.prog 50 #[v, u] w (TellsQ q r 0 w) := by
  refine (numDivMod_any v u y x k j w hv hu hk).mono ?_
  rintro e w' ⟨a, b, n, rfl, hb, -, h⟩
  obtain ⟨rfl, h1, h2⟩ := h h0
  exact ⟨a, b, rfl, hq ▸ h1, hr ▸ h2, hb⟩
theorem div0_law {v u : Value} {y x : Int} {k j : Nat} {w : World} (hv : IZ w v y k) (hu : IZ w u x j) (hk : k + j ≤ 40000) (h0 : x = 0) :
    Calls Tryz.prog 50 #[v, u] w (TellsQ 0 0 9 w) := by
  refine (numDivMod_any v u y x k j w hv hu hk).mono ?_
  rintro e w' ⟨a, b, n, rfl, hb, h, -⟩
  obtain ⟨rfl, h1, h2⟩ := h h0
  exact ⟨a, b, rfl, h1, h2, hb⟩
theorem TellsQ.step {q r n : Int} {w : World} {sv : Nat → Value} {K : Act → World → Prop} {a : Act} {d : Nat} (hK : ∀ w' u, Below w.heap.size w w' → (Fk.nq q r n).says sv w.heap.size w'.heap.size w' u → K (a.put (some d) u) w') :
    ∀ e w', TellsQ q r n w e w' → ∃ v, e = .returned v ∧ K (a.put (some d) v) w' := by
  rintro e w' ⟨x, x', rfl, h1, h2, hb⟩
  exact ⟨_, rfl, hK _ _ hb ⟨w', rfl, ⟨x, x', rfl, h1, h2⟩, Fr.refl _ _⟩⟩
theorem IO.opq {w : World} {B : Nat} {e : TypeId} {v : Value} {z : Int} (h : IO w B e v z) : ∃ (na : Bool) (ao : Option Addr) (n ac : Nat), v = .agg #[.bool na, .slice ao n ac] := by
  obtain ⟨ao, ac, h⟩ := h.one; exact ⟨_, _, _, _, h⟩
theorem zb1 {z : Int} (h : z.natAbs < 1000000000) : ZB z 1 := by unfold ZB; simpa using h

theorem op_negI {P : Program} {a : Act} {w : World} {K : Act → World → Prop} {Q : Exit → Act → World → Prop} {d n : Nat} {t ty : TypeId} {pos : String} {af : Array Edge} {g : Option (Nat × Bool)} {k : IntKind} {m r : Int} (h : a.tmps.getD n undef = .int k m) (hr : k.wrap (-m) = r)
    (hK : K (a.put (some d) (.int k r)) w) : (Oper.mk (some d) (.unOp .neg t (.tmp n)) ty pos af g).wp P a w K Q := by
  subst hr
  refine op_run (x := .int k (k.wrap (-m))) ?_ hK
  have h' : a.eval (.tmp n) = .int k m := h
  show (do pure (.value (← Op.unary .neg (a.eval (.tmp n)))) : Sem Next).run P w = _
  rw [h']
  simp [Op.unary, go_sem]
theorem bld_neg (w : World) : (Instr.build 29 #[(0, .bool true)]).run Tryz.prog w = .ok (.agg #[.bool true, .slice none 0 0]) w := by
  go_simp
theorem iz_neg0 (w : World) : IZ w (.agg #[.bool true, .slice none 0 0]) 0 0 :=
  ⟨true, [], ⟨_, rfl, ⟨none, 0, rfl, Nat.le_refl _, by unfold maxLen; omega, fun _ => rfl, fun i hi => by simp at hi⟩, fun x hx => by simp at hx⟩, Nat.le_refl _, rfl⟩
theorem bseq (l m : List UInt8) (b : Bool) (h : decide (l = m) = b) : ((⟨l.toArray⟩ : ByteArray).toList == (⟨m.toArray⟩ : ByteArray).toList) = b := by
  rw [ByteArray.toList_mk, ByteArray.toList_mk, ← h, Bool.eq_iff_iff]; simp
theorem zText0 : zText 0 = [48] := by
  rw [zText_pos (by rfl)]; exact dec_small (by omega)

theorem ld_intA (w : World) (A : Addr) (v0 v1 : Value) (h0 : w.cell? A = some v0) (h1 : w.cell? ⟨A.block, A.off + 1, none⟩ = some v1) :
    (Instr.loadAt 29 (.pointer (some A))).run Tryz.prog w = .ok (.agg #[v0, v1]) w := by
  have h1' : w.cell? (A.add 1) = some v1 := h1
  go_simp
theorem op_idx {a : Act} {w : World} {K : Act → World → Prop} {Q : Exit → Act → World → Prop} {d n m : Nat} {ty : TypeId} {pos : String} {af : Array Edge} {g : Option (Nat × Bool)} {ad : Addr} {len cap k : Nat} (h : a.tmps.getD n undef = .slice (some ad) len cap) (hm : a.tmps.getD m undef = .int .i64 k) (hk : k < len)
    (hK : K (a.put (some d) (.pointer (some (ad.add (k * 2))))) w) : (Oper.mk (some d) (.indexAddr 22 (.tmp n) (.tmp m)) ty pos af g).wp Tryz.prog a w K Q := by
  refine op_sem (s := Instr.indexAt 22 (.slice (some ad) len cap) (.int .i64 k)) (by simp only [execOp, Act.eval, h, hm]) ?_ hK
  have h0 : (0 : Int) ≤ (k : Int) := by omega
  have h1 : (k : Int) < (len : Int) := by omega
  go_simp
/-- The k-th of THE numbers that lie in a list. -/
theorem RdZ.nth {w : World} {ao : Option Addr} {n c : Nat} {zs : List Int} {z : Int} {k : Nat} (h : RdZ w (.slice ao n c) (zs.map zl)) (hz : zs[k]? = some z) :
    ∃ ad s, ao = some ad ∧ n = zs.length ∧ k < n ∧ w.cell? (ad.add (k * 2)) = some (.bool (zNeg z)) ∧ w.cell? ⟨(ad.add (k * 2)).block, (ad.add (k * 2)).off + 1, none⟩ = some s ∧ I2 w (.agg #[.bool (zNeg z), s]) z := by
  obtain ⟨ao', c', hv, h1, h2, h3⟩ := h
  injection hv with e1 e2 e3
  subst e1 e2
  have hk : k < zs.length := (List.getElem?_eq_some_iff.1 hz).1
  have hk' : k < (zs.map zl).length := by simpa using hk
  obtain ⟨ad, s, e4, e5, e6, e7, e8⟩ := h3 k hk'
  have hzk : (zs.map zl)[k] = zl z := by simp [(List.getElem?_eq_some_iff.1 hz).2]
  rw [sgnAt_eq hk', hzk] at e5
  rw [limAt_eq hk', hzk] at e7
  exact ⟨ad, s, e4, by simp, hk', e5, e6, s, rfl, e7⟩
theorem great_law {u : Value} {L : List (Bool × List Nat)} {b : Bool} {w : World} (hu : RdZ w u L) (hs : ∀ i, i < L.length → (limAt L i).length ≤ 9223372036854770000) (hb : greatZ L = b) : Calls Tryz.prog 9 #[u] w (TellsV (.bool b) w) := by
  subst hb
  exact (great_any u L w hu hs).mono fun e w' ⟨h1, h2⟩ => ⟨h1, by subst h2; exact Below.refl _ _⟩
theorem awake_law {w : World} (h : Tab w) (go : ∀ w, Tab w → Calls Tryz.prog 10 #[] w (TellsV (.bool true) w)) : Calls Tryz.prog 10 #[] w (TellsV (.bool true) w) := go w h
theorem great3 {la lb lc : Bool × List Nat} (h : greatZ [la, lb, lc] = false) : la.2.length ≤ 1000 ∧ lb.2.length ≤ 1000 ∧ lc.2.length ≤ 1000 := by
  unfold greatZ at h
  rw [Bool.or_eq_false_iff, decide_eq_false_iff_not] at h
  have : limbs [la, lb, lc] 3 = 0 + la.2.length + lb.2.length + lc.2.length := rfl
  have h1 := h.1
  simp only [List.length_cons, List.length_nil] at h1
  rw [this] at h1
  omega

theorem I2.sl {w : World} {b : Bool} {s : Value} {z : Int} (h : I2 w (.agg #[.bool b, s]) z) : ∃ ao n ac, s = .slice ao n ac := by
  obtain ⟨ao, ac, h⟩ := h.one
  injection h with h
  have : s = .slice ao (digs 1000000000 z.natAbs).length ac := by injection h with h; injection h with _ h; injection h
  exact ⟨_, _, _, this⟩
/-- What Parse tells of a number's text. -/
def TellsP (z : Int) (w : World) (e : Ending) (w' : World) : Prop := ∃ x, e = .returned (.tuple #[x, .bool true]) ∧ IO w' w.heap.size 103 x z ∧ Below w.heap.size w w'
theorem parse_law {z : Int} {k : Nat} (w : World) (hb : ZB z k) (hk : k ≤ 100000) : Calls Tryz.prog 51 #[.string ⟨(zText z).toArray⟩] w (TellsP z w) := by
  have hl := zText_len hb
  refine (numParse_any ⟨(zText z).toArray⟩ w (by simp [ByteArray.size]; omega)).mono ?_
  rintro e w' ⟨x, rfl, h1, h2⟩
  have e1 : (⟨(zText z).toArray⟩ : ByteArray).data.toList = zText z := by simp
  rw [e1, parZ_text] at h1
  exact ⟨x, by rw [e1, okZ_text], h1, h2⟩
/-- What was before w0 is in w as in w0. -/
def Bel (w0 w : World) : Prop := Below w0.heap.size w0 w
theorem Bel.keep {w0 w w' : World} (h : Bel w0 w) (hb : Below w.heap.size w w') : Bel w0 w' := bw_below h hb
theorem TellsP.step {z : Int} {w : World} {sv : Nat → Value} {K : Act → World → Prop} {a : Act} {d : Nat} (hK : ∀ w' u, Below w.heap.size w w' → (Fk.nb z true).says sv w.heap.size w'.heap.size w' u → K (a.put (some d) u) w') :
    ∀ e w', TellsP z w e w' → ∃ v, e = .returned v ∧ K (a.put (some d) v) w' := by
  rintro e w' ⟨x, rfl, h1, hb⟩
  exact ⟨_, rfl, hK _ _ hb ⟨w', rfl, ⟨x, rfl, h1⟩, Fr.refl _ _⟩⟩
theorem st_int (w : World) (b : Nat) (u0 u1 : Value) (n : Bool) (ao : Option Addr) (l c : Nat) (hX : Box w b [u0, u1]) :
    (Instr.storeAt 29 (.pointer (some ⟨b, 0, none⟩)) (.agg #[.bool n, .slice ao l c])).run Tryz.prog w = .ok () ((w.setCell ⟨b, 0, none⟩ (.bool n)).setCell ⟨b, 1, none⟩ (.slice ao l c)) := by
  have hc0 := hX.c0
  have hc1 := hX.c1
  have hf0 := hX.free 0
  have hf1 := hX.free 1
  have hc1' : (w.setCell ⟨b, 0, none⟩ (.bool n)).cell? ⟨b, 1, none⟩ = some u1 := cs_off (by decide) hc1
  have hf1' : (w.setCell ⟨b, 0, none⟩ (.bool n)).frozen? ⟨b, 1, none⟩ = false := (free_same w b 0 b 1 (.bool n)).trans hf1
  go_simp
theorem wl_store {ops : Array Oper} {rest : List Oper} {Q : Exit → Act → World → Prop} {a : Act} {w : World} {p y b : Nat} {u0 u1 : Value} {n : Bool} {ao : Option Addr} {l c : Nat} {ty : TypeId} {pos : String} {af : Array Edge}
    (hp : a.tmps.getD p undef = .pointer (some ⟨b, 0, none⟩)) (hy : a.tmps.getD y undef = .agg #[.bool n, .slice ao l c]) (hX : Box w b [u0, u1])
    (h : wpList Tryz.prog ops Q rest a ((w.setCell ⟨b, 0, none⟩ (.bool n)).setCell ⟨b, 1, none⟩ (.slice ao l c))) : wpList Tryz.prog ops Q (Oper.mk none (.store 29 (.tmp p) (.tmp y)) ty pos af none :: rest) a w := by
  refine wpList_plain rfl fun K hK => ?_
  have hr : (execOp a.eval (Oper.mk none (.store 29 (.tmp p) (.tmp y)) ty pos af none)).run Tryz.prog w = .ok .skip ((w.setCell ⟨b, 0, none⟩ (.bool n)).setCell ⟨b, 1, none⟩ (.slice ao l c)) := by
    have hp' : a.eval (.tmp p) = .pointer (some ⟨b, 0, none⟩) := hp
    have hy' : a.eval (.tmp y) = .agg #[.bool n, .slice ao l c] := hy
    show (do Instr.storeAt 29 (a.eval (.tmp p)) (a.eval (.tmp y)); pure .skip : Sem Next).run Tryz.prog w = _
    rw [hp', hy']
    simp [st_int w b u0 u1 n ao l c hX]
  unfold Oper.wp
  rw [hr]
  exact hK _ _ h
theorem wl_assign {P : Program} {ops : Array Oper} {rest : List Oper} {Q : Exit → Act → World → Prop} {a : Act} {w : World} {d n : Nat} {x : Value} {ty : TypeId} {pos : String} {af : Array Edge}
    (hx : a.tmps.getD n undef = x) (h : wpList P ops Q rest (a.put (some d) x) w) : wpList P ops Q (Oper.mk (some d) (.assign (.tmp n)) ty pos af none :: rest) a w :=
  wpList_plain rfl fun K hK => op_assign hx (hK _ _ h)
theorem ne_of_disj {x y : Nat} (h : x + 1 ≤ y ∨ y + 1 ≤ x) : y ≠ x := by omega
theorem cmpI_ge {a b : Int} (h : b ≤ a) : decide (cmpI a b < 0) = false := by
  rcases Int.lt_trichotomy a b with h1 | h1 | h1
  · omega
  · rw [cmpI_eq h1]; rfl
  · rw [cmpI_gt h1]; rfl
theorem cmpI_le {a b : Int} (h : a ≤ b) : decide (0 < cmpI a b) = false := by
  rcases Int.lt_trichotomy a b with h1 | h1 | h1
  · rw [cmpI_lt h1]; rfl
  · rw [cmpI_eq h1]; rfl
  · omega
theorem cmpI_ne {a b : Int} (h : a ≠ b) : decide (cmpI a b = 0) = false := by
  rcases Int.lt_trichotomy a b with h1 | h1 | h1
  · rw [cmpI_lt h1]; rfl
  · exact absurd h1 h
  · rw [cmpI_gt h1]; rfl
theorem cmpI_add (y z x : Int) : cmpI (y + x) (z + x) = cmpI y z := by
  unfold cmpI
  simp only [Int.add_lt_add_iff_right]
theorem cmpI_swap (y z : Int) : cmpI z y = -cmpI y z := by
  rcases Int.lt_trichotomy y z with h | h | h
  · rw [cmpI_lt h, cmpI_gt h]; rfl
  · rw [cmpI_eq h, cmpI_eq h.symm]; rfl
  · rw [cmpI_gt h, cmpI_lt h]
theorem cmpI_sub (y z : Int) : cmpI (y - z) 0 = cmpI y z := by
  rcases Int.lt_trichotomy y z with h | h | h
  · rw [cmpI_lt h, cmpI_lt (by omega)]
  · rw [cmpI_eq h, cmpI_eq (by omega)]
  · rw [cmpI_gt h, cmpI_gt (by omega)]

end Go.Proofs.YtjfncepmpabcnaaGreatDoor
