/- The layer num as a law calls it: what is told of a region's values, the calls, the lists. -/
import Derived.Test.YtjfncepmpabcnaaGreatDoorOp
import Derived.Test.YtjfncepmpabcnaaGreatDoorSame
import Derived.Test.YtjfncepmpabcnaaGreatDoorNumI
import Derived.Test.YtjfncepmpabcnaaGreatDoorNumJ
import Derived.Test.YtjfncepmpabcnaaGreatDoorNumF
import Derived.Deep.DeepCutAuto
import Derived.Test.YtjfncepmpabcnaaGreatDoorZText
namespace Go.Proofs.YtjfncepmpabcnaaGreatDoor
open Go.RowKit
set_option linter.unusedSimpArgs false
set_option linter.unusedVariables false

/-- A number's sign and limbs. -/
def zl (z : Int) : Bool × List Nat := (zNeg z, digs 1000000000 z.natAbs)
/-- v reads as numbers that stand for ys, in k limbs or fewer. -/
def LZ (w : World) (v : Value) (ys : List Int) (k : Nat) : Prop := ∃ L, RdZ w v L ∧ wgZ L ≤ k ∧ L.map (fun p => zV p.1 p.2) = ys
theorem LZ.keep {w w' : World} {v : Value} {ys : List Int} {k : Nat} (h : LZ w v ys k) (hb : Below w.heap.size w w') : LZ w' v ys k := by
  obtain ⟨L, h1, h2⟩ := h; exact ⟨L, h1.keep hb, h2⟩
/-- What is told of an operation's value: a number that stands for z; THE number z; THE number z, owned; numbers; THE numbers; a value; a variable. -/
inductive Fk where
  | nz (z : Int) (k : Nat)
  | ni (z : Int)
  | no (z : Int)
  | nl (ys : List Int) (k : Nat)
  | nc (zs : List Int)
  | nv (v : Value)
  | np (vs : List Value)
  | nw (p : Bool × List Nat)
  | nr (L : List (Bool × List Nat))
  | nq (q r n : Int)
  | nb (z : Int) (b : Bool)
  | nm (src m : Nat) (ks : List (Nat × Value))
  | ne (src k : Nat)
def Fk.says : Fk → (Nat → Value) → Nat → Nat → World → Value → Prop
  | .nz y k, _, _, _, w, t => IZ w t y k
  | .ni z, _, _, _, w, t => I2 w t z
  | .no z, _, lo, hi, w, t => ∃ a : World, a.heap.size = hi ∧ IO a lo 103 t z ∧ Fr a lo w
  | .nl ys k, _, _, _, w, t => LZ w t ys k
  | .nc zs, _, _, _, w, t => RdZ w t (zs.map zl)
  | .nv x, _, _, _, _, t => t = x
  | .np vs, _, lo, hi, w, t => t = .pointer (some ⟨lo, 0, none⟩) ∧ hi = lo + 1 ∧ Box w lo vs
  | .nw p, _, _, _, w, t => IV w t p.1 p.2
  | .nr L, _, _, _, w, t => RdZ w t L
  | .nq q r n, _, lo, hi, w, t => ∃ a : World, a.heap.size = hi ∧ (∃ x x', t = .tuple #[x, x', .int .i64 n] ∧ IO a lo 103 x q ∧ IO a lo 103 x' r) ∧ Fr a lo w
  | .nb z b, _, lo, hi, w, t => ∃ a : World, a.heap.size = hi ∧ (∃ x, t = .tuple #[x, .bool b] ∧ IO a lo 103 x z) ∧ Fr a lo w
  | .nm src m ks, s, _, _, _, t => t = s src ∧ ∃ vs : Array Value, t = .tuple vs ∧ vs.size = m ∧ ∀ p ∈ ks, vs[p.1]? = some p.2
  | .ne src k, s, _, _, _, t => ∃ vs : Array Value, s src = .tuple vs ∧ vs[k]? = some t
theorem Fk.keep (k : Fk) {s : Nat → Value} {lo hi : Nat} {w w' : World} {t : Value} (h : k.says s lo hi w t) (hb : Below w.heap.size w w') : k.says s lo hi w' t := by
  cases k with
  | nz y k => exact IZ.keep (z := y) h hb
  | ni z => exact I2.keep (z := z) h hb
  | no z => obtain ⟨a, h1, h2, h3⟩ := h; exact ⟨a, h1, h2, h3.below hb⟩
  | nl ys k => exact LZ.keep h hb
  | nc zs => exact RdZ.keep h hb
  | nv x => exact h
  | np vs => exact ⟨h.1, h.2.1, h.2.2.below hb⟩
  | nw p => exact IV.keep (neg := p.1) (l := p.2) h hb
  | nr L => exact RdZ.keep (L := L) h hb
  | nq q r n => obtain ⟨a, h1, h2, h3⟩ := h; exact ⟨a, h1, h2, h3.below hb⟩
  | nb z b => obtain ⟨a, h1, h2, h3⟩ := h; exact ⟨a, h1, h2, h3.below hb⟩
  | nm src m ks => exact h
  | ne src k => exact h
def Fk.at (l : List Fk) (i : Nat) : Fk := l.getD i (.nv undef)
section
variable {w0 w : World} {s : Nat → Value} {t : Value}
end

theorem LZ.nil (w : World) : LZ w (.slice none 0 0) [] 0 := ⟨[], ⟨none, 0, rfl, by simp, by unfold maxLen; omega, fun i hi => by simp at hi⟩, Nat.le_refl _, rfl⟩

def gcd2 (a b : Int) : Int := ((Nat.gcd a.natAbs b.natAbs : Nat) : Int)
theorem zb_gcd2 {y z : Int} {a b : Nat} (h1 : ZB y a) (h2 : ZB z b) : ZB (gcd2 y z) (a + b + 1) := by
  have h3 : (gcd2 y z).natAbs ≤ y.natAbs + z.natAbs := by
    unfold gcd2
    rw [Int.natAbs_natCast]
    rcases Nat.eq_zero_or_pos y.natAbs with h | h
    · rw [h, Nat.gcd_zero_left]; omega
    · have := Nat.gcd_le_left z.natAbs h; omega
  exact Nat.lt_of_le_of_lt h3 (pow_add_le h1 h2)
theorem bseq (l m : List UInt8) (b : Bool) (h : decide (l = m) = b) : ((⟨l.toArray⟩ : ByteArray).toList == (⟨m.toArray⟩ : ByteArray).toList) = b := by
  rw [ByteArray.toList_mk, ByteArray.toList_mk, ← h, Bool.eq_iff_iff]; simp
theorem I2.sl {w : World} {b : Bool} {s : Value} {z : Int} (h : I2 w (.agg #[.bool b, s]) z) : ∃ ao n ac, s = .slice ao n ac := by
  obtain ⟨ao, ac, h⟩ := h.one
  injection h with h
  have : s = .slice ao (digs 1000000000 z.natAbs).length ac := by injection h with h; injection h with _ h; injection h
  exact ⟨_, _, _, this⟩
/-- What was before w0 is in w as in w0. -/
def Bel (w0 w : World) : Prop := Below w0.heap.size w0 w
theorem Bel.keep {w0 w w' : World} (h : Bel w0 w) (hb : Below w.heap.size w w') : Bel w0 w' := bw_below h hb
end Go.Proofs.YtjfncepmpabcnaaGreatDoor
