/- The layer ratio by the pure run: one, positive, reduced. The layer ratio by the pure run: folds. The layer ratio by the pure run: its functions. The layer ratio by the pure run: Of, Mul, Div; the kit's SameRatio; few. The layer ratio by the pure run: Parse; the examples. -/
import Derived.Test.YtjfncepmpabcnaaGreatDoorPn
namespace Go.Proofs.YtjfncepmpabcnaaGreatDoor
open Go.RowKit
set_option linter.unusedVariables false
set_option maxRecDepth 100000

theorem sub_bool {a b : Bool} (h : a = b) : Sub (.f (.v (.bool a))) (.f (.v (.bool b))) := by subst h; exact .refl _
theorem zd_mono {H : Hp} {v : Value} {z : Int} {k k' : Nat} (h : Rd H v (.zd z k)) (hk : k ≤ k') : Rd H v (.zd z k') := by
  have hz : ZB z k := rd_good h (by simp [Lf.view])
  cases h with
  | sl hv hg hc hm h0 b o val hb hcell hkk hrec => exact .sl (f := .zd z k') hv (hz.mono hk) hc hm h0 b o val hb hcell hkk hrec
/-- Leaves, of some of which less is told. -/
inductive Subl : List PV → List PV → Prop
  | nil : Subl [] []
  | zd {z z' : Int} {k k' : Nat} {l m : List PV} (hz : z = z') (hk : k ≤ k') (h : Subl l m) : Subl (.f (.zn z) :: .f (.zd z k) :: l) (.f (.zn z') :: .f (.zd z' k') :: m)
  | zero {z : Int} {k : Nat} {l m : List PV} (hz : z = 0) (h : Subl l m) : Subl (.f (.v (.bool false)) :: .f (.v (.slice none 0 0)) :: l) (.f (.zn z) :: .f (.zd z k) :: m)
  | same {x : PV} {l m : List PV} (h : Subl l m) : Subl (x :: l) (x :: m)
theorem Subl.prs {H : Hp} : ∀ {vs : List Value} {l m : List PV}, Subl l m → PRs H B0 vs l → PRs H B0 vs m
  | vs, _, _, .nil, h => h
  | [], _, _, .zd .., hv => by have := hv.1; simp at this
  | [_], _, _, .zd .., hv => by have := hv.1; simp at this
  | u :: v :: vs, _, _, .zd hz hk h, hv => by
    subst hz
    have h0 := hv.2 0 _ _ rfl rfl
    have h1 := (hv.2 1 _ _ rfl rfl).rd
    exact .cons h0 (.cons (.f (zd_mono h1 hk)) (h.prs ⟨by have := hv.1; simpa using this, fun i v x hv' hx => hv.2 (i + 2) v x (by simpa using hv') (by simpa using hx)⟩))
  | [], _, _, .zero .., hv => by have := hv.1; simp at this
  | [_], _, _, .zero .., hv => by have := hv.1; simp at this
  | u :: v :: vs, _, _, .zero (k := k) hz h, hv => by
    subst hz
    have h0 := (hv.2 0 _ _ rfl rfl).val
    have h1 := (hv.2 1 _ _ rfl rfl).val
    subst h0 h1
    refine .cons (.f (.zn 0)) (.cons (.f (.slf (fun _ => rfl) (f := .zd 0 k) (k := 1) (n := 0) (get := fun i => [.v (.int .u32 ((digs 1000000000 (0 : Int).natAbs).getD i 0 : Nat))]) (by simp [Lf.view, digs_zero]) (ZB.zero k) (Nat.le_refl _) (by unfold maxLen; omega) (fun _ => rfl) 0 0 (fun _ _ => undef) (fun h => by omega) (fun i h => by omega) (fun i h => by omega) (fun i h => by omega))) (h.prs ⟨by have := hv.1; simpa using this, fun i v x hv' hx => hv.2 (i + 2) v x (by simpa using hv') (by simpa using hx)⟩))
  | [], _, _, .same .., hv => by have := hv.1; simp at this
  | v :: vs, _, _, .same h, hv => .cons (hv.2 0 _ _ rfl rfl) (h.prs ⟨by have := hv.1; simpa using this, fun i v x hv' hx => hv.2 (i + 1) v x (by simpa using hv') (by simpa using hx)⟩)
theorem Subl.agg {l m : List PV} (h : Subl l m) : Sub (.agg l) (.agg m) := ⟨fun H v hv => by
  obtain ⟨vs, rfl, h1⟩ := PRs.of_agg hv
  exact (h.prs h1).agg⟩

section
variable {E : World → Hp → Prop} (hU : Up E)
include hU
end

end Go.Proofs.YtjfncepmpabcnaaGreatDoor

namespace Go.Proofs.YtjfncepmpabcnaaGreatDoor
open Go.RowKit
set_option linter.unusedVariables false
set_option maxRecDepth 100000

theorem nil_rd {H : Hp} {f : Lf} {k : Nat} {get : Nat → List Lf} (hf : f.view = some (k, 0, get)) (hg : f.good) (hff : ∀ q, f.full q = q := by intro q; rfl) : Rd H (.slice none 0 0) f :=
  .slf hff hf hg (Nat.le_refl _) (by unfold maxLen; omega) (fun _ => rfl) 0 0 (fun _ _ => undef) (fun h => by omega) (fun i h => by omega) (fun i h => by omega) (fun i h => by omega)
theorem wrapI (n : Int) (h : -9223372036854775808 ≤ n ∧ n ≤ 9223372036854775807) : IntKind.i64.wrap n = n := by
  simp only [IntKind.wrap, IntKind.signed, IntKind.bits]
  simp
  omega
theorem subB_zn {z z' : Int} (h : z = z') : SubB (.f (.zn z)) (.f (.zn z')) := by subst h; exact .refl _
theorem subB_int {k : IntKind} {z z' : Int} (h : z = z') : SubB (.f (.v (.int k z))) (.f (.v (.int k z'))) := by subst h; exact .refl _
section
variable {E : World → Hp → Prop} (hU : Up E)
include hU
end

end Go.Proofs.YtjfncepmpabcnaaGreatDoor

namespace Go.Proofs.YtjfncepmpabcnaaGreatDoor
open Go.RowKit
set_option linter.unusedVariables false
set_option maxRecDepth 100000

section
variable {E : World → Hp → Prop} (hU : Up E)
include hU
end
end Go.Proofs.YtjfncepmpabcnaaGreatDoor

namespace Go.Proofs.YtjfncepmpabcnaaGreatDoor
open Go.RowKit
set_option linter.unusedVariables false
set_option maxRecDepth 100000

section
variable {E : World → Hp → Prop} (hU : Up E)
include hU
end

end Go.Proofs.YtjfncepmpabcnaaGreatDoor

namespace Go.Proofs.YtjfncepmpabcnaaGreatDoor
open Go.RowKit
set_option linter.unusedVariables false
set_option maxRecDepth 100000

/-- What is told of the program's variables. -/
def EQ (w : World) (H : Hp) : Prop := EZ w H ∧ ∃ m, w.cell? ⟨0, 0, none⟩ = some (.int .i64 m)
theorem EQ.up : Up EQ := fun w H w' H' he ⟨h, m, hm⟩ => ⟨EZ.up w H w' H' he h, m, (he.bel.cell (p := ⟨0, 0, none⟩) (cell_lt hm)).trans hm⟩
theorem Contract.env {P : Program} {E E' : World → Hp → Prop} {f : FuncId} {sp : Spec} (h : Contract P E f sp) (he : ∀ w H, E' w H → E w H) : Contract P E' f sp :=
  fun xs p r hs hp w H vs hf hE hvs => h xs p r hs hp w H vs hf (he w H hE) hvs
end Go.Proofs.YtjfncepmpabcnaaGreatDoor
