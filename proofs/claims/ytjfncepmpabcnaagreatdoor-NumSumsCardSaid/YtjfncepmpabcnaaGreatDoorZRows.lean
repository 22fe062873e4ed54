/- Slices that a function lays out itself, and what they read as. -/
import Derived.Test.YtjfncepmpabcnaaGreatDoorNatH
import Derived.Test.YtjfncepmpabcnaaGreatDoorZBase
namespace Go.Proofs.YtjfncepmpabcnaaGreatDoor
open Go.RowKit

theorem rdRows2 (w : World) (k : IntKind) (v1 v2 : Value) (l1 l2 : List Nat) (b : Nat) (h0 : w.cell? ⟨b, 0, none⟩ = some v1) (h1 : w.cell? ⟨b, 1, none⟩ = some v2) (h2 : RdI w v1 k l1) (h3 : RdI w v2 k l2) :
    RdRows w (.slice (some ⟨b, 0, none⟩) 2 2) k [l1, l2] := by
  refine ⟨_, _, rfl, Nat.le_refl _, by unfold maxLen; omega, fun i hi => ?_⟩
  have hadd : (⟨b, 0, none⟩ : Addr).add i = ⟨b, i, none⟩ := by unfold Addr.add; split <;> simp_all
  match i, hi with
  | 0, _ => exact ⟨_, v1, rfl, by rw [hadd]; exact h0, h2⟩
  | 1, _ => exact ⟨_, v2, rfl, by rw [hadd]; exact h1, h3⟩

theorem sumV2 (l m : List Nat) : sumV [l, m] = val 1000000000 l + val 1000000000 m := by simp [sumV]
theorem prodV2 (l m : List Nat) : prodV [l, m] = val 1000000000 l * val 1000000000 m := by simp [prodV]
theorem sumD2 (y z : Nat) : sumV [digs 1000000000 y, digs 1000000000 z] = y + z := by rw [sumV2, val_digs _ (by omega), val_digs _ (by omega)]
theorem prodD2 (y z : Nat) : prodV [digs 1000000000 y, digs 1000000000 z] = y * z := by rw [prodV2, val_digs _ (by omega), val_digs _ (by omega)]

end Go.Proofs.YtjfncepmpabcnaaGreatDoor
