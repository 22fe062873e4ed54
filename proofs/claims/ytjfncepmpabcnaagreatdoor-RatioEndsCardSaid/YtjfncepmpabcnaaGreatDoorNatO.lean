/- nat.decimal, nat.Of. -/
import Derived.Test.YtjfncepmpabcnaaGreatDoorNatT
namespace Go.Proofs.YtjfncepmpabcnaaGreatDoor
open Go.RowKit

def isDig (c : UInt8) : Bool := decide (48 ≤ c.toNat) && decide (c.toNat ≤ 57)
def bAt (l : List UInt8) (k : Nat) : Nat := (l.getD k 0).toNat
def decB (l : List UInt8) : Bool := l.all isDig
theorem decB_at {l : List UInt8} {k : Nat} (hk : k < l.length) (h : bAt l k < 48 ∨ 57 < bAt l k) : decB l = false := by
  rw [Bool.eq_false_iff]
  intro hc
  have := List.all_eq_true.1 hc l[k] (List.getElem_mem hk)
  simp [isDig] at this
  simp [bAt, hk] at h
  omega
set_option maxRecDepth 100000 in
theorem decB_all {l : List UInt8} (h : ∀ k, k < l.length → 48 ≤ bAt l k ∧ bAt l k ≤ 57) : decB l = true := by
  refine List.all_eq_true.2 fun c hc => ?_
  obtain ⟨k, hk, rfl⟩ := List.getElem_of_mem hc
  have := h k hk
  simp [bAt, hk] at this
  simp only [isDig, this.1, this.2, decide_true, Bool.and_self]

set_option maxRecDepth 100000 in
set_option maxHeartbeats 1000000 in
theorem decimal_any (s : ByteArray) (w : World) (h1 : s.size ≤ 9223372036854775806) :
    Calls Tryz.prog 132 #[.string s] w fun e w' => e = .returned (.bool (decB s.data.toList)) ∧ w = w' := by
  obtain ⟨l, hl⟩ : ∃ l, l = s.data.toList := ⟨_, rfl⟩
  have hsz : s.size = l.length := by rw [hl, Array.length_toList]; rfl
  have HL := Lib.hid hl
  clear hl
  go_enter Tryz.func132, Tryz.ntmps132
  go_wp2_with fail
  go_loop [6] (fun i => ∃ kk : Nat, i = .int .i64 kk ∧ kk ≤ s.size ∧ ∀ j, j < kk → 48 ≤ bAt l j ∧ bAt l j ≤ 57) (fun i => s.size - (intOf i).toNat)
  case atStart => exact ⟨0, rfl, by omega, fun j hj => by omega⟩
  case round =>
    obtain ⟨k, rfl, hk, hxs⟩ := hrel
    have HXS := Lib.hid hxs
    clear hxs
    by_cases hkl : k < s.size
    · have HAT : Hid (bAt l k = (s[k]'hkl).toNat) := by
        unfold Hid
        have : k < s.data.toList.length := by rw [← HL.out]; omega
        rw [bAt, HL.out, List.getD_eq_getElem?_getD, List.getElem?_eq_getElem this]
        simp [ByteArray.getElem_eq_getElem_data]
      go_wp2_with fail
      all_goals have hat := HAT.out
      all_goals first
        | (go_ret; refine ⟨?_, rfl⟩; rw [← HL.out, decB_at (k := k) (by omega) (by omega)]; rfl)
        | (refine ⟨⟨k + 1, by go_num, by omega, fun j hj => ?_⟩, by simp [intOf]; omega⟩
           rcases Nat.lt_or_ge j k with h | h
           · exact HXS.out j h
           · obtain rfl : j = k := by omega
             omega)
    · go_wp2_with fail
      go_ret
      refine ⟨?_, rfl⟩
      rw [← HL.out, decB_all fun j hj => HXS.out j (by omega)]; rfl

end Go.Proofs.YtjfncepmpabcnaaGreatDoor
