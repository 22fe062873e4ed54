/- The law NatTexts, walked. -/
import Derived.Test.YtopdncbgpolohaaDoorRefF
import Derived.Test.YtopdncbgpolohaaDoorNatSums
namespace Go.Proofs.YtopdncbgpolohaaDoor
open Go.RowKit

set_option maxRecDepth 100000 in
set_option maxHeartbeats 4000000 in
theorem natTexts_any (s : ByteArray) (w : World) (htab : Tab w) :
    Calls Tryd.prog 5 #[.string s] w fun e w' => e = .returned (.bool true) ∧ Below w.heap.size w w' := by
  have HT := Lib.hid htab
  clear htab
  by_cases hl : 300 < s.size
  · have hl2 : (300 : Int) < (s.size : Int) := by omega
    go_enter Tryd.func5, Tryd.ntmps5
    go_wp2_with fail
    refine (awake_any w HT.out).mono ?_
    rintro e w1 ⟨rfl, hb⟩
    go_wp2_with fail
    go_ret
    exact ⟨rfl, hb⟩
  have hl2 : ¬ ((300 : Int) < (s.size : Int)) := by omega
  go_enter Tryd.func5, Tryd.ntmps5
  go_wp2_with fail
  refine (awake_any w HT.out).mono ?_
  rintro e w1 ⟨rfl, hb1⟩
  have hs1 := hb1.size
  go_wp2_with fail
  refine (natOf_any s w1 (by omega)).mono ?_
  rintro e w2 ⟨a, rfl, ha, hb2⟩
  have HA := Lib.hid ha.rd
  have hs2 := hb2.size
  clear ha
  go_wp2_with fail
  refine (refOf_any s w2 (by omega)).mono ?_
  rintro e w3 ⟨b, rfl, hbb, hb3⟩
  have HBB := Lib.hid hbb
  replace HA := Lib.hid (HA.out.keep hb3)
  have HB := Lib.hid (hb1.trans ((hb2.mono hs1).trans (hb3.mono (Nat.le_trans hs1 hs2))))
  have hs3 := Nat.le_trans (Nat.le_trans hs1 hs2) hb3.size
  clear hbb hb1 hb2 hb3
  have HLN : Hid ((ofR s.data.toList).length ≤ 1000000000) := by
    unfold Hid
    obtain ⟨_, _, _, _⟩ := HA.out
    by_cases hk : okT s.data.toList = true
    · rw [ofR_ok hk]
      have hd : decB s.data.toList = true := by simp [okT] at hk; exact hk.2
      have h1 := digs_length_le 1000000000 (by omega) (numD s.data.toList) _ (Nat.lt_of_lt_of_le (numD_lt _ hd) (Nat.pow_le_pow_left (by omega) _))
      have : s.size = s.data.toList.length := by rw [Array.length_toList]; rfl
      omega
    · rw [ofR_no (by simpa using hk)]; simp
  generalize okT s.data.toList = ok
  go_wp2_with fail
  refine (same_eq HA.out HBB.out HLN.out).mono ?_
  rintro e w4 ⟨rfl, hb4⟩
  go_wp2_with fail
  go_ret
  exact ⟨rfl, HB.out.trans (hb4.mono hs3)⟩

end Go.Proofs.YtopdncbgpolohaaDoor
