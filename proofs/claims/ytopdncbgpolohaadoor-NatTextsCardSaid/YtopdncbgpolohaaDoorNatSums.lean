/- The law NatSums, walked. -/
import Derived.Test.YtopdncbgpolohaaDoorLawN
import Derived.Test.YtopdncbgpolohaaDoorRefE
namespace Go.Proofs.YtopdncbgpolohaaDoor
open Go.RowKit

theorem wgt_few {ls : List (List Nat)} (h : fewB ls = true) : wgt ls ≤ 1000 := by
  simp [fewB] at h
  have : ∀ l : List (List Nat), (∀ a ∈ l, a.length ≤ 40) → wgt l ≤ 81 * l.length := by
    intro l
    induction l with
    | nil => intro _; simp [wgt]
    | cons a l ih =>
      intro hl
      have h1 := hl a List.mem_cons_self
      have h2 := ih fun b hb => hl b (List.mem_cons_of_mem _ hb)
      simp only [wgt, List.length_cons]; omega
  have := this ls h.1
  omega
theorem fold_lt (f : Nat → List Nat → Nat) (hf : ∀ (n p : Nat) (a : List Nat), (∀ x ∈ a, x < 4294967296) → n < 1000000000 ^ p → f n a < 1000000000 ^ (p + (2 * a.length + 1))) :
    ∀ (ls : List (List Nat)) (n p : Nat), (∀ l ∈ ls, ∀ x ∈ l, x < 4294967296) → n < 1000000000 ^ p → ls.foldl f n < 1000000000 ^ (p + wgt ls) := by
  intro ls
  induction ls with
  | nil => intro n p _ h; simpa [wgt] using h
  | cons a ls ih =>
    intro n p h h1
    have := ih (f n a) (p + (2 * a.length + 1)) (fun l hl => h l (List.mem_cons_of_mem _ hl)) (hf n p a (h a List.mem_cons_self) h1)
    rw [List.foldl_cons, wgt, ← Nat.add_assoc]
    exact this
theorem sumV_lt (ls : List (List Nat)) (h : ∀ l ∈ ls, ∀ x ∈ l, x < 4294967296) : sumV ls < 1000000000 ^ (1 + wgt ls) :=
  fold_lt _ (fun n p a ha hn => add_lt_pow hn (val_lt_any a ha)) ls 0 1 h (by omega)
theorem prodV_lt (ls : List (List Nat)) (h : ∀ l ∈ ls, ∀ x ∈ l, x < 4294967296) : prodV ls < 1000000000 ^ (1 + wgt ls) :=
  fold_lt _ (fun n p a ha hn => mul_lt_pow hn (val_lt_any a ha)) ls 1 1 h (by omega)
theorem same_eq {v u : Value} {l : List Nat} {w : World} (hv : RdI w v .u32 l) (hu : RdI w u .u32 l) (h1 : l.length ≤ 1000000000) :
    Calls Tryd.prog 10 #[v, u] w fun e w' => e = .returned (.bool true) ∧ Below w.heap.size w w' := by
  refine (same_any _ _ _ _ w hv hu h1).mono ?_
  rintro e w' ⟨rfl, n, rfl⟩
  rw [eqB_self]
  exact ⟨rfl, belowN (Below.refl _ _) _⟩

set_option maxRecDepth 100000 in
set_option maxHeartbeats 4000000 in
theorem natSums_any (u : Value) (ls : List (List Nat)) (w : World) (hu : RdRows w u .u32 ls) (h3 : ∀ l ∈ ls, ∀ x ∈ l, x < 4294967296) (htab : Tab w) :
    Calls Tryd.prog 3 #[u] w fun e w' => e = .returned (.bool true) ∧ Below w.heap.size w w' := by
  have HU := Lib.hid hu
  have H3 := Lib.hid h3
  have HT := Lib.hid htab
  clear hu h3 htab
  go_enter Tryd.func3, Tryd.ntmps3
  go_wp2_with fail
  refine (awake_any w HT.out).mono ?_
  rintro e w1 ⟨rfl, hb⟩
  have hs := hb.size
  replace HU := Lib.hid (HU.out.keep hb)
  have HB := Lib.hid hb
  clear hb HT
  go_wp2_with fail
  refine (few_any _ ls _ HU.out).mono ?_
  rintro e w2 ⟨rfl, rfl⟩
  rcases Bool.eq_false_or_eq_true (fewB ls) with hf | hf
  rotate_left
  · rw [hf]
    go_wp2_with fail
    go_ret
    exact ⟨rfl, HB.out⟩
  have hw := wgt_few hf
  have hl8 : ls.length ≤ 8 := by simp [fewB] at hf; exact hf.2
  rw [hf]
  clear hf
  go_wp2_with fail
  refine (natAdd_any _ ls _ HU.out (by omega) H3.out (by omega)).mono ?_
  rintro e w3 ⟨a, rfl, ha, hb⟩
  have HA := Lib.hid ha.rd
  replace HU := Lib.hid (HU.out.keep hb)
  replace HB := Lib.hid (HB.out.trans (hb.mono hs))
  replace hs := Nat.le_trans hs hb.size
  clear ha hb
  go_wp2_with fail
  refine (refAdd_any _ ls _ HU.out (by omega) H3.out).mono ?_
  rintro e w4 ⟨b, rfl, hbb, hb⟩
  have HBB := Lib.hid hbb.rd
  replace HU := Lib.hid (HU.out.keep hb)
  replace HA := Lib.hid (HA.out.keep hb)
  replace HB := Lib.hid (HB.out.trans (hb.mono hs))
  replace hs := Nat.le_trans hs hb.size
  clear hbb hb
  have HL : Hid ((digs 1000000000 (sumV ls)).length ≤ 1000000000) := by
    have h := digs_length_le 1000000000 (by omega) (sumV ls) _ (sumV_lt ls H3.out)
    unfold Hid; omega
  go_wp2_with fail
  refine (same_eq HA.out HBB.out HL.out).mono ?_
  rintro e w5 ⟨rfl, hb⟩
  replace HU := Lib.hid (HU.out.keep hb)
  replace HB := Lib.hid (HB.out.trans (hb.mono hs))
  replace hs := Nat.le_trans hs hb.size
  clear hb HA HBB
  go_wp2_with fail
  refine (natMul_any _ ls _ HU.out (by omega) H3.out (by omega)).mono ?_
  rintro e w6 ⟨a, rfl, ha, hb⟩
  have HA := Lib.hid ha.rd
  replace HU := Lib.hid (HU.out.keep hb)
  replace HB := Lib.hid (HB.out.trans (hb.mono hs))
  replace hs := Nat.le_trans hs hb.size
  clear ha hb
  go_wp2_with fail
  refine (refMul_any _ ls _ HU.out (by omega) H3.out).mono ?_
  rintro e w7 ⟨b, rfl, hbb, hb⟩
  have HBB := Lib.hid hbb.rd
  replace HA := Lib.hid (HA.out.keep hb)
  replace HB := Lib.hid (HB.out.trans (hb.mono hs))
  replace hs := Nat.le_trans hs hb.size
  clear hbb hb
  have HL2 : Hid ((digs 1000000000 (prodV ls)).length ≤ 1000000000) := by
    have h := digs_length_le 1000000000 (by omega) (prodV ls) _ (prodV_lt ls H3.out)
    unfold Hid; omega
  go_wp2_with fail
  refine (same_eq HA.out HBB.out HL2.out).mono ?_
  rintro e w8 ⟨rfl, hb⟩
  replace HB := Lib.hid (HB.out.trans (hb.mono hs))
  go_wp2_with fail
  go_ret
  exact ⟨rfl, HB.out⟩

end Go.Proofs.YtopdncbgpolohaaDoor
