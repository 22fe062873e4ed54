/- lists that are laid out; awake. -/
import Derived.Test.YtopdncbgpolohaaDoorLawA
import Derived.Test.YtopdncbgpolohaaDoorNatT
namespace Go.Proofs.YtopdncbgpolohaaDoor
open Go.RowKit

theorem rd_lit (w : World) (k : IntKind) (l : List Nat) (b n : Nat) (cs : Array Value) (e : TypeId) (hb : b = w.heap.size) (hc : cs = (ints k l).toArray) (hn : n = l.length) (hl : l.length ≤ 1000) :
    RdI (w.alloc (.cells cs e)) (.slice (some ⟨b, 0, none⟩) n n) k l := by
  subst hn hc
  refine ⟨_, _, rfl, Nat.le_refl _, by unfold maxLen; omega, (fun h => by cases h), fun i hi => ⟨_, rfl, ?_⟩⟩
  have hadd : (⟨b, 0, none⟩ : Addr).add i = ⟨b, i, none⟩ := by unfold Addr.add; split <;> simp_all
  rw [hadd, cell_new _ _ _ _ _ hb]
  simp only [List.getElem?_toArray]
  exact ints_get? k l i hi

theorem rdRows2 (w : World) (k : IntKind) (v1 v2 : Value) (l1 l2 : List Nat) (b : Nat) (e : TypeId) (hb : b = w.heap.size) (h1 : RdI w v1 k l1) (h2 : RdI w v2 k l2) :
    RdRows (w.alloc (.cells #[v1, v2] e)) (.slice (some ⟨b, 0, none⟩) 2 2) k [l1, l2] := by
  have hk := (Below.refl w.heap.size w).alloc (Nat.le_refl _) (.cells #[v1, v2] e)
  refine ⟨_, _, rfl, Nat.le_refl _, by unfold maxLen; omega, fun i hi => ?_⟩
  have hadd : (⟨b, 0, none⟩ : Addr).add i = ⟨b, i, none⟩ := by unfold Addr.add; split <;> simp_all
  match i, hi with
  | 0, _ => exact ⟨_, v1, rfl, by rw [hadd, cell_new _ _ _ _ _ hb]; rfl, h1.keep hk⟩
  | 1, _ => exact ⟨_, v2, rfl, by rw [hadd, cell_new _ _ _ _ _ hb]; rfl, h2.keep hk⟩
theorem rdRows3 (w : World) (k : IntKind) (v1 v2 v3 : Value) (l1 l2 l3 : List Nat) (b : Nat) (e : TypeId) (hb : b = w.heap.size) (h1 : RdI w v1 k l1) (h2 : RdI w v2 k l2) (h3 : RdI w v3 k l3) :
    RdRows (w.alloc (.cells #[v1, v2, v3] e)) (.slice (some ⟨b, 0, none⟩) 3 3) k [l1, l2, l3] := by
  have hk := (Below.refl w.heap.size w).alloc (Nat.le_refl _) (.cells #[v1, v2, v3] e)
  refine ⟨_, _, rfl, Nat.le_refl _, by unfold maxLen; omega, fun i hi => ?_⟩
  have hadd : (⟨b, 0, none⟩ : Addr).add i = ⟨b, i, none⟩ := by unfold Addr.add; split <;> simp_all
  match i, hi with
  | 0, _ => exact ⟨_, v1, rfl, by rw [hadd, cell_new _ _ _ _ _ hb]; rfl, h1.keep hk⟩
  | 1, _ => exact ⟨_, v2, rfl, by rw [hadd, cell_new _ _ _ _ _ hb]; rfl, h2.keep hk⟩
  | 2, _ => exact ⟨_, v3, rfl, by rw [hadd, cell_new _ _ _ _ _ hb]; rfl, h3.keep hk⟩

theorem digs_of {l : List Nat} {n : Nat} (h : rgtB l = true) (hv : val 1000000000 l = n) : digs 1000000000 n = l := by
  rw [← hv]; exact (Rgt.digs (by omega) ((rgtB_iff l).1 h)).symm

theorem same_lit (v u : Value) (l : List Nat) (w : World) (hv : RdI w v .u32 l) (hu : RdI w u .u32 l) (h1 : l.length ≤ 1000000000) :
    Calls Tryd.prog 10 #[v, u] w fun e w' => e = .returned (.bool true) ∧ Below w.heap.size w w' := by
  refine (same_any _ _ _ _ w hv hu h1).mono ?_
  rintro e w' ⟨rfl, n, rfl⟩
  rw [eqB_self]
  exact ⟨rfl, belowN (Below.refl _ _) _⟩

theorem awk1 : Hid (digs 1000000000 (val 1000000000 [0, 1] / val 1000000000 [7]) = [142857142]) := digs_of (by decide) (by simp [val])
theorem awk2 : Hid (digs 1000000000 (val 1000000000 [0, 1] % val 1000000000 [7]) = [6]) := digs_of (by decide) (by simp [val])
theorem awk3 : Hid (digs 1000000000 (sumV [[999999999], [1]]) = [0, 1]) := digs_of (by decide) (by simp [val, sumV])
theorem awk4 : Hid (Lib.decDigits (val 1000000000 [5, 1]) = [49, 48, 48, 48, 48, 48, 48, 48, 48, 53]) := by
  unfold Hid
  rw [show val 1000000000 [5, 1] = 1000000005 by simp [val]]
  simp [Lib.decDigits]

set_option maxRecDepth 100000 in
set_option maxHeartbeats 4000000 in
theorem awake_any (w : World) (htab : Tab w) : Calls Tryd.prog 8 #[] w fun e w' => e = .returned (.bool true) ∧ Below w.heap.size w w' := by
  have HT := Lib.hid htab
  clear htab
  have hb2 : Below w.heap.size w ((w.alloc (.cells #[.int .u32 0, .int .u32 1] 32)).alloc (.cells #[.int .u32 7] 32)) := ((Below.refl _ _).alloc (Nat.le_refl _) _).alloc (by simp only [size_alloc]; omega) _
  go_enter Tryd.func8, Tryd.ntmps8
  go_wp2_with fail
  refine (natDivMod_pos _ _ [0, 1] [7] _ ((rd_lit w .u32 [0, 1] _ _ _ _ rfl rfl rfl (by simp)).keep ((Below.refl _ _).alloc (Nat.le_refl _) _)) (rd_lit _ .u32 [7] _ _ _ _ (by simp only [size_alloc]) rfl rfl (by simp)) (by simp) (by simp) (by simp) (by simp) (by simp [val])).mono ?_
  rintro e w3 ⟨q, r, rfl, hq, hr, hb3⟩
  rw [awk1.out] at hq
  rw [awk2.out] at hr
  have hB3 : Below w.heap.size w w3 := hb2.trans (hb3.mono (by simp only [size_alloc]; omega))
  have HQ := Lib.hid hq.rd
  have HR := Lib.hid hr.rd
  have HB3 := Lib.hid hB3
  clear hq hr hB3 hb2 hb3
  have hs3 := HB3.out.size
  go_wp2_with fail
  refine (natAdd_any _ [[999999999], [1]] _ (rdRows2 _ .u32 _ _ [999999999] [1] _ _ (by simp only [size_alloc]) ((rd_lit w3 .u32 [999999999] _ _ _ _ rfl rfl rfl (by simp)).keep ((Below.refl _ _).alloc (Nat.le_refl _) _)) (rd_lit _ .u32 [1] _ _ _ _ (by simp only [size_alloc]) rfl rfl (by simp))) (by decide) (by simp) (by simp)).mono ?_
  rintro e w4 ⟨u4, rfl, hu4, hb4⟩
  rw [awk3.out] at hu4
  have hB4 : Below w3.heap.size w3 w4 := ((((Below.refl _ _).alloc (Nat.le_refl _) _).alloc (by simp only [size_alloc]; omega) _).alloc (by simp only [size_alloc]; omega) _).trans (hb4.mono (by simp only [size_alloc]; omega))
  have hs4 := hB4.size
  have HB4 := Lib.hid hB4
  have HU4 := Lib.hid hu4.rd
  clear hu4 hB4 hb4
  go_wp2_with fail
  refine (same_lit _ _ [0, 1] _ (HU4.out.keep ((Below.refl _ _).alloc (Nat.le_refl _) _)) (rd_lit _ .u32 [0, 1] _ _ _ _ rfl rfl rfl (by simp)) (by simp)).mono ?_
  rintro e w5 ⟨rfl, hb5⟩
  have hB5 : Below w3.heap.size w3 w5 := (HB4.out.alloc (by omega) _).trans (hb5.mono (by simp only [size_alloc]; omega))
  have hs5 := hB5.size
  clear hb5
  go_wp2_with fail
  refine (same_lit _ _ [142857142] _ (HQ.out.keep (hB5.alloc (by omega) _)) (rd_lit _ .u32 [142857142] _ _ _ _ rfl rfl rfl (by simp)) (by simp)).mono ?_
  rintro e w6 ⟨rfl, hb6⟩
  have hB6 : Below w3.heap.size w3 w6 := (hB5.alloc (by omega) _).trans (hb6.mono (by simp only [size_alloc]; omega))
  have hs6 := hB6.size
  clear hb6
  go_wp2_with fail
  refine (same_lit _ _ [6] _ (HR.out.keep (hB6.alloc (by omega) _)) (rd_lit _ .u32 [6] _ _ _ _ rfl rfl rfl (by simp)) (by simp)).mono ?_
  rintro e w7 ⟨rfl, hb7⟩
  have hB7 : Below w3.heap.size w3 w7 := (hB6.alloc (by omega) _).trans (hb7.mono (by simp only [size_alloc]; omega))
  have hs7 := hB7.size
  have HT7 := Lib.hid (HT.out.keep (HB3.out.trans (((hB7.mono hs3).alloc (by omega) (.cells #[.int .u32 5, .int .u32 1] 32)))))
  clear hb7
  go_wp2_with fail
  refine (natText_any _ [5, 1] _ (rd_lit _ .u32 [5, 1] _ _ _ _ rfl rfl rfl (by simp)) (by simp) (by simp) HT7.out).mono ?_
  rintro e w8 ⟨rfl, hb8⟩
  rw [awk4.out]
  go_wp2_with fail
  go_ret
  refine ⟨rfl, HB3.out.trans ((((hB7.mono hs3).alloc (by omega) _).trans (hb8.mono (by simp only [size_alloc]; omega))))⟩

end Go.Proofs.YtopdncbgpolohaaDoor
