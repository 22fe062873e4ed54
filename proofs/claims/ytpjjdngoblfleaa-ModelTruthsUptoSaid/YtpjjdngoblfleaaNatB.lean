/- nat: rows in and out, the order. -/
import Derived.Test.YtpjjdngoblfleaaNatA
import Derived.Deep.RegionHeld3
import Derived.Deep.DrawnRows
import Derived.StillTailTactics
namespace Go.Proofs.Ytpjjdngoblfleaa
open Go.RowKit

theorem Try.infoU32 : (Try.prog.info? 113).map (fun i => (i.zero, i.size, i.bytes)) = some (some (.int .u32 0), 1, 4) := by kernel_rfl

theorem set_fill {l o : List Nat} {k : Nat} (h : o = l.take k ++ List.replicate (l.length - k) 0) (hk : k < l.length) : o.set k (dg l k) = l.take (k + 1) ++ List.replicate (l.length - (k + 1)) 0 := by
  subst h
  have e : l.length - k = (l.length - (k + 1)) + 1 := by omega
  rw [e, List.replicate_succ, List.set_append_right _ _ (by simp; omega)]
  have : k - (l.take k).length = 0 := by simp; omega
  rw [this, List.set_cons_zero, List.take_succ_eq_append_getElem hk, dg_eq l k hk, List.append_assoc]
  rfl

set_option maxRecDepth 100000 in
set_option maxHeartbeats 1000000 in
theorem of_any (v : Value) (l : List Nat) (w : World) (hv : RdI w v .u32 l) (h1 : l.length ≤ 1000000000) (h2 : ∀ x ∈ l, x < 4294967296) :
    Calls Try.prog 138 #[v] w fun e w' => ∃ u, e = .returned (.agg #[u]) ∧ Own w' w.heap.size 101 .u64 u (digs 1000000000 (val 1000000000 l)) ∧ Below w.heap.size w w' := by
  have hv' := Lib.hid hv
  obtain ⟨ao, cap, rfl, hc, hm, _, hx⟩ := hv
  have HX := Lib.hid hx
  have H2 := Lib.hid h2
  clear h2 hx
  unfold maxLen at hm
  obtain ⟨i0, hi, hz0, hz1, hz2⟩ := info_parts Try.infoU64
  go_enter Try.func138, Try.ntmps138
  go_wp2_with (at_make; refine mk0 rfl _ _ 184 rfl 101 .u64 i0 8 Try.underlying184 hi hz0 hz1 hz2 _ _ _ _ l.length rfl rfl rfl rfl (by omega) (by unfold maxLen; omega) ?_)
  intro w1 hown hb1
  obtain ⟨W, hW⟩ : ∃ W, W = w.alloc (Obj.cells #[Value.slice none 0 0] 186) := ⟨_, rfl⟩
  have HB0 : Hid (Below w.heap.size w W) := by rw [hW]; exact (Below.refl _ _).alloc (Nat.le_refl _) _
  have HC : Hid (W.cell? ⟨w.heap.size, 0, none⟩ = some (Value.slice none 0 0)) := by unfold Hid; rw [hW]; simp
  have HF : Hid (W.frozen? ⟨w.heap.size, 0, none⟩ = false) := by unfold Hid; rw [hW]; simp
  have HS : Hid (W.heap.size = w.heap.size + 1) := by unfold Hid; rw [hW]; simp
  rw [← hW] at hb1
  clear hW
  go_wp2_with fail
  go_loopw [11] (fun i wr => ∃ (kk : Nat) (o : List Nat), i = .int .i64 kk ∧ kk ≤ l.length ∧ o = l.take kk ++ List.replicate (l.length - kk) 0 ∧
      Own wr (w.heap.size + 1) 101 .u64 (.slice (some ⟨w.heap.size + 1, 0, none⟩) l.length l.length) o ∧ Below (w.heap.size + 1) W wr) (fun i _ => l.length - (intOf i).toNat)
  case atStart => exact ⟨0, List.replicate l.length 0, rfl, by omega, by simp, hown, hb1⟩
  case round =>
    obtain ⟨k, o, rfl, hk, ho, hown, hbl⟩ := hrel
    have HO := Lib.hid ho
    have hol : Hid (o.length = l.length) := by unfold Hid; rw [ho]; simp; omega
    have HBL := Lib.hid (HB0.out.trans (hbl.mono (by omega)))
    have hsz := hbl.size
    rw [HS.out] at hsz
    clear ho
    by_cases hkl : k < l.length
    · obtain ⟨ad, had, hcell⟩ := HX.out k hkl
      subst had
      have hcr := (HBL.out.cell (World.block_lt_of_cell? w _ hcell)).trans hcell
      have hdc := hown.cell k (by rw [hol.out]; exact hkl)
      have hdf := hown.free k
      have HW := Lib.hid hown
      have hx32 := dg_lt H2.out (by omega) k
      clear hcell hown
      go_wp2_with fail
      go_roundw
      case rel => exact ⟨k + 1, o.set k (dg l k), by go_num, by omega, set_fill HO.out hkl, HW.out.stored k _, hbl.setCell (by simp) _⟩
      case measure => simp [intOf]; omega
    · have he : o = l := by have := HO.out; rw [List.take_of_length_le (by omega)] at this; rw [this]; simp; omega
      have HE := Lib.hid he
      have HW := Lib.hid hown
      have hcl : wr.cell? ⟨w.heap.size, 0, none⟩ = some (Value.slice none 0 0) := (hbl.cell (p := ⟨w.heap.size, 0, none⟩) (by simp)).trans HC.out
      have hcf : wr.frozen? ⟨w.heap.size, 0, none⟩ = false := (hbl.frozen (p := ⟨w.heap.size, 0, none⟩) (by simp)).trans HF.out
      have HCL := Lib.hid hcl
      have HCF := Lib.hid hcf
      have H2' : Hid (∀ x ∈ o, x ≤ 8589934592) := by intro x hx; rw [HE.out] at hx; have := H2.out x hx; omega
      clear he hown hcl hcf
      go_wp2_with fail
      refine (carried_any _ o _ HW.out.rd (by rw [HE.out]; omega) H2'.out).mono ?_
      rintro e w2 ⟨u, rfl, hu, hb2⟩
      obtain ⟨uo, uc, rfl, _, _, _, _⟩ := hu.rd
      have hcl : w2.cell? ⟨w.heap.size, 0, none⟩ = some (Value.slice none 0 0) := (hb2.cell (p := ⟨w.heap.size, 0, none⟩) (by simp; omega)).trans HCL.out
      have hcf : w2.frozen? ⟨w.heap.size, 0, none⟩ = false := (hb2.frozen (p := ⟨w.heap.size, 0, none⟩) (by simp; omega)).trans HCF.out
      go_wp2_with fail
      refine bodyPost_ret (v := .agg #[Value.slice uo _ uc]) (by simp [results, Try.results138, go_sem, hcl]; rfl) rfl ⟨_, rfl, ?_, ?_⟩
      · rw [← HE.out]; exact (hu.set (by simp; omega) _).low (by omega)
      · exact (HBL.out.trans (hb2.mono (by omega))).setCell (by simp) _


set_option maxHeartbeats 400000 in
theorem compareInt_any (a b : Int) (w : World) :
    Calls Try.prog 154 #[.int .i64 a, .int .i64 b] w fun e w' => e = .returned (.int .i64 (cmpI a b)) ∧ w = w' := by
  rcases Int.lt_trichotomy a b with h | h | h
  · go_enter Try.func154, Try.ntmps154
    go_wp2
    go_ret
    exact ⟨by rw [cmpI_lt h]; rfl, rfl⟩
  · subst h
    go_enter Try.func154, Try.ntmps154
    go_wp2
    go_ret
    exact ⟨by rw [cmpI_self]; rfl, rfl⟩
  · go_enter Try.func154, Try.ntmps154
    go_wp2
    go_ret
    exact ⟨by rw [cmpI_gt h]; rfl, rfl⟩

set_option maxHeartbeats 400000 in
theorem compareU64_any (a b : Int) (w : World) :
    Calls Try.prog 155 #[.int .u64 a, .int .u64 b] w fun e w' => e = .returned (.int .i64 (cmpI a b)) ∧ w = w' := by
  rcases Int.lt_trichotomy a b with h | h | h
  · go_enter Try.func155, Try.ntmps155
    go_wp2
    go_ret
    exact ⟨by rw [cmpI_lt h]; rfl, rfl⟩
  · subst h
    go_enter Try.func155, Try.ntmps155
    go_wp2
    go_ret
    exact ⟨by rw [cmpI_self]; rfl, rfl⟩
  · go_enter Try.func155, Try.ntmps155
    go_wp2
    go_ret
    exact ⟨by rw [cmpI_gt h]; rfl, rfl⟩

set_option maxRecDepth 100000 in
set_option maxHeartbeats 1000000 in
theorem row_any (v : Value) (l : List Nat) (w : World) (hv : RdI w v .u64 l) (h1 : l.length ≤ 1000000000) (h2 : ∀ x ∈ l, x < 4294967296) :
    Calls Try.prog 141 #[.agg #[v]] w fun e w' => ∃ u, e = .returned u ∧ Own w' w.heap.size 113 .u32 u l ∧ Below w.heap.size w w' := by
  have hv' := Lib.hid hv
  obtain ⟨ao, cap, rfl, hc, hm, _, hx⟩ := hv
  have HX := Lib.hid hx
  have H2 := Lib.hid h2
  clear h2 hx
  unfold maxLen at hm
  obtain ⟨i0, hi, hz0, hz1, hz2⟩ := info_parts Try.infoU32
  go_enter Try.func141, Try.ntmps141
  go_wp2_with fail
  go_loopw [3, 9] (fun out i wr => ∃ (kk : Nat), i = .int .i64 kk ∧ kk ≤ l.length ∧ Own wr w.heap.size 113 .u32 out (l.take kk) ∧ Below w.heap.size w wr) (fun _ i _ => l.length - (intOf i).toNat)
  case atStart => exact ⟨0, rfl, by omega, World.ownsRow_nil _ _ _ _, (Below.refl _ _).alloc (Nat.le_refl _) _⟩
  case round =>
    obtain ⟨k, rfl, hk, hown, hbl⟩ := hrel
    have hsz := hbl.size
    by_cases hkl : k < l.length
    · obtain ⟨ad, had, hcell⟩ := HX.out k hkl
      subst had
      have hcr := (hbl.cell (World.block_lt_of_cell? w _ hcell)).trans hcell
      have hx32 := dg_lt H2.out (by omega) k
      have hlt : (l.take k).length = k := by simp; omega
      have HL := Lib.hid hlt
      clear hcell hlt
      go_wp2_with (at_builtin; refine app1 rfl _ _ 27 rfl 113 .u32 i0 4 Try.underlying27 hi hz0 hz1 hz2 w.heap.size _ (l.take k) rfl hown _ (dg l k) rfl rfl rfl (by rw [HL.out]; unfold maxLen; omega) (by rw [HL.out]; omega) (by omega) ?_; intro v' w2 hown2 hb2)
      go_roundw
      case rel => exact ⟨k + 1, by go_num, by omega, by rw [List.take_succ_eq_append_getElem hkl, ← dg_eq l k hkl]; exact hown2, hbl.trans hb2⟩
      case measure => simp [intOf]; omega
    · have HW := Lib.hid hown
      clear hown
      go_wp2_with fail
      go_ret
      exact ⟨_, rfl, by have := HW.out; rw [List.take_of_length_le (by omega)] at this; exact this, hbl⟩


set_option maxRecDepth 100000 in
set_option maxHeartbeats 1000000 in
theorem compare_any (v u : Value) (l m : List Nat) (w : World) (hv : RdI w v .u64 l) (hu : RdI w u .u64 m) (hl : Rgt 1000000000 l) (hm : Rgt 1000000000 m) (h1 : l.length ≤ 1000000000) (h2 : m.length ≤ 1000000000) :
    Calls Try.prog 139 #[.agg #[v], .agg #[u]] w fun e w' => e = .returned (.int .i64 (cmpI (val 1000000000 l : Nat) (val 1000000000 m : Nat))) ∧ Below w.heap.size w w' := by
  have hv' := Lib.hid hv
  have hu' := Lib.hid hu
  have HL := Lib.hid hl
  have HM := Lib.hid hm
  obtain ⟨ao, ac, rfl, _, _, _, _⟩ := hv
  obtain ⟨bo, bc, rfl, _, _, _, _⟩ := hu
  clear hl hm
  go_enter Try.func139, Try.ntmps139
  go_wp2_with (go_at_call 154; refine (compareInt_any _ _ _).mono ?_; rintro e w' ⟨rfl, rfl⟩)
  obtain ⟨W, hW⟩ : ∃ W, W = (w.alloc (Obj.cells #[Value.slice ao l.length ac] 186)).alloc (Obj.cells #[Value.slice bo m.length bc] 186) := ⟨_, rfl⟩
  have HB0 : Hid (Below w.heap.size w W) := by rw [hW]; exact ((Below.refl _ _).alloc (Nat.le_refl _) _).alloc (by simp) _
  have HC0 : Hid (W.cell? ⟨w.heap.size, 0, none⟩ = some (Value.slice ao l.length ac)) := by unfold Hid; rw [hW]; simp
  have HC1 : Hid (W.cell? ⟨w.heap.size + 1, 0, none⟩ = some (Value.slice bo m.length bc)) := by unfold Hid; rw [hW]; simp
  have HS : Hid (W.heap.size = w.heap.size + 2) := by unfold Hid; rw [hW]; simp
  have hb1 : Below (w.heap.size + 2) W W := Below.refl _ _
  rw [← hW]
  clear hW
  have hstart : Hid ((cmpI l.length m.length = 0 ∧ l.length = m.length ∧ l.drop l.length = m.drop l.length) ∨ (cmpI l.length m.length ≠ 0 ∧ cmpI l.length m.length = cmpI (val 1000000000 l : Nat) (val 1000000000 m : Nat))) := by
    unfold Hid
    rcases Nat.lt_trichotomy l.length m.length with h | h | h
    · right; rw [cmpI_lt (by omega), cmpI_lt (by have := val_lt_len (by omega) HL.out HM.out h; omega)]; simp
    · left; exact ⟨cmpI_eq (by omega), h, by rw [List.drop_length, h, List.drop_length]⟩
    · right; rw [cmpI_gt (by omega), cmpI_gt (by have := val_lt_len (by omega) HM.out HL.out h; omega)]; simp
  go_loopw [5, 6] (fun c k wr => ∃ (z k' : Int), c = .int .i64 z ∧ k = .int .i64 k' ∧ -1 ≤ k' ∧ k' < l.length ∧ Below (w.heap.size + 2) W wr ∧
      ((z = 0 ∧ l.length = m.length ∧ l.drop (k' + 1).toNat = m.drop (k' + 1).toNat) ∨ (z ≠ 0 ∧ z = cmpI (val 1000000000 l : Nat) (val 1000000000 m : Nat)))) (fun _ k _ => (intOf k + 1).toNat)
  case atStart =>
    refine ⟨_, _, rfl, rfl, by omega, by omega, hb1, ?_⟩
    rw [show ((l.length : Int) - 1 + 1).toNat = l.length from by omega]
    exact hstart.out
  case round =>
    obtain ⟨z, k, rfl, rfl, hk1, hk2, hbl, hz⟩ := hrel
    have HZ := Lib.hid hz
    have HB := Lib.hid (HB0.out.trans (hbl.mono (by omega)))
    have hc0 : wr.cell? ⟨w.heap.size, 0, none⟩ = some (Value.slice ao l.length ac) := (hbl.cell (p := ⟨w.heap.size, 0, none⟩) (by simp)).trans HC0.out
    have hc1 : wr.cell? ⟨w.heap.size + 1, 0, none⟩ = some (Value.slice bo m.length bc) := (hbl.cell (p := ⟨w.heap.size + 1, 0, none⟩) (by simp)).trans HC1.out
    have HR := Lib.hid (hv'.out.keep HB.out)
    have HU := Lib.hid (hu'.out.keep HB.out)
    clear hz
    by_cases hk0 : 0 ≤ k
    · obtain ⟨i, rfl⟩ := Int.eq_ofNat_of_zero_le hk0
      by_cases hz0 : z = 0
      · subst hz0
        have hzz : Hid (l.length = m.length ∧ l.drop (i + 1) = m.drop (i + 1)) := by
          rcases HZ.out with h | h
          · have := h.2.2; rw [show ((i : Int) + 1).toNat = i + 1 from by omega] at this; exact ⟨h.2.1, this⟩
          · exact absurd rfl h.1
        have hlm : i < m.length := by have := hzz.out.1; omega
        clear HZ
        go_wp2_with fail
        go_quiet ((first | (go_at_call 152; first | exact qs (at_any _ l _ _ (HR.out.drewN _) (by omega) (by omega) (by omega)) | exact qs (at_any _ m _ _ (HU.out.drewN _) (by omega) (by omega) (by omega))) | (go_at_call 155; exact qs (compareU64_any _ _ _))))
        go_wp2_with fail
        go_roundw
        case rel =>
          refine ⟨_, _, rfl, rfl, by omega, by omega, belowN hbl _, ?_⟩
          rw [show ((i : Int) - 1 + 1).toNat = i from by omega]
          rcases Nat.lt_trichotomy (dg l i) (dg m i) with h | h | h
          · right; rw [cmpI_lt (by omega), cmpI_lt (by have := val_lt_top 1000000000 HL.out.1 (by omega) hlm hzz.out.2 h; omega)]; simp
          · left; exact ⟨cmpI_eq (by omega), hzz.out.1, by rw [drop_dg l i (by omega), drop_dg m i hlm, h, hzz.out.2]⟩
          · right; rw [cmpI_gt (by omega), cmpI_gt (by have := val_lt_top 1000000000 HM.out.1 hlm (by omega) hzz.out.2.symm h; omega)]; simp
        case measure => simp [intOf]
      · have hzb : (z == 0) = false := by simp [hz0]
        have HZ0 := Lib.hid hz0
        clear hz0
        go_wp2_with fail
        go_ret
        refine ⟨?_, HB.out⟩
        rcases HZ.out with h | h
        · exact absurd h.1 HZ0.out
        · rw [← h.2]; rfl
    · go_wp2_with fail
      go_ret
      refine ⟨?_, HB.out⟩
      rcases HZ.out with h | h
      · have h2 := h.2.2
        rw [show (k + 1).toNat = 0 from by omega] at h2
        simp only [List.drop_zero] at h2
        subst h2
        have e : z = cmpI (val 1000000000 l : Nat) (val 1000000000 l : Nat) := by rw [cmpI_self, h.1]
        rw [← e]; rfl
      · rw [← h.2]; rfl

end Go.Proofs.Ytpjjdngoblfleaa
