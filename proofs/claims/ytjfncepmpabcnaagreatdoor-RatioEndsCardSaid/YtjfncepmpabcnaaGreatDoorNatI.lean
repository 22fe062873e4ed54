/- nat: Right; DivMod. -/
import Derived.Test.YtjfncepmpabcnaaGreatDoorNatH
namespace Go.Proofs.YtjfncepmpabcnaaGreatDoor
open Go.RowKit
attribute [local go_sem ↓] Go.wp_at_zero Go.wp_at_succ

/-- Of the rows l, m, m not nought: what DivMod tells. -/
def DivPost (l m : List Nat) (w : World) (e : Ending) (w' : World) : Prop :=
  ∃ q r, e = .returned (.tuple #[q, r, .bool true]) ∧ Own w' w.heap.size 103 .u32 q (digs 1000000000 (val 1000000000 l / val 1000000000 m)) ∧ Own w' w.heap.size 103 .u32 r (digs 1000000000 (val 1000000000 l % val 1000000000 m)) ∧ Below w.heap.size w w'

set_option maxRecDepth 100000 in
set_option maxHeartbeats 4000000 in
theorem natDivMod_pos (v u : Value) (l m : List Nat) (w : World) (hv : RdI w v .u32 l) (hu : RdI w u .u32 m) (h1 : l.length ≤ 1000000) (h2 : ∀ x ∈ l, x < 4294967296) (h3 : m.length ≤ 1000000) (h4 : ∀ x ∈ m, x < 4294967296) (h5 : 0 < val 1000000000 m) :
    Calls Tryz.prog 65 #[v, u] w (DivPost l m w) := by
  have HV := Lib.hid hv
  have HU := Lib.hid hu
  have H2 := Lib.hid h2
  have H4 := Lib.hid h4
  have H5 := Lib.hid h5
  clear hv hu h2 h4 h5
  have HL : Hid ((digs 1000000000 (val 1000000000 l)).length ≤ 10000000) := by have := digs_len_any l H2.out; unfold Hid; omega
  have HM : Hid ((digs 1000000000 (val 1000000000 m)).length ≤ 10000000) := by have := digs_len_any m H4.out; unfold Hid; omega
  have hne : (((digs 1000000000 (val 1000000000 m)).length : Int) == 0) = false := by
    have : digs 1000000000 (val 1000000000 m) ≠ [] := by
      intro h
      have h6 := val_digs 1000000000 (by omega) (val 1000000000 m)
      rw [h] at h6
      have := H5.out
      simp [val] at h6; omega
    have := List.length_pos_iff.2 this
    simp; exact fun h => by simp [h] at this
  go_enter Tryz.func65, Tryz.ntmps65
  go_wp2_with fail
  refine (of_any _ m _ HU.out (by omega) H4.out).mono ?_
  rintro e w1 ⟨y, rfl, hy, hb1⟩
  obtain ⟨yo, yc, rfl, _, _, _, _⟩ := hy.rd
  have HY := Lib.hid hy
  have HB1 := Lib.hid hb1
  clear hy hb1
  go_wp2_with fail
  obtain ⟨W, hW⟩ : ∃ W, W = w1.alloc (Obj.cells #[Value.slice yo (digs 1000000000 (val 1000000000 m)).length yc] 116) := ⟨_, rfl⟩
  have hBW : Below w.heap.size w W := by rw [hW]; exact HB1.out.alloc HB1.out.size _
  have HYW : Hid (RdI W (Value.slice yo (digs 1000000000 (val 1000000000 m)).length yc) .u64 (digs 1000000000 (val 1000000000 m))) := by
    unfold Hid; rw [hW]; exact HY.out.rd.keep ((Below.refl _ _).alloc (Nat.le_refl _) _)
  have hcm : W.cell? ⟨w1.heap.size, 0, none⟩ = some (Value.slice yo (digs 1000000000 (val 1000000000 m)).length yc) := by rw [hW, cell_new _ _ _ _ _ rfl]; rfl
  have hsW : w1.heap.size < W.heap.size := by rw [hW, size_alloc]; omega
  rw [← hW]
  clear hW
  have HVW := Lib.hid (HV.out.keep hBW)
  have hsw : w.heap.size ≤ W.heap.size := hBW.size
  go_cut [8, 9] (fun s8 s9 wx => ∃ g1 g2 qv rv, s8 = .pointer (some ⟨g1, 0, none⟩) ∧ s9 = .pointer (some ⟨g2, 0, none⟩) ∧ wx.cell? ⟨g1, 0, none⟩ = some qv ∧ wx.cell? ⟨g2, 0, none⟩ = some rv ∧
    Own wx w.heap.size 72 .u64 qv (digs 1000000000 (val 1000000000 l / val 1000000000 m)) ∧ Own wx w.heap.size 72 .u64 rv (digs 1000000000 (val 1000000000 l % val 1000000000 m)) ∧ Below w.heap.size w wx)
  case first =>
    go_region_held3 (fun w' => w'.cell? ⟨w1.heap.size, 0, none⟩ = some (Value.slice yo (digs 1000000000 (val 1000000000 m)).length yc)) ((go_split_ands; (first | assumption | ((try simp only [cell_drew]); first | assumption | (refine (cell_old _ _ _ _ ?_).trans ?_ <;> first | assumption | (first | omega | (simp only [size_alloc, size_set]; omega) | simp only [size_alloc, size_drew, size_drewN, size_set])) | (refine (free_old _ _ _ _ ?_).trans ?_ <;> first | assumption | (first | omega | (simp only [size_alloc, size_drew, size_drewN, size_set]; omega) | simp only [size_alloc, size_drew, size_drewN, size_set])) | (refine (cell_ne _ _ _ _ _ _ ?_).trans ?_ <;> first | assumption | (first | omega | (simp only [size_alloc, size_drew, size_drewN, size_set]; omega) | simp only [size_alloc, size_drew, size_drewN, size_set]))) | (first | assumption | (simp (disch := (first | omega | (simp only [size_alloc, size_drew, size_drewN, size_set]; omega) | simp only [size_alloc, size_drew, size_drewN, size_set])) only [cell_old, cell_ne] <;> first | rfl | assumption)) | ((first | refine (hbk.cell ?_).trans ?_ | refine (hbk.frozen ?_).trans ?_) <;> first | (first | omega | (simp only [size_alloc, size_drew, size_drewN, size_set]; omega) | simp only [size_alloc, size_drew, size_drewN, size_set]) | (first | assumption | (simp (disch := (first | omega | (simp only [size_alloc, size_drew, size_drewN, size_set]; omega) | simp only [size_alloc, size_drew, size_drewN, size_set])) only [cell_drew, free_drew, cell_drewN, free_drewN, cell_new, cell_old, free_new, free_old, cell_ne, free_same, cell_same] <;> first | rfl | assumption))))))
      (first | (go_at_call 112; refine (of_any _ l _ (HVW.out.keep (by (repeat (first | exact Below.refl _ _ | assumption | refine Below.drew ?_ | refine belowN ?_ _ | refine Below.alloc ?_ (by (first | omega | (simp only [size_alloc]; omega) | simp only [size_alloc, size_drew, size_drewN, size_set])) _ | refine Below.setCell ?_ (by (first | omega | (simp only [size_alloc, size_drew, size_drewN, size_set]; omega) | simp only [size_alloc, size_drew, size_drewN, size_set])) _)))) (by omega) H2.out).mono ?_; rintro e w2 ⟨x, rfl, hx, hbk⟩; obtain ⟨hcw2, hfw2⟩ := bcell hbk; have hB2 : Below W.heap.size W w2 := (by refine Below.trans ?_ (Below.mono hbk ?_) <;> first | ((repeat (first | exact Below.refl _ _ | assumption | refine Below.drew ?_ | refine belowN ?_ _ | refine Below.alloc ?_ (by (first | omega | (simp only [size_alloc]; omega) | simp only [size_alloc, size_drew, size_drewN, size_set])) _ | refine Below.setCell ?_ (by (first | omega | (simp only [size_alloc, size_drew, size_drewN, size_set]; omega) | simp only [size_alloc, size_drew, size_drewN, size_set])) _)); done) | (first | omega | (simp only [size_alloc, size_drew]; omega) | simp only [size_alloc, size_drew, size_drewN, size_set])); have hs2 := hB2.size; have hz2 := hbk.size; simp only [size_alloc, size_drew] at hz2; (try have hq1 : W.heap.size < w2.heap.size := (by omega)); (try have hq2 : W.heap.size + 1 < w2.heap.size := (by omega)); have hS2 := (hB2.cell (p := ⟨w1.heap.size, 0, none⟩) hsW).trans hcm) | (go_at_call 113; refine (parted_any _ _ (digs 1000000000 (val 1000000000 l)) (digs 1000000000 (val 1000000000 m)) _ (hx.rd.keep (by (repeat (first | exact Below.refl _ _ | assumption | refine Below.drew ?_ | refine belowN ?_ _ | refine Below.alloc ?_ (by (first | omega | (simp only [size_alloc]; omega) | simp only [size_alloc, size_drew, size_drewN, size_set])) _ | refine Below.setCell ?_ (by (first | omega | (simp only [size_alloc, size_drew, size_drewN, size_set]; omega) | simp only [size_alloc, size_drew, size_drewN, size_set])) _)))) (HYW.out.keep (by (repeat (first | exact Below.refl _ _ | assumption | refine Below.drew ?_ | refine belowN ?_ _ | refine Below.alloc ?_ (by (first | omega | (simp only [size_alloc]; omega) | simp only [size_alloc, size_drew, size_drewN, size_set])) _ | refine Below.setCell ?_ (by (first | omega | (simp only [size_alloc, size_drew, size_drewN, size_set]; omega) | simp only [size_alloc, size_drew, size_drewN, size_set])) _)))) (digs_lt _ (by omega) _) (digs_rgt _ (by omega) _) HL.out HM.out (by rw [val_digs _ (by omega)]; exact H5.out)).mono ?_; rintro e w3 ⟨q, r, rfl, hq, hr, hbk⟩; obtain ⟨hcw3, hfw3⟩ := bcell hbk; have hB3 : Below W.heap.size W w3 := (by refine Below.trans ?_ (Below.mono hbk ?_) <;> first | ((repeat (first | exact Below.refl _ _ | assumption | refine Below.drew ?_ | refine belowN ?_ _ | refine Below.alloc ?_ (by (first | omega | (simp only [size_alloc]; omega) | simp only [size_alloc, size_drew, size_drewN, size_set])) _ | refine Below.setCell ?_ (by (first | omega | (simp only [size_alloc, size_drew, size_drewN, size_set]; omega) | simp only [size_alloc, size_drew, size_drewN, size_set])) _)); done) | (first | omega | (simp only [size_alloc]; omega) | simp only [size_alloc, size_drew, size_drewN, size_set])); have hs3 := hB3.size; have hz3 := hbk.size; (try simp only [size_alloc] at hz3); (try have hr1 : W.heap.size < w3.heap.size := (by omega)); (try have hr2 : W.heap.size + 1 < w3.heap.size := (by omega)); (try have hr3 : w2.heap.size < w3.heap.size := (by omega)); (try have hr4 : w2.heap.size + 1 < w3.heap.size := (by omega)); have hS3 := (hB3.cell (p := ⟨w1.heap.size, 0, none⟩) hsW).trans hcm; rw [val_digs _ (by omega), val_digs _ (by omega)] at hq hr; obtain ⟨qo, qc, rfl, _, _, _, _⟩ := hq.rd; obtain ⟨ro, rc, rfl, _, _, _, _⟩ := hr.rd))
    all_goals
      go_wp2_with fail
      go_meet
      refine ⟨_, _, _, _, rfl, rfl, ?_, ?_, ((hq.same (by intro g hg1 hg2; (try simp only [size_alloc] at hg1); simp (disch := (first | omega | (simp only [size_alloc, size_drew, size_drewN, size_set]; omega) | simp only [size_alloc, size_drew, size_drewN, size_set])) only [heap_old, heap_ne])).low ?_), ((hr.same (by intro g hg1 hg2; (try simp only [size_alloc] at hg1); simp (disch := (first | omega | (simp only [size_alloc, size_drew, size_drewN, size_set]; omega) | simp only [size_alloc, size_drew, size_drewN, size_set])) only [heap_old, heap_ne])).low ?_), ?_⟩
      · (simp (disch := (first | omega | (simp only [size_alloc, size_drew, size_drewN, size_set]; omega) | simp only [size_alloc, size_drew, size_drewN, size_set])) only [cell_drew, cell_new, cell_old, cell_ne, cell_at, *] <;> first | done | rfl | assumption)
      · (simp (disch := (first | omega | (simp only [size_alloc, size_drew, size_drewN, size_set]; omega) | simp only [size_alloc, size_drew, size_drewN, size_set])) only [cell_drew, cell_new, cell_old, cell_ne, cell_at, *] <;> first | done | rfl | assumption)
      · (first | omega | (simp only [size_alloc]; omega) | simp only [size_alloc, size_drew, size_drewN, size_set])
      · (first | omega | (simp only [size_alloc]; omega) | simp only [size_alloc, size_drew, size_drewN, size_set])
      · refine hBW.trans ?_
        refine Below.mono (B := W.heap.size) ?_ hsw
        (repeat (first | exact Below.refl _ _ | assumption | refine Below.drew ?_ | refine belowN ?_ _ | refine Below.alloc ?_ (by (first | omega | (simp only [size_alloc, size_set]; omega) | simp only [size_alloc, size_drew, size_drewN, size_set])) _ | refine Below.setCell ?_ (by (first | omega | (simp only []; omega) | simp only [size_alloc, size_drew, size_drewN, size_set])) _))
  case rest =>
    obtain ⟨g1, g2, qv, rv, rfl, rfl, hg1, hg2, hq, hr, hbx⟩ := hcut
    have HQ := Lib.hid hq
    have HR := Lib.hid hr
    have HQL : Hid ((digs 1000000000 (val 1000000000 l / val 1000000000 m)).length ≤ 1000000000) := by
      have := digs_length_mono 1000000000 (by omega) (Nat.div_le_self (val 1000000000 l) (val 1000000000 m))
      have := HL.out; unfold Hid; omega
    have HRL : Hid ((digs 1000000000 (val 1000000000 l % val 1000000000 m)).length ≤ 1000000000) := by
      have := digs_length_mono 1000000000 (by omega) (Nat.mod_le (val 1000000000 l) (val 1000000000 m))
      have := HL.out; unfold Hid; omega
    have HQX : Hid (∀ x ∈ digs 1000000000 (val 1000000000 l / val 1000000000 m), x < 4294967296) := fun x hx => by have := digs_lt 1000000000 (by omega) _ x hx; omega
    have HRX : Hid (∀ x ∈ digs 1000000000 (val 1000000000 l % val 1000000000 m), x < 4294967296) := fun x hx => by have := digs_lt 1000000000 (by omega) _ x hx; omega
    obtain ⟨qo, qc, rfl, _, _, _, _⟩ := hq.rd
    obtain ⟨ro, rc, rfl, _, _, _, _⟩ := hr.rd
    have hgl1 := World.block_lt_of_cell? wc _ hg1
    have hgl2 := World.block_lt_of_cell? wc _ hg2
    dsimp only at hgl1 hgl2
    clear hq hr
    go_wp2_with fail
    go_region_held3 (fun w' => w'.cell? ⟨g1, 0, none⟩ = some (Value.slice qo (digs 1000000000 (val 1000000000 l / val 1000000000 m)).length qc) ∧ w'.cell? ⟨g2, 0, none⟩ = some (Value.slice ro (digs 1000000000 (val 1000000000 l % val 1000000000 m)).length rc)) ((go_split_ands; refine ⟨?_, ?_⟩ <;> (first | assumption | ((try simp only [cell_drew, free_drew]); first | assumption | (refine (cell_old _ _ _ _ ?_).trans ?_ <;> first | assumption | (first | omega | (simp only [size_alloc, size_drew, size_drewN, size_set]; omega) | simp only [size_alloc, size_drew, size_drewN, size_set])) | (refine (free_old _ _ _ _ ?_).trans ?_ <;> first | assumption | (first | omega | (simp only [size_alloc, size_drew, size_drewN, size_set]; omega) | simp only [size_alloc, size_drew, size_drewN, size_set])) | (refine (cell_ne _ _ _ _ _ _ ?_).trans ?_ <;> first | assumption | (first | omega | (simp only [size_alloc, size_drew, size_drewN, size_set]; omega) | simp only [size_alloc, size_drew, size_drewN, size_set]))) | (first | assumption | (simp (disch := (first | omega | (simp only [size_alloc, size_drew, size_drewN, size_set]; omega) | simp only [size_alloc, size_drew, size_drewN, size_set])) only [cell_drew, free_drew, cell_drewN, free_drewN, cell_new, cell_old, free_new, free_old, cell_ne, free_same, cell_same] <;> first | rfl | assumption)) | ((first | refine (hbk.cell ?_).trans ?_ | refine (hbk.frozen ?_).trans ?_) <;> first | (first | omega | (simp only [size_drew]; omega) | simp only [size_alloc, size_drew, size_drewN, size_set]) | (first | assumption | (simp (disch := (first | omega | (simp only [size_alloc, size_drew, size_drewN, size_set]; omega) | simp only [size_alloc, size_drew, size_drewN, size_set])) only [cell_drew, free_drew, cell_drewN, free_drewN, cell_new, cell_old, free_new, free_old, cell_ne, free_same, cell_same] <;> first | rfl | assumption))))))
      (first | (go_at_call 114; (with_reducible refine (row_any (Value.slice qo (digs 1000000000 (val 1000000000 l / val 1000000000 m)).length qc) (digs 1000000000 (val 1000000000 l / val 1000000000 m)) _ HQ.out.rd.drew HQL.out HQX.out).mono ?_); rintro e w2 ⟨x, rfl, hx, hbk⟩; have hB2 : Below wc.heap.size wc w2 := (by refine Below.trans ?_ (Below.mono hbk ?_) <;> first | ((repeat (first | exact Below.refl _ _ | assumption | refine Below.drew ?_ | refine belowN ?_ _ | refine Below.alloc ?_ (by (first | omega | (simp only [size_alloc, size_drew, size_drewN, size_set]; omega) | simp only [size_alloc, size_drew, size_drewN, size_set])) _ | refine Below.setCell ?_ (by (first | omega | (simp only [size_alloc, size_drew, size_drewN, size_set]; omega) | simp only [size_alloc, size_drew, size_drewN, size_set])) _)); done) | (first | omega | (simp only [size_drew]; omega) | simp only [size_alloc, size_drew, size_drewN, size_set])); have hs2 := hB2.size) | (go_at_call 114; (with_reducible refine (row_any (Value.slice ro (digs 1000000000 (val 1000000000 l % val 1000000000 m)).length rc) (digs 1000000000 (val 1000000000 l % val 1000000000 m)) _ (HR.out.keep hB2).rd HRL.out HRX.out).mono ?_); rintro e w3 ⟨y, rfl, hy, hbk⟩; have hB3 : Below wc.heap.size wc w3 := hB2.trans (hbk.mono hs2)))
    go_wp2_with fail
    go_ret3
    refine ⟨x, y, rfl, ?_, hy.low ?_, hbx.trans (hB3.mono hbx.size)⟩
    · exact (hx.keep hbk).low (by have := hbx.size; simp only [size_drew]; omega)
    · have := hbx.size; omega

/-- Is a row right? -/
def rgtB (l : List Nat) : Bool := l.all (fun x => decide (x < 1000000000)) && (l.getLast? != some 0)
theorem rgtB_iff (l : List Nat) : rgtB l = true ↔ Rgt 1000000000 l := by
  simp [rgtB, Rgt]
theorem rgtB_out {l : List Nat} {k : Nat} (hk : k < l.length) (h : ¬ dg l k < 1000000000) : rgtB l = false := by
  rw [Bool.eq_false_iff]
  intro hc
  have := ((rgtB_iff l).1 hc).1 (dg l k) (by rw [dg_eq l k hk]; exact List.getElem_mem hk)
  exact h this
theorem rgtB_nil : rgtB [] = true := rfl
theorem rgtB_last {l : List Nat} (h0 : 0 < l.length) (hx : ∀ x ∈ l, x < 1000000000) : rgtB l = ((dg l (l.length - 1) : Int) != 0) := by
  rw [Bool.eq_iff_iff, rgtB_iff]
  simp only [bne_iff_ne, ne_eq]
  constructor
  · intro h hc
    apply h.2
    rw [List.getLast?_eq_getElem?]
    rw [dg_get? l _ (by omega)]
    congr 1; omega
  · intro h
    exact rgt_of_last hx (.inr (by omega))

set_option maxRecDepth 100000 in
set_option maxHeartbeats 1000000 in
theorem natRight_any (v : Value) (l : List Nat) (w : World) (hv : RdI w v .u32 l) (h1 : l.length ≤ 1000000000) :
    Calls Tryz.prog 120 #[v] w fun e w' => e = .returned (.bool (rgtB l)) ∧ w = w' := by
  obtain ⟨ao, ac, rfl, _, hm, _, hx⟩ := hv
  have HX := Lib.hid hx
  clear hx
  go_enter Tryz.func120, Tryz.ntmps120
  go_wp2_with fail
  go_loop [7] (fun i => ∃ kk : Nat, i = .int .i64 kk ∧ kk ≤ l.length ∧ (∀ x ∈ l.take kk, x < 1000000000)) (fun i => l.length - (intOf i).toNat)
  case atStart => exact ⟨0, rfl, by omega, by simp⟩
  case round =>
    obtain ⟨k, rfl, hk, hxs⟩ := hrel
    have HXS := Lib.hid hxs
    clear hxs
    by_cases hkl : k < l.length
    · obtain ⟨ad, had, hcell⟩ := HX.out k hkl
      subst had
      by_cases hlt : dg l k < 1000000000
      · have hge : ¬ (1000000000 : Int) ≤ (dg l k : Int) := by omega
        go_wp2_with fail
        go_round
        case rel =>
          refine ⟨k + 1, by go_num, by omega, ?_⟩
          intro x hx
          rw [List.take_succ_eq_append_getElem hkl, ← dg_eq l k hkl] at hx
          rcases List.mem_append.1 hx with h | h
          · exact HXS.out x h
          · simp at h; omega
        case measure => simp [intOf]; omega
      · have hge : (1000000000 : Int) ≤ (dg l k : Int) := by omega
        go_wp2_with fail
        go_ret
        exact ⟨by rw [rgtB_out hkl hlt]; rfl, rfl⟩
    · have HALL : Hid (∀ x ∈ l, x < 1000000000) := by have := HXS.out; rw [List.take_of_length_le (by omega)] at this; exact this
      by_cases h0 : 0 < l.length
      · obtain ⟨ad, had, hcell⟩ := HX.out (l.length - 1) (by omega)
        subst had
        have hne : ((l.length : Int) == 0) = false := by simp; exact fun h => by simp [h] at h0
        go_wp2_with fail
        go_ret
        exact ⟨by rw [rgtB_last h0 HALL.out]; rfl, rfl⟩
      · have he : l = [] := List.eq_nil_of_length_eq_zero (by omega)
        subst he
        go_wp2_with fail
        go_ret
        exact ⟨by rw [rgtB_nil]; rfl, rfl⟩

end Go.Proofs.YtjfncepmpabcnaaGreatDoor
