/- The document's answer of layer 1: write. -/
import Derived.Test.YtemcpgfoggdaiaaGreatDoorRefB
namespace Go.Proofs.YtemcpgfoggdaiaaGreatDoor
open Go.RowKit

theorem rgt_of_pow {b : Nat} {l : List Nat} (hx : ∀ x ∈ l, x < b) (h : l.length = 0 ∨ b ^ (l.length - 1) ≤ val b l) : Rgt b l := by
  refine rgt_of_last hx ?_
  rcases h with h | h
  · exact .inl h
  rcases Nat.eq_zero_or_pos l.length with h0 | h0
  · exact .inl h0
  refine .inr fun hc => ?_
  have h1 := val_dropLast b l h0 hc
  have h2 := val_lt b l.dropLast fun x hx' => hx x ((List.dropLast_sublist l).subset hx')
  rw [List.length_dropLast] at h2
  omega
theorem drop_chunk {l : List Nat} {e t : Nat} (he : e ≤ l.length) (ht : t < e) : val 10 ((l.take e).drop t) = dg l t + 10 * val 10 ((l.take e).drop (t + 1)) := by
  have hl : t < (l.take e).length := by simp; omega
  rw [drop_dg _ t hl, val]
  congr 1
  rw [dg_eq _ t hl, dg_eq _ t (by omega)]
  simp
theorem write_step {l ds : List Nat} {e i : Nat} (he : e ≤ l.length) (hi : i ≤ e) (hds : i = 9 * ds.length) (h : val 1000000000 ds = val 10 (l.take i)) :
    val 1000000000 (ds ++ [val 10 ((l.take e).drop i)]) = val 10 (l.take e) := by
  have hs := val_split 10 (l.take e) i (by simp; omega)
  rw [List.take_take, Nat.min_eq_left hi] at hs
  rw [val_snoc, hs, h, show (1000000000 : Nat) = 10 ^ 9 from rfl, ← Nat.pow_mul, ← hds]
theorem chunk_lt {l : List Nat} {e t : Nat} (hx : ∀ x ∈ l, x < 10) (he : e ≤ t + 9) : val 10 ((l.take e).drop t) < 1000000000 := by
  have h1 := val_lt 10 ((l.take e).drop t) fun x h => hx x (List.mem_of_mem_take (List.mem_of_mem_drop h))
  have : (10 : Nat) ^ ((l.take e).drop t).length ≤ 10 ^ 9 := Nat.pow_le_pow_right (by omega) (by simp; omega)
  omega

set_option maxRecDepth 100000 in
set_option maxHeartbeats 4000000 in
theorem refWrite_any (v : Value) (l : List Nat) (w : World) (hv : RdI w v .u8 l) (h1 : l.length ≤ 100000000) (h2 : Rgt 10 l) :
    Calls Tryz.prog 60 #[v] w fun e w' => ∃ u, e = .returned u ∧ Own w' w.heap.size 60 .u32 u (digs 1000000000 (val 10 l)) ∧ Below w.heap.size w w' := by
  have H2 := Lib.hid h2
  obtain ⟨ao, ac, rfl, _, hm, _, hx⟩ := hv
  have HX := Lib.hid hx
  clear hx h2
  unfold maxLen at hm
  obtain ⟨i0, hi, hz0, hz1, hz2⟩ := info_parts Tryz.infoU32
  go_enter Tryz.func60, Tryz.ntmps60
  go_wp2_with fail
  go_loopw [3, 4] (fun out i wr => ∃ (ds : List Nat) (j : Nat), i = .int .i64 j ∧ j = 9 * ds.length ∧ j < l.length + 9 ∧ Own wr w.heap.size 60 .u32 out ds ∧ (∀ x ∈ ds, x < 1000000000) ∧ val 1000000000 ds = val 10 (l.take j) ∧ Below w.heap.size w wr) (fun _ i _ => l.length + 9 - (intOf i).toNat)
  case atStart => exact ⟨[], 0, rfl, rfl, by omega, World.ownsRow_nil _ _ _ _, by simp, by simp [val], Below.refl _ _⟩
  case round =>
    obtain ⟨ds, j, rfl, hj, hjl, hown, hdx, hdv, hbl⟩ := hrel
    have HJ := Lib.hid hj
    have HOW := Lib.hid hown
    have HDX := Lib.hid hdx
    have HDV := Lib.hid hdv
    have HBL := Lib.hid hbl
    have hsr := hbl.size
    obtain ⟨oo, oc, rfl, _, _, _, _⟩ := hown.rd
    clear hj hown hdx hdv hbl
    by_cases hjn : j < l.length
    · obtain ⟨e, he⟩ : ∃ e : Nat, e = min (j + 9) l.length := ⟨_, rfl⟩
      have hel : e ≤ l.length := by omega
      have hje : j < e := by omega
      have he9 : e ≤ j + 9 := by omega
      have hmn : ∀ (ts : Array TypeId) (t : TypeId) (w : World), (Builtin.min_ ts t #[.int .i64 ((j : Int) + 9), .int .i64 (l.length : Int)]).run Tryz.prog w = .ok (.int .i64 (e : Int)) w := by
        intro ts t w
        rw [run_min_int2]
        congr 2
        subst he
        split <;> omega
      have HE : Hid (l.take (j + 9) = l.take e) := by
        unfold Hid
        rcases Nat.lt_or_ge (j + 9) l.length with h | h
        · congr 1; omega
        · rw [List.take_of_length_le (by omega), List.take_of_length_le (by omega)]
      clear he
      go_wp2_with fail
      have h0 : ((l.take e).drop e) = [] := List.drop_of_length_le (by rw [List.length_take]; exact Nat.min_le_left _ _)
      go_loop [5, 6] (fun n k => ∃ (t nn : Nat), n = .int .u32 nn ∧ k = .int .i64 ((t : Int) - 1) ∧ j ≤ t ∧ t ≤ e ∧ nn = val 10 ((l.take e).drop t)) (fun _ k => (intOf k + 1).toNat)
      case atStart => exact ⟨e, 0, rfl, rfl, by omega, Nat.le_refl _, by rw [h0]; rfl⟩
      case round =>
        obtain ⟨t, nn, rfl, rfl, hjt, hte, hnn⟩ := hrel
        have HNN := Lib.hid hnn
        have hnl : nn < 1000000000 := by rw [hnn]; exact chunk_lt H2.out.1 (by omega)
        clear hnn
        by_cases htj : j < t
        · obtain ⟨q, rfl⟩ : ∃ q, t = q + 1 := ⟨t - 1, by omega⟩
          obtain ⟨ad, rfl, hcell⟩ := HX.out q (by omega)
          have hc := (HBL.out.cell (World.block_lt_of_cell? w _ hcell)).trans hcell
          have HST := drop_chunk (l := l) hel (show q < e by omega)
          rw [← HNN.out] at HST
          have hnew : 10 * nn + dg l q < 1000000000 := by
            have := chunk_lt (l := l) (e := e) (t := q) H2.out.1 (by omega)
            omega
          have HST2 := Lib.hid HST
          clear HST hcell
          rw [show (((q + 1 : Nat) : Int) - 1) = (q : Int) by omega]
          have hq0 : (0 : Int) ≤ (q : Int) := by omega
          have hq1 : (q : Int) < (l.length : Int) := by omega
          have hq2 : (j : Int) ≤ (q : Int) := by omega
          go_wp2_with fail
          go_round
          case rel => exact ⟨q, 10 * nn + dg l q, by go_num, by go_num, by omega, by omega, by rw [HST2.out]; omega⟩
          case measure => simp [intOf]
        · obtain rfl : t = j := by omega
          have hq2 : ¬ ((t : Int) ≤ (t : Int) - 1) := by omega
          have HST := Lib.hid (write_step hel (Nat.le_of_lt hje) HJ.out HDV.out)
          have HDL : Hid (ds.length ≤ 100000000) := by have := HJ.out; unfold Hid; omega
          have HNX : Hid (∀ x ∈ ds ++ [nn], x < 1000000000) := by
            intro x hx
            rcases List.mem_append.1 hx with h | h
            · exact HDX.out x h
            · simp at h; omega
          go_wp2_with (at_builtin; refine app1 rfl _ _ 23 rfl 60 .u32 i0 4 Tryz.underlying23 hi hz0 hz1 hz2 w.heap.size _ ds rfl HOW.out _ nn rfl rfl rfl (by have := HDL.out; unfold maxLen; omega) (by have := HDL.out; omega) (by omega) ?_; intro v' w5 hown2 hb5)
          go_roundw
          case rel => exact ⟨ds ++ [nn], t + 9, by go_num, by have := HJ.out; simp; omega, by omega, hown2, HNX.out, by rw [HE.out, HNN.out]; exact HST.out, HBL.out.trans (hb5.mono (by omega))⟩
          case measure => simp [intOf]; omega
    · have HVE : Hid (val 1000000000 ds = val 10 l) := by have := HDV.out; rwa [List.take_of_length_le (by omega)] at this
      have HR : Hid (ds = digs 1000000000 (val 10 l)) := by
        unfold Hid
        rw [← HVE.out]
        refine (rgt_of_pow HDX.out ?_).digs (by omega)
        rcases Nat.eq_zero_or_pos ds.length with h0 | h0
        · exact .inl h0
        right
        have hj2 := HJ.out
        have h3 := rgt_pow_le H2.out (by omega)
        have h4 : (1000000000 : Nat) ^ (ds.length - 1) ≤ 10 ^ (l.length - 1) := by
          rw [show (1000000000 : Nat) = 10 ^ 9 from rfl, ← Nat.pow_mul]
          exact Nat.pow_le_pow_right (by omega) (by omega)
        rw [HVE.out]; omega
      go_wp2_with fail
      go_ret
      exact ⟨_, rfl, by rw [← HR.out]; exact HOW.out, HBL.out⟩

end Go.Proofs.YtemcpgfoggdaiaaGreatDoor
