/- the kit's SameLimbs, SameInt. -/
import Derived.Test.YtjfncepmpabcnaaGreatDoorNumG
namespace Go.Proofs.YtjfncepmpabcnaaGreatDoor
open Go.RowKit
set_option linter.unusedSimpArgs false
set_option linter.unusedVariables false
attribute [local go_sem ↓] Go.wp_at_zero Go.wp_at_succ

/-- Are two lists one? -/
def eqB (l m : List Nat) : Bool := decide (l = m)
theorem eqB_len {l m : List Nat} (h : l.length ≠ m.length) : eqB l m = false := by
  simp only [eqB, decide_eq_false_iff_not]; intro e; exact h (by rw [e])
theorem eqB_at {l m : List Nat} {k : Nat} (h : dg l k ≠ dg m k) : eqB l m = false := by
  simp only [eqB, decide_eq_false_iff_not]; intro e; exact h (by rw [e])
theorem eqB_self (l : List Nat) : eqB l l = true := by simp [eqB]
theorem take_eq_succ {l m : List Nat} {k : Nat} (h : l.take k = m.take k) (hd : dg l k = dg m k) (hl : k < l.length) (hm : k < m.length) : l.take (k + 1) = m.take (k + 1) := by
  rw [List.take_succ_eq_append_getElem hl, List.take_succ_eq_append_getElem hm, h, ← dg_eq l k hl, ← dg_eq m k hm, hd]

set_option maxRecDepth 100000 in
set_option maxHeartbeats 1000000 in
theorem sameLimbs_any (v u : Value) (l m : List Nat) (w : World) (hv : RdI w v .u32 l) (hu : RdI w u .u32 m) (h1 : l.length ≤ 1000000000) :
    Calls Tryz.prog 94 #[v, u] w fun e w' => e = .returned (.bool (eqB l m)) ∧ ∃ n, w' = w.drewN n := by
  obtain ⟨ao, ac, rfl, _, _, _, hx⟩ := hv
  obtain ⟨bo, bc, rfl, _, _, _, hy⟩ := hu
  have HX := Lib.hid hx
  have HY := Lib.hid hy
  clear hx hy
  by_cases hlm : l.length = m.length
  · have hne : ((l.length : Int) != (m.length : Int)) = false := by simp [hlm]
    have HLM := Lib.hid hlm
    clear hlm
    go_enter Tryz.func94, Tryz.ntmps94
    go_wp2_with fail
    go_loopw [5] (fun i wr => ∃ (kk n : Nat), i = .int .i64 kk ∧ kk ≤ l.length ∧ l.take kk = m.take kk ∧ wr = w.drewN n) (fun i _ => l.length - (intOf i).toNat)
    case atStart => exact ⟨0, 0, rfl, by omega, by simp, rfl⟩
    case round =>
      obtain ⟨k, n, rfl, hk, hxs, rfl⟩ := hrel
      have HXS := Lib.hid hxs
      clear hxs
      by_cases hkl : k < l.length
      · obtain ⟨ad, had, hcell⟩ := HX.out k hkl
        subst had
        obtain ⟨bd, hbd, hcell2⟩ := HY.out k (by have := HLM.out; omega)
        subst hbd
        have hi0 : (0 : Int) ≤ (k : Int) := by omega
        have hi1 : (k : Int) < (l.length : Int) := by omega
        have hi2 : (k : Int) < (m.length : Int) := by have := HLM.out; omega
        have hkm : k < m.length := by omega
        by_cases hd : dg l k = dg m k
        · have hb : ((dg l k : Int) != (dg m k : Int)) = false := by simp [hd]
          have HD := Lib.hid hd
          clear hd
          go_wp2_with fail
          go_quiet (fail)
          go_wp2_with fail
          go_roundw
          case rel => exact ⟨k + 1, _, by go_num, by omega, take_eq_succ HXS.out HD.out hkl hkm, rfl⟩
          case measure => simp [intOf]; omega
        · have hb : ((dg l k : Int) != (dg m k : Int)) = true := by simp; omega
          have HD := Lib.hid hd
          clear hd
          go_wp2_with fail
          go_quiet (fail)
          go_wp2_with fail
          go_ret
          exact ⟨by rw [eqB_at HD.out]; rfl, _, World.drewN_drewN _ _ _⟩
      · go_wp2_with fail
        go_ret
        refine ⟨?_, _, rfl⟩
        have := HXS.out
        rw [List.take_of_length_le (by omega), List.take_of_length_le (by have := HLM.out; omega)] at this
        rw [this, eqB_self]; rfl
  · have hne : ((l.length : Int) != (m.length : Int)) = true := by simp; omega
    have HLM := Lib.hid hlm
    clear hlm
    go_enter Tryz.func94, Tryz.ntmps94
    go_wp2_with fail
    go_ret
    exact ⟨by rw [eqB_len HLM.out]; rfl, 0, rfl⟩

set_option maxHeartbeats 1000000 in
theorem sameInt_yes (v u : Value) (na nb : Bool) (la lb : List Nat) (w : World) (hv : IV w v na la) (hu : IV w u nb lb) (h1 : la.length ≤ 1000000) (hs : (na == nb) = true) :
    Calls Tryz.prog 45 #[v, u] w fun e w' => e = .returned (.bool ((na == nb) && eqB la lb)) ∧ Below w.heap.size w w' := by
  obtain ⟨ao, ac, rfl⟩ := hv.sh
  obtain ⟨bo, bc, rfl⟩ := hu.sh
  have HA := Lib.hid hv.rd
  have HC := Lib.hid hu.rd
  clear hv hu
  go_enter Tryz.func45, Tryz.ntmps45
  go_wp2_with fail
  have hB := Below.refl w.heap.size w
  have hbs := hB.size
  have hga : w.heap.size ≤ w.heap.size := by omega
  have hgb : w.heap.size ≤ w.heap.size + 1 := by omega
  have hn_b_a : w.heap.size + 1 ≠ w.heap.size := by omega
  clear hbs
  refine calls_gen fun W1 hW => ?_
  have hm1 : w.heap.size ≤ W1.heap.size := by rw [hW]; (first | omega | (simp only [size_alloc, size_drew, size_drewN, size_set]; omega) | (simp only [size_alloc, size_drew, size_drewN, size_set]; done))
  have hB' : Below w.heap.size w W1 := by rw [hW]; (repeat (first | (with_reducible assumption) | exact Below.refl _ _ | (with_reducible refine Below.drew ?_) | (with_reducible refine belowN ?_ _) | (with_reducible refine bw_alloc ?_ _) | ((with_reducible refine bw_set ?_ ?_ _ _); (focus (with_reducible assumption)))))
  have hXa' : Box W1 (w.heap.size) [Value.bool na, Value.slice ao la.length ac] := by rw [hW]; (repeat (first | (with_reducible assumption) | (with_reducible refine Box.drew ?_) | (with_reducible refine Box.drewN ?_ _) | ((with_reducible refine Box.new _ _ ?_ ?_); (focus (first | (with_reducible exact rfl) | (simp only [size_alloc, size_drew, size_drewN, size_set]; done))); (focus (exact rfl))) | (with_reducible refine Box.alloc ?_ _) | ((with_reducible refine Box.put ?_ ?_ _ _ ?_); rotate_left) | ((with_reducible refine Box.set ?_ ?_ _ _); (focus (first | (with_reducible assumption) | (refine Ne.symm ?_; (with_reducible assumption))))) | (exact rfl)))
  have hXb' : Box W1 (w.heap.size + 1) [Value.bool nb, Value.slice bo lb.length bc] := by rw [hW]; (repeat (first | (with_reducible assumption) | (with_reducible refine Box.drew ?_) | (with_reducible refine Box.drewN ?_ _) | ((with_reducible refine Box.new _ _ ?_ ?_); (focus (first | (with_reducible exact rfl) | (simp only [size_alloc, size_drew, size_drewN, size_set]; done))); (focus (exact rfl))) | (with_reducible refine Box.alloc ?_ _) | ((with_reducible refine Box.put ?_ ?_ _ _ ?_); rotate_left) | ((with_reducible refine Box.set ?_ ?_ _ _); (focus (first | (with_reducible assumption) | (refine Ne.symm ?_; (with_reducible assumption))))) | (exact rfl)))
  clear hW
  clear hB
  have hB := hB'; have hXa := hXa'; have hXb := hXb'
  clear hB' hXa' hXb'
  have hca_0 := hXa.c0; have hca_1 := hXa.c1; have hcb_0 := hXb.c0; have hcb_1 := hXb.c1
  refine (sameLimbs_any _ _ la lb _ (HA.out.keep hB) (HC.out.keep hB) (by omega)).mono ?_
  rintro e W2 ⟨rfl, n, hw⟩
  have hb : Below W1.heap.size W1 W2 := by rw [hw]; exact belowN (Below.refl _ _) n
  clear hw
  have hL : Below W1.heap.size W1 W2 := hb
  have hm2 := hL.size
  have hB' := bw_below hB hL
  have hXa' := hXa.below hL
  have hXb' := hXb.below hL
  clear hL hb
  clear hcb_1 hcb_0 hca_1 hca_0 hXb hXa hB
  have hB := hB'; have hXa := hXa'; have hXb := hXb'
  clear hB' hXa' hXb'
  have hca_0 := hXa.c0; have hca_1 := hXa.c1; have hcb_0 := hXb.c0; have hcb_1 := hXb.c1
  go_wp2_with fail
  go_ret
  exact ⟨by rw [hs]; rfl, hB⟩

set_option maxHeartbeats 1000000 in
theorem sameInt_no (v u : Value) (na nb : Bool) (la lb : List Nat) (w : World) (hv : IV w v na la) (hu : IV w u nb lb) (h1 : la.length ≤ 1000000) (hs : (na == nb) = false) :
    Calls Tryz.prog 45 #[v, u] w fun e w' => e = .returned (.bool ((na == nb) && eqB la lb)) ∧ Below w.heap.size w w' := by
  obtain ⟨ao, ac, rfl⟩ := hv.sh
  obtain ⟨bo, bc, rfl⟩ := hu.sh
  have HA := Lib.hid hv.rd
  have HC := Lib.hid hu.rd
  clear hv hu
  go_enter Tryz.func45, Tryz.ntmps45
  go_wp2_with fail
  have hb : Below w.heap.size w ((w.alloc (Obj.cells #[Value.bool na, Value.slice ao la.length ac] 29)).alloc (Obj.cells #[Value.bool nb, Value.slice bo lb.length bc] 29)) := by (repeat (first | (with_reducible assumption) | exact Below.refl _ _ | (with_reducible refine Below.drew ?_) | (with_reducible refine belowN ?_ _) | (with_reducible refine bw_alloc ?_ _) | ((with_reducible refine bw_set ?_ ?_ _ _); (focus (with_reducible assumption)))))
  go_ret
  exact ⟨by rw [hs]; rfl, hb⟩

theorem sameInt_any (v u : Value) (na nb : Bool) (la lb : List Nat) (w : World) (hv : IV w v na la) (hu : IV w u nb lb) (h1 : la.length ≤ 1000000) :
    Calls Tryz.prog 45 #[v, u] w fun e w' => e = .returned (.bool ((na == nb) && eqB la lb)) ∧ Below w.heap.size w w' := by
  cases hs : (na == nb)
  · have := sameInt_no v u na nb la lb w hv hu h1 hs; rw [hs] at this; exact this
  · have := sameInt_yes v u na nb la lb w hv hu h1 hs; rw [hs] at this; exact this
theorem digsZ_inj {m n : Nat} (h : digs 1000000000 m = digs 1000000000 n) : m = n := by
  have h1 := val_digs 1000000000 (by omega) m
  have h2 := val_digs 1000000000 (by omega) n
  rw [h, h2] at h1; exact h1.symm
theorem sameZ_eq (y z : Int) : ((zNeg y == zNeg z) && eqB (digs 1000000000 y.natAbs) (digs 1000000000 z.natAbs)) = decide (y = z) := by
  rw [Bool.eq_iff_iff]
  simp only [Bool.and_eq_true, beq_iff_eq, eqB, decide_eq_true_eq]
  constructor
  · intro ⟨h1, h2⟩
    have h3 := digsZ_inj h2
    rw [← zOf_self y, ← zOf_self z, h1, h3]
  · intro h; subst h; exact ⟨rfl, rfl⟩
/-- Are two numbers, each THE one, the same? -/
theorem sameI_any (v u : Value) (y z : Int) (k : Nat) (w : World) (hv : I2 w v y) (hu : I2 w u z) (hk : ZB y k) (h1 : k ≤ 1000000) :
    Calls Tryz.prog 45 #[v, u] w fun e w' => e = .returned (.bool (decide (y = z))) ∧ Below w.heap.size w w' := by
  have := sameInt_any v u _ _ _ _ w hv.iv hu.iv (Nat.le_trans hk.len h1)
  rw [sameZ_eq] at this
  exact this

set_option maxHeartbeats 1000000 in
theorem same02_any (v u : Value) (y z : Int) (k : Nat) (w : World) (hv : I2 w v y) (hu : I2 w u z) (hk : ZB y k) (h1 : k ≤ 1000000) :
    Calls Tryz.prog 12 #[v, u] w fun e w' => e = .returned (.bool (decide (y = z))) ∧ Below w.heap.size w w' := by
  obtain ⟨ao, ac, rfl⟩ := hv.one
  obtain ⟨bo, bc, rfl⟩ := hu.one
  have HA := Lib.hid hv
  have HC := Lib.hid hu
  have HK := Lib.hid hk
  clear hv hu hk
  go_enter Tryz.func12, Tryz.ntmps12
  go_wp2_with fail
  have hB := Below.refl w.heap.size w
  have hbs := hB.size
  have hga : w.heap.size ≤ w.heap.size := by omega
  have hgb : w.heap.size ≤ w.heap.size + 1 := by omega
  have hn_b_a : w.heap.size + 1 ≠ w.heap.size := by omega
  clear hbs
  refine calls_gen fun W1 hW => ?_
  have hm1 : w.heap.size ≤ W1.heap.size := by rw [hW]; (first | omega | (simp only [size_alloc, size_drew, size_drewN, size_set]; omega) | (simp only [size_alloc, size_drew, size_drewN, size_set]; done))
  have hB' : Below w.heap.size w W1 := by rw [hW]; (repeat (first | (with_reducible assumption) | exact Below.refl _ _ | (with_reducible refine Below.drew ?_) | (with_reducible refine belowN ?_ _) | (with_reducible refine bw_alloc ?_ _) | ((with_reducible refine bw_set ?_ ?_ _ _); (focus (with_reducible assumption)))))
  have hXa' : Box W1 (w.heap.size) [Value.bool (zNeg y), Value.slice ao (digs 1000000000 y.natAbs).length ac] := by rw [hW]; (repeat (first | (with_reducible assumption) | (with_reducible refine Box.drew ?_) | (with_reducible refine Box.drewN ?_ _) | ((with_reducible refine Box.new _ _ ?_ ?_); (focus (first | (with_reducible exact rfl) | (simp only [size_alloc, size_drew, size_drewN, size_set]; done))); (focus (exact rfl))) | (with_reducible refine Box.alloc ?_ _) | ((with_reducible refine Box.put ?_ ?_ _ _ ?_); rotate_left) | ((with_reducible refine Box.set ?_ ?_ _ _); (focus (first | (with_reducible assumption) | (refine Ne.symm ?_; (with_reducible assumption))))) | (exact rfl)))
  have hXb' : Box W1 (w.heap.size + 1) [Value.bool (zNeg z), Value.slice bo (digs 1000000000 z.natAbs).length bc] := by rw [hW]; (repeat (first | (with_reducible assumption) | (with_reducible refine Box.drew ?_) | (with_reducible refine Box.drewN ?_ _) | ((with_reducible refine Box.new _ _ ?_ ?_); (focus (first | (with_reducible exact rfl) | (simp only [size_alloc, size_drew, size_drewN, size_set]; done))); (focus (exact rfl))) | (with_reducible refine Box.alloc ?_ _) | ((with_reducible refine Box.put ?_ ?_ _ _ ?_); rotate_left) | ((with_reducible refine Box.set ?_ ?_ _ _); (focus (first | (with_reducible assumption) | (refine Ne.symm ?_; (with_reducible assumption))))) | (exact rfl)))
  clear hW
  clear hB
  have hB := hB'; have hXa := hXa'; have hXb := hXb'
  clear hB' hXa' hXb'
  have hca_0 := hXa.c0; have hca_1 := hXa.c1; have hcb_0 := hXb.c0; have hcb_1 := hXb.c1
  refine (sameI_any _ _ y z k _ (HA.out.keep hB) (HC.out.keep hB) HK.out h1).mono ?_
  rintro e W2 ⟨rfl, hb⟩
  have hL : Below W1.heap.size W1 W2 := hb
  have hm2 := hL.size
  have hB' := bw_below hB hL
  have hXa' := hXa.below hL
  have hXb' := hXb.below hL
  clear hL hb
  clear hcb_1 hcb_0 hca_1 hca_0 hXb hXa hB
  have hB := hB'; have hXa := hXa'; have hXb := hXb'
  clear hB' hXa' hXb'
  have hca_0 := hXa.c0; have hca_1 := hXa.c1; have hcb_0 := hXb.c0; have hcb_1 := hXb.c1
  go_wp2_with fail
  go_ret
  exact ⟨rfl, hB⟩

/-- How many limbs the first k numbers have. -/
def limbs (L : List (Bool × List Nat)) (k : Nat) : Nat := (L.take k).foldl (fun n p => n + p.2.length) 0
theorem limbs_succ {L : List (Bool × List Nat)} {k : Nat} (h : k < L.length) : limbs L (k + 1) = limbs L k + (limAt L k).length := by
  unfold limbs; rw [List.take_succ_eq_append_getElem h, List.foldl_append, limAt_eq h]; rfl
theorem limbs_mono (L : List (Bool × List Nat)) {j k : Nat} (h : j ≤ k) : limbs L j ≤ limbs L k := by
  induction k with
  | zero => rw [show j = 0 by omega]; exact Nat.le_refl _
  | succ k ih =>
    by_cases hj : j = k + 1
    · subst hj; exact Nat.le_refl _
    · have h1 := ih (by omega)
      by_cases hk : k < L.length
      · rw [limbs_succ hk]; omega
      · have : limbs L (k + 1) = limbs L k := by unfold limbs; rw [List.take_of_length_le (by omega), List.take_of_length_le (by omega)]
        omega
/-- More than is gone through in time? -/
def greatZ (L : List (Bool × List Nat)) : Bool := decide (1000 < limbs L L.length) || decide (20 < L.length)
theorem greatZ_far {L : List (Bool × List Nat)} {k : Nat} (hk : k ≤ L.length) (h : 1000 < limbs L k) : greatZ L = true := by
  have := limbs_mono L hk
  unfold greatZ; simp; omega
theorem greatZ_near {L : List (Bool × List Nat)} (h : ¬ 1000 < limbs L L.length) : greatZ L = decide (20 < L.length) := by
  unfold greatZ; simp [h]
set_option maxRecDepth 100000 in
set_option maxHeartbeats 1000000 in
theorem great_any (u : Value) (L : List (Bool × List Nat)) (w : World) (hu : RdZ w u L) (hs : ∀ i, i < L.length → (limAt L i).length ≤ 9223372036854770000) :
    Calls Tryz.prog 9 #[u] w fun e w' => e = .returned (.bool (greatZ L)) ∧ w = w' := by
  obtain ⟨bo, bc, rfl, hl, hbm, hx⟩ := hu
  have HX := Lib.hid hx
  have HS := Lib.hid hs
  clear hx hs
  unfold maxLen at hbm
  go_enter Tryz.func9, Tryz.ntmps9
  go_wp2_with fail
  go_loop [3, 4] (fun n i => ∃ k : Nat, i = .int .i64 k ∧ n = .int .i64 (limbs L k : Nat) ∧ k ≤ L.length ∧ limbs L k ≤ 9223372036854775000) (fun _ i => L.length - (intOf i).toNat)
  case atStart => exact ⟨0, rfl, rfl, by omega, by simp [limbs]⟩
  case round =>
    obtain ⟨k, rfl, rfl, hk, hn⟩ := hrel
    obtain ⟨N, hN⟩ : ∃ N, N = limbs L k := ⟨_, rfl⟩
    rw [← hN] at hn ⊢
    have HN := Lib.hid hN
    clear hN
    by_cases hkl : k < L.length
    · by_cases hb : N ≤ 1000
      · obtain ⟨ad, s, had, hc0, hc1, hsr, hsx⟩ := HX.out k hkl
        subst had
        obtain ⟨so, sc, rfl⟩ := rd_sl hsr
        have hls := HS.out k hkl
        clear hsr hsx
        go_wp2_with fail
        go_round
        case rel => exact ⟨k + 1, by go_num, by rw [limbs_succ hkl, ← HN.out]; go_num, by omega, by rw [limbs_succ hkl, ← HN.out]; omega⟩
        case measure => simp [intOf]; omega
      · have hg : Hid (greatZ L = true) := greatZ_far hk (by rw [← HN.out]; omega)
        have hb2 : (1000 : Int) < (N : Int) := by omega
        go_wp2_with fail
        go_ret
        exact ⟨by rw [hg.out]; rfl, rfl⟩
    · obtain rfl : k = L.length := by omega
      by_cases hb : N ≤ 1000
      · have hg : Hid (greatZ L = decide (20 < L.length)) := greatZ_near (by rw [← HN.out]; omega)
        have hq : Hid ((decide ((1000 : Int) < (N : Int)) || decide ((20 : Int) < (L.length : Int))) = decide (20 < L.length)) := by unfold Hid; rw [Bool.eq_iff_iff]; simp; omega
        go_wp2_with fail
        all_goals
          go_ret
          exact ⟨by rw [hg.out, ← hq.out]; simp, rfl⟩
      · have hg : Hid (greatZ L = true) := greatZ_far hk (by rw [← HN.out]; omega)
        have hb2 : (1000 : Int) < (N : Int) := by omega
        go_wp2_with fail
        go_ret
        exact ⟨by rw [hg.out]; rfl, rfl⟩

end Go.Proofs.YtjfncepmpabcnaaGreatDoor
