/- The law NumTexts, walked. -/
import Derived.Test.YtemcpgfoggdaiaaGreatDoorAwk
import Derived.Test.YtemcpgfoggdaiaaGreatDoorRefH
namespace Go.Proofs.YtemcpgfoggdaiaaGreatDoor
open Go.RowKit
set_option linter.unusedSimpArgs false
set_option linter.unusedVariables false
attribute [local go_sem ↓] Go.wp_at_zero Go.wp_at_succ

/-- What a call for a number and a truth tells. -/
def TellsB (z : Int) (b : Bool) (w : World) (e : Ending) (w' : World) : Prop := ∃ x, e = .returned (.tuple #[x, .bool b]) ∧ IO w' w.heap.size 60 x z ∧ Below w.heap.size w w'
theorem TellsB.step {z : Int} {b : Bool} {w : World} {sv : Nat → Value} {K : Act → World → Prop} {a : Act} {d : Nat} (hK : ∀ w' u, Below w.heap.size w w' → (Fk.nb z b).says sv w.heap.size w'.heap.size w' u → K (a.put (some d) u) w') :
    ∀ e w', TellsB z b w e w' → ∃ v, e = .returned v ∧ K (a.put (some d) v) w' := by
  rintro e w' ⟨x, rfl, h1, hb⟩
  exact ⟨_, rfl, hK _ _ hb ⟨w', rfl, ⟨x, rfl, h1⟩, Fr.refl _ _⟩⟩
theorem parseB_law {s : ByteArray} {z : Int} {b : Bool} (w : World) (h1 : s.size ≤ 1000000) (hz : z = parZ s.data.toList) (hb : b = okZ s.data.toList) : Calls Tryz.prog 7 #[.string s] w (TellsB z b w) := by
  subst hz hb; exact numParse_any s w h1
theorem refParseB_law {s : ByteArray} {z : Int} {b : Bool} (w : World) (h1 : s.size ≤ 1000000) (hz : z = parZ s.data.toList) (hb : b = okZ s.data.toList) : Calls Tryz.prog 8 #[.string s] w (TellsB z b w) := by
  subst hz hb; exact refParse_any s w h1
theorem refOf_law (n : Int) (w : World) (h1 : -9223372036854775808 ≤ n) (h2 : n ≤ 9223372036854775807) : Calls Tryz.prog 11 #[.int .i64 n] w (TellsO n w) := refOfZ_any n w h1 h2
theorem parZ_zb (l : List UInt8) (k : Nat) (h : l.length ≤ k) : ZB (parZ l) k := by
  unfold parZ
  split
  · rename_i ho
    unfold ZB
    rw [zOf_abs]
    have hr : (restZ l).length ≤ l.length := by
      unfold restZ Lib.trimPrefix
      split
      · simp
      · exact Nat.le_refl _
    have hok : okT (restZ l) = true := by unfold okZ at ho; rw [Bool.and_eq_true] at ho; exact ho.1
    have hd : decB (restZ l) = true := by
      unfold okT at hok
      cases hb : decB (restZ l)
      · rw [hb] at hok; simp at hok
      · rfl
    have h1 := numD_lt (restZ l) hd
    refine Nat.lt_of_lt_of_le h1 (Nat.le_trans (Nat.pow_le_pow_left (by omega : 10 ≤ 1000000000) _) (Nat.pow_le_pow_right (by omega) (by omega)))
  · exact ZB.zero k
theorem zb64 {n : Int} (h1 : -9223372036854775808 ≤ n) (h2 : n ≤ 9223372036854775807) : ZB n 3 := by
  unfold ZB
  have : (1000000000 : Nat) ^ 3 = 1000000000000000000000000000 := by decide
  rw [this]; omega
theorem bin_eqB {P : Program} {w : World} {m n : Bool} {t : TypeId} {p q : Operand} (h : P.underlying t = some .bool) : (do eqGuard .eql t p q (.bool m) (.bool n); binOp .eql t (.bool m) (.bool n) : Sem Value).run P w = .ok (.bool (m == n)) w := by
  simp [go_sem, eqGuard, binOp, run_equal_bool _ _ _ _ h]

set_option maxRecDepth 100000 in
set_option maxHeartbeats 4000000 in
theorem numTexts_far (s : ByteArray) (n : Int) (w : World) (hn1 : -9223372036854775808 ≤ n) (hn2 : n ≤ 9223372036854775807) (hs : (4000 : Int) < (s.size : Int)) (htab : Tab w) :
    Calls Tryz.prog 3 #[.string s, .int .i64 n] w fun e w' => e = .returned (.bool true) ∧ Below w.heap.size w w' := by
  have HT := Lib.hid htab
  clear htab
  go_enter Tryz.func3, Tryz.ntmps3
  go_upto_region 2 with (fail)
  have hB := Below.refl w.heap.size w
  refine wp_region_facts7 (by kernel_rfl) (fun i => (Fk.at [.nv (.bool true), .nv (.bool true)] i).says) (fun i => List.getD [] i []) [12, 4] ?A2 2 [] [] (fun _ => rfl) (fun h => absurd rfl h) ?hA2 _ rfl (by kernel_rfl) (by kernel_rfl) (fun _ _ _ _ _ _ _ => Fk.keep _) ?steps2 ?fin2
  case hA2 => intro t; (try simp only [putAll, Act.put, List.setIfInBounds_toArray, List.set_cons_zero, List.set_cons_succ]); (try exact rfl)
  case steps2 =>
    refine ⟨?_, ?_, trivial⟩
    · intro a wk hx hb hg K hK
      exact step_run rfl (op_call0 (by kernel_rfl) (awake2_any _ (HT.out.keep (bw_below hB hb))) (TellsV.step hK))
    · intro a wk hx hb hg K hK
      have g12 : a.tmps.getD 12 undef = .bool true := fk_v (hg 0 12 (by kernel_rfl) rfl)
      exact step_run rfl (op_assign g12 (hK _ _ (Below.refl _ _) rfl))
  intro t2 lo2 hi2 V2 hb2 hF hD
  have gb : t2 4 = .bool true := (hF 1 4 rfl).2.2.2
  clear hF hD
  refine wpList_nil ?_
  simp only [gb]
  go_wp2_with fail
  go_ret
  exact ⟨rfl, bw_below hB hb2⟩

set_option maxRecDepth 100000 in
set_option maxHeartbeats 4000000 in
theorem numTexts_near (s : ByteArray) (n : Int) (w : World) (hn1 : -9223372036854775808 ≤ n) (hn2 : n ≤ 9223372036854775807) (hs : ¬ (4000 : Int) < (s.size : Int)) (htab : Tab w) :
    Calls Tryz.prog 3 #[.string s, .int .i64 n] w fun e w' => e = .returned (.bool true) ∧ Below w.heap.size w w' := by
  have HT := Lib.hid htab
  clear htab
  have HS1 : Hid (s.size ≤ 1000000) := by unfold Hid; omega
  have HN1 := Lib.hid hn1
  have HN2 := Lib.hid hn2
  have Bn := Lib.hid (zb64 hn1 hn2)
  obtain ⟨Z, hZ⟩ : ∃ Z, Z = parZ s.data.toList := ⟨_, rfl⟩
  obtain ⟨b, hb⟩ : ∃ b, b = okZ s.data.toList := ⟨_, rfl⟩
  have BZ := Lib.hid (show ZB Z 4000 by rw [hZ]; exact parZ_zb _ _ (by rw [Array.length_toList]; have : s.data.size = s.size := rfl; omega))
  have HZ := Lib.hid hZ
  have HOK := Lib.hid hb
  clear hZ hb hn1 hn2
  go_enter Tryz.func3, Tryz.ntmps3
  go_upto_region 3 with (fail)
  have hB := Below.refl w.heap.size w
  refine wp_region_facts7 (by kernel_rfl) (fun i => (Fk.at [.nv (.string s), .nb Z b, .nm 15 2 [(1, .bool b)], .ne 13 0, .nv (.bool b), .np [Value.bool false, Value.slice none 0 0]] i).says) (fun i => List.getD [[], [], [15], [13], [], []] i []) [14, 15, 13, 16, 17, 5] ?A3 6 [] [] (fun _ => rfl) (fun h => absurd rfl h) ?hA3 _ rfl (by kernel_rfl) (by kernel_rfl) (fun _ _ _ _ _ _ _ => Fk.keep _) ?steps3 ?fin3
  case hA3 => intro t; (try simp only [putAll, Act.put, List.setIfInBounds_toArray, List.set_cons_zero, List.set_cons_succ]); (try exact rfl)
  case steps3 =>
    refine ⟨?_, ?_, ?_, ?_, ?_, ?_, trivial⟩
    · intro a wk hx hb hg K hK
      have g0 : a.tmps.getD 0 undef = .string s := hx 0 (by kernel_rfl)
      exact step_run rfl (op_move g0 (hK _ _ (Below.refl _ _) rfl))
    · intro a wk hx hb hg K hK
      have g14 : a.tmps.getD 14 undef = .string s := fk_v (hg 0 14 (by kernel_rfl) rfl)
      exact step_run rfl (op_call1 (by kernel_rfl) (by rw [g14]; exact parseB_law _ HS1.out HZ.out HOK.out) (TellsB.step hK))
    · intro a wk hx hb hg K hK
      have g15 := fk_b (z := Z) (b := b) (hg 1 15 (by kernel_rfl) rfl)
      obtain ⟨x15, e15⟩ := g15
      exact step_run rfl (op_move rfl (hK _ _ (Below.refl _ _) ⟨(rs_at (l := [15]) (t := fun d => a.tmps.getD d undef) (d := 15) rfl).symm, _, e15, rfl, by intro p hp; simp only [List.mem_singleton] at hp; subst hp; rfl⟩))
    · intro a wk hx hb hg K hK
      have g13 := fk_m (src := 15) (m := 2) (ks := [(1, .bool b)]) (hg 2 13 (by kernel_rfl) rfl)
      obtain ⟨vs, e13, hm, hk⟩ := g13
      exact step_run rfl (op_extract e13 (Array.getElem?_eq_getElem (by omega)) (hK _ _ (Below.refl _ _) ⟨vs, (rs_at (l := [13]) (t := fun d => a.tmps.getD d undef) (d := 13) rfl).trans e13, Array.getElem?_eq_getElem (by omega)⟩))
    · intro a wk hx hb hg K hK
      have g13 := fk_m (src := 15) (m := 2) (ks := [(1, .bool b)]) (hg 2 13 (by kernel_rfl) rfl)
      obtain ⟨vs, e13, hm, hk⟩ := g13
      exact step_run rfl (op_extract e13 (hk (1, _) (List.mem_singleton.2 rfl)) (hK _ _ (Below.refl _ _) rfl))
    · intro a wk hx hb hg K hK
      exact step_run rfl (op_alloc (al_int _) (hK _ _ ((Below.refl _ _).alloc (Nat.le_refl _) _) ⟨rfl, size_alloc _ _, Box.new _ _ rfl rfl⟩))
  intro t3 lo3 hi3 V3 hb2 hF hD
  obtain ⟨j15, k15, m15, a15, ha15, ⟨x15_0, e15, hio15_0⟩, hfr15⟩ : _ ∧ _ ∧ _ ∧ (.nb Z b : Fk).says _ (lo3 1) (hi3 1) V3 (t3 15) := hF 1 15 rfl
  obtain ⟨j5, k5, m5, e5, hh5, hX5⟩ : _ ∧ _ ∧ _ ∧ (.np [Value.bool false, Value.slice none 0 0] : Fk).says _ (lo3 5) (hi3 5) V3 (t3 5) := hF 5 5 rfl
  have em16 : t3 13 = t3 15 := (hF 2 13 rfl).2.2.2.1.trans (rs_at (l := [15]) (t := t3) (d := 15) rfl)
  have e16 : t3 16 = x15_0 := by obtain ⟨vs, h1, h2⟩ : ∃ vs : Array Value, rs [13] t3 13 = .tuple vs ∧ vs[0]? = some (t3 16) := (hF 3 16 rfl).2.2.2; rw [rs_at rfl, em16, e15] at h1; injection h1 with h1; subst h1; injection h2 with h2; exact h2.symm
  clear em16
  obtain ⟨na16, ao16, nn16, ac16, ex16⟩ := hio15_0.opq
  rw [ex16] at hio15_0 e16
  have q1 := hD 1 5 (by decide) (by decide) (by decide)
  have e17 : t3 17 = .bool b := (hF 4 17 rfl).2.2.2
  clear hF hD
  obtain ⟨b15, eb15⟩ : ∃ b, b = lo3 1 := ⟨_, rfl⟩
  obtain ⟨b5, eb5⟩ : ∃ b, b = lo3 5 := ⟨_, rfl⟩
  rw [← eb15] at hio15_0 hfr15 q1 j15 k15
  rw [← ha15] at q1 k15 m15
  rw [← eb5] at e5 hX5 q1 hh5 j5 k5
  rw [hh5] at q1 m5
  clear ha15 hh5 eb15 eb5 k15 k5
  have hbs := hB.size
  have hga : w.heap.size ≤ b5 := Nat.le_trans hbs j5
  have hd_J16_a : b5 < b15 ∨ a15.heap.size ≤ b5 := q1.symm
  clear q1 j15 m15 j5 m5 hbs
  have hB' := bw_below hB (hb2)
  clear hb2
  clear hB
  have hB := hB'
  clear hB'
  have J16 := Lib.hid hio15_0
  have FJ16 := hfr15
  clear hio15_0 hfr15
  have hXa := hX5; clear hX5
  
  show wpList _ _ _ [_, _] _ _
  simp only [e5, e16, e17]
  clear e5 e16 e17
  refine wl_store (b := b5) rfl rfl hXa ?_
  refine wl_assign rfl ?_
  simp only [Act.put, List.setIfInBounds_toArray, List.set_cons_zero, List.set_cons_succ]
  refine wpList_nil ?_
  go_upto_region 4 with (fail)
  refine wp_gen fun W1 hW => ?_
  have hm1 : V3.heap.size ≤ W1.heap.size := by rw [hW]; (first | (simp only [size_alloc, size_drew, size_drewN, size_set]; (repeat (first | exact Nat.le_refl _ | refine Nat.le_succ_of_le ?_)); done) | omega | (simp only [size_alloc, size_drew, size_drewN, size_set]; omega) | (simp only [size_alloc, size_drew, size_drewN, size_set]; done))
  have hB' : Below w.heap.size w W1 := by rw [hW]; (repeat (first | (with_reducible assumption) | exact Below.refl _ _ | (with_reducible refine Below.drew ?_) | (with_reducible refine belowN ?_ _) | (with_reducible refine bw_alloc ?_ _) | ((with_reducible refine bw_set ?_ ?_ _ _); (focus (with_reducible assumption)))))
  have hXa' : Box W1 (b5) [Value.bool na16, Value.slice ao16 nn16 ac16] := by rw [hW]; (repeat (first | (with_reducible assumption) | (with_reducible refine Box.drew ?_) | (with_reducible refine Box.drewN ?_ _) | ((with_reducible refine Box.new _ _ ?_ ?_); (focus (first | (with_reducible exact rfl) | (simp only [size_alloc, size_drew, size_drewN, size_set]; done))); (focus (exact rfl))) | (with_reducible refine Box.alloc ?_ _) | ((with_reducible refine Box.put ?_ ?_ _ _ ?_); rotate_left) | ((with_reducible refine Box.set ?_ ?_ _ _); (focus (first | (with_reducible assumption) | (refine Ne.symm ?_; (with_reducible assumption))))) | (exact rfl)))
  have FJ16' : Fr a15 (b15) W1 := by rw [hW]; (repeat (first | (with_reducible assumption) | exact Fr.refl _ _ | (with_reducible refine Fr.drew ?_) | (with_reducible refine Fr.drewN ?_ _) | (with_reducible refine Fr.alloc ?_ _) | ((with_reducible refine Fr.set ?_ ?_ _); (focus (with_reducible assumption)))))
  clear hW
  clear FJ16 hXa hB
  have hB := hB'; have hXa := hXa'; have FJ16 := FJ16'
  clear hB' hXa' FJ16'
  refine wp_region_facts7 (by kernel_rfl) (fun i => (Fk.at [.nv (.string s), .nb Z b, .nm 20 2 [(1, .bool b)], .ne 18 0, .nv (.bool b), .np [Value.bool false, Value.slice none 0 0]] i).says) (fun i => List.getD [[], [], [20], [18], [], []] i []) [19, 20, 18, 21, 22, 7] ?A4 6 [] [] (fun _ => rfl) (fun h => absurd rfl h) ?hA4 _ rfl (by kernel_rfl) (by kernel_rfl) (fun _ _ _ _ _ _ _ => Fk.keep _) ?steps4 ?fin4
  case hA4 => intro t; (try simp only [putAll, Act.put, List.setIfInBounds_toArray, List.set_cons_zero, List.set_cons_succ]); (try exact rfl)
  case steps4 =>
    refine ⟨?_, ?_, ?_, ?_, ?_, ?_, trivial⟩
    · intro a wk hx hb hg K hK
      have g0 : a.tmps.getD 0 undef = .string s := hx 0 (by kernel_rfl)
      exact step_run rfl (op_move g0 (hK _ _ (Below.refl _ _) rfl))
    · intro a wk hx hb hg K hK
      have g19 : a.tmps.getD 19 undef = .string s := fk_v (hg 0 19 (by kernel_rfl) rfl)
      exact step_run rfl (op_call1 (by kernel_rfl) (by rw [g19]; exact refParseB_law _ HS1.out HZ.out HOK.out) (TellsB.step hK))
    · intro a wk hx hb hg K hK
      have g20 := fk_b (z := Z) (b := b) (hg 1 20 (by kernel_rfl) rfl)
      obtain ⟨x20, e20⟩ := g20
      exact step_run rfl (op_move rfl (hK _ _ (Below.refl _ _) ⟨(rs_at (l := [20]) (t := fun d => a.tmps.getD d undef) (d := 20) rfl).symm, _, e20, rfl, by intro p hp; simp only [List.mem_singleton] at hp; subst hp; rfl⟩))
    · intro a wk hx hb hg K hK
      have g18 := fk_m (src := 20) (m := 2) (ks := [(1, .bool b)]) (hg 2 18 (by kernel_rfl) rfl)
      obtain ⟨vs, e18, hm, hk⟩ := g18
      exact step_run rfl (op_extract e18 (Array.getElem?_eq_getElem (by omega)) (hK _ _ (Below.refl _ _) ⟨vs, (rs_at (l := [18]) (t := fun d => a.tmps.getD d undef) (d := 18) rfl).trans e18, Array.getElem?_eq_getElem (by omega)⟩))
    · intro a wk hx hb hg K hK
      have g18 := fk_m (src := 20) (m := 2) (ks := [(1, .bool b)]) (hg 2 18 (by kernel_rfl) rfl)
      obtain ⟨vs, e18, hm, hk⟩ := g18
      exact step_run rfl (op_extract e18 (hk (1, _) (List.mem_singleton.2 rfl)) (hK _ _ (Below.refl _ _) rfl))
    · intro a wk hx hb hg K hK
      exact step_run rfl (op_alloc (al_int _) (hK _ _ ((Below.refl _ _).alloc (Nat.le_refl _) _) ⟨rfl, size_alloc _ _, Box.new _ _ rfl rfl⟩))
  intro t4 lo4 hi4 V4 hb2 hF hD
  obtain ⟨j20, k20, m20, a20, ha20, ⟨x20_0, e20, hio20_0⟩, hfr20⟩ : _ ∧ _ ∧ _ ∧ (.nb Z b : Fk).says _ (lo4 1) (hi4 1) V4 (t4 20) := hF 1 20 rfl
  obtain ⟨j7, k7, m7, e7, hh7, hX7⟩ : _ ∧ _ ∧ _ ∧ (.np [Value.bool false, Value.slice none 0 0] : Fk).says _ (lo4 5) (hi4 5) V4 (t4 7) := hF 5 7 rfl
  have em21 : t4 18 = t4 20 := (hF 2 18 rfl).2.2.2.1.trans (rs_at (l := [20]) (t := t4) (d := 20) rfl)
  have e21 : t4 21 = x20_0 := by obtain ⟨vs, h1, h2⟩ : ∃ vs : Array Value, rs [18] t4 18 = .tuple vs ∧ vs[0]? = some (t4 21) := (hF 3 21 rfl).2.2.2; rw [rs_at rfl, em21, e20] at h1; injection h1 with h1; subst h1; injection h2 with h2; exact h2.symm
  clear em21
  obtain ⟨na21, ao21, nn21, ac21, ex21⟩ := hio20_0.opq
  rw [ex21] at hio20_0 e21
  have q1 := hD 1 5 (by decide) (by decide) (by decide)
  have e22 : t4 22 = .bool b := (hF 4 22 rfl).2.2.2
  clear hF hD
  obtain ⟨b20, eb20⟩ : ∃ b, b = lo4 1 := ⟨_, rfl⟩
  obtain ⟨b7, eb7⟩ : ∃ b, b = lo4 5 := ⟨_, rfl⟩
  rw [← eb20] at hio20_0 hfr20 q1 j20 k20
  rw [← ha20] at q1 k20 m20
  rw [← eb7] at e7 hX7 q1 hh7 j7 k7
  rw [hh7] at q1 m7
  clear ha20 hh7 eb20 eb7 k20 k7
  have hbs := hB.size
  have hlta := hXa.lt
  have hszJ16 := FJ16.size
  have hgc : w.heap.size ≤ b7 := Nat.le_trans hbs j7
  have hn_c_a : b7 ≠ b5 := Nat.ne_of_gt (Nat.lt_of_lt_of_le hlta j7)
  have hd_J16_c : b7 < b15 ∨ a15.heap.size ≤ b7 := .inr (Nat.le_trans hszJ16 j7)
  have hd_J21_c : b7 < b20 ∨ a20.heap.size ≤ b7 := q1.symm
  have hd_J21_a : b5 < b20 ∨ a20.heap.size ≤ b5 := .inl (Nat.lt_of_lt_of_le hlta j20)
  clear q1 j20 m20 j7 m7 hlta hszJ16 hbs
  have hB' := bw_below hB (hb2)
  have hXa' := hXa.below (hb2)
  have FJ16' := FJ16.below (hb2)
  clear hb2
  clear FJ16 hXa hB
  have hB := hB'; have hXa := hXa'; have FJ16 := FJ16'
  clear hB' hXa' FJ16'
  have J21 := Lib.hid hio20_0
  have FJ21 := hfr20
  clear hio20_0 hfr20
  have hXc := hX7; clear hX7
  
  show wpList _ _ _ [_, _] _ _
  simp only [e7, e21, e22]
  clear e7 e21 e22
  refine wl_store (b := b7) rfl rfl hXc ?_
  refine wl_assign rfl ?_
  simp only [Act.put, List.setIfInBounds_toArray, List.set_cons_zero, List.set_cons_succ]
  refine wpList_nil ?_
  go_upto_region 5 with (fail)
  refine wp_gen fun W2 hW => ?_
  have hm2 : V4.heap.size ≤ W2.heap.size := by rw [hW]; (first | (simp only [size_alloc, size_drew, size_drewN, size_set]; (repeat (first | exact Nat.le_refl _ | refine Nat.le_succ_of_le ?_)); done) | omega | (simp only [size_alloc, size_drew, size_drewN, size_set]; omega) | (simp only [size_alloc, size_drew, size_drewN, size_set]; done))
  have hB' : Below w.heap.size w W2 := by rw [hW]; (repeat (first | (with_reducible assumption) | exact Below.refl _ _ | (with_reducible refine Below.drew ?_) | (with_reducible refine belowN ?_ _) | (with_reducible refine bw_alloc ?_ _) | ((with_reducible refine bw_set ?_ ?_ _ _); (focus (with_reducible assumption)))))
  have hXa' : Box W2 (b5) [Value.bool na16, Value.slice ao16 nn16 ac16] := by rw [hW]; (repeat (first | (with_reducible assumption) | (with_reducible refine Box.drew ?_) | (with_reducible refine Box.drewN ?_ _) | ((with_reducible refine Box.new _ _ ?_ ?_); (focus (first | (with_reducible exact rfl) | (simp only [size_alloc, size_drew, size_drewN, size_set]; done))); (focus (exact rfl))) | (with_reducible refine Box.alloc ?_ _) | ((with_reducible refine Box.put ?_ ?_ _ _ ?_); rotate_left) | ((with_reducible refine Box.set ?_ ?_ _ _); (focus (first | (with_reducible assumption) | (refine Ne.symm ?_; (with_reducible assumption))))) | (exact rfl)))
  have hXc' : Box W2 (b7) [Value.bool na21, Value.slice ao21 nn21 ac21] := by rw [hW]; (repeat (first | (with_reducible assumption) | (with_reducible refine Box.drew ?_) | (with_reducible refine Box.drewN ?_ _) | ((with_reducible refine Box.new _ _ ?_ ?_); (focus (first | (with_reducible exact rfl) | (simp only [size_alloc, size_drew, size_drewN, size_set]; done))); (focus (exact rfl))) | (with_reducible refine Box.alloc ?_ _) | ((with_reducible refine Box.put ?_ ?_ _ _ ?_); rotate_left) | ((with_reducible refine Box.set ?_ ?_ _ _); (focus (first | (with_reducible assumption) | (refine Ne.symm ?_; (with_reducible assumption))))) | (exact rfl)))
  have FJ16' : Fr a15 (b15) W2 := by rw [hW]; (repeat (first | (with_reducible assumption) | exact Fr.refl _ _ | (with_reducible refine Fr.drew ?_) | (with_reducible refine Fr.drewN ?_ _) | (with_reducible refine Fr.alloc ?_ _) | ((with_reducible refine Fr.set ?_ ?_ _); (focus (with_reducible assumption)))))
  have FJ21' : Fr a20 (b20) W2 := by rw [hW]; (repeat (first | (with_reducible assumption) | exact Fr.refl _ _ | (with_reducible refine Fr.drew ?_) | (with_reducible refine Fr.drewN ?_ _) | (with_reducible refine Fr.alloc ?_ _) | ((with_reducible refine Fr.set ?_ ?_ _); (focus (with_reducible assumption)))))
  clear hW
  clear FJ21 FJ16 hXc hXa hB
  have hB := hB'; have hXa := hXa'; have hXc := hXc'; have FJ16 := FJ16'; have FJ21 := FJ21'
  clear hB' hXa' hXc' FJ16' FJ21'
  refine wp_region_facts7 (by kernel_rfl) (fun i => (Fk.at [.nv (.bool b), .nv (.bool b), .nv (.bool true), .nv (.bool true), .ni Z, .ni Z, .nv (.bool true), .nv (.bool true), .nv (.bool true), .nv (.int .i64 n), .no n, .nv (.int .i64 n), .no n, .nv (.bool true), .nv (.bool true), .nv (.bool true), .nv (.bool true), .nv (.bool true), .nv (.bool true)] i).says) (fun i => List.getD [] i []) [23, 24, 25, 26, 27, 28, 29, 30, 31, 32, 33, 34, 35, 36, 37, 38, 39, 40, 4] ?A5 19 [] [] (fun _ => rfl) (fun h => absurd rfl h) ?hA5 _ rfl (by kernel_rfl) (by kernel_rfl) (fun _ _ _ _ _ _ _ => Fk.keep _) ?steps5 ?fin5
  case hA5 => intro t; (try simp only [putAll, Act.put, List.setIfInBounds_toArray, List.set_cons_zero, List.set_cons_succ]); (try exact rfl)
  case steps5 =>
    refine ⟨?_, ?_, ?_, ?_, ?_, ?_, ?_, ?_, ?_, ?_, ?_, ?_, ?_, ?_, ?_, ?_, ?_, ?_, ?_, trivial⟩
    · intro a wk hx hb hg K hK
      have g6 : a.tmps.getD 6 undef = .bool b := hx 6 (by kernel_rfl)
      exact step_run rfl (op_move g6 (hK _ _ (Below.refl _ _) rfl))
    · intro a wk hx hb hg K hK
      have g8 : a.tmps.getD 8 undef = .bool b := hx 8 (by kernel_rfl)
      exact step_run rfl (op_move g8 (hK _ _ (Below.refl _ _) rfl))
    · intro a wk hx hb hg K hK
      have g23 : a.tmps.getD 23 undef = .bool b := fk_v (hg 0 23 (by kernel_rfl) rfl)
      have g24 : a.tmps.getD 24 undef = .bool b := fk_v (hg 1 24 (by kernel_rfl) rfl)
      exact step_run rfl (op_bin g23 g24 ((bin_eqB Tryz.underlying4).trans (congrArg (fun x => Result.ok (Value.bool x) wk) (by simp))) (hK _ _ (Below.refl _ _) rfl))
    · intro a wk hx hb hg K hK
      have g25 : a.tmps.getD 25 undef = .bool true := fk_v (hg 2 25 (by kernel_rfl) rfl)
      exact step_run rfl (op_move g25 (hK _ _ (Below.refl _ _) rfl))
    · intro a wk hx hb hg K hK
      have g5 : a.tmps.getD 5 undef = .pointer (some ⟨b5, 0, none⟩) := hx 5 (by kernel_rfl)
      have g26 : a.tmps.getD 26 undef = .bool true := fk_v (hg 3 26 (by kernel_rfl) rfl)
      exact step_run (wanted_some (d := 26) rfl g26 rfl) (op_load g5 (ld_int _ _ 0 _ _ (hXa.below hb).c0 (hXa.below hb).c1) (hK _ _ (Below.refl _ _) ((J16.out.fr FJ16).i2.keep hb)))
    · intro a wk hx hb hg K hK
      have g7 : a.tmps.getD 7 undef = .pointer (some ⟨b7, 0, none⟩) := hx 7 (by kernel_rfl)
      have g26 : a.tmps.getD 26 undef = .bool true := fk_v (hg 3 26 (by kernel_rfl) rfl)
      exact step_run (wanted_some (d := 26) rfl g26 rfl) (op_load g7 (ld_int _ _ 0 _ _ (hXc.below hb).c0 (hXc.below hb).c1) (hK _ _ (Below.refl _ _) ((J21.out.fr FJ21).i2.keep hb)))
    · intro a wk hx hb hg K hK
      have g27 := fk_i (z := Z) (hg 4 27 (by kernel_rfl) rfl)
      have g28 := fk_i (z := Z) (hg 5 28 (by kernel_rfl) rfl)
      have g26 : a.tmps.getD 26 undef = .bool true := fk_v (hg 3 26 (by kernel_rfl) rfl)
      exact step_run (wanted_some (d := 26) rfl g26 rfl) (op_call2 (by kernel_rfl) (same_law g27 g28 (BZ.out) (by decide) (by simp)) (TellsV.step hK))
    · intro a wk hx hb hg K hK
      have g26 : a.tmps.getD 26 undef = .bool true := fk_v (hg 3 26 (by kernel_rfl) rfl)
      have g29 : a.tmps.getD 29 undef = .bool true := fk_v (hg 6 29 (by kernel_rfl) rfl)
      exact step_run rfl (op_pickT g26 g29 (hK _ _ (Below.refl _ _) rfl))
    · intro a wk hx hb hg K hK
      have g30 : a.tmps.getD 30 undef = .bool true := fk_v (hg 7 30 (by kernel_rfl) rfl)
      exact step_run rfl (op_move g30 (hK _ _ (Below.refl _ _) rfl))
    · intro a wk hx hb hg K hK
      have g1 : a.tmps.getD 1 undef = .int .i64 n := hx 1 (by kernel_rfl)
      have g31 : a.tmps.getD 31 undef = .bool true := fk_v (hg 8 31 (by kernel_rfl) rfl)
      exact step_run (wanted_some (d := 31) rfl g31 rfl) (op_move g1 (hK _ _ (Below.refl _ _) rfl))
    · intro a wk hx hb hg K hK
      have g32 : a.tmps.getD 32 undef = .int .i64 n := fk_v (hg 9 32 (by kernel_rfl) rfl)
      have g31 : a.tmps.getD 31 undef = .bool true := fk_v (hg 8 31 (by kernel_rfl) rfl)
      exact step_run (wanted_some (d := 31) rfl g31 rfl) (op_call1 (by kernel_rfl) (by rw [g32]; exact of_law n n _ HN1.out HN2.out rfl) (TellsO.step hK))
    · intro a wk hx hb hg K hK
      have g1 : a.tmps.getD 1 undef = .int .i64 n := hx 1 (by kernel_rfl)
      have g31 : a.tmps.getD 31 undef = .bool true := fk_v (hg 8 31 (by kernel_rfl) rfl)
      exact step_run (wanted_some (d := 31) rfl g31 rfl) (op_move g1 (hK _ _ (Below.refl _ _) rfl))
    · intro a wk hx hb hg K hK
      have g34 : a.tmps.getD 34 undef = .int .i64 n := fk_v (hg 11 34 (by kernel_rfl) rfl)
      have g31 : a.tmps.getD 31 undef = .bool true := fk_v (hg 8 31 (by kernel_rfl) rfl)
      exact step_run (wanted_some (d := 31) rfl g31 rfl) (op_call1 (by kernel_rfl) (by rw [g34]; exact refOf_law n _ HN1.out HN2.out) (TellsO.step hK))
    · intro a wk hx hb hg K hK
      have g33 := fk_o (z := n) (hg 10 33 (by kernel_rfl) rfl)
      have g35 := fk_o (z := n) (hg 12 35 (by kernel_rfl) rfl)
      have g31 : a.tmps.getD 31 undef = .bool true := fk_v (hg 8 31 (by kernel_rfl) rfl)
      exact step_run (wanted_some (d := 31) rfl g31 rfl) (op_call2 (by kernel_rfl) (same_law g33 g35 (Bn.out) (by decide) (by simp)) (TellsV.step hK))
    · intro a wk hx hb hg K hK
      have g31 : a.tmps.getD 31 undef = .bool true := fk_v (hg 8 31 (by kernel_rfl) rfl)
      have g36 : a.tmps.getD 36 undef = .bool true := fk_v (hg 13 36 (by kernel_rfl) rfl)
      exact step_run rfl (op_pickT g31 g36 (hK _ _ (Below.refl _ _) rfl))
    · intro a wk hx hb hg K hK
      have g37 : a.tmps.getD 37 undef = .bool true := fk_v (hg 14 37 (by kernel_rfl) rfl)
      exact step_run rfl (op_move g37 (hK _ _ (Below.refl _ _) rfl))
    · intro a wk hx hb hg K hK
      have g38 : a.tmps.getD 38 undef = .bool true := fk_v (hg 15 38 (by kernel_rfl) rfl)
      exact step_run (wanted_some (d := 38) rfl g38 rfl) (op_call0 (by kernel_rfl) (awake2_any _ (HT.out.keep (bw_below hB hb))) (TellsV.step hK))
    · intro a wk hx hb hg K hK
      have g38 : a.tmps.getD 38 undef = .bool true := fk_v (hg 15 38 (by kernel_rfl) rfl)
      have g39 : a.tmps.getD 39 undef = .bool true := fk_v (hg 16 39 (by kernel_rfl) rfl)
      exact step_run rfl (op_pickT g38 g39 (hK _ _ (Below.refl _ _) rfl))
    · intro a wk hx hb hg K hK
      have g40 : a.tmps.getD 40 undef = .bool true := fk_v (hg 17 40 (by kernel_rfl) rfl)
      exact step_run rfl (op_assign g40 (hK _ _ (Below.refl _ _) rfl))
  intro t5 lo5 hi5 V5 hb2 hF hD
  have gb : t5 4 = .bool true := (hF 18 4 rfl).2.2.2
  clear hF hD
  refine wpList_nil ?_
  simp only [gb]
  go_wp2_with fail
  go_ret
  exact ⟨rfl, bw_below hB hb2⟩

theorem numTexts_any (s : ByteArray) (n : Int) (w : World) (hn1 : -9223372036854775808 ≤ n) (hn2 : n ≤ 9223372036854775807) (htab : Tab w) :
    Calls Tryz.prog 3 #[.string s, .int .i64 n] w fun e w' => e = .returned (.bool true) ∧ Below w.heap.size w w' := by
  by_cases h : (4000 : Int) < (s.size : Int)
  · exact numTexts_far s n w hn1 hn2 h htab
  · exact numTexts_near s n w hn1 hn2 h htab

end Go.Proofs.YtemcpgfoggdaiaaGreatDoor
