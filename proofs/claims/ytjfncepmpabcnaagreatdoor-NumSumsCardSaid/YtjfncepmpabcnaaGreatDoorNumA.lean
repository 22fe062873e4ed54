/- num: a number's parts. -/
import Derived.Test.YtjfncepmpabcnaaGreatDoorNatI
import Derived.Test.YtjfncepmpabcnaaGreatDoorZBase
namespace Go.Proofs.YtjfncepmpabcnaaGreatDoor
open Go.RowKit
set_option linter.unusedSimpArgs false
set_option linter.unusedVariables false
attribute [local go_sem ↓] Go.wp_at_zero Go.wp_at_succ

set_option maxHeartbeats 400000 in
theorem sizeZero_any (ao : Option Addr) (n ac : Nat) (w : World) :
    Calls Tryz.prog 64 #[.agg #[.slice ao n ac]] w fun e w' => e = .returned (.bool ((n : Int) == 0)) ∧ Below w.heap.size w w' := by
  go_enter Tryz.func64, Tryz.ntmps64
  go_wp2_with fail
  go_ret
  exact ⟨rfl, bw_alloc (Below.refl _ _) _⟩

set_option maxHeartbeats 400000 in
theorem sizeCmp_any (v u : Value) (l m : List Nat) (w : World) (hv : RdI w v .u32 l) (hu : RdI w u .u32 m) (h1 : l.length ≤ 1000000) (h2 : ∀ x ∈ l, x < 4294967296) (h3 : m.length ≤ 1000000) (h4 : ∀ x ∈ m, x < 4294967296) :
    Calls Tryz.prog 104 #[.agg #[v], .agg #[u]] w fun e w' => e = .returned (.int .i64 (cmpI (val 1000000000 l : Nat) (val 1000000000 m : Nat))) ∧ Below w.heap.size w w' := by
  obtain ⟨ao, ac, rfl⟩ := rd_sl hv
  obtain ⟨bo, bc, rfl⟩ := rd_sl hu
  have HV := Lib.hid hv
  have HU := Lib.hid hu
  have H2 := Lib.hid h2
  have H4 := Lib.hid h4
  clear hv hu h2 h4
  go_enter Tryz.func104, Tryz.ntmps104
  go_wp2_with fail
  have hB := Below.refl w.heap.size w
  refine calls_gen fun W1 hW => ?_
  have hm1 : w.heap.size ≤ W1.heap.size := by rw [hW]; (first | omega | (simp only [size_alloc, size_drew, size_drewN, size_set]; omega) | (simp only [size_alloc, size_drew, size_drewN, size_set]; done))
  have hB' : Below w.heap.size w W1 := by rw [hW]; (repeat (first | (with_reducible assumption) | exact Below.refl _ _ | (with_reducible refine Below.drew ?_) | (with_reducible refine belowN ?_ _) | (with_reducible refine bw_alloc ?_ _) | ((with_reducible refine bw_set ?_ ?_ _ _); (focus (with_reducible assumption)))))
  clear hW
  clear hB
  have hB := hB'
  clear hB'
  refine (natCmp_any _ _ l m _ (HV.out.keep hB) (HU.out.keep hB) (by omega) H2.out (by omega) H4.out).mono ?_
  rintro e W2 ⟨rfl, hb⟩
  have hL : Below W1.heap.size W1 W2 := hb
  have hm2 := hL.size
  have hB' := bw_below hB hL
  clear hL hb
  clear hB
  have hB := hB'
  clear hB'
  go_wp2_with fail
  go_ret
  exact ⟨rfl, hB⟩

set_option maxRecDepth 100000 in
set_option maxHeartbeats 1000000 in
theorem made_any (v : Value) (neg : Bool) (l : List Nat) (w : World) (hv : RdI w v .u32 l) (h1 : l.length ≤ 1000000) (h2 : ∀ x ∈ l, x < 4294967296) :
    Calls Tryz.prog 66 #[v, .bool neg] w fun e w' => ∃ u, e = .returned u ∧ NB w' w.heap.size 103 u (zV neg l) ∧ Below w.heap.size w w' := by
  obtain ⟨ao, ac, rfl⟩ := rd_sl hv
  have HV := Lib.hid hv
  have H2 := Lib.hid h2
  have HZN : Hid (zNeg (zV neg l) = (neg && decide (0 < val 1000000000 l))) := zNeg_of _ _
  have HZA : Hid ((zV neg l).natAbs = val 1000000000 l) := zOf_abs _ _
  have HL0 : Hid ((((digs 1000000000 (val 1000000000 l)).length : Int) == 0) = !decide (0 < val 1000000000 l)) := digs_len0 _
  clear hv h2
  go_enter Tryz.func66, Tryz.ntmps66
  go_wp2_with fail
  have hB := Below.refl w.heap.size w
  have hbs := hB.size
  have hgr : w.heap.size ≤ w.heap.size := by omega
  clear hbs
  refine calls_gen fun W1 hW => ?_
  have hm1 : w.heap.size ≤ W1.heap.size := by rw [hW]; (first | omega | (simp only [size_alloc, size_drew, size_drewN, size_set]; omega) | (simp only [size_alloc, size_drew, size_drewN, size_set]; done))
  have hB' : Below w.heap.size w W1 := by rw [hW]; (repeat (first | (with_reducible assumption) | exact Below.refl _ _ | (with_reducible refine Below.drew ?_) | (with_reducible refine belowN ?_ _) | (with_reducible refine bw_alloc ?_ _) | ((with_reducible refine bw_set ?_ ?_ _ _); (focus (with_reducible assumption)))))
  have hXr' : Box W1 (w.heap.size) [Value.slice none 0 0, Value.bool false] := by rw [hW]; (repeat (first | (with_reducible assumption) | (with_reducible refine Box.drew ?_) | (with_reducible refine Box.drewN ?_ _) | ((with_reducible refine Box.new _ _ ?_ ?_); (focus (first | (with_reducible exact rfl) | (simp only [size_alloc, size_drew, size_drewN, size_set]; done))); (focus (exact rfl))) | (with_reducible refine Box.alloc ?_ _) | ((with_reducible refine Box.put ?_ ?_ _ _ ?_); rotate_left) | ((with_reducible refine Box.set ?_ ?_ _ _); (focus (first | (with_reducible assumption) | (refine Ne.symm ?_; (with_reducible assumption))))) | (exact rfl)))
  clear hW
  clear hB
  have hB := hB'; have hXr := hXr'
  clear hB' hXr'
  have hcr_0 := hXr.c0; have hfr_0 := hXr.free 0; have hcr_1 := hXr.c1; have hfr_1 := hXr.free 1
  refine (natTrim_any _ l _ (HV.out.keep hB) (by omega) H2.out).mono ?_
  rintro e W2 ⟨u, rfl, hu, hb⟩
  obtain ⟨uo, uc, rfl⟩ := rd_sl hu.rd
  have hNB : NB W2 W1.heap.size 103 (.agg #[Value.slice uo (digs 1000000000 (val 1000000000 l)).length uc, .bool (zNeg (zV neg l))]) (zV neg l) := ⟨_, rfl, by rw [HZA.out]; exact hu⟩
  clear hu
  rw [HZN.out] at hNB
  have hL : Below W1.heap.size W1 W2 := hb
  have hm2 := hL.size
  have hB' := bw_below hB hL
  have hXr' := hXr.below hL
  have NX := Lib.hid hNB
  have hd_NX_r : w.heap.size < W1.heap.size ∨ W2.heap.size ≤ w.heap.size := .inl hXr.lt
  have FNX' := Fr.refl (W1.heap.size) W2
  clear hL hb hNB
  clear hfr_1 hcr_1 hfr_0 hcr_0 hXr hB
  have hB := hB'; have hXr := hXr'; have FNX := FNX'
  clear hB' hXr' FNX'
  have hcr_0 := hXr.c0; have hfr_0 := hXr.free 0; have hcr_1 := hXr.c1; have hfr_1 := hXr.free 1
  go_wp2_with fail
  have hbs := hB.size
  have hltr := hXr.lt
  have hszNX := FNX.size
  have hgs : w.heap.size ≤ W2.heap.size := by omega
  have hn_s_r : W2.heap.size ≠ w.heap.size := by omega
  have hd_NX_s : W2.heap.size < W1.heap.size ∨ W2.heap.size ≤ W2.heap.size := .inr (by omega)
  clear hbs hltr hszNX
  refine wp_gen fun W3 hW => ?_
  have hm3 : W2.heap.size ≤ W3.heap.size := by rw [hW]; (first | omega | (simp only [size_alloc, size_drew, size_drewN, size_set]; omega) | (simp only [size_alloc, size_drew, size_drewN, size_set]; done))
  have hB' : Below w.heap.size w W3 := by rw [hW]; (repeat (first | (with_reducible assumption) | exact Below.refl _ _ | (with_reducible refine Below.drew ?_) | (with_reducible refine belowN ?_ _) | (with_reducible refine bw_alloc ?_ _) | ((with_reducible refine bw_set ?_ ?_ _ _); (focus (with_reducible assumption)))))
  have hXr' : Box W3 (w.heap.size) [Value.slice none 0 0, Value.bool false] := by rw [hW]; (repeat (first | (with_reducible assumption) | (with_reducible refine Box.drew ?_) | (with_reducible refine Box.drewN ?_ _) | ((with_reducible refine Box.new _ _ ?_ ?_); (focus (first | (with_reducible exact rfl) | (simp only [size_alloc, size_drew, size_drewN, size_set]; done))); (focus (exact rfl))) | (with_reducible refine Box.alloc ?_ _) | ((with_reducible refine Box.put ?_ ?_ _ _ ?_); rotate_left) | ((with_reducible refine Box.set ?_ ?_ _ _); (focus (first | (with_reducible assumption) | (refine Ne.symm ?_; (with_reducible assumption))))) | (exact rfl)))
  have hXs' : Box W3 (W2.heap.size) [Value.slice uo (digs 1000000000 (val 1000000000 l)).length uc] := by rw [hW]; (repeat (first | (with_reducible assumption) | (with_reducible refine Box.drew ?_) | (with_reducible refine Box.drewN ?_ _) | ((with_reducible refine Box.new _ _ ?_ ?_); (focus (first | (with_reducible exact rfl) | (simp only [size_alloc, size_drew, size_drewN, size_set]; done))); (focus (exact rfl))) | (with_reducible refine Box.alloc ?_ _) | ((with_reducible refine Box.put ?_ ?_ _ _ ?_); rotate_left) | ((with_reducible refine Box.set ?_ ?_ _ _); (focus (first | (with_reducible assumption) | (refine Ne.symm ?_; (with_reducible assumption))))) | (exact rfl)))
  have FNX' : Fr W2 (W1.heap.size) W3 := by rw [hW]; (repeat (first | (with_reducible assumption) | exact Fr.refl _ _ | (with_reducible refine Fr.drew ?_) | (with_reducible refine Fr.drewN ?_ _) | (with_reducible refine Fr.alloc ?_ _) | ((with_reducible refine Fr.set ?_ ?_ _); (focus (with_reducible assumption)))))
  clear hW
  clear hfr_1 hcr_1 hfr_0 hcr_0 FNX hXr hB
  have hB := hB'; have hXr := hXr'; have hXs := hXs'; have FNX := FNX'
  clear hB' hXr' hXs' FNX'
  have hcr_0 := hXr.c0; have hfr_0 := hXr.free 0; have hcr_1 := hXr.c1; have hfr_1 := hXr.free 1; have hcs_0 := hXs.c0
  cases neg
  · rw [Bool.false_and] at NX
    go_still_tail 8, (by kernel_rfl)
    go_wp2_with fail
    refine ret_gen fun W4 hW => ?_
    have hm4 : W3.heap.size ≤ W4.heap.size := by rw [hW]; (first | omega | (simp only [size_alloc, size_drew, size_drewN, size_set]; omega) | (simp only [size_alloc, size_drew, size_drewN, size_set]; done))
    have hB' : Below w.heap.size w W4 := by rw [hW]; (repeat (first | (with_reducible assumption) | exact Below.refl _ _ | (with_reducible refine Below.drew ?_) | (with_reducible refine belowN ?_ _) | (with_reducible refine bw_alloc ?_ _) | ((with_reducible refine bw_set ?_ ?_ _ _); (focus (with_reducible assumption)))))
    have hXr' : Box W4 (w.heap.size) [Value.slice uo (digs 1000000000 (val 1000000000 l)).length uc, Value.bool false] := by rw [hW]; (repeat (first | (with_reducible assumption) | (with_reducible refine Box.drew ?_) | (with_reducible refine Box.drewN ?_ _) | ((with_reducible refine Box.new _ _ ?_ ?_); (focus (first | (with_reducible exact rfl) | (simp only [size_alloc, size_drew, size_drewN, size_set]; done))); (focus (exact rfl))) | (with_reducible refine Box.alloc ?_ _) | ((with_reducible refine Box.put ?_ ?_ _ _ ?_); rotate_left) | ((with_reducible refine Box.set ?_ ?_ _ _); (focus (first | (with_reducible assumption) | (refine Ne.symm ?_; (with_reducible assumption))))) | (exact rfl)))
    have hXs' : Box W4 (W2.heap.size) [Value.slice uo (digs 1000000000 (val 1000000000 l)).length uc] := by rw [hW]; (repeat (first | (with_reducible assumption) | (with_reducible refine Box.drew ?_) | (with_reducible refine Box.drewN ?_ _) | ((with_reducible refine Box.new _ _ ?_ ?_); (focus (first | (with_reducible exact rfl) | (simp only [size_alloc, size_drew, size_drewN, size_set]; done))); (focus (exact rfl))) | (with_reducible refine Box.alloc ?_ _) | ((with_reducible refine Box.put ?_ ?_ _ _ ?_); rotate_left) | ((with_reducible refine Box.set ?_ ?_ _ _); (focus (first | (with_reducible assumption) | (refine Ne.symm ?_; (with_reducible assumption))))) | (exact rfl)))
    have FNX' : Fr W2 (W1.heap.size) W4 := by rw [hW]; (repeat (first | (with_reducible assumption) | exact Fr.refl _ _ | (with_reducible refine Fr.drew ?_) | (with_reducible refine Fr.drewN ?_ _) | (with_reducible refine Fr.alloc ?_ _) | ((with_reducible refine Fr.set ?_ ?_ _); (focus (with_reducible assumption)))))
    clear hW
    clear hcs_0 hfr_1 hcr_1 hfr_0 hcr_0 FNX hXs hXr hB
    have hB := hB'; have hXr := hXr'; have hXs := hXs'; have FNX := FNX'
    clear hB' hXr' hXs' FNX'
    have hcr_0 := hXr.c0; have hfr_0 := hXr.free 0; have hcr_1 := hXr.c1; have hfr_1 := hXr.free 1; have hcs_0 := hXs.c0
    refine bodyPost_ret (v := .agg #[Value.slice uo (digs 1000000000 (val 1000000000 l)).length uc, Value.bool false]) (by simp [results, Tryz.results66, go_sem, hcr_0, hcr_1]) rfl ?_
    exact ⟨_, rfl, (NX.out.fr FNX).low (by omega), hB⟩
  · rw [Bool.true_and] at NX
    go_region_held3 (fun w' => w'.cell? ⟨W2.heap.size, 0, none⟩ = some (Value.slice uo (digs 1000000000 (val 1000000000 l)).length uc)) ((go_split_ands; ((repeat' apply And.intro) <;> (first | (with_reducible assumption) | ((repeat (first | (with_reducible assumption) | (with_reducible refine cs_drew ?_) | (with_reducible refine cs_drewN ?_ _) | (with_reducible refine cs_alloc ?_ _) | ((with_reducible refine cs_put ?_ ?_); rotate_left) | ((with_reducible refine cs_off ?_ ?_); (focus (decide))) | ((with_reducible refine cs_set ?_ ?_); (focus (first | (with_reducible assumption) | (refine Ne.symm ?_; (with_reducible assumption))))))); done) | (refine cs_below hbk ?_; ((repeat (first | (with_reducible assumption) | (with_reducible refine cs_drew ?_) | (with_reducible refine cs_drewN ?_ _) | (with_reducible refine cs_alloc ?_ _) | ((with_reducible refine cs_put ?_ ?_); rotate_left) | ((with_reducible refine cs_off ?_ ?_); (focus (decide))) | ((with_reducible refine cs_set ?_ ?_); (focus (first | (with_reducible assumption) | (refine Ne.symm ?_; (with_reducible assumption))))))); done))))))
      (first | (go_at_call 64; (with_reducible refine (sizeZero_any _ _ _ _).mono ?_); rintro e w2 ⟨rfl, hbk⟩; rw [HL0.out]; have hmw2 : W3.heap.size ≤ w2.heap.size := (by refine Nat.le_trans ?_ hbk.size; (first | omega | (simp only [size_alloc, size_drew, size_drewN, size_set]; omega) | (simp only [size_alloc, size_drew, size_drewN, size_set]; done))); have hBw2 : Below w.heap.size w w2 := (by refine bw_below ?_ hbk; (repeat (first | (with_reducible assumption) | exact Below.refl _ _ | (with_reducible refine Below.drew ?_) | (with_reducible refine belowN ?_ _) | (with_reducible refine bw_alloc ?_ _) | ((with_reducible refine bw_set ?_ ?_ _ _); (focus (with_reducible assumption)))))); have FNXw2 : Fr W2 (W1.heap.size) w2 := (by refine Fr.below ?_ hbk; (repeat (first | (with_reducible assumption) | exact Fr.refl _ _ | (with_reducible refine Fr.drew ?_) | (with_reducible refine Fr.drewN ?_ _) | (with_reducible refine Fr.alloc ?_ _) | ((with_reducible refine Fr.set ?_ ?_ _); (focus (with_reducible assumption)))))); have hXrw2 : Box w2 (w.heap.size) [Value.slice none 0 0, Value.bool false] := (by refine Box.below ?_ hbk; (repeat (first | (with_reducible assumption) | (with_reducible refine Box.drew ?_) | (with_reducible refine Box.drewN ?_ _) | ((with_reducible refine Box.new _ _ ?_ ?_); (focus (first | (with_reducible exact rfl) | (simp only [size_alloc, size_drew, size_drewN, size_set]; done))); (focus (exact rfl))) | (with_reducible refine Box.alloc ?_ _) | ((with_reducible refine Box.put ?_ ?_ _ _ ?_); rotate_left) | ((with_reducible refine Box.set ?_ ?_ _ _); (focus (first | (with_reducible assumption) | (refine Ne.symm ?_; (with_reducible assumption))))) | (exact rfl)))); have hcr_0w2 := hXrw2.c0; have hfr_0w2 := hXrw2.free 0; have hcr_1w2 := hXrw2.c1; have hfr_1w2 := hXrw2.free 1; have hXsw2 : Box w2 (W2.heap.size) [Value.slice uo (digs 1000000000 (val 1000000000 l)).length uc] := (by refine Box.below ?_ hbk; (repeat (first | (with_reducible assumption) | (with_reducible refine Box.drew ?_) | (with_reducible refine Box.drewN ?_ _) | ((with_reducible refine Box.new _ _ ?_ ?_); (focus (first | (with_reducible exact rfl) | (simp only [size_alloc, size_drew, size_drewN, size_set]; done))); (focus (exact rfl))) | (with_reducible refine Box.alloc ?_ _) | ((with_reducible refine Box.put ?_ ?_ _ _ ?_); rotate_left) | ((with_reducible refine Box.set ?_ ?_ _ _); (focus (first | (with_reducible assumption) | (refine Ne.symm ?_; (with_reducible assumption))))) | (exact rfl)))); have hcs_0w2 := hXsw2.c0))
    go_wp2_with fail
    refine ret_gen fun W4 hW => ?_
    have hm4 : w2.heap.size ≤ W4.heap.size := by rw [hW]; (first | omega | (simp only [size_alloc, size_drew, size_drewN, size_set]; omega) | (simp only [size_alloc, size_drew, size_drewN, size_set]; done))
    have hB' : Below w.heap.size w W4 := by rw [hW]; (repeat (first | (with_reducible assumption) | exact Below.refl _ _ | (with_reducible refine Below.drew ?_) | (with_reducible refine belowN ?_ _) | (with_reducible refine bw_alloc ?_ _) | ((with_reducible refine bw_set ?_ ?_ _ _); (focus (with_reducible assumption)))))
    have hXr' : Box W4 (w.heap.size) [Value.slice uo (digs 1000000000 (val 1000000000 l)).length uc, Value.bool (decide (0 < val 1000000000 l))] := by rw [hW]; (repeat (first | (with_reducible assumption) | (with_reducible refine Box.drew ?_) | (with_reducible refine Box.drewN ?_ _) | ((with_reducible refine Box.new _ _ ?_ ?_); (focus (first | (with_reducible exact rfl) | (simp only [size_alloc, size_drew, size_drewN, size_set]; done))); (focus (exact rfl))) | (with_reducible refine Box.alloc ?_ _) | ((with_reducible refine Box.put ?_ ?_ _ _ ?_); rotate_left) | ((with_reducible refine Box.set ?_ ?_ _ _); (focus (first | (with_reducible assumption) | (refine Ne.symm ?_; (with_reducible assumption))))) | (exact rfl)))
    have hXs' : Box W4 (W2.heap.size) [Value.slice uo (digs 1000000000 (val 1000000000 l)).length uc] := by rw [hW]; (repeat (first | (with_reducible assumption) | (with_reducible refine Box.drew ?_) | (with_reducible refine Box.drewN ?_ _) | ((with_reducible refine Box.new _ _ ?_ ?_); (focus (first | (with_reducible exact rfl) | (simp only [size_alloc, size_drew, size_drewN, size_set]; done))); (focus (exact rfl))) | (with_reducible refine Box.alloc ?_ _) | ((with_reducible refine Box.put ?_ ?_ _ _ ?_); rotate_left) | ((with_reducible refine Box.set ?_ ?_ _ _); (focus (first | (with_reducible assumption) | (refine Ne.symm ?_; (with_reducible assumption))))) | (exact rfl)))
    have FNX' : Fr W2 (W1.heap.size) W4 := by rw [hW]; (repeat (first | (with_reducible assumption) | exact Fr.refl _ _ | (with_reducible refine Fr.drew ?_) | (with_reducible refine Fr.drewN ?_ _) | (with_reducible refine Fr.alloc ?_ _) | ((with_reducible refine Fr.set ?_ ?_ _); (focus (with_reducible assumption)))))
    clear hW
    clear hcs_0 hfr_1 hcr_1 hfr_0 hcr_0 FNX hXs hXr hB
    have hB := hB'; have hXr := hXr'; have hXs := hXs'; have FNX := FNX'
    clear hB' hXr' hXs' FNX'
    have hcr_0 := hXr.c0; have hfr_0 := hXr.free 0; have hcr_1 := hXr.c1; have hfr_1 := hXr.free 1; have hcs_0 := hXs.c0
    refine bodyPost_ret (v := .agg #[Value.slice uo (digs 1000000000 (val 1000000000 l)).length uc, Value.bool (decide (0 < val 1000000000 l))]) (by simp [results, Tryz.results66, go_sem, hcr_0, hcr_1]) rfl ?_
    exact ⟨_, rfl, (NX.out.fr FNX).low (by omega), hB⟩

end Go.Proofs.YtjfncepmpabcnaaGreatDoor
