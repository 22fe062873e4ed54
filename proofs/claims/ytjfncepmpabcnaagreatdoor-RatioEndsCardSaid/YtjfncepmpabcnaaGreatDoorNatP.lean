/- nat.Of. -/
import Derived.Test.YtjfncepmpabcnaaGreatDoorNatO
namespace Go.Proofs.YtjfncepmpabcnaaGreatDoor
open Go.RowKit

/-- The number of decimal digits. -/
def numF (acc : Nat) (l : List UInt8) : Nat := l.foldl (fun a c => a * 10 + (c.toNat - 48)) acc
def numD (l : List UInt8) : Nat := numF 0 l
theorem numF_cons (acc : Nat) (c : UInt8) (r : List UInt8) : numF acc (c :: r) = numF (acc * 10 + (c.toNat - 48)) r := by simp only [numF, List.foldl_cons]
theorem numF_nil (acc : Nat) : numF acc [] = acc := by simp only [numF, List.foldl_nil]
theorem numF_acc (l : List UInt8) : ∀ acc, numF acc l = acc * 10 ^ l.length + numD l := by
  induction l with
  | nil => intro acc; simp [numF_nil, numD]
  | cons c r ih =>
    intro acc
    rw [numD, numF_cons, numF_cons, ih, ih (0 * 10 + _), List.length_cons, Nat.pow_succ]
    rw [Nat.add_mul, Nat.zero_mul, Nat.zero_add, Nat.mul_assoc, Nat.mul_comm 10, Nat.add_assoc]
theorem numD_append (l m : List UInt8) : numD (l ++ m) = numD l * 10 ^ m.length + numD m := by
  rw [← numF_acc]
  simp only [numD, numF, List.foldl_append]
theorem numD_lt (l : List UInt8) (h : decB l = true) : numD l < 10 ^ l.length := by
  induction l with
  | nil => simp [numD, numF_nil]
  | cons c r ih =>
    have h1 : isDig c = true ∧ decB r = true := by simpa [decB] using h
    have h2 := ih h1.2
    have h3 : c.toNat - 48 ≤ 9 := by have := h1.1; simp only [isDig, Bool.and_eq_true, decide_eq_true_eq] at this; omega
    rw [numD, numF_cons, numF_acc, List.length_cons, Nat.pow_succ]
    have : (0 * 10 + (c.toNat - 48)) * 10 ^ r.length ≤ 9 * 10 ^ r.length := Nat.mul_le_mul_right _ (by omega)
    omega
theorem decB_take {l : List UInt8} (h : decB l = true) (k : Nat) : decB (l.take k) = true :=
  List.all_eq_true.2 fun c hc => List.all_eq_true.1 h c (List.mem_of_mem_take hc)
theorem decB_drop {l : List UInt8} (h : decB l = true) (k : Nat) : decB (l.drop k) = true :=
  List.all_eq_true.2 fun c hc => List.all_eq_true.1 h c (List.mem_of_mem_drop hc)

theorem parse_dig : ∀ (l : List UInt8) (acc : Nat), decB l = true → (acc + 1) * 10 ^ l.length ≤ 1000000000000000000 → Lib.parseUintM (2 ^ 64 - 1) acc l = .ok (numF acc l) := by
  intro l
  induction l with
  | nil => intro acc _ _; rw [numF_nil]; rfl
  | cons c r ih =>
    intro acc h hb
    have h1 : isDig c = true ∧ decB r = true := by simpa [decB] using h
    have h2 : 48 ≤ c.toNat ∧ c.toNat ≤ 57 := by have := h1.1; simpa only [isDig, Bool.and_eq_true, decide_eq_true_eq] using this
    rw [List.length_cons, Nat.pow_succ] at hb
    have hp : 1 ≤ 10 ^ r.length := Nat.pow_pos (by omega)
    have h3 : (acc + 1) * 10 * 10 ^ r.length ≤ 1000000000000000000 := by
      rw [Nat.mul_assoc, Nat.mul_comm 10]; exact hb
    have h4 : (acc + 1) * 10 * 1 ≤ (acc + 1) * 10 * 10 ^ r.length := Nat.mul_le_mul_left _ hp
    have h5 : (acc * 10 + (c.toNat - 48) + 1) * 10 ^ r.length ≤ (acc + 1) * 10 * 10 ^ r.length := Nat.mul_le_mul_right _ (by omega)
    unfold Lib.parseUintM
    rw [if_pos h2, if_neg (by omega), if_neg (by omega), ih _ h1.2 (by omega), numF_cons]
theorem parse_chunk (l : List UInt8) (h : decB l = true) (h0 : l ≠ []) (h9 : l.length ≤ 9) : Lib.parseUintB 64 l = .ok (numD l) := by
  unfold Lib.parseUintB
  rw [if_neg h0]
  refine parse_dig l 0 h ?_
  have : 10 ^ l.length ≤ 10 ^ 9 := Nat.pow_le_pow_right (by omega) h9
  omega
theorem numD_chunk (l : List UInt8) (h : decB l = true) (h9 : l.length ≤ 9) : numD l < 1000000000 := by
  have h1 := numD_lt l h
  have : 10 ^ l.length ≤ 10 ^ 9 := Nat.pow_le_pow_right (by omega) h9
  omega

/-- One round: the last nine digits, or what is left. -/
theorem of_step {l : List UInt8} {k c : Nat} {ds : List Nat} (hk : k ≤ l.length) (hc : c = k - 9)
    (hi : numD l = numD (l.take k) * 1000000000 ^ ds.length + val 1000000000 ds) :
    numD l = numD (l.take c) * 1000000000 ^ (ds ++ [numD ((l.take k).drop c)]).length + val 1000000000 (ds ++ [numD ((l.take k).drop c)]) := by
  have e : l.take k = l.take c ++ (l.take k).drop c := by
    have := (List.take_append_drop c (l.take k)).symm
    rwa [List.take_take, Nat.min_eq_left (by omega)] at this
  have e1 : numD (l.take k) = numD (l.take c) * 10 ^ ((l.take k).drop c).length + numD ((l.take k).drop c) := by
    rw [← numD_append, ← e]
  rw [val_snoc, List.length_append, List.length_singleton, Nat.pow_succ, hi, e1]
  generalize numD ((l.take k).drop c) = x
  generalize (1000000000 : Nat) ^ ds.length = P
  rcases Nat.eq_zero_or_pos c with h0 | h0
  · rw [h0, List.take_zero, show numD [] = 0 from rfl, Nat.zero_mul, Nat.zero_mul, Nat.zero_add, Nat.mul_comm x P]; omega
  · have : ((l.take k).drop c).length = 9 := by simp; omega
    rw [this, show (10 : Nat) ^ 9 = 1000000000 from rfl, Nat.add_mul, Nat.mul_assoc, Nat.mul_comm 1000000000 P, Nat.mul_comm x P]; omega

/-- Which texts spell numbers. -/
def okT (l : List UInt8) : Bool := !(decide (l.length = 0) || (decide (1 < l.length) && decide (bAt l 0 = 48)) || !decB l)

set_option maxRecDepth 100000 in
theorem ofParse_any (s : ByteArray) (w : World) (h : decB s.data.toList = true) (h0 : s.data.toList ≠ []) (h9 : s.data.toList.length ≤ 9) :
    Calls Tryz.prog 133 #[.string s, .int .i64 10, .int .i64 64] w fun e w' => e = .returned (.tuple #[.int .u64 (numD s.data.toList : Nat), .nilIface]) ∧ Below w.heap.size w w' := by
  have hs : s.size ≤ 9 := by have : s.size = s.data.toList.length := by rw [Array.length_toList]; rfl
                             omega
  refine (Tryz.strconv_ParseUint_10_at64_ok s (by omega) _ (parse_chunk _ h h0 h9) w).mono ?_
  rintro e w' ⟨rfl, h⟩
  refine ⟨rfl, ?_⟩
  rcases h with rfl | rfl
  · exact Below.refl _ _
  · exact Lib.bytesWorld_below _ _ _

theorem ext_list (s : ByteArray) (a b : Nat) : (s.extract a b).data.toList = (s.data.toList.take b).drop a := by
  rw [ByteArray.data_extract, Array.toList_extract, List.extract_eq_take_drop, List.drop_take]
def lenS : Value → Nat
  | .string t => t.size
  | _ => 0

/-- What nat.Of makes of a text. -/
def ofR (l : List UInt8) : List Nat := if okT l then digs 1000000000 (numD l) else []
theorem ofR_no {l : List UInt8} (h : okT l = false) : ofR l = [] := by rw [ofR, h]; rfl
theorem ofR_ok {l : List UInt8} (h : okT l = true) : ofR l = digs 1000000000 (numD l) := by rw [ofR, if_pos h]

set_option maxRecDepth 100000 in
set_option maxHeartbeats 2000000 in
theorem natOf_any (s : ByteArray) (w : World) (h1 : s.size ≤ 1000000) :
    Calls Tryz.prog 100 #[.string s] w fun e w' => ∃ u, e = .returned (.tuple #[u, .bool (okT s.data.toList)]) ∧ Own w' w.heap.size 103 .u32 u (ofR s.data.toList) ∧ Below w.heap.size w w' := by
  obtain ⟨i0, hi, hz0, hz1, hz2⟩ := info_parts Tryz.infoU64
  obtain ⟨l, hl⟩ : ∃ l, l = s.data.toList := ⟨_, rfl⟩
  rw [← hl]
  have hsz : s.size = l.length := by rw [hl, Array.length_toList]; rfl
  have hE : s.toList = l := by rw [ByteArray.toList_eq, hl]
  have HL := Lib.hid hl
  clear hl
  by_cases h0 : l = []
  · have hok : okT l = false := by simp [okT, h0]
    have hE2 : s.toList.isEmpty = true := by rw [hE, h0]; rfl
    have HO := Lib.hid hok
    clear hok hE
    go_enter Tryz.func100, Tryz.ntmps100
    go_wp2_with fail
    go_ret2
    exact ⟨_, by rw [HO.out]; rfl, by rw [ofR_no HO.out]; exact World.ownsRow_nil _ _ _ _, Below.refl _ _⟩
  have hE2 : s.toList.isEmpty = false := by rw [hE]; simp [h0]
  have hlp : 0 < l.length := List.length_pos_iff.2 h0
  have HAT : Hid (bAt l 0 = (s[0]'(by omega)).toNat) := by
    unfold Hid
    have : 0 < s.data.toList.length := by rw [← HL.out]; omega
    have h : bAt s.data.toList 0 = (s[0]'(by omega)).toNat := by
      rw [bAt, List.getD_eq_getElem?_getD, List.getElem?_eq_getElem this]
      simp [ByteArray.getElem_eq_getElem_data]
    rwa [← HL.out] at h
  clear hE
  by_cases h2 : 1 < l.length ∧ bAt l 0 = 48
  · have hok : okT l = false := by simp [okT, h2.1, h2.2]
    have h21 : (1 : Int) < (l.length : Int) := by omega
    have h22 : ((s[0]'(by omega)).toNat : Int) = 48 := by have := HAT.out; omega
    have HO := Lib.hid hok
    clear hok
    go_enter Tryz.func100, Tryz.ntmps100
    go_wp2_with fail
    go_ret2
    exact ⟨_, by rw [HO.out]; rfl, by rw [ofR_no HO.out]; exact World.ownsRow_nil _ _ _ _, Below.refl _ _⟩
  have hokd : okT l = decB l := by
    simp only [okT, h0, List.length_eq_zero_iff, decide_false, Bool.false_or]
    have : (decide (1 < l.length) && decide (bAt l 0 = 48)) = false := by simpa using h2
    rw [this]; simp
  have HO := Lib.hid hokd
  clear hokd
  have hcase : (((1 : Int) < (l.length : Int)) ∧ (((s[0]'(by omega)).toNat : Int) == 48) = false) ∨ ¬ ((1 : Int) < (l.length : Int)) := by
    by_cases h : 1 < l.length
    · left
      refine ⟨by omega, ?_⟩
      have := HAT.out
      simp only [beq_eq_false_iff_ne, ne_eq]
      intro hc
      exact h2 ⟨h, by omega⟩
    · right; omega
  clear h2 HAT
  by_cases hd : decB l = true
  · have hok : okT l = true := by rw [HO.out, hd]
    have HO2 := Lib.hid hok
    have HD := Lib.hid hd
    clear hok hd
    rcases hcase with ⟨h21, h22⟩ | h21
    all_goals
      go_enter Tryz.func100, Tryz.ntmps100
      go_wp2_with (go_at_call 132; refine (decimal_any s _ (by omega)).mono ?_; rintro e w1 ⟨rfl, rfl⟩; rw [← HL.out, HD.out])
      go_loopw [0, 4] (fun t i wr => ∃ (st : ByteArray) (k : Nat) (ds : List Nat), t = .string st ∧ st.data.toList = l.take k ∧ k ≤ l.length ∧ Own wr w.heap.size 72 .u64 i ds ∧ (∀ x ∈ ds, x < 1000000000) ∧ numD l = numD (l.take k) * 1000000000 ^ ds.length + val 1000000000 ds ∧ ds.length + k ≤ l.length ∧ Below w.heap.size w wr) (fun t _ _ => lenS t)
      case atStart => exact ⟨s, l.length, [], rfl, by rw [← HL.out, List.take_length], by omega, World.ownsRow_nil _ _ _ _, by simp, by simp [val], by simp, Below.refl _ _⟩
      case round =>
        obtain ⟨st, k, ds, rfl, hst, hk, hown, hlt, hval, hlen, hbl⟩ := hrel
        have HST := Lib.hid hst
        have hsk : st.size = k := by
          have : st.size = st.data.toList.length := by rw [Array.length_toList]; rfl
          rw [this, HST.out]; simp; omega
        have HOW := Lib.hid hown
        have HLT := Lib.hid hlt
        have HVA := Lib.hid hval
        have HBL := Lib.hid hbl
        obtain ⟨o, oc, rfl, _, hom, _, _⟩ := hown.rd
        have hsw := hbl.size
        clear hst hown hlt hval hbl
        by_cases hk0 : 0 < k
        · have hch : (st.extract (k - 9) k).data.toList = (l.take k).drop (k - 9) := by rw [ext_list, HST.out, List.take_take, Nat.min_self]
          have hcn : ((l.take k).drop (k - 9)).length = k - (k - 9) := by simp; omega
          have hcd : decB ((l.take k).drop (k - 9)) = true := decB_drop (decB_take HD.out _) _
          have hx9 := numD_chunk _ hcd (by omega)
          have HSTEP := Lib.hid (of_step (c := k - 9) hk rfl HVA.out)
          have hcall := ofParse_any (st.extract (k - 9) k) wr (by rw [hch]; exact hcd) (by rw [hch]; intro h; rw [h] at hcn; simp at hcn; omega) (by rw [hch]; omega)
          rw [hch] at hcall
          generalize numD ((l.take k).drop (k - 9)) = x at hcall hx9 HSTEP
          clear hch hcn hcd
          go_wp2_with fail
          rw [show max ((k : Int) - 9) 0 = ((k - 9 : Nat) : Int) by omega, show (((k - 9 : Nat) : Int)).toNat = k - 9 from rfl]
          refine hcall.mono ?_
          rintro e w2 ⟨rfl, hb2⟩
          clear hcall
          have hs2 := hb2.size
          have HOW2 := Lib.hid (HOW.out.keep hb2)
          have HBL2 := Lib.hid (HBL.out.trans (hb2.mono hsw))
          clear hb2
          have hc1 : ((k - 9 : Nat) : Int) ≤ (k : Int) := by omega
          have hc0 : (0 : Int) ≤ ((k - 9 : Nat) : Int) := by omega
          go_wp2_with fail
          go_region_law (refine appS rfl _ _ 114 rfl 72 .u64 i0 8 Tryz.underlying114 hi hz0 hz1 hz2 w.heap.size _ ds rfl ((HOW2.out.keep (by (repeat (first | exact Below.refl _ _ | assumption | refine Below.drew ?_ | refine belowN ?_ _ | refine Below.alloc ?_ (by first | omega | simp only [size_alloc, size_drew, size_drewN] <;> omega) _))))) _ [x] rfl ((rd_box _ _ _ _ _ rfl).drew) (by simp; unfold maxLen; omega) (by simp; omega) (by simp only [size_alloc, size_drew]; omega) ?_; intro v' w3 hown3 hbk)
          go_simp
          go_wp2_with fail
          go_roundw
          case rel =>
            refine ⟨_, k - 9, ds ++ [x], rfl, ?_, by omega, hown3, ?_, HSTEP.out, by simp; omega, HBL2.out.trans ?_⟩
            · rw [ext_list, HST.out, List.drop_zero, List.take_take, Nat.min_eq_left (by omega)]
            · intro y hy
              rcases List.mem_append.1 hy with h | h
              · exact HLT.out y h
              · simp at h; omega
            · exact (((Below.refl w.heap.size w2).alloc (by omega) _).drew).trans hbk
          case measure => simp [lenS]; omega
        · obtain rfl : k = 0 := by omega
          have hval : numD l = val 1000000000 ds := by
            have := HVA.out
            rwa [List.take_zero, show numD [] = 0 from rfl, Nat.zero_mul, Nat.zero_add] at this
          go_wp2_with fail
          refine (carried_any _ ds _ HOW.out.rd (by omega) (fun y hy => Nat.le_trans (Nat.le_of_lt (HLT.out y hy)) (by omega))).mono ?_
          rintro e w2 ⟨u, rfl, hu, hb2⟩
          rw [← hval] at hu
          have hdl : (digs 1000000000 (numD l)).length ≤ l.length := digs_length_le _ (by omega) _ _ (Nat.lt_of_lt_of_le (numD_lt l HD.out) (Nat.pow_le_pow_left (by omega) _))
          go_wp2_with fail
          refine (row_any _ _ _ hu.rd (by omega) (fun y hy => Nat.lt_trans (digs_lt _ (by omega) _ y hy) (by omega))).mono ?_
          rintro e w3 ⟨r, rfl, hr, hb3⟩
          have hs2 := hb2.size
          go_wp2_with fail
          go_ret2
          exact ⟨_, by rw [HO2.out]; rfl, by rw [ofR_ok HO2.out]; exact hr.low (by omega), (HBL.out.trans (hb2.mono hsw)).trans (hb3.mono (by omega))⟩
  · have hd : decB l = false := by simpa using hd
    have hok : okT l = false := by rw [HO.out, hd]
    have HO2 := Lib.hid hok
    have HD := Lib.hid hd
    clear hok hd
    rcases hcase with ⟨h21, h22⟩ | h21
    all_goals
      go_enter Tryz.func100, Tryz.ntmps100
      go_wp2_with (go_at_call 132; refine (decimal_any s _ (by omega)).mono ?_; rintro e w1 ⟨rfl, rfl⟩; rw [← HL.out, HD.out])
      go_ret2
      exact ⟨_, by rw [HO2.out]; rfl, by rw [ofR_no HO2.out]; exact World.ownsRow_nil _ _ _ _, Below.refl _ _⟩

end Go.Proofs.YtjfncepmpabcnaaGreatDoor
