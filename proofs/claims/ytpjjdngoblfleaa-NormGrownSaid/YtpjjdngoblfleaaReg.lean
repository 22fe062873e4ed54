/- A region that draws its order, by an invariant: each operation once, whatever came before it. -/
import Derived.Test.YtpjjdngoblfleaaBox
import Derived.OrdersHeld
namespace Go.Proofs.Ytpjjdngoblfleaa
open Go.RowKit

/-- How many have not come up. -/
def unl : List Bool → Nat
  | [] => 0
  | b :: l => (if b then 0 else 1) + unl l
theorem unl_set : ∀ (l : List Bool) (i : Nat), l[i]? = some false → unl (l.set i true) + 1 = unl l
  | [], i, h => by simp at h
  | b :: l, 0, h => by simp at h; subst h; simp [unl]; omega
  | b :: l, i + 1, h => by
    simp only [List.getElem?_cons_succ] at h
    have := unl_set l i h
    simp only [List.set_cons_succ, unl]
    omega
theorem unl_zero : ∀ (l : List Bool), unl l = 0 → ∀ i, l.getD i true = true
  | [], _, i => by simp
  | b :: l, h, 0 => by cases b <;> simp [unl] at *
  | b :: l, h, i + 1 => by
    have : unl l = 0 := by simp only [unl] at h; omega
    simpa using unl_zero l this i
theorem unl_replicate : ∀ n, unl (List.replicate n false) = n
  | 0 => rfl
  | n + 1 => by rw [List.replicate_succ, unl, unl_replicate n]; simp; omega

section
variable {P : Program} {ops : Array Oper} {Q : Exit → Act → World → Prop} {md : Region.Mode}

theorem wpAny_inv (I : Array Bool → Act → World → Prop)
    (step : ∀ listed a w, I listed a w → ∀ i, i < ops.size → listed.getD i true = false → (∀ o, ops[i]? = some o → ∀ e ∈ o.after, Region.binds md e = true → listed.getD e.on false = true) →
      wpOp P ops Q i (fun a' w' => I (listed.setIfInBounds i true) a' w') a w)
    (fin : ∀ listed a w, I listed a w → Region.ready md ops listed = [] → Q .normal a w) :
    ∀ (fuel : Nat) (listed : Array Bool) (a : Act) (w : World), unl listed.toList ≤ fuel → I listed a w → wpAny P md ops Q fuel listed a w := by
  intro fuel
  induction fuel with
  | zero =>
    intro listed a w hf hI
    have hr : Region.ready md ops listed = [] := by
      rw [List.eq_nil_iff_forall_not_mem]
      intro i hi
      have h1 := (mem_ready.1 hi).1
      have h2 := unl_zero listed.toList (by omega) i
      rw [Array.getD_eq_getD_getElem?] at h1
      rw [List.getD_eq_getElem?_getD, Array.getElem?_toList] at h2
      rw [h1] at h2; cases h2
    exact ⟨hr, fin _ _ _ hI hr⟩
  | succ fuel ih =>
    intro listed a w hf hI
    refine ⟨fin _ _ _ hI, fun i hi => ?_⟩
    obtain ⟨h1, o, h2, h3⟩ := mem_ready.1 hi
    have hio : i < ops.size := (Array.getElem?_eq_some_iff.1 h2).1
    refine wpOp_mono (fun a' w' h => ih _ a' w' ?_ h) (step listed a w hI i hio h1 (fun o' ho' => by rw [h2] at ho'; injection ho' with ho'; subst ho'; exact h3))
    have h4 : listed.toList[i]? = some false := by
      rw [Array.getElem?_toList]
      rw [Array.getD_eq_getD_getElem?] at h1
      cases h5 : listed[i]? with
      | none => rw [h5] at h1; cases h1
      | some b => rw [h5] at h1; simp at h1; rw [h1]
    have := unl_set _ _ h4
    rw [Array.toList_setIfInBounds]
    omega

/-- A region that draws its order: an invariant over what has come up. -/
theorem wp_region_inv {id : Nat} {a : Act} {w : World} (hm : P.follows .mixedOrders = true) (I : Array Bool → Act → World → Prop)
    (h0 : I (Array.replicate ops.size false) a { w with drawn := w.drawn + 1 })
    (step : ∀ listed a w, I listed a w → ∀ i, i < ops.size → listed.getD i true = false → (∀ o, ops[i]? = some o → ∀ e ∈ o.after, Region.binds .any e = true → listed.getD e.on false = true) →
      wpOp P ops Q i (fun a' w' => I (listed.setIfInBounds i true) a' w') a w)
    (fin : ∀ listed a w, I listed a w → Region.ready .any ops listed = [] → Q .normal a w) : (Code.region id ops true).wp P Q a w :=
  wp_region_any hm (wpAny_inv I step fin _ _ _ _ (by rw [Array.toList_replicate, unl_replicate]; exact Nat.le_refl _) h0)

/-- The same where the order is the text's. -/
theorem wpOps_inv (I : Array Bool → Act → World → Prop) (hacy : ∀ (i : Nat) (o : Oper), ops[i]? = some o → ∀ e ∈ o.after, Region.binds .any e = true → e.on < i)
    (step : ∀ listed a w, I listed a w → ∀ i, i < ops.size → listed.getD i true = false → (∀ o, ops[i]? = some o → ∀ e ∈ o.after, Region.binds .any e = true → listed.getD e.on false = true) → (∀ j, j < i → listed.getD j false = true) →
      wpOp P ops Q i (fun a' w' => I (listed.setIfInBounds i true) a' w') a w)
    (fin : ∀ listed a w, I listed a w → Region.ready .any ops listed = [] → Q .normal a w) :
    ∀ (n i : Nat) (listed : Array Bool) (a : Act) (w : World), i + n = ops.size → listed.size = ops.size → (∀ j, j < i → listed.getD j false = true) → (∀ j, i ≤ j → j < ops.size → listed.getD j true = false) → I listed a w →
      wpOps P ops Q (List.range' i n) a w := by
  intro n
  induction n with
  | zero =>
    intro i listed a w hn hs h1 h2 hI
    refine fin listed a w hI ?_
    rw [List.eq_nil_iff_forall_not_mem]
    intro j hj
    obtain ⟨h3, o, h4, _⟩ := mem_ready.1 hj
    have hjo : j < ops.size := (Array.getElem?_eq_some_iff.1 h4).1
    have h5 := h1 j (by omega)
    rw [Array.getD_eq_getD_getElem?, Array.getElem?_eq_getElem (by omega)] at h3 h5
    simp at h3 h5
    rw [h5] at h3; cases h3
  | succ n ih =>
    intro i listed a w hn hs h1 h2 hI
    rw [List.range'_succ, wpOps_cons]
    refine wpOp_mono (fun a' w' h => ih (i + 1) (listed.setIfInBounds i true) a' w' (by omega) (by simpa using hs) ?_ ?_ h) (step listed a w hI i (by omega) (h2 i (Nat.le_refl _) (by omega)) ?_ h1)
    · intro j hj
      rw [Array.getD_eq_getD_getElem?, Array.getElem?_setIfInBounds]
      by_cases hij : i = j
      · rw [if_pos hij, if_pos (by omega)]; rfl
      · rw [if_neg hij, ← Array.getD_eq_getD_getElem?]; exact h1 j (by omega)
    · intro j hj hjs
      rw [Array.getD_eq_getD_getElem?, Array.getElem?_setIfInBounds, if_neg (by omega), ← Array.getD_eq_getD_getElem?]
      exact h2 j (by omega) hjs
    · intro o ho e he hb
      exact h1 _ (hacy i o ho e he hb)
/-- Does every other operation wait for this one, or is it waited for by it, or apart from it? -/
def lateOk (ops : Array Oper) (i : Nat) : Bool := match ops[i]? with
  | none => false
  | some oi => (List.range ops.size).all fun j => j == i || match ops[j]? with
      | some oj => oi.after.any (fun e => Region.binds .any e && e.on == j) || oj.after.any (fun e => Region.binds .any e && e.on == i) || oi.apart ops oj
      | none => true
theorem lateOk_at {i j : Nat} {oi oj : Oper} {listed : Array Bool} (h : lateOk ops i = true) (hi : ops[i]? = some oi) (hj : ops[j]? = some oj) (hr : i ∈ Region.ready .any ops listed) (hji : j ≠ i) (hun : listed.getD j true = false)
    (hno : ∀ e ∈ oj.after, Region.binds .any e = true → e.on ≠ i) : oi.apart ops oj = true := by
  unfold lateOk at h
  simp only [hi, List.all_eq_true, List.mem_range] at h
  have h1 := h j (Array.getElem?_eq_some_iff.1 hj).1
  simp only [hj, Bool.or_eq_true, beq_iff_eq, hji, false_or] at h1
  rcases h1 with (h1 | h1) | h1
  · exfalso
    obtain ⟨e, he, hb⟩ := Array.any_eq_true'.1 h1
    simp only [Bool.and_eq_true, beq_iff_eq] at hb
    obtain ⟨-, o, ho, hall⟩ := mem_ready.1 hr
    rw [hi] at ho; injection ho with ho; subst ho
    have h2 := hall e he hb.1
    rw [hb.2] at h2
    rw [Array.getD_eq_getD_getElem?] at h2 hun
    cases h5 : listed[j]? with
    | none => rw [h5] at h2; cases h2
    | some b => rw [h5] at h2 hun; simp at h2 hun; rw [h2] at hun; cases hun
  · exfalso
    obtain ⟨e, he, hb⟩ := Array.any_eq_true'.1 h1
    simp only [Bool.and_eq_true, beq_iff_eq] at hb
    exact hno e he hb.1 hb.2
  · exact h1
theorem wpAny_inv_late (I : Array Bool → Act → World → Prop) (Lt : List Nat) (hs : Region.noSelect ops = true) (hlate : ∀ i ∈ Lt, lateOk ops i = true)
    (hQ : ∀ c d v a w, Q (.panic c) (a.put d v) w → Q (.panic c) a w)
    (step : ∀ listed a w, I listed a w → (∀ i ∈ Lt, i ∉ Region.ready .any ops listed) → ∀ i, i < ops.size → i ∈ Region.ready .any ops listed →
      wpOp P ops Q i (fun a' w' => I (listed.setIfInBounds i true) a' w') a w)
    (slate : ∀ listed a w, I listed a w → ∀ i ∈ Lt, i ∈ Region.ready .any ops listed → ∃ o v, ops[i]? = some o ∧ Yields P ops o v a ∧ I (listed.setIfInBounds i true) (a.put o.dst v) w)
    (fin : ∀ listed a w, I listed a w → Region.ready .any ops listed = [] → Q .normal a w) :
    ∀ (fuel : Nat) (listed : Array Bool) (a : Act) (w : World), unl listed.toList ≤ fuel → I listed a w → wpAny P .any ops Q fuel listed a w := by
  intro fuel
  induction fuel with
  | zero =>
    intro listed a w hf hI
    have hr : Region.ready .any ops listed = [] := by
      rw [List.eq_nil_iff_forall_not_mem]
      intro i hi
      have h1 := (mem_ready.1 hi).1
      have h2 := unl_zero listed.toList (by omega) i
      rw [Array.getD_eq_getD_getElem?] at h1
      rw [List.getD_eq_getElem?_getD, Array.getElem?_toList] at h2
      rw [h1] at h2; cases h2
    exact ⟨hr, fin _ _ _ hI hr⟩
  | succ fuel ih =>
    intro listed a w hf hI
    have hdec : ∀ i, i ∈ Region.ready .any ops listed → unl (listed.setIfInBounds i true).toList ≤ fuel := by
      intro i hi
      have h1 := (mem_ready.1 hi).1
      have h4 : listed.toList[i]? = some false := by
        rw [Array.getElem?_toList]
        rw [Array.getD_eq_getD_getElem?] at h1
        cases h5 : listed[i]? with
        | none => rw [h5] at h1; cases h1
        | some b => rw [h5] at h1; simp at h1; rw [h1]
      have := unl_set _ _ h4
      rw [Array.toList_setIfInBounds]
      omega
    by_cases hl : ∃ i, i ∈ Lt ∧ i ∈ Region.ready .any ops listed
    · obtain ⟨i, hil, hir⟩ := hl
      obtain ⟨o, v, ho, hy, hI'⟩ := slate listed a w hI i hil hir
      exact wpAny_first ho (Region.noSelect_spec hs) (fun c a w h => hQ c _ _ a w h) fuel listed a w (fun j oj hj hji hun hno => lateOk_at (hlate i hil) ho hj hir hji hun hno) hir hy (ih _ _ _ (hdec i hir) hI')
    · refine ⟨fin _ _ _ hI, fun i hi => ?_⟩
      obtain ⟨h1, o, h2, h3⟩ := mem_ready.1 hi
      have hio : i < ops.size := (Array.getElem?_eq_some_iff.1 h2).1
      exact wpOp_mono (fun a' w' h => ih _ a' w' (hdec i hi) h) (step listed a w hI (fun i h1 h2 => hl ⟨i, h1, h2⟩) i hio hi)
/-- Both kinds of regions: where the order is drawn the late ones are taken as soon as they may; where it is the text's, all ahead of one have come up. -/
theorem wp_region_inv3 {id : Nat} {draw : Bool} {a : Act} {w : World} (hm : P.follows .mixedOrders = true) (hacy : ∀ (i : Nat) (o : Oper), ops[i]? = some o → ∀ e ∈ o.after, Region.binds .any e = true → e.on < i) (I : Array Bool → Act → World → Prop)
    (Lt : List Nat) (hLt : draw = false → Lt = []) (hs : Region.noSelect ops = true) (hlate : ∀ i ∈ Lt, lateOk ops i = true) (hQ : Lt ≠ [] → ∀ c d v a w, Q (.panic c) (a.put d v) w → Q (.panic c) a w)
    (h0 : ∀ w', (w' = w ∨ w' = { w with drawn := w.drawn + 1 }) → I (Array.replicate ops.size false) a w')
    (step : ∀ listed a w, I listed a w → (∀ i ∈ Lt, i ∉ Region.ready .any ops listed) → ∀ i, i < ops.size → i ∈ Region.ready .any ops listed → (draw = false → ∀ j, j < i → listed.getD j false = true) →
      wpOp P ops Q i (fun a' w' => I (listed.setIfInBounds i true) a' w') a w)
    (slate : ∀ listed a w, I listed a w → ∀ i ∈ Lt, i ∈ Region.ready .any ops listed → ∃ o v, ops[i]? = some o ∧ Yields P ops o v a ∧ I (listed.setIfInBounds i true) (a.put o.dst v) w)
    (fin : ∀ listed a w, I listed a w → Region.ready .any ops listed = [] → Q .normal a w) : (Code.region id ops draw).wp P Q a w := by
  cases draw with
  | true =>
    by_cases hl : Lt = []
    · subst hl
      refine wp_region_inv hm I (h0 _ (.inr rfl)) (fun listed a w hI i hi h1 h2 => ?_) fin
      exact step listed a w hI (fun i h => by cases h) i hi (mem_ready.2 ⟨h1, ops[i], Array.getElem?_eq_getElem hi, h2 _ (Array.getElem?_eq_getElem hi)⟩) (fun h => by cases h)
    · exact wp_region_any hm (wpAny_inv_late I Lt hs hlate (hQ hl) (fun listed a w hI hn i hi hr => step listed a w hI hn i hi hr (fun h => by cases h)) slate fin _ _ _ _ (by rw [Array.toList_replicate, unl_replicate]; exact Nat.le_refl _) (h0 _ (.inr rfl)))
  | false =>
    have hl := hLt rfl
    subst hl
    refine wp_region (by
      have := wpOps_inv (P := P) (ops := ops) (Q := Q) I hacy (fun listed a w hI i hi hl ho hp => step listed a w hI (fun _ h => by cases h) i hi (mem_ready.2 ⟨hl, ops[i], Array.getElem?_eq_getElem hi, ho _ (Array.getElem?_eq_getElem hi)⟩) (fun _ => hp)) fin ops.size 0 (Array.replicate ops.size false) a w (by omega) (by simp) (fun j hj => by omega) (fun j _ hj => by
        rw [Array.getD_eq_getD_getElem?, Array.getElem?_replicate, if_pos hj]; rfl) (h0 _ (.inl rfl))
      rw [List.range_eq_range']; exact this)

/-- One operation, written out, what follows behind a name. -/
theorem wpOp_of {i : Nat} {o : Oper} {K : Act → World → Prop} {a : Act} {w : World} (hi : ops[i]? = some o)
    (h : ∀ K' : Act → World → Prop, (∀ a w, K a w → K' a w) → if Region.wanted o (yielded ops a.tmps) = true then o.wp P a w K' Q else K' (a.put o.dst undef) w) : wpOp P ops Q i K a w := by
  have := h K fun _ _ h => h
  unfold wpOp
  simp only [hi]
  split
  · rename_i hw; rw [if_pos hw] at this; exact .inl this
  · rename_i hw; rw [if_neg hw] at this; exact this
/-- All slots of a list get their values. -/
def putAll (t : Nat → Value) : List Nat → Act → Act
  | [], a => a
  | d :: l, a => putAll t l (a.put (some d) (t d))
theorem getD_put (a : Act) (d e : Nat) (v : Value) : (a.put (some d) v).tmps.getD e undef = if e = d ∧ d < a.tmps.size then v else a.tmps.getD e undef := by
  simp only [Act.put, Array.getD_eq_getD_getElem?, Array.getElem?_setIfInBounds]
  by_cases h : d = e
  · subst h
    by_cases hs : d < a.tmps.size
    · simp [hs]
    · simp [hs]
  · rw [if_neg h, if_neg (fun hc => h hc.1.symm)]
theorem putAll_eq : ∀ (l : List Nat) (a0 a : Act), a.tmps.size = a0.tmps.size → a.defers = a0.defers → (∀ d, d ∉ l → a.tmps.getD d undef = a0.tmps.getD d undef) →
    putAll (fun d => a.tmps.getD d undef) l a0 = a
  | [], a0, a, hs, hd, hx => by
    obtain ⟨ts, ds⟩ := a
    obtain ⟨us, es⟩ := a0
    simp only at hs hd hx
    subst hd
    unfold putAll
    congr 1
    refine Array.ext hs.symm fun i h1 h2 => ?_
    have := hx i (by simp)
    simp only [Array.getD_eq_getD_getElem?, Array.getElem?_eq_getElem h1, Array.getElem?_eq_getElem h2, Option.getD_some] at this
    exact this.symm
  | d :: l, a0, a, hs, hd, hx => by
    unfold putAll
    refine putAll_eq l _ a ?_ ?_ ?_
    · rw [hs]; simp [Act.put]
    · rw [hd]; rfl
    · intro e he
      rw [getD_put]
      split
      · rename_i h; rw [h.1]
      · rename_i h
        by_cases hed : e = d
        · subst hed
          have hn : ¬ e < a0.tmps.size := fun hc => h ⟨rfl, hc⟩
          simp only [Array.getD_eq_getD_getElem?]
          rw [Array.getElem?_eq_none (by omega), Array.getElem?_eq_none (by omega)]
        · exact hx e (by simp [hed, he])

def Steps (S : Nat → Oper → Prop) : Nat → List Oper → Prop
  | _, [] => True
  | i, o :: l => S i o ∧ Steps S (i + 1) l
theorem Steps.at {S : Nat → Oper → Prop} : ∀ {n : Nat} {l : List Oper}, Steps S n l → ∀ i o, l[i]? = some o → S (n + i) o
  | _, [], _, i, o, h => by simp at h
  | n, x :: l, hs, 0, o, h => by simp at h; subst h; exact hs.1
  | n, x :: l, hs, i + 1, o, h => by
    have := Steps.at hs.2 i o (by simpa using h)
    rw [show n + (i + 1) = n + 1 + i by omega]; exact this
/-- Is an operation wanted, its guard's value being what it is? -/
def wantedBy (dsts : List Nat) (t : Nat → Value) : Option (Nat × Bool) → Bool
  | none => true
  | some (j, want) => match dsts[j]? with
    | none => false
    | some d => match t d with
      | .bool b => b == want
      | _ => false
def marksOk (os : List Oper) (M : List Nat) (n : Nat) : Bool :=
  (os.zipIdx.all fun p => (List.range p.2).all fun j => !(M.getD p.2 0).testBit j || p.1.after.any (fun e => Region.binds .any e && (e.on == j || (decide (j < e.on) && (M.getD e.on 0).testBit j)))) &&
    os.zipIdx.all fun p => decide (p.2 < n) || (List.range p.2).all fun j => (M.getD p.2 0).testBit j
def acyc (os : List Oper) : Bool := os.zipIdx.all fun p => p.1.after.all fun e => !Region.binds .any e || decide (e.on < p.2)
theorem acyc_at {os : List Oper} (h : acyc os = true) {i : Nat} {o : Oper} (hi : os[i]? = some o) {e : Edge} (he : e ∈ o.after) (hb : Region.binds .any e = true) : e.on < i := by
  unfold acyc at h
  rw [List.all_eq_true] at h
  have := h (o, i) (by rw [List.mem_zipIdx_iff_getElem?]; exact hi)
  rw [Array.all_eq_true_iff_forall_mem] at this
  have h2 := this e he
  rw [hb] at h2
  simpa using h2
theorem marks_at {os : List Oper} {M : List Nat} {n : Nat} (hacy : acyc os = true) (h : marksOk os M n = true) (L : Array Bool)
    (hdown : ∀ (i : Nat) (o : Oper), os[i]? = some o → L.getD i false = true → ∀ e ∈ o.after, Region.binds .any e = true → L.getD e.on false = true) :
    ∀ (k i : Nat), i ≤ k → ∀ o, os[i]? = some o → (∀ e ∈ o.after, Region.binds .any e = true → L.getD e.on false = true) → ∀ j, j < i → (M.getD i 0).testBit j = true → L.getD j false = true := by
  unfold marksOk at h
  rw [Bool.and_eq_true, List.all_eq_true] at h
  intro k
  induction k with
  | zero => intro i hi o ho hd j hj; omega
  | succ k ih =>
    intro i hi o ho hd j hj hb
    have h1 := h.1 (o, i) (by rw [List.mem_zipIdx_iff_getElem?]; exact ho)
    rw [List.all_eq_true] at h1
    have h2 := h1 j (List.mem_range.2 hj)
    dsimp only at h2
    rw [hb, Bool.not_true, Bool.false_or, Array.any_eq_true] at h2
    obtain ⟨q, hq, h2⟩ := h2
    rw [Bool.and_eq_true] at h2
    have h3 := hd _ (Array.getElem_mem hq) h2.1
    have h5 := h2.2
    rw [Bool.or_eq_true, beq_iff_eq] at h5
    rcases h5 with h4 | h4
    · rw [h4] at h3; exact h3
    · rw [Bool.and_eq_true, decide_eq_true_eq] at h4
      have h6 := acyc_at hacy ho (Array.getElem_mem hq) h2.1
      have hol : (o.after[q]).on < os.length := Nat.lt_trans h6 (List.getElem?_eq_some_iff.1 ho).1
      exact ih _ (by omega) _ (List.getElem?_eq_getElem hol) (fun e he hbn => hdown _ _ (List.getElem?_eq_getElem hol) h3 e he hbn) j h4.1 h4.2
theorem getD_set_ne {L : Array Bool} {i j : Nat} (h : j ≠ i) : (L.setIfInBounds i true).getD j false = L.getD j false := by
  rw [Array.getD_eq_getD_getElem?, Array.getElem?_setIfInBounds, if_neg (fun hc => h hc.symm), ← Array.getD_eq_getD_getElem?]
theorem getD_set_self {L : Array Bool} {i : Nat} (h : i < L.size) : (L.setIfInBounds i true).getD i false = true := by
  rw [Array.getD_eq_getD_getElem?, Array.getElem?_setIfInBounds, if_pos rfl, if_pos h]; rfl
theorem getD_tf {L : Array Bool} {i : Nat} (h : L.getD i true = false) : L.getD i false = false := by
  rw [Array.getD_eq_getD_getElem?] at h ⊢
  cases h5 : L[i]? with
  | none => rfl
  | some b => rw [h5] at h; exact h
theorem getD_ft {L : Array Bool} {i : Nat} (hi : i < L.size) (h : L.getD i false = false) : L.getD i true = false := by
  rw [Array.getD_eq_getD_getElem?, Array.getElem?_eq_getElem hi] at h ⊢; exact h

/-- The values of some slots. -/
def rs (l : List Nat) (t : Nat → Value) : Nat → Value := fun d => if l.contains d then t d else undef
theorem rs_congr {l : List Nat} {t t' : Nat → Value} (h : ∀ d ∈ l, t d = t' d) : rs l t = rs l t' := by
  funext d
  unfold rs
  by_cases hd : l.contains d
  · rw [if_pos hd, if_pos hd]; exact h d (by simpa using hd)
  · rw [if_neg hd, if_neg hd]
theorem rs_at {l : List Nat} {t : Nat → Value} {d : Nat} (h : l.contains d = true) : rs l t d = t d := by unfold rs; rw [if_pos h]
/-- The slots that an operation's fact speaks of are those of operations that it waits for. -/
def usesOk (os : List Oper) (dsts : List Nat) (U : Nat → List Nat) : Bool := os.zipIdx.all fun p => (U p.2).all fun d => p.1.after.any fun e => Region.binds .any e && dsts[e.on]? == some d
/-- What each operation of a region has to show: a fact of its value, and of the blocks from lo to hi that it made. -/
def StepAt6 (P : Program) (Q : Exit → Act → World → Prop) (a0 : Act) (w0 : World) (F : Nat → (Nat → Value) → Nat → Nat → World → Value → Prop) (U : Nat → List Nat) (dsts : List Nat) (i : Nat) (o : Oper) : Prop :=
  ∀ (a : Act) (w : World), (∀ e, decide (e ∈ dsts) = false → a.tmps.getD e undef = a0.tmps.getD e undef) → Below w0.heap.size w0 w →
    (∀ j d, o.after.any (fun e => Region.binds .any e && e.on == j) = true → dsts[j]? = some d → ∃ lo hi, w0.heap.size ≤ lo ∧ lo ≤ hi ∧ hi ≤ w.heap.size ∧ F j (rs (U j) fun d => a.tmps.getD d undef) lo hi w (a.tmps.getD d undef)) →
    ∀ K : Act → World → Prop, (∀ w' u, Below w.heap.size w w' → F i (rs (U i) fun d => a.tmps.getD d undef) w.heap.size w'.heap.size w' u → K (a.put o.dst u) w') →
      ∀ k, wantedBy dsts (fun d => a.tmps.getD d undef) o.guard = k → match k with | true => o.wp P a w K Q | false => K (a.put o.dst undef) w
/-- The same marks where late operations may come up behind those that wait for all others. -/
def marksOk7 (os : List Oper) (M Lt : List Nat) (n : Nat) : Bool :=
  (os.zipIdx.all fun p => (List.range p.2).all fun j => !(M.getD p.2 0).testBit j || p.1.after.any (fun e => Region.binds .any e && (e.on == j || (decide (j < e.on) && (M.getD e.on 0).testBit j)))) &&
    os.zipIdx.all fun p => decide (p.2 < n) || (List.range p.2).all fun j => Lt.contains j || (M.getD p.2 0).testBit j
def factsOk7 (os : List Oper) (dsts : List Nat) (n m : Nat) (M Lt : List Nat) (draw : Bool) : Bool :=
  ((os.take n).map (·.dst) == dsts.map some) && decide dsts.Nodup && dsts.all (fun d => decide (d < m)) && acyc os && (!draw || marksOk7 os M Lt n) && decide (n ≤ os.length) && (os.take n).all (fun o => match o.guard with | some (j, _) => decide (j < n) | none => true) &&
    Region.noSelect os.toArray && Lt.all fun i => decide (i < n) && lateOk os.toArray i
theorem marks7_at {os : List Oper} {M Lt : List Nat} {n : Nat} (hacy : acyc os = true) (h : marksOk7 os M Lt n = true) (L : Array Bool) (hsz : L.size = os.length)
    (hdown : ∀ (i : Nat) (o : Oper), os[i]? = some o → L.getD i false = true → ∀ e ∈ o.after, Region.binds .any e = true → L.getD e.on false = true)
    (hnl : ∀ i ∈ Lt, i ∉ Region.ready .any os.toArray L) {i : Nat} {o : Oper} (hn : n ≤ i) (ho : os[i]? = some o) (hd : ∀ e ∈ o.after, Region.binds .any e = true → L.getD e.on false = true) (j : Nat) (hj : j < i) : L.getD j false = true := by
  have hil : i < os.length := (List.getElem?_eq_some_iff.1 ho).1
  have hnon : ∀ j, j < i → ¬ j ∈ Lt → L.getD j false = true := by
    intro j hj hlt
    have h' := h
    unfold marksOk7 at h'
    rw [Bool.and_eq_true] at h'
    refine marks_at (M := M) (n := os.length) hacy ?_ L hdown i i (Nat.le_refl _) o ho hd j hj ?_
    · unfold marksOk
      rw [Bool.and_eq_true]
      refine ⟨h'.1, ?_⟩
      rw [List.all_eq_true]
      rintro ⟨o', k⟩ hz
      rw [List.mem_zipIdx_iff_getElem?] at hz
      have := (List.getElem?_eq_some_iff.1 hz).1
      simp [this]
    · have h1 := h'.2
      rw [List.all_eq_true] at h1
      have h2 := h1 (o, i) (by rw [List.mem_zipIdx_iff_getElem?]; exact ho)
      rw [Bool.or_eq_true, decide_eq_true_eq, List.all_eq_true] at h2
      rcases h2 with h2 | h2
      · dsimp only at h2; omega
      · have h3 := h2 j (List.mem_range.2 hj)
        rw [Bool.or_eq_true] at h3
        rcases h3 with h3 | h3
        · exact absurd (by simpa using h3) hlt
        · exact h3
  have hall : ∀ k j, j < k → j < i → L.getD j false = true := by
    intro k
    induction k with
    | zero => intro j h; omega
    | succ k ih =>
      intro j hjk hji
      by_cases hlt : j ∈ Lt
      · refine Decidable.byContradiction fun hc => ?_
        have hjo : os[j]? = some (os[j]'(by omega)) := List.getElem?_eq_getElem (by omega)
        refine hnl j hlt (mem_ready.2 ⟨?_, os[j]'(by omega), by rw [List.getElem?_toArray]; exact hjo, fun e he hb => ?_⟩)
        · have hc' : L.getD j false = false := by simpa using hc
          rw [Array.getD_eq_getD_getElem?, Array.getElem?_eq_getElem (by omega)] at hc' ⊢; exact hc'
        · have := acyc_at hacy hjo he hb
          exact ih e.on (by omega) (by omega)
      · exact hnon j hji hlt
  exact hall (j + 1) j (by omega) hj
/-- What a late operation has to show: its value hangs on no world. -/
def StepLate (P : Program) (os : List Oper) (a0 : Act) (w0 : World) (F : Nat → (Nat → Value) → Nat → Nat → World → Value → Prop) (U : Nat → List Nat) (dsts : List Nat) (i : Nat) (o : Oper) : Prop :=
  ∀ (a : Act) (w : World), (∀ e, decide (e ∈ dsts) = false → a.tmps.getD e undef = a0.tmps.getD e undef) → Below w0.heap.size w0 w →
    (∀ j d, o.after.any (fun e => Region.binds .any e && e.on == j) = true → dsts[j]? = some d → ∃ lo hi, w0.heap.size ≤ lo ∧ lo ≤ hi ∧ hi ≤ w.heap.size ∧ F j (rs (U j) fun d => a.tmps.getD d undef) lo hi w (a.tmps.getD d undef)) →
    ∃ v, Yields P os.toArray o v a ∧ F i (rs (U i) fun d => a.tmps.getD d undef) w.heap.size w.heap.size w v
def StepAt7 (P : Program) (Q : Exit → Act → World → Prop) (os : List Oper) (Lt : List Nat) (a0 : Act) (w0 : World) (F : Nat → (Nat → Value) → Nat → Nat → World → Value → Prop) (U : Nat → List Nat) (dsts : List Nat) (i : Nat) (o : Oper) : Prop :=
  match Lt.contains i with
  | true => StepLate P os a0 w0 F U dsts i o
  | false => StepAt6 P Q a0 w0 F U dsts i o
set_option maxHeartbeats 1000000 in
/-- A region that draws its order: n operations, each told by a fact of its value; behind them those that wait for all. -/
theorem wp_region_facts7 {os : List Oper} {id : Nat} {draw : Bool} {a0 : Act} {w0 : World} (hm : P.follows .mixedOrders = true) (F : Nat → (Nat → Value) → Nat → Nat → World → Value → Prop) (U : Nat → List Nat) (dsts : List Nat) (A : (Nat → Value) → Act) (n : Nat) (M Lt : List Nat) (hLt : draw = false → Lt = []) (hQ : Lt ≠ [] → ∀ c d v a w, Q (.panic c) (a.put d v) w → Q (.panic c) a w)
    (hA : ∀ t, putAll t dsts a0 = A t) (m : Nat) (hsz : a0.tmps.size = m) (hok : factsOk7 os dsts n m M Lt draw = true)
    (hus : usesOk (os.take n) dsts U = true) (hmono : ∀ i s lo hi w w' t, F i s lo hi w t → Below w.heap.size w w' → F i s lo hi w' t)
    (steps : Steps (StepAt7 P Q os Lt a0 w0 F U dsts) 0 (os.take n))
    (fin : ∀ (t : Nat → Value) (lo hi : Nat → Nat) (w : World), Below w0.heap.size w0 w → (∀ i d, dsts[i]? = some d → w0.heap.size ≤ lo i ∧ lo i ≤ hi i ∧ hi i ≤ w.heap.size ∧ F i (rs (U i) t) (lo i) (hi i) w (t d)) →
      (∀ i j, i < n → j < n → i ≠ j → hi i ≤ lo j ∨ hi j ≤ lo i) → wpList P os.toArray Q (os.drop n) (A t) w) :
    (Code.region id os.toArray draw).wp P Q a0 w0 := by
  subst hsz
  have hk := hok
  unfold factsOk7 at hk
  simp only [Bool.and_eq_true, beq_iff_eq, decide_eq_true_eq, List.all_eq_true] at hk
  obtain ⟨⟨⟨⟨⟨⟨⟨⟨h1, h2⟩, h3⟩, h4⟩, h5⟩, h6⟩, h7⟩, hsel⟩, hlt⟩ := hk
  have hlen : dsts.length = n := by have := congrArg List.length h1; simpa [h6] using this.symm
  refine wp_region_inv3 hm (fun i o hi e he hb => acyc_at h4 (by rw [List.getElem?_toArray] at hi; exact hi) he hb) (I := fun listed a w => listed.size = os.length ∧
      (∀ (i : Nat) (o : Oper), os[i]? = some o → listed.getD i false = true → ∀ e ∈ o.after, Region.binds .any e = true → listed.getD e.on false = true) ∧
      (((∀ i, n ≤ i → listed.getD i false = false) ∧ a.tmps.size = a0.tmps.size ∧ a.defers = a0.defers ∧ (∀ e, e ∉ dsts → a.tmps.getD e undef = a0.tmps.getD e undef) ∧ Below w0.heap.size w0 w ∧
        ∃ lo hi : Nat → Nat, (∀ i d, listed.getD i false = true → dsts[i]? = some d → w0.heap.size ≤ lo i ∧ lo i ≤ hi i ∧ hi i ≤ w.heap.size ∧ F i (rs (U i) fun d => a.tmps.getD d undef) (lo i) (hi i) w (a.tmps.getD d undef)) ∧
          (∀ i j, i < n → j < n → listed.getD i false = true → listed.getD j false = true → i ≠ j → hi i ≤ lo j ∨ hi j ≤ lo i)) ∨
       ∃ k, n ≤ k ∧ k ≤ os.length ∧ (∀ i, i < k → listed.getD i false = true) ∧ (∀ i, k ≤ i → listed.getD i false = false) ∧ wpOps P os.toArray Q (List.range' k (os.length - k)) a w)) Lt hLt hsel (fun i hi => (hlt i hi).2) hQ ?_ ?_ ?_ ?_
  · have hf : ∀ i, (Array.replicate os.toArray.size false).getD i false = false := by
      intro i
      rw [Array.getD_eq_getD_getElem?, Array.getElem?_replicate]
      split <;> rfl
    intro w' hw'
    have hbw : Below w0.heap.size w0 w' := by
      rcases hw' with h | h
      · rw [h]; exact Below.refl _ _
      · rw [h]; exact (Below.refl _ _).drew
    refine ⟨by simp, fun i o _ h => ?_, .inl ⟨fun i _ => hf i, rfl, rfl, fun _ _ => rfl, hbw, fun _ => 0, fun _ => 0, fun i d h => ?_, fun i j _ _ h => ?_⟩⟩
    · rw [hf] at h; cases h
    · rw [hf] at h; cases h
    · rw [hf] at h; cases h
  · intro listed a w hI hnl i hi hrd hp
    obtain ⟨hl, ox, hox, hdx⟩ := mem_ready.1 hrd
    have ho : ∀ o, os.toArray[i]? = some o → ∀ e ∈ o.after, Region.binds .any e = true → listed.getD e.on false = true := fun o h => by rw [hox] at h; injection h with h; subst h; exact hdx
    obtain ⟨g0, g1, g2⟩ := hI
    have hil : i < os.length := by simpa using hi
    have hio : os[i]? = some os[i] := List.getElem?_eq_getElem hil
    have hio2 : os.toArray[i]? = some os[i] := by rw [List.getElem?_toArray]; exact hio
    have hdep := ho _ hio2
    have hlf := getD_tf hl
    have hself : (listed.setIfInBounds i true).getD i false = true := getD_set_self (by omega)
    have hdown : ∀ (j : Nat) (o : Oper), os[j]? = some o → (listed.setIfInBounds i true).getD j false = true → ∀ e ∈ o.after, Region.binds .any e = true → (listed.setIfInBounds i true).getD e.on false = true := by
      intro j o hj hjl e he hb
      by_cases hei : e.on = i
      · rw [hei]; exact hself
      rw [getD_set_ne hei]
      by_cases hji : j = i
      · subst hji
        rw [hio] at hj
        injection hj with hj
        subst hj
        exact hdep e he hb
      · rw [getD_set_ne hji] at hjl
        exact g1 j o hj hjl e he hb
    have hsz' : (listed.setIfInBounds i true).size = os.length := by simpa using g0
    by_cases hin : i < n
    · -- one of the first
      rcases g2 with ⟨p0, p1, p2, p3, p4, lo, hi', p5, p6⟩ | ⟨k, q0, q1, q2, q3, q4⟩
      rotate_left
      · exfalso
        have := q2 i (by omega)
        rw [this] at hlf; cases hlf
      have hid : dsts[i]? = some dsts[i] := List.getElem?_eq_getElem (by omega)
      have hiot : (os.take n)[i]? = some os[i] := by rw [List.getElem?_take, if_pos hin]; exact hio
      have hod : (os[i]).dst = some dsts[i] := by
        have := congrArg (fun l => l[i]?) h1
        simp only [List.getElem?_map, hiot, hid, Option.map_some, Option.some.injEq] at this
        exact this
      have hst := Steps.at steps i _ hiot
      rw [Nat.zero_add] at hst
      have hnLt : Lt.contains i = false := by
        cases hc : Lt.contains i with
        | false => rfl
        | true => exact absurd hrd (hnl i (by simpa using hc))
      unfold StepAt7 at hst
      rw [hnLt] at hst
      dsimp only at hst
      have hdm : dsts[i] ∈ dsts := List.getElem_mem _
      have hdb := h3 _ hdm
      have huse : ∀ (j : Nat) (x : Nat), j < n → x ∈ U j → ∃ m, m < n ∧ dsts[m]? = some x ∧ ∃ o, os[j]? = some o ∧ ∃ e ∈ o.after, Region.binds .any e = true ∧ e.on = m := by
        intro j x hj hx
        unfold usesOk at hus
        rw [List.all_eq_true] at hus
        have hjo : j < os.length := by omega
        have hjt : (os.take n)[j]? = some os[j] := by rw [List.getElem?_take, if_pos hj]; exact List.getElem?_eq_getElem hjo
        have h8 := hus (os[j], j) (by rw [List.mem_zipIdx_iff_getElem?]; exact hjt)
        rw [List.all_eq_true] at h8
        have h9 := h8 x hx
        dsimp only at h9
        rw [Array.any_eq_true] at h9
        obtain ⟨q, hq, h9⟩ := h9
        rw [Bool.and_eq_true, beq_iff_eq] at h9
        have hm := (List.getElem?_eq_some_iff.1 h9.2).1
        exact ⟨_, by omega, h9.2, os[j], List.getElem?_eq_getElem hjo, _, Array.getElem_mem hq, h9.1, rfl⟩
      have hnodx : ∀ (m : Nat) (x : Nat), m ≠ i → dsts[m]? = some x → x ≠ dsts[i] := by
        intro m x hmi hx hc
        obtain ⟨hjl, hje⟩ := List.getElem?_eq_some_iff.1 hx
        have hil2 : i < dsts.length := by omega
        rcases Nat.lt_or_gt_of_ne hmi with hlt | hlt
        · exact (List.pairwise_iff_getElem.1 h2 m i hjl hil2 hlt) (by rw [hje, hc])
        · exact (List.pairwise_iff_getElem.1 h2 i m hil2 hjl hlt) (by rw [hje, hc])
      have hkeepU : ∀ (j : Nat) (u : Value), j < n → (listed.getD j false = true ∨ j = i) → (rs (U j) fun d => (a.put (some dsts[i]) u).tmps.getD d undef) = rs (U j) fun d => a.tmps.getD d undef := by
        intro j u hj hl'
        refine rs_congr fun x hx => ?_
        obtain ⟨m, hm, hmx, o, ho', e, he, hbe, hem⟩ := huse j x hj hx
        have hml : m ≠ i := by
          intro hc
          rcases hl' with hl' | hl'
          · have := g1 j o ho' hl' e he hbe
            rw [hem, hc, hlf] at this; cases this
          · subst hl'
            have := acyc_at h4 ho' he hbe
            omega
        rw [getD_put, if_neg (by rintro ⟨hc, -⟩; exact hnodx m x hml hmx hc)]
      have hK : ∀ w' u, Below w.heap.size w w' → F i (rs (U i) fun d => a.tmps.getD d undef) w.heap.size w'.heap.size w' u → (listed.setIfInBounds i true).size = os.length ∧
          (∀ (j : Nat) (o : Oper), os[j]? = some o → (listed.setIfInBounds i true).getD j false = true → ∀ e ∈ o.after, Region.binds .any e = true → (listed.setIfInBounds i true).getD e.on false = true) ∧
          (((∀ j, n ≤ j → (listed.setIfInBounds i true).getD j false = false) ∧ (a.put (os[i]).dst u).tmps.size = a0.tmps.size ∧ (a.put (os[i]).dst u).defers = a0.defers ∧ (∀ e, e ∉ dsts → (a.put (os[i]).dst u).tmps.getD e undef = a0.tmps.getD e undef) ∧ Below w0.heap.size w0 w' ∧
            ∃ lo hi : Nat → Nat, (∀ j d, (listed.setIfInBounds i true).getD j false = true → dsts[j]? = some d → w0.heap.size ≤ lo j ∧ lo j ≤ hi j ∧ hi j ≤ w'.heap.size ∧ F j (rs (U j) fun d => (a.put (os[i]).dst u).tmps.getD d undef) (lo j) (hi j) w' ((a.put (os[i]).dst u).tmps.getD d undef)) ∧
              (∀ j j', j < n → j' < n → (listed.setIfInBounds i true).getD j false = true → (listed.setIfInBounds i true).getD j' false = true → j ≠ j' → hi j ≤ lo j' ∨ hi j' ≤ lo j)) ∨
           ∃ k, n ≤ k ∧ k ≤ os.length ∧ (∀ j, j < k → (listed.setIfInBounds i true).getD j false = true) ∧ (∀ j, k ≤ j → (listed.setIfInBounds i true).getD j false = false) ∧ wpOps P os.toArray Q (List.range' k (os.length - k)) (a.put (os[i]).dst u) w') := by
        intro w' u hb' hF
        have hs0 := p4.size
        have hs1 := hb'.size
        refine ⟨hsz', hdown, .inl ⟨fun j hj => ?_, ?_, ?_, fun e he => ?_, bw_below p4 hb', fun j => if j = i then w.heap.size else lo j, fun j => if j = i then w'.heap.size else hi' j, fun j d hj hd => ?_, fun j j' hj hj' hl1 hl2 hne => ?_⟩⟩
        · rw [getD_set_ne (by omega)]; exact p0 j hj
        · rw [hod]; simp [Act.put, p1]
        · rw [hod]; exact p2
        · rw [hod, getD_put, if_neg (by rintro ⟨rfl, -⟩; exact he hdm)]
          exact p3 e he
        · by_cases hji : j = i
          · subst hji
            rw [hid] at hd
            injection hd with hd
            simp only [if_true]
            rw [hod, getD_put, if_pos ⟨hd.symm, by rw [p1]; exact hdb⟩]
            rw [hkeepU j u hin (.inr rfl)]
            exact ⟨hs0, hs1, Nat.le_refl _, hF⟩
          · rw [getD_set_ne hji] at hj
            simp only [if_neg hji]
            obtain ⟨r1, r2, r3, r4⟩ := p5 j d hj hd
            refine ⟨r1, r2, Nat.le_trans r3 hs1, ?_⟩
            have hjn : j < n := by have := (List.getElem?_eq_some_iff.1 hd).1; omega
            rw [hod, hkeepU j u hjn (.inl hj), getD_put, if_neg]
            · exact hmono _ _ _ _ _ _ _ r4 hb'
            · rintro ⟨hc, -⟩
              obtain ⟨hjl, hje⟩ := List.getElem?_eq_some_iff.1 hd
              have hil2 : i < dsts.length := by omega
              rcases Nat.lt_or_gt_of_ne hji with hlt | hlt
              · exact (List.pairwise_iff_getElem.1 h2 j i hjl hil2 hlt) (by rw [hje, hc])
              · exact (List.pairwise_iff_getElem.1 h2 i j hil2 hjl hlt) (by rw [hje, hc])
        · by_cases e1 : j = i
          · have e2 : j' ≠ i := fun h => hne (by rw [e1, h])
            rw [getD_set_ne e2] at hl2
            simp only [if_pos e1, if_neg e2]
            have hd : dsts[j']? = some (dsts[j']'(by omega)) := List.getElem?_eq_getElem (by omega)
            exact .inr (p5 j' _ hl2 hd).2.2.1
          · rw [getD_set_ne e1] at hl1
            simp only [if_neg e1]
            by_cases e2 : j' = i
            · simp only [if_pos e2]
              have hd : dsts[j]? = some (dsts[j]'(by omega)) := List.getElem?_eq_getElem (by omega)
              exact .inl (p5 j _ hl1 hd).2.2.1
            · rw [getD_set_ne e2] at hl2
              simp only [if_neg e2]
              exact p6 j j' hj hj' hl1 hl2 hne
      refine wpOp_of hio2 fun K hKK => ?_
      have hst' := hst a w (fun e he => p3 e (by simpa using he)) p4 (fun j d' hj hd' => by
        rw [Array.any_eq_true] at hj
        obtain ⟨q, hq, hj⟩ := hj
        rw [Bool.and_eq_true, beq_iff_eq] at hj
        have hjl := hdep _ (Array.getElem_mem hq) hj.1
        rw [hj.2] at hjl
        exact ⟨_, _, p5 j d' hjl hd'⟩) K (fun w' u hb' hF => hKK _ _ (hK w' u hb' hF))
      have hwb : Region.wanted os[i] (yielded os.toArray a.tmps) = wantedBy dsts (fun d => a.tmps.getD d undef) (os[i]).guard := by
        unfold Region.wanted wantedBy
        cases hgd : (os[i]).guard with
        | none => rfl
        | some p =>
          obtain ⟨j, want⟩ := p
          have hjn : j < n := by
            have h8 := h7 _ (List.mem_of_getElem? hiot)
            rw [hgd] at h8
            simpa using h8
          have hj : (os.toArray[j]?).bind (·.dst) = dsts[j]? := by
            have := congrArg (fun l => l[j]?) h1
            simp only [List.getElem?_map, List.getElem?_take, if_pos hjn] at this
            rw [List.getElem?_toArray]
            cases h : os[j]? with
            | none => rw [h] at this; cases h' : dsts[j]? with
              | none => rfl
              | some d => rw [h'] at this; simp at this
            | some x => rw [h] at this; cases h' : dsts[j]? with
              | none => rw [h'] at this; simp at this
              | some d => rw [h'] at this; simpa using this
          simp only [yielded, hj]
          cases h' : dsts[j]? with
          | none => rfl
          | some d =>
            have hd : d < a.tmps.size := by rw [p1]; exact h3 d (List.mem_of_getElem? h')
            simp only [Option.bind_some, Array.getD_eq_getD_getElem?, Array.getElem?_eq_getElem hd, Option.getD_some]
            generalize a.tmps[d] = v
            cases v <;> rfl
      rw [hwb]
      have := hst' _ rfl
      split at this
      · rename_i h; rw [if_pos h]; exact this
      · rename_i h; rw [if_neg (by rw [h]; simp)]; exact this
    · -- one that waits for all
      have hall : ∀ j, j < i → listed.getD j false = true := by
        intro j hj
        cases draw with
        | false => exact hp rfl j hj
        | true => exact marks7_at h4 (by simpa using h5) listed g0 g1 hnl (by omega) hio hdep j hj
      have hw : wpOps P os.toArray Q (List.range' i (os.length - i)) a w ∧ (∀ j, i ≤ j → listed.getD j false = false) := by
        rcases g2 with ⟨p0, p1, p2, p3, p4, lo, hi', p5, p6⟩ | ⟨k, q0, q1, q2, q3, q4⟩
        · have hie : i = n := by
            refine Decidable.byContradiction fun hc => ?_
            have e1 := hall n (by omega)
            rw [p0 n (Nat.le_refl _)] at e1; cases e1
          subst hie
          refine ⟨?_, p0⟩
          have := fin (fun d => a.tmps.getD d undef) lo hi' w p4 (fun j d hd => p5 j d (hall j (by
            have := (List.getElem?_eq_some_iff.1 hd).1; omega)) hd) (fun j j' hj hj' hne => p6 j j' hj hj' (hall j hj) (hall j' hj') hne)
          rw [← hA, putAll_eq dsts a0 a p1 p2 p3] at this
          have he := wpOps_eq_wpList (P := P) (ops := os.toArray) (Q := Q) (os.drop i) i (fun j => by rw [List.getElem?_drop, List.getElem?_toArray])
          rw [List.length_drop] at he
          rw [he]
          exact this
        · have hki : k = i := by
            rcases Nat.lt_trichotomy k i with h | h | h
            · have := hall k h; rw [q3 k (Nat.le_refl _)] at this; cases this
            · exact h
            · have := q2 i h; rw [this] at hlf; cases hlf
          subst hki
          exact ⟨q4, q3⟩
      obtain ⟨hw, hrest⟩ := hw
      rw [show os.length - i = (os.length - (i + 1)) + 1 by omega, List.range'_succ, wpOps_cons] at hw
      refine wpOp_mono (fun a' w' h => ⟨hsz', hdown, .inr ⟨i + 1, by omega, by omega, fun j hj => ?_, fun j hj => ?_, h⟩⟩) hw
      · by_cases hji : j = i
        · subst hji; exact hself
        · rw [getD_set_ne hji]; exact hall j (by omega)
      · rw [getD_set_ne (by omega)]; exact hrest j (by omega)
  · intro listed a w hI i hiL hrd
    obtain ⟨hl, ox, hox, hdx⟩ := mem_ready.1 hrd
    have hi : i < os.toArray.size := (Array.getElem?_eq_some_iff.1 hox).1
    have ho : ∀ o, os.toArray[i]? = some o → ∀ e ∈ o.after, Region.binds .any e = true → listed.getD e.on false = true := fun o h => by rw [hox] at h; injection h with h; subst h; exact hdx
    obtain ⟨g0, g1, g2⟩ := hI
    have hil : i < os.length := by simpa using hi
    have hio : os[i]? = some os[i] := List.getElem?_eq_getElem hil
    have hio2 : os.toArray[i]? = some os[i] := by rw [List.getElem?_toArray]; exact hio
    have hdep := ho _ hio2
    have hlf := getD_tf hl
    have hself : (listed.setIfInBounds i true).getD i false = true := getD_set_self (by omega)
    have hdown : ∀ (j : Nat) (o : Oper), os[j]? = some o → (listed.setIfInBounds i true).getD j false = true → ∀ e ∈ o.after, Region.binds .any e = true → (listed.setIfInBounds i true).getD e.on false = true := by
      intro j o hj hjl e he hb
      by_cases hei : e.on = i
      · rw [hei]; exact hself
      rw [getD_set_ne hei]
      by_cases hji : j = i
      · subst hji
        rw [hio] at hj
        injection hj with hj
        subst hj
        exact hdep e he hb
      · rw [getD_set_ne hji] at hjl
        exact g1 j o hj hjl e he hb
    have hsz' : (listed.setIfInBounds i true).size = os.length := by simpa using g0
    have hin : i < n := (hlt i hiL).1
    · -- one of the first
      rcases g2 with ⟨p0, p1, p2, p3, p4, lo, hi', p5, p6⟩ | ⟨k, q0, q1, q2, q3, q4⟩
      rotate_left
      · exfalso
        have := q2 i (by omega)
        rw [this] at hlf; cases hlf
      have hid : dsts[i]? = some dsts[i] := List.getElem?_eq_getElem (by omega)
      have hiot : (os.take n)[i]? = some os[i] := by rw [List.getElem?_take, if_pos hin]; exact hio
      have hod : (os[i]).dst = some dsts[i] := by
        have := congrArg (fun l => l[i]?) h1
        simp only [List.getElem?_map, hiot, hid, Option.map_some, Option.some.injEq] at this
        exact this
      have hst := Steps.at steps i _ hiot
      rw [Nat.zero_add] at hst
      have hcL : Lt.contains i = true := by simpa using hiL
      unfold StepAt7 at hst
      rw [hcL] at hst
      dsimp only at hst
      have hdm : dsts[i] ∈ dsts := List.getElem_mem _
      have hdb := h3 _ hdm
      have huse : ∀ (j : Nat) (x : Nat), j < n → x ∈ U j → ∃ m, m < n ∧ dsts[m]? = some x ∧ ∃ o, os[j]? = some o ∧ ∃ e ∈ o.after, Region.binds .any e = true ∧ e.on = m := by
        intro j x hj hx
        unfold usesOk at hus
        rw [List.all_eq_true] at hus
        have hjo : j < os.length := by omega
        have hjt : (os.take n)[j]? = some os[j] := by rw [List.getElem?_take, if_pos hj]; exact List.getElem?_eq_getElem hjo
        have h8 := hus (os[j], j) (by rw [List.mem_zipIdx_iff_getElem?]; exact hjt)
        rw [List.all_eq_true] at h8
        have h9 := h8 x hx
        dsimp only at h9
        rw [Array.any_eq_true] at h9
        obtain ⟨q, hq, h9⟩ := h9
        rw [Bool.and_eq_true, beq_iff_eq] at h9
        have hm := (List.getElem?_eq_some_iff.1 h9.2).1
        exact ⟨_, by omega, h9.2, os[j], List.getElem?_eq_getElem hjo, _, Array.getElem_mem hq, h9.1, rfl⟩
      have hnodx : ∀ (m : Nat) (x : Nat), m ≠ i → dsts[m]? = some x → x ≠ dsts[i] := by
        intro m x hmi hx hc
        obtain ⟨hjl, hje⟩ := List.getElem?_eq_some_iff.1 hx
        have hil2 : i < dsts.length := by omega
        rcases Nat.lt_or_gt_of_ne hmi with hlt | hlt
        · exact (List.pairwise_iff_getElem.1 h2 m i hjl hil2 hlt) (by rw [hje, hc])
        · exact (List.pairwise_iff_getElem.1 h2 i m hil2 hjl hlt) (by rw [hje, hc])
      have hkeepU : ∀ (j : Nat) (u : Value), j < n → (listed.getD j false = true ∨ j = i) → (rs (U j) fun d => (a.put (some dsts[i]) u).tmps.getD d undef) = rs (U j) fun d => a.tmps.getD d undef := by
        intro j u hj hl'
        refine rs_congr fun x hx => ?_
        obtain ⟨m, hm, hmx, o, ho', e, he, hbe, hem⟩ := huse j x hj hx
        have hml : m ≠ i := by
          intro hc
          rcases hl' with hl' | hl'
          · have := g1 j o ho' hl' e he hbe
            rw [hem, hc, hlf] at this; cases this
          · subst hl'
            have := acyc_at h4 ho' he hbe
            omega
        rw [getD_put, if_neg (by rintro ⟨hc, -⟩; exact hnodx m x hml hmx hc)]
      have hK : ∀ w' u, Below w.heap.size w w' → F i (rs (U i) fun d => a.tmps.getD d undef) w.heap.size w'.heap.size w' u → (listed.setIfInBounds i true).size = os.length ∧
          (∀ (j : Nat) (o : Oper), os[j]? = some o → (listed.setIfInBounds i true).getD j false = true → ∀ e ∈ o.after, Region.binds .any e = true → (listed.setIfInBounds i true).getD e.on false = true) ∧
          (((∀ j, n ≤ j → (listed.setIfInBounds i true).getD j false = false) ∧ (a.put (os[i]).dst u).tmps.size = a0.tmps.size ∧ (a.put (os[i]).dst u).defers = a0.defers ∧ (∀ e, e ∉ dsts → (a.put (os[i]).dst u).tmps.getD e undef = a0.tmps.getD e undef) ∧ Below w0.heap.size w0 w' ∧
            ∃ lo hi : Nat → Nat, (∀ j d, (listed.setIfInBounds i true).getD j false = true → dsts[j]? = some d → w0.heap.size ≤ lo j ∧ lo j ≤ hi j ∧ hi j ≤ w'.heap.size ∧ F j (rs (U j) fun d => (a.put (os[i]).dst u).tmps.getD d undef) (lo j) (hi j) w' ((a.put (os[i]).dst u).tmps.getD d undef)) ∧
              (∀ j j', j < n → j' < n → (listed.setIfInBounds i true).getD j false = true → (listed.setIfInBounds i true).getD j' false = true → j ≠ j' → hi j ≤ lo j' ∨ hi j' ≤ lo j)) ∨
           ∃ k, n ≤ k ∧ k ≤ os.length ∧ (∀ j, j < k → (listed.setIfInBounds i true).getD j false = true) ∧ (∀ j, k ≤ j → (listed.setIfInBounds i true).getD j false = false) ∧ wpOps P os.toArray Q (List.range' k (os.length - k)) (a.put (os[i]).dst u) w') := by
        intro w' u hb' hF
        have hs0 := p4.size
        have hs1 := hb'.size
        refine ⟨hsz', hdown, .inl ⟨fun j hj => ?_, ?_, ?_, fun e he => ?_, bw_below p4 hb', fun j => if j = i then w.heap.size else lo j, fun j => if j = i then w'.heap.size else hi' j, fun j d hj hd => ?_, fun j j' hj hj' hl1 hl2 hne => ?_⟩⟩
        · rw [getD_set_ne (by omega)]; exact p0 j hj
        · rw [hod]; simp [Act.put, p1]
        · rw [hod]; exact p2
        · rw [hod, getD_put, if_neg (by rintro ⟨rfl, -⟩; exact he hdm)]
          exact p3 e he
        · by_cases hji : j = i
          · subst hji
            rw [hid] at hd
            injection hd with hd
            simp only [if_true]
            rw [hod, getD_put, if_pos ⟨hd.symm, by rw [p1]; exact hdb⟩]
            rw [hkeepU j u hin (.inr rfl)]
            exact ⟨hs0, hs1, Nat.le_refl _, hF⟩
          · rw [getD_set_ne hji] at hj
            simp only [if_neg hji]
            obtain ⟨r1, r2, r3, r4⟩ := p5 j d hj hd
            refine ⟨r1, r2, Nat.le_trans r3 hs1, ?_⟩
            have hjn : j < n := by have := (List.getElem?_eq_some_iff.1 hd).1; omega
            rw [hod, hkeepU j u hjn (.inl hj), getD_put, if_neg]
            · exact hmono _ _ _ _ _ _ _ r4 hb'
            · rintro ⟨hc, -⟩
              obtain ⟨hjl, hje⟩ := List.getElem?_eq_some_iff.1 hd
              have hil2 : i < dsts.length := by omega
              rcases Nat.lt_or_gt_of_ne hji with hlt | hlt
              · exact (List.pairwise_iff_getElem.1 h2 j i hjl hil2 hlt) (by rw [hje, hc])
              · exact (List.pairwise_iff_getElem.1 h2 i j hil2 hjl hlt) (by rw [hje, hc])
        · by_cases e1 : j = i
          · have e2 : j' ≠ i := fun h => hne (by rw [e1, h])
            rw [getD_set_ne e2] at hl2
            simp only [if_pos e1, if_neg e2]
            have hd : dsts[j']? = some (dsts[j']'(by omega)) := List.getElem?_eq_getElem (by omega)
            exact .inr (p5 j' _ hl2 hd).2.2.1
          · rw [getD_set_ne e1] at hl1
            simp only [if_neg e1]
            by_cases e2 : j' = i
            · simp only [if_pos e2]
              have hd : dsts[j]? = some (dsts[j]'(by omega)) := List.getElem?_eq_getElem (by omega)
              exact .inl (p5 j _ hl1 hd).2.2.1
            · rw [getD_set_ne e2] at hl2
              simp only [if_neg e2]
              exact p6 j j' hj hj' hl1 hl2 hne
      obtain ⟨v, hy, hF⟩ := hst a w (fun e he => p3 e (by simpa using he)) p4 (fun j d' hj hd' => by
        rw [Array.any_eq_true] at hj
        obtain ⟨q, hq, hj⟩ := hj
        rw [Bool.and_eq_true, beq_iff_eq] at hj
        have hjl := hdep _ (Array.getElem_mem hq) hj.1
        rw [hj.2] at hjl
        exact ⟨_, _, p5 j d' hjl hd'⟩)
      exact ⟨os[i], v, hio2, hy, hK w v (Below.refl _ _) hF⟩
  · intro listed a w hI hr
    obtain ⟨g0, g1, g2⟩ := hI
    have hall : ∀ k i, i < k → i < os.length → listed.getD i false = true := by
      intro k
      induction k with
      | zero => intro i h; omega
      | succ k ih =>
        intro i hi his
        by_cases hin : i < k
        · exact ih i hin his
        obtain rfl : i = k := by omega
        refine Decidable.byContradiction fun hc => ?_
        have hio : os[i]? = some os[i] := List.getElem?_eq_getElem his
        have hmem : i ∈ Region.ready .any os.toArray listed := by
          refine mem_ready.2 ⟨getD_ft (by omega) (by simpa using hc), _, by rw [List.getElem?_toArray]; exact hio, fun e he hb => ?_⟩
          have := acyc_at h4 hio he hb
          exact ih e.on this (by omega)
        rw [hr] at hmem
        cases hmem
    rcases g2 with ⟨p0, p1, p2, p3, p4, lo, hi', p5, p6⟩ | ⟨k, q0, q1, q2, q3, q4⟩
    · have hn : n = os.length := by
        refine Decidable.byContradiction fun hc => ?_
        have := hall (n + 1) n (by omega) (by omega)
        rw [p0 n (Nat.le_refl _)] at this; cases this
      have hx : ∀ j, j < n → listed.getD j false = true := fun j hj => hall (j + 1) j (by omega) (by omega)
      have := fin (fun d => a.tmps.getD d undef) lo hi' w p4 (fun j d hd => p5 j d (hx j (by
        have := (List.getElem?_eq_some_iff.1 hd).1; omega)) hd) (fun j j' hj hj' hne => p6 j j' hj hj' (hx j hj) (hx j' hj') hne)
      rw [← hA, putAll_eq dsts a0 a p1 p2 p3, List.drop_of_length_le (by omega)] at this
      exact this
    · have hk : k = os.length := by
        refine Decidable.byContradiction fun hc => ?_
        have := hall (k + 1) k (by omega) (by omega)
        rw [q3 k (Nat.le_refl _)] at this; cases this
      subst hk
      rw [Nat.sub_self] at q4
      exact q4
theorem step_run {P : Program} {Q : Exit → Act → World → Prop} {o : Oper} {a : Act} {w : World} {K : Act → World → Prop} {b : Bool} (hw : b = true) (h : o.wp P a w K Q) : ∀ k, b = k → match k with | true => o.wp P a w K Q | false => K (a.put o.dst undef) w := by
  subst hw; rintro k rfl; exact h
theorem step_skip {P : Program} {Q : Exit → Act → World → Prop} {o : Oper} {a : Act} {w : World} {K : Act → World → Prop} {b : Bool} (hw : b = false) (h : K (a.put o.dst undef) w) : ∀ k, b = k → match k with | true => o.wp P a w K Q | false => K (a.put o.dst undef) w := by
  subst hw; rintro k rfl; exact h
theorem wanted_some {dsts : List Nat} {t : Nat → Value} {j d : Nat} {want b r : Bool} (hd : dsts[j]? = some d) (ht : t d = .bool b) (hb : (b == want) = r) : wantedBy dsts t (some (j, want)) = r := by
  unfold wantedBy
  simp only [hd, ht]
  exact hb
theorem wanted_undef {dsts : List Nat} {t : Nat → Value} {j d : Nat} {want : Bool} (hd : dsts[j]? = some d) (ht : t d = undef) : wantedBy dsts t (some (j, want)) = false := by
  unfold wantedBy
  simp only [hd, ht]
  rfl
end

end Go.Proofs.Ytpjjdngoblfleaa
