/- A region that draws its order, by an invariant: each operation once, whatever came before it. -/
import Derived.Test.YtemcpgfoggdaiaaGreatDoorBox
import Derived.OrdersHeld
namespace Go.Proofs.YtemcpgfoggdaiaaGreatDoor
open Go.RowKit

/-- How many have not come up. -/
def unl : List Bool → Nat
  | [] => 0
  | b :: l => (if b then 0 else 1) + unl l
theorem unl_set : ∀ (l : List Bool) (i : Nat), l[i]? = some false → unl (l.set i true) + 1 = unl l
  | [], i, h => by simp at h
  | b :: l, 0, h => by simp at h; subst h; simp [unl]; omega
  | b :: l, i + 1, h => by
    simp only [List.getElem?_cons_succ] at h
    have := unl_set l i h
    simp only [List.set_cons_succ, unl]
    omega
theorem unl_zero : ∀ (l : List Bool), unl l = 0 → ∀ i, l.getD i true = true
  | [], _, i => by simp
  | b :: l, h, 0 => by cases b <;> simp [unl] at *
  | b :: l, h, i + 1 => by
    have : unl l = 0 := by simp only [unl] at h; omega
    simpa using unl_zero l this i
theorem unl_replicate : ∀ n, unl (List.replicate n false) = n
  | 0 => rfl
  | n + 1 => by rw [List.replicate_succ, unl, unl_replicate n]; simp; omega

section
variable {P : Program} {ops : Array Oper} {Q : Exit → Act → World → Prop} {md : Region.Mode}

theorem wpAny_inv (I : Array Bool → Act → World → Prop)
    (step : ∀ listed a w, I listed a w → ∀ i, i < ops.size → listed.getD i true = false → (∀ o, ops[i]? = some o → ∀ e ∈ o.after, Region.binds md e = true → listed.getD e.on false = true) →
      wpOp P ops Q i (fun a' w' => I (listed.setIfInBounds i true) a' w') a w)
    (fin : ∀ listed a w, I listed a w → Region.ready md ops listed = [] → Q .normal a w) :
    ∀ (fuel : Nat) (listed : Array Bool) (a : Act) (w : World), unl listed.toList ≤ fuel → I listed a w → wpAny P md ops Q fuel listed a w := by
  intro fuel
  induction fuel with
  | zero =>
    intro listed a w hf hI
    have hr : Region.ready md ops listed = [] := by
      rw [List.eq_nil_iff_forall_not_mem]
      intro i hi
      have h1 := (mem_ready.1 hi).1
      have h2 := unl_zero listed.toList (by omega) i
      rw [Array.getD_eq_getD_getElem?] at h1
      rw [List.getD_eq_getElem?_getD, Array.getElem?_toList] at h2
      rw [h1] at h2; cases h2
    exact ⟨hr, fin _ _ _ hI hr⟩
  | succ fuel ih =>
    intro listed a w hf hI
    refine ⟨fin _ _ _ hI, fun i hi => ?_⟩
    obtain ⟨h1, o, h2, h3⟩ := mem_ready.1 hi
    have hio : i < ops.size := (Array.getElem?_eq_some_iff.1 h2).1
    refine wpOp_mono (fun a' w' h => ih _ a' w' ?_ h) (step listed a w hI i hio h1 (fun o' ho' => by rw [h2] at ho'; injection ho' with ho'; subst ho'; exact h3))
    have h4 : listed.toList[i]? = some false := by
      rw [Array.getElem?_toList]
      rw [Array.getD_eq_getD_getElem?] at h1
      cases h5 : listed[i]? with
      | none => rw [h5] at h1; cases h1
      | some b => rw [h5] at h1; simp at h1; rw [h1]
    have := unl_set _ _ h4
    rw [Array.toList_setIfInBounds]
    omega

/-- A region that draws its order: an invariant over what has come up. -/
theorem wp_region_inv {id : Nat} {a : Act} {w : World} (hm : P.follows .mixedOrders = true) (I : Array Bool → Act → World → Prop)
    (h0 : I (Array.replicate ops.size false) a { w with drawn := w.drawn + 1 })
    (step : ∀ listed a w, I listed a w → ∀ i, i < ops.size → listed.getD i true = false → (∀ o, ops[i]? = some o → ∀ e ∈ o.after, Region.binds .any e = true → listed.getD e.on false = true) →
      wpOp P ops Q i (fun a' w' => I (listed.setIfInBounds i true) a' w') a w)
    (fin : ∀ listed a w, I listed a w → Region.ready .any ops listed = [] → Q .normal a w) : (Code.region id ops true).wp P Q a w :=
  wp_region_any hm (wpAny_inv I step fin _ _ _ _ (by rw [Array.toList_replicate, unl_replicate]; exact Nat.le_refl _) h0)

/-- The same where the order is the text's. -/
theorem wpOps_inv (I : Array Bool → Act → World → Prop) (hacy : ∀ (i : Nat) (o : Oper), ops[i]? = some o → ∀ e ∈ o.after, e.on < i)
    (step : ∀ listed a w, I listed a w → ∀ i, i < ops.size → listed.getD i true = false → (∀ o, ops[i]? = some o → ∀ e ∈ o.after, Region.binds .any e = true → listed.getD e.on false = true) →
      wpOp P ops Q i (fun a' w' => I (listed.setIfInBounds i true) a' w') a w)
    (fin : ∀ listed a w, I listed a w → Region.ready .any ops listed = [] → Q .normal a w) :
    ∀ (n i : Nat) (listed : Array Bool) (a : Act) (w : World), i + n = ops.size → listed.size = ops.size → (∀ j, j < i → listed.getD j false = true) → (∀ j, i ≤ j → j < ops.size → listed.getD j true = false) → I listed a w →
      wpOps P ops Q (List.range' i n) a w := by
  intro n
  induction n with
  | zero =>
    intro i listed a w hn hs h1 h2 hI
    refine fin listed a w hI ?_
    rw [List.eq_nil_iff_forall_not_mem]
    intro j hj
    obtain ⟨h3, o, h4, _⟩ := mem_ready.1 hj
    have hjo : j < ops.size := (Array.getElem?_eq_some_iff.1 h4).1
    have h5 := h1 j (by omega)
    rw [Array.getD_eq_getD_getElem?, Array.getElem?_eq_getElem (by omega)] at h3 h5
    simp at h3 h5
    rw [h5] at h3; cases h3
  | succ n ih =>
    intro i listed a w hn hs h1 h2 hI
    rw [List.range'_succ, wpOps_cons]
    refine wpOp_mono (fun a' w' h => ih (i + 1) (listed.setIfInBounds i true) a' w' (by omega) (by simpa using hs) ?_ ?_ h) (step listed a w hI i (by omega) (h2 i (Nat.le_refl _) (by omega)) ?_)
    · intro j hj
      rw [Array.getD_eq_getD_getElem?, Array.getElem?_setIfInBounds]
      by_cases hij : i = j
      · rw [if_pos hij, if_pos (by omega)]; rfl
      · rw [if_neg hij, ← Array.getD_eq_getD_getElem?]; exact h1 j (by omega)
    · intro j hj hjs
      rw [Array.getD_eq_getD_getElem?, Array.getElem?_setIfInBounds, if_neg (by omega), ← Array.getD_eq_getD_getElem?]
      exact h2 j (by omega) hjs
    · intro o ho e he _
      exact h1 _ (hacy i o ho e he)
theorem wp_region_inv2 {id : Nat} {draw : Bool} {a : Act} {w : World} (hm : P.follows .mixedOrders = true) (hacy : ∀ (i : Nat) (o : Oper), ops[i]? = some o → ∀ e ∈ o.after, e.on < i) (I : Array Bool → Act → World → Prop)
    (h0 : ∀ w', (w' = w ∨ w' = { w with drawn := w.drawn + 1 }) → I (Array.replicate ops.size false) a w')
    (step : ∀ listed a w, I listed a w → ∀ i, i < ops.size → listed.getD i true = false → (∀ o, ops[i]? = some o → ∀ e ∈ o.after, Region.binds .any e = true → listed.getD e.on false = true) →
      wpOp P ops Q i (fun a' w' => I (listed.setIfInBounds i true) a' w') a w)
    (fin : ∀ listed a w, I listed a w → Region.ready .any ops listed = [] → Q .normal a w) : (Code.region id ops draw).wp P Q a w := by
  cases draw with
  | true => exact wp_region_inv hm I (h0 _ (.inr rfl)) step fin
  | false =>
    refine wp_region (by
      have := wpOps_inv I hacy step fin ops.size 0 (Array.replicate ops.size false) a w (by omega) (by simp) (fun j hj => by omega) (fun j _ hj => by
        rw [Array.getD_eq_getD_getElem?, Array.getElem?_replicate, if_pos hj]; rfl) (h0 _ (.inl rfl))
      rw [List.range_eq_range']; exact this)

/-- One operation, written out, what follows behind a name. -/
theorem wpOp_of {i : Nat} {o : Oper} {K : Act → World → Prop} {a : Act} {w : World} (hi : ops[i]? = some o)
    (h : ∀ K' : Act → World → Prop, (∀ a w, K a w → K' a w) → if Region.wanted o (yielded ops a.tmps) = true then o.wp P a w K' Q else K' (a.put o.dst undef) w) : wpOp P ops Q i K a w := by
  have := h K fun _ _ h => h
  unfold wpOp
  simp only [hi]
  split
  · rename_i hw; rw [if_pos hw] at this; exact .inl this
  · rename_i hw; rw [if_neg hw] at this; exact this
/-- All slots of a list get their values. -/
def putAll (t : Nat → Value) : List Nat → Act → Act
  | [], a => a
  | d :: l, a => putAll t l (a.put (some d) (t d))
theorem getD_put (a : Act) (d e : Nat) (v : Value) : (a.put (some d) v).tmps.getD e undef = if e = d ∧ d < a.tmps.size then v else a.tmps.getD e undef := by
  simp only [Act.put, Array.getD_eq_getD_getElem?, Array.getElem?_setIfInBounds]
  by_cases h : d = e
  · subst h
    by_cases hs : d < a.tmps.size
    · simp [hs]
    · simp [hs]
  · rw [if_neg h, if_neg (fun hc => h hc.1.symm)]
theorem putAll_eq : ∀ (l : List Nat) (a0 a : Act), a.tmps.size = a0.tmps.size → a.defers = a0.defers → (∀ d, d ∉ l → a.tmps.getD d undef = a0.tmps.getD d undef) →
    putAll (fun d => a.tmps.getD d undef) l a0 = a
  | [], a0, a, hs, hd, hx => by
    obtain ⟨ts, ds⟩ := a
    obtain ⟨us, es⟩ := a0
    simp only at hs hd hx
    subst hd
    unfold putAll
    congr 1
    refine Array.ext hs.symm fun i h1 h2 => ?_
    have := hx i (by simp)
    simp only [Array.getD_eq_getD_getElem?, Array.getElem?_eq_getElem h1, Array.getElem?_eq_getElem h2, Option.getD_some] at this
    exact this.symm
  | d :: l, a0, a, hs, hd, hx => by
    unfold putAll
    refine putAll_eq l _ a ?_ ?_ ?_
    · rw [hs]; simp [Act.put]
    · rw [hd]; rfl
    · intro e he
      rw [getD_put]
      split
      · rename_i h; rw [h.1]
      · rename_i h
        by_cases hed : e = d
        · subst hed
          have hn : ¬ e < a0.tmps.size := fun hc => h ⟨rfl, hc⟩
          simp only [Array.getD_eq_getD_getElem?]
          rw [Array.getElem?_eq_none (by omega), Array.getElem?_eq_none (by omega)]
        · exact hx e (by simp [hed, he])

/-- A region without stores that draws its order, by one fact of each operation's value: each operation once. -/
theorem wp_region_facts {id : Nat} {a0 : Act} {w0 : World} (hm : P.follows .mixedOrders = true) (F : Nat → World → Value → Prop) (dsts : List Nat)
    (hmono : ∀ i w w' t, F i w t → Below w.heap.size w w' → F i w' t)
    (hlen : dsts.length = ops.size) (hnod : dsts.Nodup) (hbnd : ∀ d ∈ dsts, d < a0.tmps.size) (hacy : ∀ (i : Nat) (o : Oper), ops[i]? = some o → ∀ e ∈ o.after, e.on < i)
    (step : ∀ i o d, ops[i]? = some o → dsts[i]? = some d → ∀ (a : Act) (w : World), a.tmps.size = a0.tmps.size → a.defers = a0.defers →
      (∀ e, e ∉ dsts → a.tmps.getD e undef = a0.tmps.getD e undef) → Below w0.heap.size w0 w →
      (∀ e ∈ o.after, Region.binds .any e = true → ∀ d', dsts[e.on]? = some d' → F e.on w (a.tmps.getD d' undef)) →
      wpOp P ops Q i (fun a' w' => ∃ t, a' = a.put (some d) t ∧ Below w.heap.size w w' ∧ F i w' t) a w)
    (fin : ∀ (t : Nat → Value) (w : World), Below w0.heap.size w0 w → (∀ i d, dsts[i]? = some d → F i w (t d)) → Q .normal (putAll t dsts a0) w) :
    (Code.region id ops true).wp P Q a0 w0 := by
  refine wp_region_inv hm (fun listed a w => listed.size = ops.size ∧ a.tmps.size = a0.tmps.size ∧ a.defers = a0.defers ∧
      (∀ e, e ∉ dsts → a.tmps.getD e undef = a0.tmps.getD e undef) ∧ Below w0.heap.size w0 w ∧
      ∀ i d, listed.getD i false = true → dsts[i]? = some d → F i w (a.tmps.getD d undef)) ?_ ?_ ?_
  · refine ⟨by simp, rfl, rfl, fun _ _ => rfl, (Below.refl _ _).drew, fun i d h => ?_⟩
    exfalso
    rw [Array.getD_eq_getD_getElem?, Array.getElem?_replicate] at h
    split at h <;> simp at h
  · intro listed a w hI i hi hl ho
    obtain ⟨h0, h1, h2, h3, h4, h5⟩ := hI
    have hio : ops[i]? = some ops[i] := Array.getElem?_eq_getElem hi
    have hid : dsts[i]? = some dsts[i] := List.getElem?_eq_getElem (by omega)
    refine wpOp_mono ?_ (step i _ _ hio hid a w h1 h2 h3 h4 fun e he hb d' hd' => h5 _ _ (ho _ hio e he hb) hd')
    rintro a' w' ⟨t, rfl, hb, hF⟩
    have hdm : dsts[i] ∈ dsts := List.getElem_mem _
    have hdb := hbnd _ hdm
    refine ⟨by simp [h0], by simp [Act.put, h1], h2, fun e he => ?_, bw_below h4 hb, fun j d hj hd => ?_⟩
    · rw [getD_put, if_neg (by rintro ⟨rfl, -⟩; exact he hdm)]
      exact h3 e he
    · rw [getD_put]
      by_cases hji : j = i
      · subst hji
        rw [hid] at hd
        injection hd with hd
        rw [if_pos ⟨hd.symm, by rw [h1]; exact hdb⟩]
        exact hF
      · have hj' : listed.getD j false = true := by
          rw [Array.getD_eq_getD_getElem?, Array.getElem?_setIfInBounds, if_neg (fun hc => hji hc.symm), ← Array.getD_eq_getD_getElem?] at hj
          exact hj
        rw [if_neg]
        · exact hmono _ _ _ _ (h5 j d hj' hd) hb
        · rintro ⟨hc, -⟩
          obtain ⟨hjl, hje⟩ := List.getElem?_eq_some_iff.1 hd
          have hil : i < dsts.length := by omega
          rcases Nat.lt_or_gt_of_ne hji with hlt | hlt
          · exact (List.pairwise_iff_getElem.1 hnod j i hjl hil hlt) (by rw [hje, hc])
          · exact (List.pairwise_iff_getElem.1 hnod i j hil hjl hlt) (by rw [hje, hc])
  · intro listed a w hI hr
    obtain ⟨h0, h1, h2, h3, h4, h5⟩ := hI
    have hall : ∀ n i, i < n → i < ops.size → listed.getD i false = true := by
      intro n
      induction n with
      | zero => intro i h; omega
      | succ n ih =>
        intro i hi his
        by_cases hin : i < n
        · exact ih i hin his
        obtain rfl : i = n := by omega
        refine Decidable.byContradiction fun hc => ?_
        have hlt : i < listed.size := by omega
        have hio : ops[i]? = some ops[i] := Array.getElem?_eq_getElem his
        have hmem : i ∈ Region.ready .any ops listed := by
          refine mem_ready.2 ⟨?_, _, hio, fun e he _ => ih e.on (hacy i _ hio e he) (Nat.lt_trans (hacy i _ hio e he) his)⟩
          rw [Array.getD_eq_getD_getElem?, Array.getElem?_eq_getElem hlt] at hc ⊢
          simpa using hc
        rw [hr] at hmem
        cases hmem
    have := fin (fun d => a.tmps.getD d undef) w h4 (fun i d hd => h5 i d (hall (i + 1) i (by omega) (by
      have := (List.getElem?_eq_some_iff.1 hd).1
      omega)) hd)
    rw [putAll_eq dsts a0 a h1 h2 h3] at this
    exact this
def Steps (S : Nat → Oper → Prop) : Nat → List Oper → Prop
  | _, [] => True
  | i, o :: l => S i o ∧ Steps S (i + 1) l
theorem Steps.at {S : Nat → Oper → Prop} : ∀ {n : Nat} {l : List Oper}, Steps S n l → ∀ i o, l[i]? = some o → S (n + i) o
  | _, [], _, i, o, h => by simp at h
  | n, x :: l, hs, 0, o, h => by simp at h; subst h; exact hs.1
  | n, x :: l, hs, i + 1, o, h => by
    have := Steps.at hs.2 i o (by simpa using h)
    rw [show n + (i + 1) = n + 1 + i by omega]; exact this
/-- Is an operation wanted, its guard's value being what it is? -/
def wantedBy (dsts : List Nat) (t : Nat → Value) : Option (Nat × Bool) → Bool
  | none => true
  | some (j, want) => match dsts[j]? with
    | none => false
    | some d => match t d with
      | .bool b => b == want
      | _ => false
theorem wanted_by {os : List Oper} {o : Oper} {dsts : List Nat} {a : Act} (h1 : os.map (·.dst) = dsts.map some) (h3 : ∀ d ∈ dsts, d < a.tmps.size) :
    Region.wanted o (yielded os.toArray a.tmps) = wantedBy dsts (fun d => a.tmps.getD d undef) o.guard := by
  unfold Region.wanted wantedBy
  cases o.guard with
  | none => rfl
  | some p =>
    obtain ⟨j, want⟩ := p
    have hj : (os.toArray[j]?).bind (·.dst) = dsts[j]? := by
      have := congrArg (fun l => l[j]?) h1
      simp only [List.getElem?_map] at this
      rw [List.getElem?_toArray]
      cases h : os[j]? with
      | none => rw [h] at this; cases h' : dsts[j]? with
        | none => rfl
        | some d => rw [h'] at this; simp at this
      | some x => rw [h] at this; cases h' : dsts[j]? with
        | none => rw [h'] at this; simp at this
        | some d => rw [h'] at this; simpa using this
    simp only [yielded, hj]
    cases h' : dsts[j]? with
    | none => rfl
    | some d =>
      have hd := h3 d (List.mem_of_getElem? h')
      simp only [Option.bind_some, Array.getD_eq_getD_getElem?, Array.getElem?_eq_getElem hd, Option.getD_some]
      generalize a.tmps[d] = v
      cases v <;> rfl
/-- What each operation of a region has to show. -/
def StepAt (P : Program) (Q : Exit → Act → World → Prop) (A : (Nat → Value) → Act) (w0 : World) (F : Nat → World → Value → Prop) (dsts : List Nat) (i : Nat) (o : Oper) : Prop :=
  ∀ (t : Nat → Value) (w : World), Below w0.heap.size w0 w →
    (∀ j d, o.after.any (fun e => Region.binds .any e && e.on == j) = true → dsts[j]? = some d → F j w (t d)) →
    ∀ K : Act → World → Prop, (∀ w' u, Below w.heap.size w w' → F i w' u → K ((A t).put o.dst u) w') →
      ∀ k, wantedBy dsts t o.guard = k → match k with | true => o.wp P (A t) w K Q | false => K ((A t).put o.dst undef) w
/-- The dsts are the operations', each its own, and each operation hangs on elder ones. -/
def factsOk (os : List Oper) (dsts : List Nat) (n : Nat) : Bool :=
  (os.map (·.dst) == dsts.map some) && decide dsts.Nodup && dsts.all (fun d => decide (d < n)) && (os.zipIdx.all fun p => p.1.after.all fun e => decide (e.on < p.2))
theorem wp_region_facts2 {os : List Oper} {id : Nat} {a0 : Act} {w0 : World} (hm : P.follows .mixedOrders = true) (F : Nat → World → Value → Prop) (dsts : List Nat) (A : (Nat → Value) → Act)
    (hA : ∀ t, putAll t dsts a0 = A t) (n : Nat) (hn : a0.tmps.size = n) (hok : factsOk os dsts n = true)
    (hmono : ∀ i w w' t, F i w t → Below w.heap.size w w' → F i w' t)
    (steps : Steps (StepAt P Q A w0 F dsts) 0 os)
    (fin : ∀ (t : Nat → Value) (w : World), Below w0.heap.size w0 w → (∀ i d, dsts[i]? = some d → F i w (t d)) → Q .normal (A t) w) :
    (Code.region id os.toArray true).wp P Q a0 w0 := by
  subst hn
  have hk := hok
  unfold factsOk at hk
  simp only [Bool.and_eq_true, beq_iff_eq, decide_eq_true_eq, List.all_eq_true] at hk
  obtain ⟨⟨⟨h1, h2⟩, h3⟩, h4⟩ := hk
  have hlen : dsts.length = os.length := by have := congrArg List.length h1; simpa using this.symm
  refine wp_region_facts hm F dsts hmono (by simpa using hlen) h2 h3 ?_ ?_ (fun t w hb h => by rw [hA]; exact fin t w hb h)
  · intro i o hio e he
    rw [List.getElem?_toArray] at hio
    have hz : (o, i) ∈ os.zipIdx := by
      rw [List.mem_zipIdx_iff_getElem?]; exact hio
    have := h4 _ hz
    rw [Array.all_eq_true_iff_forall_mem] at this
    simpa using this e he
  · intro i o d hio hid a w hs hdf hx hb hg
    have hio' := hio
    rw [List.getElem?_toArray] at hio'
    have hod : o.dst = some d := by
      have := congrArg (fun l => l[i]?) h1
      simp only [List.getElem?_map, hio', hid, Option.map_some, Option.some.injEq] at this
      exact this
    have hst := Steps.at steps i o hio'
    rw [Nat.zero_add] at hst
    have ha := putAll_eq dsts a0 a hs hdf hx
    rw [hA] at ha
    refine wpOp_of hio fun K hK => ?_
    have hst' := hst (fun d => a.tmps.getD d undef) w hb (fun j d' hj hd' => by
      rw [Array.any_eq_true] at hj
      obtain ⟨m, hm', hj⟩ := hj
      rw [Bool.and_eq_true, beq_iff_eq] at hj
      have := hg _ (Array.getElem_mem hm') hj.1 d' (by rw [hj.2]; exact hd')
      rw [hj.2] at this
      exact this) K (fun w' u hb' hF => hK _ _ ⟨u, by rw [ha, hod], hb', hF⟩)
    have this : if Region.wanted o (yielded os.toArray a.tmps) = true then o.wp P a w K Q else K (a.put o.dst undef) w := by
      rw [wanted_by h1 (fun d hd => by rw [hs]; exact h3 d hd)]
      have := hst' _ rfl
      rw [ha] at this
      split at this
      · rename_i h; rw [if_pos h]; exact this
      · rename_i h; rw [if_neg (by rw [h]; simp)]; exact this
    exact this
/-- What each operation of a region has to show; the slots stay unwritten. -/
def StepAt3 (P : Program) (Q : Exit → Act → World → Prop) (a0 : Act) (w0 : World) (F : Nat → World → Value → Prop) (dsts : List Nat) (i : Nat) (o : Oper) : Prop :=
  ∀ (a : Act) (w : World), (∀ e, decide (e ∈ dsts) = false → a.tmps.getD e undef = a0.tmps.getD e undef) → Below w0.heap.size w0 w →
    (∀ j d, o.after.any (fun e => Region.binds .any e && e.on == j) = true → dsts[j]? = some d → F j w (a.tmps.getD d undef)) →
    ∀ K : Act → World → Prop, (∀ w' u, Below w.heap.size w w' → F i w' u → K (a.put o.dst u) w') →
      ∀ k, wantedBy dsts (fun d => a.tmps.getD d undef) o.guard = k → match k with | true => o.wp P a w K Q | false => K (a.put o.dst undef) w
theorem wp_region_facts3 {os : List Oper} {id : Nat} {a0 : Act} {w0 : World} (hm : P.follows .mixedOrders = true) (F : Nat → World → Value → Prop) (dsts : List Nat) (A : (Nat → Value) → Act)
    (hA : ∀ t, putAll t dsts a0 = A t) (n : Nat) (hn : a0.tmps.size = n) (hok : factsOk os dsts n = true)
    (hmono : ∀ i w w' t, F i w t → Below w.heap.size w w' → F i w' t)
    (steps : Steps (StepAt3 P Q a0 w0 F dsts) 0 os)
    (fin : ∀ (t : Nat → Value) (w : World), Below w0.heap.size w0 w → (∀ i d, dsts[i]? = some d → F i w (t d)) → Q .normal (A t) w) :
    (Code.region id os.toArray true).wp P Q a0 w0 := by
  subst hn
  have hk := hok
  unfold factsOk at hk
  simp only [Bool.and_eq_true, beq_iff_eq, decide_eq_true_eq, List.all_eq_true] at hk
  obtain ⟨⟨⟨h1, h2⟩, h3⟩, h4⟩ := hk
  have hlen : dsts.length = os.length := by have := congrArg List.length h1; simpa using this.symm
  refine wp_region_facts hm F dsts hmono (by simpa using hlen) h2 h3 ?_ ?_ (fun t w hb h => by rw [hA]; exact fin t w hb h)
  · intro i o hio e he
    rw [List.getElem?_toArray] at hio
    have hz : (o, i) ∈ os.zipIdx := by
      rw [List.mem_zipIdx_iff_getElem?]; exact hio
    have := h4 _ hz
    rw [Array.all_eq_true_iff_forall_mem] at this
    simpa using this e he
  · intro i o d hio hid a w hs hdf hx hb hg
    have hio' := hio
    rw [List.getElem?_toArray] at hio'
    have hod : o.dst = some d := by
      have := congrArg (fun l => l[i]?) h1
      simp only [List.getElem?_map, hio', hid, Option.map_some, Option.some.injEq] at this
      exact this
    have hst := Steps.at steps i o hio'
    rw [Nat.zero_add] at hst
    refine wpOp_of hio fun K hK => ?_
    have hst' := hst a w (fun e he => hx e (by simpa using he)) hb (fun j d' hj hd' => by
      rw [Array.any_eq_true] at hj
      obtain ⟨m, hm', hj⟩ := hj
      rw [Bool.and_eq_true, beq_iff_eq] at hj
      have := hg _ (Array.getElem_mem hm') hj.1 d' (by rw [hj.2]; exact hd')
      rw [hj.2] at this
      exact this) K (fun w' u hb' hF => hK _ _ ⟨u, by rw [hod], hb', hF⟩)
    rw [wanted_by h1 (fun d hd => by rw [hs]; exact h3 d hd)]
    have := hst' _ rfl
    split at this
    · rename_i h; rw [if_pos h]; exact this
    · rename_i h; rw [if_neg (by rw [h]; simp)]; exact this
/-- Whom each operation waits for, in the end, by marks. -/
def marks (os : List Oper) : List Nat := os.foldl (fun acc o => acc ++ [o.after.foldl (fun m e => if Region.binds .any e then m ||| (1 <<< e.on) ||| acc.getD e.on 0 else m) 0]) []
def marksOk (os : List Oper) (M : List Nat) (n : Nat) : Bool :=
  (os.zipIdx.all fun p => (List.range p.2).all fun j => !(M.getD p.2 0).testBit j || p.1.after.any (fun e => Region.binds .any e && (e.on == j || (decide (j < e.on) && (M.getD e.on 0).testBit j)))) &&
    os.zipIdx.all fun p => decide (p.2 < n) || (List.range p.2).all fun j => (M.getD p.2 0).testBit j
def acyc (os : List Oper) : Bool := os.zipIdx.all fun p => p.1.after.all fun e => decide (e.on < p.2)
def factsOk5 (os : List Oper) (dsts : List Nat) (n m : Nat) (M : List Nat) : Bool :=
  ((os.take n).map (·.dst) == dsts.map some) && decide dsts.Nodup && dsts.all (fun d => decide (d < m)) && acyc os && marksOk os M n && decide (n ≤ os.length) && (os.take n).all (fun o => match o.guard with | some (j, _) => decide (j < n) | none => true)
theorem acyc_at {os : List Oper} (h : acyc os = true) {i : Nat} {o : Oper} (hi : os[i]? = some o) {e : Edge} (he : e ∈ o.after) : e.on < i := by
  unfold acyc at h
  rw [List.all_eq_true] at h
  have := h (o, i) (by rw [List.mem_zipIdx_iff_getElem?]; exact hi)
  rw [Array.all_eq_true_iff_forall_mem] at this
  simpa using this e he
theorem marks_at {os : List Oper} {M : List Nat} {n : Nat} (hacy : acyc os = true) (h : marksOk os M n = true) (L : Array Bool)
    (hdown : ∀ (i : Nat) (o : Oper), os[i]? = some o → L.getD i false = true → ∀ e ∈ o.after, Region.binds .any e = true → L.getD e.on false = true) :
    ∀ (k i : Nat), i ≤ k → ∀ o, os[i]? = some o → (∀ e ∈ o.after, Region.binds .any e = true → L.getD e.on false = true) → ∀ j, j < i → (M.getD i 0).testBit j = true → L.getD j false = true := by
  unfold marksOk at h
  rw [Bool.and_eq_true, List.all_eq_true] at h
  intro k
  induction k with
  | zero => intro i hi o ho hd j hj; omega
  | succ k ih =>
    intro i hi o ho hd j hj hb
    have h1 := h.1 (o, i) (by rw [List.mem_zipIdx_iff_getElem?]; exact ho)
    rw [List.all_eq_true] at h1
    have h2 := h1 j (List.mem_range.2 hj)
    dsimp only at h2
    rw [hb, Bool.not_true, Bool.false_or, Array.any_eq_true] at h2
    obtain ⟨q, hq, h2⟩ := h2
    rw [Bool.and_eq_true] at h2
    have h3 := hd _ (Array.getElem_mem hq) h2.1
    have h5 := h2.2
    rw [Bool.or_eq_true, beq_iff_eq] at h5
    rcases h5 with h4 | h4
    · rw [h4] at h3; exact h3
    · rw [Bool.and_eq_true, decide_eq_true_eq] at h4
      have h6 := acyc_at hacy ho (Array.getElem_mem hq)
      have hol : (o.after[q]).on < os.length := Nat.lt_trans h6 (List.getElem?_eq_some_iff.1 ho).1
      exact ih _ (by omega) _ (List.getElem?_eq_getElem hol) (fun e he hbn => hdown _ _ (List.getElem?_eq_getElem hol) h3 e he hbn) j h4.1 h4.2
theorem marks_all {os : List Oper} {M : List Nat} {n : Nat} (hacy : acyc os = true) (h : marksOk os M n = true) (L : Array Bool)
    (hdown : ∀ (i : Nat) (o : Oper), os[i]? = some o → L.getD i false = true → ∀ e ∈ o.after, Region.binds .any e = true → L.getD e.on false = true)
    {i : Nat} {o : Oper} (hn : n ≤ i) (ho : os[i]? = some o) (hd : ∀ e ∈ o.after, Region.binds .any e = true → L.getD e.on false = true) (j : Nat) (hj : j < i) : L.getD j false = true := by
  refine marks_at hacy h L hdown i i (Nat.le_refl _) o ho hd j hj ?_
  unfold marksOk at h
  rw [Bool.and_eq_true] at h
  have h1 := h.2
  rw [List.all_eq_true] at h1
  have h2 := h1 (o, i) (by rw [List.mem_zipIdx_iff_getElem?]; exact ho)
  rw [Bool.or_eq_true, decide_eq_true_eq, List.all_eq_true] at h2
  rcases h2 with h2 | h2
  · dsimp only at h2; omega
  · exact h2 j (List.mem_range.2 hj)
/-- What each operation of a region has to show: a fact of its value, and of the blocks from lo to hi that it made. -/
def StepAt5 (P : Program) (Q : Exit → Act → World → Prop) (a0 : Act) (w0 : World) (F : Nat → Nat → Nat → World → Value → Prop) (dsts : List Nat) (i : Nat) (o : Oper) : Prop :=
  ∀ (a : Act) (w : World), (∀ e, decide (e ∈ dsts) = false → a.tmps.getD e undef = a0.tmps.getD e undef) → Below w0.heap.size w0 w →
    (∀ j d, o.after.any (fun e => Region.binds .any e && e.on == j) = true → dsts[j]? = some d → ∃ lo hi, w0.heap.size ≤ lo ∧ lo ≤ hi ∧ hi ≤ w.heap.size ∧ F j lo hi w (a.tmps.getD d undef)) →
    ∀ K : Act → World → Prop, (∀ w' u, Below w.heap.size w w' → F i w.heap.size w'.heap.size w' u → K (a.put o.dst u) w') →
      ∀ k, wantedBy dsts (fun d => a.tmps.getD d undef) o.guard = k → match k with | true => o.wp P a w K Q | false => K (a.put o.dst undef) w
theorem getD_set_ne {L : Array Bool} {i j : Nat} (h : j ≠ i) : (L.setIfInBounds i true).getD j false = L.getD j false := by
  rw [Array.getD_eq_getD_getElem?, Array.getElem?_setIfInBounds, if_neg (fun hc => h hc.symm), ← Array.getD_eq_getD_getElem?]
theorem getD_set_self {L : Array Bool} {i : Nat} (h : i < L.size) : (L.setIfInBounds i true).getD i false = true := by
  rw [Array.getD_eq_getD_getElem?, Array.getElem?_setIfInBounds, if_pos rfl, if_pos h]; rfl
theorem getD_tf {L : Array Bool} {i : Nat} (h : L.getD i true = false) : L.getD i false = false := by
  rw [Array.getD_eq_getD_getElem?] at h ⊢
  cases h5 : L[i]? with
  | none => rfl
  | some b => rw [h5] at h; exact h
theorem getD_ft {L : Array Bool} {i : Nat} (hi : i < L.size) (h : L.getD i false = false) : L.getD i true = false := by
  rw [Array.getD_eq_getD_getElem?, Array.getElem?_eq_getElem hi] at h ⊢; exact h

set_option maxHeartbeats 1000000 in
/-- A region that draws its order: n operations, each told by a fact of its value; behind them those that wait for all. -/
theorem wp_region_facts5 {os : List Oper} {id : Nat} {draw : Bool} {a0 : Act} {w0 : World} (hm : P.follows .mixedOrders = true) (F : Nat → Nat → Nat → World → Value → Prop) (dsts : List Nat) (A : (Nat → Value) → Act) (n : Nat) (M : List Nat)
    (hA : ∀ t, putAll t dsts a0 = A t) (m : Nat) (hsz : a0.tmps.size = m) (hok : factsOk5 os dsts n m M = true)
    (hmono : ∀ i lo hi w w' t, F i lo hi w t → Below w.heap.size w w' → F i lo hi w' t)
    (steps : Steps (StepAt5 P Q a0 w0 F dsts) 0 (os.take n))
    (fin : ∀ (t : Nat → Value) (lo hi : Nat → Nat) (w : World), Below w0.heap.size w0 w → (∀ i d, dsts[i]? = some d → w0.heap.size ≤ lo i ∧ lo i ≤ hi i ∧ hi i ≤ w.heap.size ∧ F i (lo i) (hi i) w (t d)) →
      (∀ i j, i < n → j < n → i ≠ j → hi i ≤ lo j ∨ hi j ≤ lo i) → wpList P os.toArray Q (os.drop n) (A t) w) :
    (Code.region id os.toArray draw).wp P Q a0 w0 := by
  subst hsz
  have hk := hok
  unfold factsOk5 at hk
  simp only [Bool.and_eq_true, beq_iff_eq, decide_eq_true_eq, List.all_eq_true] at hk
  obtain ⟨⟨⟨⟨⟨⟨h1, h2⟩, h3⟩, h4⟩, h5⟩, h6⟩, h7⟩ := hk
  have hlen : dsts.length = n := by have := congrArg List.length h1; simpa [h6] using this.symm
  refine wp_region_inv2 hm (fun i o hi e he => acyc_at h4 (by rw [List.getElem?_toArray] at hi; exact hi) he) (fun listed a w => listed.size = os.length ∧
      (∀ (i : Nat) (o : Oper), os[i]? = some o → listed.getD i false = true → ∀ e ∈ o.after, Region.binds .any e = true → listed.getD e.on false = true) ∧
      (((∀ i, n ≤ i → listed.getD i false = false) ∧ a.tmps.size = a0.tmps.size ∧ a.defers = a0.defers ∧ (∀ e, e ∉ dsts → a.tmps.getD e undef = a0.tmps.getD e undef) ∧ Below w0.heap.size w0 w ∧
        ∃ lo hi : Nat → Nat, (∀ i d, listed.getD i false = true → dsts[i]? = some d → w0.heap.size ≤ lo i ∧ lo i ≤ hi i ∧ hi i ≤ w.heap.size ∧ F i (lo i) (hi i) w (a.tmps.getD d undef)) ∧
          (∀ i j, i < n → j < n → listed.getD i false = true → listed.getD j false = true → i ≠ j → hi i ≤ lo j ∨ hi j ≤ lo i)) ∨
       ∃ k, n ≤ k ∧ k ≤ os.length ∧ (∀ i, i < k → listed.getD i false = true) ∧ (∀ i, k ≤ i → listed.getD i false = false) ∧ wpOps P os.toArray Q (List.range' k (os.length - k)) a w)) ?_ ?_ ?_
  · have hf : ∀ i, (Array.replicate os.toArray.size false).getD i false = false := by
      intro i
      rw [Array.getD_eq_getD_getElem?, Array.getElem?_replicate]
      split <;> rfl
    intro w' hw'
    have hbw : Below w0.heap.size w0 w' := by
      rcases hw' with h | h
      · rw [h]; exact Below.refl _ _
      · rw [h]; exact (Below.refl _ _).drew
    refine ⟨by simp, fun i o _ h => ?_, .inl ⟨fun i _ => hf i, rfl, rfl, fun _ _ => rfl, hbw, fun _ => 0, fun _ => 0, fun i d h => ?_, fun i j _ _ h => ?_⟩⟩
    · rw [hf] at h; cases h
    · rw [hf] at h; cases h
    · rw [hf] at h; cases h
  · intro listed a w hI i hi hl ho
    obtain ⟨g0, g1, g2⟩ := hI
    have hil : i < os.length := by simpa using hi
    have hio : os[i]? = some os[i] := List.getElem?_eq_getElem hil
    have hio2 : os.toArray[i]? = some os[i] := by rw [List.getElem?_toArray]; exact hio
    have hdep := ho _ hio2
    have hlf := getD_tf hl
    have hself : (listed.setIfInBounds i true).getD i false = true := getD_set_self (by omega)
    have hdown : ∀ (j : Nat) (o : Oper), os[j]? = some o → (listed.setIfInBounds i true).getD j false = true → ∀ e ∈ o.after, Region.binds .any e = true → (listed.setIfInBounds i true).getD e.on false = true := by
      intro j o hj hjl e he hb
      by_cases hei : e.on = i
      · rw [hei]; exact hself
      rw [getD_set_ne hei]
      by_cases hji : j = i
      · subst hji
        rw [hio] at hj
        injection hj with hj
        subst hj
        exact hdep e he hb
      · rw [getD_set_ne hji] at hjl
        exact g1 j o hj hjl e he hb
    have hsz' : (listed.setIfInBounds i true).size = os.length := by simpa using g0
    by_cases hin : i < n
    · -- one of the first
      rcases g2 with ⟨p0, p1, p2, p3, p4, lo, hi', p5, p6⟩ | ⟨k, q0, q1, q2, q3, q4⟩
      rotate_left
      · exfalso
        have := q2 i (by omega)
        rw [this] at hlf; cases hlf
      have hid : dsts[i]? = some dsts[i] := List.getElem?_eq_getElem (by omega)
      have hiot : (os.take n)[i]? = some os[i] := by rw [List.getElem?_take, if_pos hin]; exact hio
      have hod : (os[i]).dst = some dsts[i] := by
        have := congrArg (fun l => l[i]?) h1
        simp only [List.getElem?_map, hiot, hid, Option.map_some, Option.some.injEq] at this
        exact this
      have hst := Steps.at steps i _ hiot
      rw [Nat.zero_add] at hst
      have hdm : dsts[i] ∈ dsts := List.getElem_mem _
      have hdb := h3 _ hdm
      have hK : ∀ w' u, Below w.heap.size w w' → F i w.heap.size w'.heap.size w' u → (listed.setIfInBounds i true).size = os.length ∧
          (∀ (j : Nat) (o : Oper), os[j]? = some o → (listed.setIfInBounds i true).getD j false = true → ∀ e ∈ o.after, Region.binds .any e = true → (listed.setIfInBounds i true).getD e.on false = true) ∧
          (((∀ j, n ≤ j → (listed.setIfInBounds i true).getD j false = false) ∧ (a.put (os[i]).dst u).tmps.size = a0.tmps.size ∧ (a.put (os[i]).dst u).defers = a0.defers ∧ (∀ e, e ∉ dsts → (a.put (os[i]).dst u).tmps.getD e undef = a0.tmps.getD e undef) ∧ Below w0.heap.size w0 w' ∧
            ∃ lo hi : Nat → Nat, (∀ j d, (listed.setIfInBounds i true).getD j false = true → dsts[j]? = some d → w0.heap.size ≤ lo j ∧ lo j ≤ hi j ∧ hi j ≤ w'.heap.size ∧ F j (lo j) (hi j) w' ((a.put (os[i]).dst u).tmps.getD d undef)) ∧
              (∀ j j', j < n → j' < n → (listed.setIfInBounds i true).getD j false = true → (listed.setIfInBounds i true).getD j' false = true → j ≠ j' → hi j ≤ lo j' ∨ hi j' ≤ lo j)) ∨
           ∃ k, n ≤ k ∧ k ≤ os.length ∧ (∀ j, j < k → (listed.setIfInBounds i true).getD j false = true) ∧ (∀ j, k ≤ j → (listed.setIfInBounds i true).getD j false = false) ∧ wpOps P os.toArray Q (List.range' k (os.length - k)) (a.put (os[i]).dst u) w') := by
        intro w' u hb' hF
        have hs0 := p4.size
        have hs1 := hb'.size
        refine ⟨hsz', hdown, .inl ⟨fun j hj => ?_, ?_, ?_, fun e he => ?_, bw_below p4 hb', fun j => if j = i then w.heap.size else lo j, fun j => if j = i then w'.heap.size else hi' j, fun j d hj hd => ?_, fun j j' hj hj' hl1 hl2 hne => ?_⟩⟩
        · rw [getD_set_ne (by omega)]; exact p0 j hj
        · rw [hod]; simp [Act.put, p1]
        · rw [hod]; exact p2
        · rw [hod, getD_put, if_neg (by rintro ⟨rfl, -⟩; exact he hdm)]
          exact p3 e he
        · by_cases hji : j = i
          · subst hji
            rw [hid] at hd
            injection hd with hd
            simp only [if_true]
            rw [hod, getD_put, if_pos ⟨hd.symm, by rw [p1]; exact hdb⟩]
            exact ⟨hs0, hs1, Nat.le_refl _, hF⟩
          · rw [getD_set_ne hji] at hj
            simp only [if_neg hji]
            obtain ⟨r1, r2, r3, r4⟩ := p5 j d hj hd
            refine ⟨r1, r2, Nat.le_trans r3 hs1, ?_⟩
            rw [hod, getD_put, if_neg]
            · exact hmono _ _ _ _ _ _ r4 hb'
            · rintro ⟨hc, -⟩
              obtain ⟨hjl, hje⟩ := List.getElem?_eq_some_iff.1 hd
              have hil2 : i < dsts.length := by omega
              rcases Nat.lt_or_gt_of_ne hji with hlt | hlt
              · exact (List.pairwise_iff_getElem.1 h2 j i hjl hil2 hlt) (by rw [hje, hc])
              · exact (List.pairwise_iff_getElem.1 h2 i j hil2 hjl hlt) (by rw [hje, hc])
        · by_cases e1 : j = i
          · have e2 : j' ≠ i := fun h => hne (by rw [e1, h])
            rw [getD_set_ne e2] at hl2
            simp only [if_pos e1, if_neg e2]
            have hd : dsts[j']? = some (dsts[j']'(by omega)) := List.getElem?_eq_getElem (by omega)
            exact .inr (p5 j' _ hl2 hd).2.2.1
          · rw [getD_set_ne e1] at hl1
            simp only [if_neg e1]
            by_cases e2 : j' = i
            · simp only [if_pos e2]
              have hd : dsts[j]? = some (dsts[j]'(by omega)) := List.getElem?_eq_getElem (by omega)
              exact .inl (p5 j _ hl1 hd).2.2.1
            · rw [getD_set_ne e2] at hl2
              simp only [if_neg e2]
              exact p6 j j' hj hj' hl1 hl2 hne
      refine wpOp_of hio2 fun K hKK => ?_
      have hst' := hst a w (fun e he => p3 e (by simpa using he)) p4 (fun j d' hj hd' => by
        rw [Array.any_eq_true] at hj
        obtain ⟨q, hq, hj⟩ := hj
        rw [Bool.and_eq_true, beq_iff_eq] at hj
        have hjl := hdep _ (Array.getElem_mem hq) hj.1
        rw [hj.2] at hjl
        exact ⟨_, _, p5 j d' hjl hd'⟩) K (fun w' u hb' hF => hKK _ _ (hK w' u hb' hF))
      have hwb : Region.wanted os[i] (yielded os.toArray a.tmps) = wantedBy dsts (fun d => a.tmps.getD d undef) (os[i]).guard := by
        unfold Region.wanted wantedBy
        cases hgd : (os[i]).guard with
        | none => rfl
        | some p =>
          obtain ⟨j, want⟩ := p
          have hjn : j < n := by
            have h8 := h7 _ (List.mem_of_getElem? hiot)
            rw [hgd] at h8
            simpa using h8
          have hj : (os.toArray[j]?).bind (·.dst) = dsts[j]? := by
            have := congrArg (fun l => l[j]?) h1
            simp only [List.getElem?_map, List.getElem?_take, if_pos hjn] at this
            rw [List.getElem?_toArray]
            cases h : os[j]? with
            | none => rw [h] at this; cases h' : dsts[j]? with
              | none => rfl
              | some d => rw [h'] at this; simp at this
            | some x => rw [h] at this; cases h' : dsts[j]? with
              | none => rw [h'] at this; simp at this
              | some d => rw [h'] at this; simpa using this
          simp only [yielded, hj]
          cases h' : dsts[j]? with
          | none => rfl
          | some d =>
            have hd : d < a.tmps.size := by rw [p1]; exact h3 d (List.mem_of_getElem? h')
            simp only [Option.bind_some, Array.getD_eq_getD_getElem?, Array.getElem?_eq_getElem hd, Option.getD_some]
            generalize a.tmps[d] = v
            cases v <;> rfl
      rw [hwb]
      have := hst' _ rfl
      split at this
      · rename_i h; rw [if_pos h]; exact this
      · rename_i h; rw [if_neg (by rw [h]; simp)]; exact this
    · -- one that waits for all
      have hall : ∀ j, j < i → listed.getD j false = true := fun j hj => marks_all h4 h5 listed g1 (by omega) hio hdep j hj
      have hw : wpOps P os.toArray Q (List.range' i (os.length - i)) a w ∧ (∀ j, i ≤ j → listed.getD j false = false) := by
        rcases g2 with ⟨p0, p1, p2, p3, p4, lo, hi', p5, p6⟩ | ⟨k, q0, q1, q2, q3, q4⟩
        · have hie : i = n := by
            refine Decidable.byContradiction fun hc => ?_
            have e1 := hall n (by omega)
            rw [p0 n (Nat.le_refl _)] at e1; cases e1
          subst hie
          refine ⟨?_, p0⟩
          have := fin (fun d => a.tmps.getD d undef) lo hi' w p4 (fun j d hd => p5 j d (hall j (by
            have := (List.getElem?_eq_some_iff.1 hd).1; omega)) hd) (fun j j' hj hj' hne => p6 j j' hj hj' (hall j hj) (hall j' hj') hne)
          rw [← hA, putAll_eq dsts a0 a p1 p2 p3] at this
          have he := wpOps_eq_wpList (P := P) (ops := os.toArray) (Q := Q) (os.drop i) i (fun j => by rw [List.getElem?_drop, List.getElem?_toArray])
          rw [List.length_drop] at he
          rw [he]
          exact this
        · have hki : k = i := by
            rcases Nat.lt_trichotomy k i with h | h | h
            · have := hall k h; rw [q3 k (Nat.le_refl _)] at this; cases this
            · exact h
            · have := q2 i h; rw [this] at hlf; cases hlf
          subst hki
          exact ⟨q4, q3⟩
      obtain ⟨hw, hrest⟩ := hw
      rw [show os.length - i = (os.length - (i + 1)) + 1 by omega, List.range'_succ, wpOps_cons] at hw
      refine wpOp_mono (fun a' w' h => ⟨hsz', hdown, .inr ⟨i + 1, by omega, by omega, fun j hj => ?_, fun j hj => ?_, h⟩⟩) hw
      · by_cases hji : j = i
        · subst hji; exact hself
        · rw [getD_set_ne hji]; exact hall j (by omega)
      · rw [getD_set_ne (by omega)]; exact hrest j (by omega)
  · intro listed a w hI hr
    obtain ⟨g0, g1, g2⟩ := hI
    have hall : ∀ k i, i < k → i < os.length → listed.getD i false = true := by
      intro k
      induction k with
      | zero => intro i h; omega
      | succ k ih =>
        intro i hi his
        by_cases hin : i < k
        · exact ih i hin his
        obtain rfl : i = k := by omega
        refine Decidable.byContradiction fun hc => ?_
        have hio : os[i]? = some os[i] := List.getElem?_eq_getElem his
        have hmem : i ∈ Region.ready .any os.toArray listed := by
          refine mem_ready.2 ⟨getD_ft (by omega) (by simpa using hc), _, by rw [List.getElem?_toArray]; exact hio, fun e he _ => ?_⟩
          have := acyc_at h4 hio he
          exact ih e.on this (by omega)
        rw [hr] at hmem
        cases hmem
    rcases g2 with ⟨p0, p1, p2, p3, p4, lo, hi', p5, p6⟩ | ⟨k, q0, q1, q2, q3, q4⟩
    · have hn : n = os.length := by
        refine Decidable.byContradiction fun hc => ?_
        have := hall (n + 1) n (by omega) (by omega)
        rw [p0 n (Nat.le_refl _)] at this; cases this
      have hx : ∀ j, j < n → listed.getD j false = true := fun j hj => hall (j + 1) j (by omega) (by omega)
      have := fin (fun d => a.tmps.getD d undef) lo hi' w p4 (fun j d hd => p5 j d (hx j (by
        have := (List.getElem?_eq_some_iff.1 hd).1; omega)) hd) (fun j j' hj hj' hne => p6 j j' hj hj' (hx j hj) (hx j' hj') hne)
      rw [← hA, putAll_eq dsts a0 a p1 p2 p3, List.drop_of_length_le (by omega)] at this
      exact this
    · have hk : k = os.length := by
        refine Decidable.byContradiction fun hc => ?_
        have := hall (k + 1) k (by omega) (by omega)
        rw [q3 k (Nat.le_refl _)] at this; cases this
      subst hk
      rw [Nat.sub_self] at q4
      exact q4
end

end Go.Proofs.YtemcpgfoggdaiaaGreatDoor
