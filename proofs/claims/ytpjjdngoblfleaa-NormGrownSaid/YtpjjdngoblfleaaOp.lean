/- One operation at a time, by plain lemmas. -/
import Derived.Test.YtpjjdngoblfleaaReg
namespace Go.Proofs.Ytpjjdngoblfleaa
open Go.RowKit

theorem blk_le {a n : Nat} (h : a ≤ n) (k : Nat) : a ≤ n + k := by omega
theorem blk_ne {a n : Nat} (h : a < n) (k : Nat) : n + k ≠ a := by omega
theorem blk_ne0 {n : Nat} (j : Nat) (h : j ≠ 0) : n + j ≠ n := by omega
theorem blk_ne2 {n : Nat} (j k : Nat) (h : j ≠ k) : n + j ≠ n + k := by omega

section
variable {P : Program} {a : Act} {w : World} {K : Act → World → Prop} {Q : Exit → Act → World → Prop} {o : Oper}

theorem op_run {x : Value} {w' : World} (h : (execOp a.eval o).run P w = .ok (.value x) w') (hK : K (a.put o.dst x) w') : o.wp P a w K Q := by
  unfold Oper.wp; rw [h]; exact hK
theorem op_move {d : Nat} {n : Nat} {ty : TypeId} {pos : String} {af : Array Edge} {g : Option (Nat × Bool)} {x : Value} (h : a.tmps.getD n undef = x) (hK : K (a.put (some d) x) w) :
    (Oper.mk (some d) (.move (.tmp n)) ty pos af g).wp P a w K Q := by
  subst h; exact op_run (x := a.tmps.getD n undef) rfl hK
theorem op_assign {d : Nat} {n : Nat} {ty : TypeId} {pos : String} {af : Array Edge} {g : Option (Nat × Bool)} {x : Value} (h : a.tmps.getD n undef = x) (hK : K (a.put (some d) x) w) :
    (Oper.mk (some d) (.assign (.tmp n)) ty pos af g).wp P a w K Q := by
  subst h; exact op_run (x := a.tmps.getD n undef) rfl hK
theorem op_pickT {d : Nat} {c : Nat} {x y : Operand} {ty : TypeId} {pos : String} {af : Array Edge} {g : Option (Nat × Bool)} {v : Value} (h : a.tmps.getD c undef = .bool true) (hx : a.eval x = v) (hK : K (a.put (some d) v) w) :
    (Oper.mk (some d) (.pick (.tmp c) x y) ty pos af g).wp P a w K Q := by
  refine op_run (x := v) ?_ hK
  have h' : a.eval (.tmp c) = .bool true := h
  show (do pure (Next.value (if ← asBool (a.eval (.tmp c)) then a.eval x else a.eval y)) : Sem Next).run P w = _
  rw [h', hx]; rfl
theorem op_pickF {d : Nat} {c : Nat} {x y : Operand} {ty : TypeId} {pos : String} {af : Array Edge} {g : Option (Nat × Bool)} {v : Value} (h : a.tmps.getD c undef = .bool false) (hy : a.eval y = v) (hK : K (a.put (some d) v) w) :
    (Oper.mk (some d) (.pick (.tmp c) x y) ty pos af g).wp P a w K Q := by
  refine op_run (x := v) ?_ hK
  have h' : a.eval (.tmp c) = .bool false := h
  show (do pure (Next.value (if ← asBool (a.eval (.tmp c)) then a.eval x else a.eval y)) : Sem Next).run P w = _
  rw [h', hy]; rfl
theorem op_not {d : Nat} {n : Nat} {t ty : TypeId} {pos : String} {af : Array Edge} {g : Option (Nat × Bool)} {b c : Bool} (h : a.tmps.getD n undef = .bool b) (hc : (!b) = c) (hK : K (a.put (some d) (.bool c)) w) :
    (Oper.mk (some d) (.unOp .not t (.tmp n)) ty pos af g).wp P a w K Q := by
  subst hc
  refine op_run (x := .bool (!b)) ?_ hK
  have h' : a.eval (.tmp n) = .bool b := h
  show (do pure (.value (← Op.unary .not (a.eval (.tmp n)))) : Sem Next).run P w = _
  rw [h']; rfl
/-- A function with a body. -/
def plainF (P : Program) (f : FuncId) : Bool := match P.funcs[f]? with
  | some fn => !(fn.name == "runtime.NumGoroutine") && fn.body.isSome
  | none => false
theorem op_call {d : Nat} {f : FuncId} {xs : Array Operand} {vs : Array Value} {ts : Array TypeId} {ty : TypeId} {pos : String} {af : Array Edge} {g : Option (Nat × Bool)} {R : Ending → World → Prop}
    (hf : plainF P f = true) (hv : xs.map a.eval = vs) (hc : Calls P f vs w R) (hR : ∀ e w', R e w' → ∃ v, e = .returned v ∧ K (a.put (some d) v) w') :
    (Oper.mk (some d) (.call ⟨.value (.func f), xs, ts⟩) ty pos af g).wp P a w K Q := by
  have h : (execOp a.eval (Oper.mk (some d) (.call ⟨.value (.func f), xs, ts⟩) ty pos af g)).run P w = .ok (.enter f vs) w := by
    unfold plainF at hf
    split at hf
    · rename_i fn hfn
      simp only [Bool.and_eq_true, Bool.not_eq_true'] at hf
      have hb : fn.body.isNone = false := by cases h : fn.body <;> simp_all
      subst hv
      show (do let d ← resolve a.eval ⟨.value (.func f), xs, ts⟩ ty; invoke d.target d.args : Sem Next).run P w = _
      have e1 : resolve a.eval ⟨.value (.func f), xs, ts⟩ ty = pure { target := .fn (.func f) #[], args := #[] ++ xs.map a.eval } := rfl
      rw [e1]
      have hn : ¬ fn.name = "runtime.NumGoroutine" := by simpa using hf.1
      have hb' : ¬ fn.body = none := fun hc => by rw [hc] at hb; cases hb
      simp [invoke, callFunc, hfn, hn, hb']
    · cases hf
  unfold Oper.wp
  rw [h, Oper.upon_enter]
  refine hc.mono ?_
  intro e w' hr
  obtain ⟨v, rfl, hk⟩ := hR e w' hr
  exact hk
theorem op_extract {d : Nat} {n i : Nat} {ty : TypeId} {pos : String} {af : Array Edge} {g : Option (Nat × Bool)} {vs : Array Value} {x : Value} (h : a.tmps.getD n undef = .tuple vs) (hx : vs[i]? = some x) (hK : K (a.put (some d) x) w) :
    (Oper.mk (some d) (.extract (.tmp n) i) ty pos af g).wp P a w K Q := by
  refine op_run (x := x) ?_ hK
  have h' : a.eval (.tmp n) = .tuple vs := h
  show (do pure (.value (← Instr.extract (a.eval (.tmp n)) i)) : Sem Next).run P w = _
  rw [h']
  simp [Instr.extract, hx]
theorem late_extract {ops : Array Oper} {d : Nat} {n i : Nat} {ty : TypeId} {pos : String} {af : Array Edge} {vs : Array Value} {x : Value} (h : a.tmps.getD n undef = .tuple vs) (hx : vs[i]? = some x) :
    Yields P ops (Oper.mk (some d) (.extract (.tmp n) i) ty pos af none) x a := by
  refine .inl ⟨rfl, fun w => ?_⟩
  have h' : a.eval (.tmp n) = .tuple vs := h
  show (do pure (.value (← Instr.extract (a.eval (.tmp n)) i)) : Sem Next).run P w = _
  rw [h']
  simp [Instr.extract, hx]
/-- An operation whose run is a value's. -/
theorem op_sem {d : Nat} {op : Op} {s : Sem Value} {ty : TypeId} {pos : String} {af : Array Edge} {g : Option (Nat × Bool)} {x : Value} {w' : World} (he : execOp a.eval (Oper.mk (some d) op ty pos af g) = (do pure (.value (← s))))
    (h : s.run P w = .ok x w') (hK : K (a.put (some d) x) w') : (Oper.mk (some d) op ty pos af g).wp P a w K Q := by
  refine op_run (x := x) (w' := w') ?_ hK
  rw [he]; simp [h]
theorem op_load {d n : Nat} {t ty : TypeId} {pos : String} {af : Array Edge} {g : Option (Nat × Bool)} {ad : Addr} {x : Value} (h : a.tmps.getD n undef = .pointer (some ad)) (hr : (Instr.loadAt t (.pointer (some ad))).run P w = .ok x w) (hK : K (a.put (some d) x) w) :
    (Oper.mk (some d) (.load t (.tmp n)) ty pos af g).wp P a w K Q :=
  op_sem (s := Instr.loadAt t (.pointer (some ad))) (by simp only [execOp, Act.eval, h]) hr hK
theorem op_alloc {d : Nat} {t ty : TypeId} {pos : String} {af : Array Edge} {g : Option (Nat × Bool)} {cs : Array Value} (hr : (Instr.alloc t true (.tuple #[])).run P w = .ok (.pointer (some ⟨w.heap.size, 0, none⟩)) (w.alloc (.cells cs t)))
    (hK : K (a.put (some d) (.pointer (some ⟨w.heap.size, 0, none⟩))) (w.alloc (.cells cs t))) : (Oper.mk (some d) (.alloc t) ty pos af g).wp P a w K Q :=
  op_sem (s := Instr.alloc t true (.tuple #[])) rfl hr hK
theorem op_slice {d len : Nat} {t ty : TypeId} {ps : Array (Nat × Operand)} {vs : Array (Nat × Value)} {pos : String} {af : Array Edge} {g : Option (Nat × Bool)} {x : Value} {w' : World} (hv : ps.map (fun (i, x) => (i, a.eval x)) = vs)
    (hr : (Instr.buildSlice t len vs).run P w = .ok x w') (hK : K (a.put (some d) x) w') : (Oper.mk (some d) (.buildSlice t len ps) ty pos af g).wp P a w K Q := by
  subst hv; exact op_sem rfl hr hK
theorem op_bin {d : Nat} {b : BinOp} {t yt ty : TypeId} {p q : Operand} {u v : Value} {pos : String} {af : Array Edge} {g : Option (Nat × Bool)} {x : Value} (hp : a.eval p = u) (hq : a.eval q = v)
    (hr : (do eqGuard b t p q u v; binOp b t u v : Sem Value).run P w = .ok x w) (hK : K (a.put (some d) x) w) : (Oper.mk (some d) (.binOp b t p q yt) ty pos af g).wp P a w K Q := by
  subst hp hq; exact op_sem rfl hr hK
theorem bin_eqI {k : IntKind} {m n : Int} {t : TypeId} {p q : Operand} : (do eqGuard .eql t p q (.int k m) (.int k n); binOp .eql t (.int k m) (.int k n) : Sem Value).run P w = .ok (.bool (decide (m = n))) w := by
  simp [go_sem, eqGuard, binOp]; rfl
theorem bin_neI {k : IntKind} {m n : Int} {t : TypeId} {p q : Operand} : (do eqGuard .neq t p q (.int k m) (.int k n); binOp .neq t (.int k m) (.int k n) : Sem Value).run P w = .ok (.bool (!decide (m = n))) w := by
  simp [go_sem, eqGuard, binOp]; rfl
theorem bin_lsI {k : IntKind} {m n : Int} {t : TypeId} {p q : Operand} : (do eqGuard .lss t p q (.int k m) (.int k n); binOp .lss t (.int k m) (.int k n) : Sem Value).run P w = .ok (.bool (decide (m < n))) w := by
  simp [go_sem, eqGuard, binOp]
theorem bin_gtI {k : IntKind} {m n : Int} {t : TypeId} {p q : Operand} : (do eqGuard .gtr t p q (.int k m) (.int k n); binOp .gtr t (.int k m) (.int k n) : Sem Value).run P w = .ok (.bool (decide (n < m))) w := by
  simp [go_sem, eqGuard, binOp]
theorem bin_leI {k : IntKind} {m n : Int} {t : TypeId} {p q : Operand} : (do eqGuard .leq t p q (.int k m) (.int k n); binOp .leq t (.int k m) (.int k n) : Sem Value).run P w = .ok (.bool (decide (m ≤ n))) w := by
  simp [go_sem, eqGuard, binOp]
theorem bin_geI {k : IntKind} {m n : Int} {t : TypeId} {p q : Operand} : (do eqGuard .geq t p q (.int k m) (.int k n); binOp .geq t (.int k m) (.int k n) : Sem Value).run P w = .ok (.bool (decide (n ≤ m))) w := by
  simp [go_sem, eqGuard, binOp]
theorem bin_eqS {m n : ByteArray} {t : TypeId} {p q : Operand} : (do eqGuard .eql t p q (.string m) (.string n); binOp .eql t (.string m) (.string n) : Sem Value).run P w = .ok (.bool (m.toList == n.toList)) w := by
  simp [go_sem, eqGuard, binOp, Op.stringOp]
end

end Go.Proofs.Ytpjjdngoblfleaa
