/- One operation at a time, by plain lemmas. -/
import Derived.Test.YtemhncjjiomppaaDoorReg
namespace Go.Proofs.YtemhncjjiomppaaDoor
open Go.RowKit
section
variable {P : Program} {a : Act} {w : World} {K : Act → World → Prop} {Q : Exit → Act → World → Prop} {o : Oper}
theorem QaS {x:Value} {w':World} (h:(execOp a.eval o).run P w=.ok (.value x) w') (hK:K (a.put o.dst x) w'):o.wp P a w K Q:=by
 unfold Oper.wp; rw [h]; exact hK
theorem Qln {d:Nat} {n:Nat} {ty:TypeId} {pos:String} {af:Array Edge} {g:Option (Nat × Bool)} {x:Value} (h:a.tmps.getD n undef=x) (hK:K (a.put (some d) x) w) :
  (Oper.mk (some d) (.assign (.tmp n)) ty pos af g).wp P a w K Q:=by
 subst h; exact QaS (x:=a.tmps.getD n undef) rfl hK
def QbA (P:Program) (f:FuncId):Bool:=match P.funcs[f]? with
 | some fn => !(fn.name == "runtime.NumGoroutine") && fn.body.isSome
 | none=>false
theorem Qlm {d:Nat} {f:FuncId} {xs:Array Operand} {vs:Array Value} {ts:Array TypeId} {ty:TypeId} {pos:String} {af:Array Edge} {g:Option (Nat × Bool)} {R:Ending→World→Prop}
  (hf:QbA P f=true) (hv:xs.map a.eval=vs) (hc:Calls P f vs w R) (hR:∀ e w',R e w'→∃ v,e=.returned v∧K (a.put (some d) v) w') :
  (Oper.mk (some d) (.call ⟨.value (.func f),xs,ts⟩) ty pos af g).wp P a w K Q:=by
 have h:(execOp a.eval (Oper.mk (some d) (.call ⟨.value (.func f),xs,ts⟩) ty pos af g)).run P w=.ok (.enter f vs) w:=by
  unfold QbA at hf
  split at hf
  · rename_i fn hfn
    simp only [Bool.and_eq_true,Bool.not_eq_true'] at hf
    have hb:fn.body.isNone=false:=by cases h:fn.body <;> simp_all
    subst hv
    show (do let d ← resolve a.eval ⟨.value (.func f),xs,ts⟩ ty; invoke d.target d.args:Sem Next).run P w=_
    have e1:resolve a.eval ⟨.value (.func f),xs,ts⟩ ty=pure { target:=.fn (.func f) #[],args:=#[]++xs.map a.eval }:=rfl
    rw [e1]
    have hn : ¬ fn.name = "runtime.NumGoroutine" := by simpa using hf.1
    have hb':¬ fn.body=none:=fun hc=>by rw [hc] at hb; cases hb
    simp [invoke,callFunc,hfn,hn,hb']
  · cases hf
 unfold Oper.wp
 rw [h,Oper.upon_enter]
 refine hc.mono ?_
 intro e w' hr
 obtain ⟨v,rfl,hk⟩:=hR e w' hr
 exact hk
theorem Qhc {ops:Array Oper} {d:Nat} {n i:Nat} {ty:TypeId} {pos:String} {af:Array Edge} {vs:Array Value} {x:Value} (h:a.tmps.getD n undef=.tuple vs) (hx:vs[i]?=some x) :
  Yields P ops (Oper.mk (some d) (.extract (.tmp n) i) ty pos af none) x a:=by
 refine .inl ⟨rfl,fun w=>?_⟩
 have h':a.eval (.tmp n)=.tuple vs:=h
 show (do pure (.value (← Instr.extract (a.eval (.tmp n)) i)):Sem Next).run P w=_
 rw [h']
 simp [Instr.extract,hx]
theorem op_sem {d:Nat} {op:Op} {s:Sem Value} {ty:TypeId} {pos:String} {af:Array Edge} {g:Option (Nat × Bool)} {x:Value} {w':World} (he:execOp a.eval (Oper.mk (some d) op ty pos af g)=(do pure (.value (← s))))
  (h:s.run P w=.ok x w') (hK:K (a.put (some d) x) w'):(Oper.mk (some d) op ty pos af g).wp P a w K Q:=by
 refine QaS (x:=x) (w':=w') ?_ hK
 rw [he]; simp [h]
theorem Qll {d n:Nat} {t ty:TypeId} {pos:String} {af:Array Edge} {g:Option (Nat × Bool)} {ad:Addr} {x:Value} (h:a.tmps.getD n undef=.pointer (some ad)) (hr:(Instr.loadAt t (.pointer (some ad))).run P w=.ok x w) (hK:K (a.put (some d) x) w) :
  (Oper.mk (some d) (.load t (.tmp n)) ty pos af g).wp P a w K Q :=
 op_sem (s:=Instr.loadAt t (.pointer (some ad))) (by simp only [execOp,Act.eval,h]) hr hK
end
end Go.Proofs.YtemhncjjiomppaaDoor
