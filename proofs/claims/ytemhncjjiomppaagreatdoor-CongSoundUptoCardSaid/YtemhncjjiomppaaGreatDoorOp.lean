/- One operation at a time, by plain lemmas. -/
import Derived.Test.YtemhncjjiomppaaGreatDoorReg
namespace Go.Proofs.YtemhncjjiomppaaGreatDoor
open Go.RowKit
section
variable {P : Program} {a : Act} {w : World} {K : Act → World → Prop} {Q : Exit → Act → World → Prop} {o : Oper}
theorem QbE {x:Value} {w':World} (h:(execOp a.eval o).run P w=.ok (.value x) w') (hK:K (a.put o.dst x) w'):o.wp P a w K Q:=by
 unfold Oper.wp; rw [h]; exact hK
def QcI (P:Program) (f:FuncId):Bool:=match P.funcs[f]? with
 | some fn => !(fn.name == "runtime.NumGoroutine") && fn.body.isSome
 | none=>false
theorem QjR {ops:Array Oper} {d:Nat} {n i:Nat} {ty:TypeId} {pos:String} {af:Array Edge} {vs:Array Value} {x:Value} (h:a.tmps.getD n undef=.tuple vs) (hx:vs[i]?=some x) :
  Yields P ops (Oper.mk (some d) (.extract (.tmp n) i) ty pos af none) x a:=by
 refine .inl ⟨rfl,fun w=>?_⟩
 have h':a.eval (.tmp n)=.tuple vs:=h
 show (do pure (.value (← Instr.extract (a.eval (.tmp n)) i)):Sem Next).run P w=_
 rw [h']
 simp [Instr.extract,hx]
end
end Go.Proofs.YtemhncjjiomppaaGreatDoor
