/- What a term that has a sort comes to: a value of it. -/
import Derived.Test.YtdeacbdpmdfgdaaDoorCn
namespace Go.Proofs.YtdeacbdpmdfgdaaDoor
open Go.RowKit
set_option linter.unusedVariables false
set_option maxRecDepth 100000
section
variable {D : List Dat} {B : List Bnd} {s t : Tw} {v w : Vw}
end
section
variable {D : List Dat} {v : Vw} {s : ByteArray}
end
def OfL (D:List Dat):List ByteArray→List Vw→Prop
 | [],[]=>True
 | s::m,v::l=>ofV D s v=true∧OfL D m l
 | _,_=>False
theorem OfL.len {D:List Dat}:∀ {m:List ByteArray} {l:List Vw},OfL D m l→l.length=m.length
 | [],[],_=>rfl
 | _::_,_::_,h=>by simp [h.2.len]
theorem OfL.all {D:List Dat} {s:ByteArray}:∀ {m:List ByteArray} {l:List Vw},OfL D m l→allEq m s=true→∀ v∈l,ofV D s v=true
 | [],[],_,_,v,hv=>by cases hv
 | x::m,u::l,h,ha,v,hv=>by
  unfold allEq at ha
  rw [List.all_cons,Bool.and_eq_true,decide_eq_true_eq] at ha
  rcases List.mem_cons.1 hv with rfl | hv
  · rw [← ha.1]; exact h.1
  · exact h.2.all (show allEq m s=true from ha.2) v hv
theorem OfL.at {D:List Dat}:∀ {m:List ByteArray} {l:List Vw} {i:Nat},OfL D m l→i<m.length→ofV D (m.getD i ⟨#[]⟩) (l.getD i Sh.vl.nil)=true
 | x::m,u::l,0,h,_=>h.1
 | x::m,u::l,i+1,h,hi=>by
  rw [List.getD_cons_succ,List.getD_cons_succ]
  exact h.2.at (by simpa using hi)
section
variable {D : List Dat} {S : List Srt} {V : List Vw}
end
end Go.Proofs.YtdeacbdpmdfgdaaDoor
