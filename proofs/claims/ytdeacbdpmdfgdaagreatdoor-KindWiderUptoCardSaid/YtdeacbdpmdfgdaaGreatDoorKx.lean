/- The text of a term: two terms of one text are the same. -/
import Derived.Test.YtdeacbdpmdfgdaaGreatDoorTe
import Derived.Lib.ItoaNum
namespace Go.Proofs.YtdeacbdpmdfgdaaGreatDoor
open Go.RowKit
set_option linter.unusedVariables false
set_option maxRecDepth 100000
theorem QrD (u:Nat):Lib.decDigits u≠[]:=by
 rw [Lib.decDigits]
 split <;> simp
def QfC:List Nat→List UInt8
 | []=>[]
 | d::l=>Lib.decDigits d++46::QfC l
mutual
def keyB:Tw→List UInt8
 | .mk k n b d l=>Lib.decDigits k.toNat++32::(Lib.decDigits n.size++58::(n.data.toList++32::((if b=true then [45] else [])++(QfC d++32::(Lib.decDigits l.length++59::Qd5 l)))))
def Qd5:List Tw→List UInt8
 | []=>[]
 | t::l=>keyB t++Qd5 l
end
mutual
def Qbq:Tw→Prop
 | .mk k _ _ d l=>((0≤k∧k≤255)∧∀ x∈d,x<4294967296)∧Qgj l
def Qgj:List Tw→Prop
 | []=>True
 | t::l=>Qbq t∧Qgj l
end
theorem Qgi:∀ {l:List Tw} {a:Tw},Qgj l→a∈l→Qbq a
 | t::l,a,h,ha=>by
  rcases List.mem_cons.1 ha with rfl | ha
  · exact h.1
  · exact Qgi h.2 ha
theorem Qpi (t:Tw):Qbq t↔((0≤t.kind∧t.kind≤255)∧∀ x∈t.digits,x<4294967296)∧Qgj t.kids:=by cases t; rfl
def keyS (t:Tw):ByteArray:=⟨(keyB t).toArray⟩
def keyI (t:Tw):List Int:=(keyB t).map fun b=>(b.toNat:Int)
theorem Qrt (t:Tw):keyB t=Lib.decDigits t.kind.toNat++32::(Lib.decDigits t.name.size++58::(t.name.data.toList++32::((if t.neg=true then [45] else [])++(QfC t.digits++32::(Lib.decDigits t.kids.length++59::Qd5 t.kids))))):=by
 cases t; rw [keyB]; rfl
end Go.Proofs.YtdeacbdpmdfgdaaGreatDoor
