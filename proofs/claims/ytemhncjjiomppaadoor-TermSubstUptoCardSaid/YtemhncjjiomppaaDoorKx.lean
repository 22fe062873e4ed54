/- The text of a term: two terms of one text are the same. -/
import Derived.Test.YtemhncjjiomppaaDoorTe
import Derived.Lib.ItoaNum
namespace Go.Proofs.YtemhncjjiomppaaDoor
open Go.RowKit
set_option linter.unusedVariables false
set_option maxRecDepth 100000
theorem Qo3 (u:Nat):Lib.decDigits u≠[]:=by
 rw [Lib.decDigits]
 split <;> simp
def QeU:List Nat→List UInt8
 | []=>[]
 | d::l=>Lib.decDigits d++46::QeU l
mutual
def keyB:Tw→List UInt8
 | .mk k n b d l=>Lib.decDigits k.toNat++32::(Lib.decDigits n.size++58::(n.data.toList++32::((if b=true then [45] else [])++(QeU d++32::(Lib.decDigits l.length++59::QeI l)))))
def QeI:List Tw→List UInt8
 | []=>[]
 | t::l=>keyB t++QeI l
end
mutual
def Qe9:Tw→Prop
 | .mk k _ _ d l=>((0≤k∧k≤255)∧∀ x∈d,x<4294967296)∧Qjc l
def Qjc:List Tw→Prop
 | []=>True
 | t::l=>Qe9 t∧Qjc l
end
theorem Qfw:∀ {l:List Tw} {a:Tw},Qjc l→a∈l→Qe9 a
 | t::l,a,h,ha=>by
  rcases List.mem_cons.1 ha with rfl | ha
  · exact h.1
  · exact Qfw h.2 ha
theorem Qnd (t:Tw):Qe9 t↔((0≤t.kind∧t.kind≤255)∧∀ x∈t.digits,x<4294967296)∧Qjc t.kids:=by cases t; rfl
def keyS (t:Tw):ByteArray:=⟨(keyB t).toArray⟩
def keyI (t:Tw):List Int:=(keyB t).map fun b=>(b.toNat:Int)
theorem QoU (t:Tw):keyB t=Lib.decDigits t.kind.toNat++32::(Lib.decDigits t.name.size++58::(t.name.data.toList++32::((if t.neg=true then [45] else [])++(QeU t.digits++32::(Lib.decDigits t.kids.length++59::QeI t.kids))))):=by
 cases t; rw [keyB]; rfl
end Go.Proofs.YtemhncjjiomppaaDoor
