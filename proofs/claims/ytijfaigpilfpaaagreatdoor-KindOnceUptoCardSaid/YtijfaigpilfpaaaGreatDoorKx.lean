/- The text of a term: two terms of one text are the same. -/
import Derived.Test.YtijfaigpilfpaaaGreatDoorTe
import Derived.Lib.ItoaNum
namespace Go.Proofs.YtijfaigpilfpaaaGreatDoor
open Go.RowKit
set_option linter.unusedVariables false
set_option maxRecDepth 100000
theorem Qtp (u:Nat):Lib.decDigits u≠[]:=by
 rw [Lib.decDigits]
 split <;> simp
def Qep:List Nat→List UInt8
 | []=>[]
 | d::l=>Lib.decDigits d++46::Qep l
mutual
def keyB:Tw→List UInt8
 | .mk k n b d l=>Lib.decDigits k.toNat++32::(Lib.decDigits n.size++58::(n.data.toList++32::((if b=true then [45] else [])++(Qep d++32::(Lib.decDigits l.length++59::Qdh l)))))
def Qdh:List Tw→List UInt8
 | []=>[]
 | t::l=>keyB t++Qdh l
end
mutual
def QaQ:Tw→Prop
 | .mk k _ _ d l=>((0≤k∧k≤255)∧∀ x∈d,x<4294967296)∧QdI l
def QdI:List Tw→Prop
 | []=>True
 | t::l=>QaQ t∧QdI l
end
theorem Qgw:∀ {l:List Tw} {a:Tw},QdI l→a∈l→QaQ a
 | t::l,a,h,ha=>by
  rcases List.mem_cons.1 ha with rfl | ha
  · exact h.1
  · exact Qgw h.2 ha
theorem Qqz (t:Tw):QaQ t↔((0≤t.kind∧t.kind≤255)∧∀ x∈t.digits,x<4294967296)∧QdI t.kids:=by cases t; rfl
def keyS (t:Tw):ByteArray:=⟨(keyB t).toArray⟩
def keyI (t:Tw):List Int:=(keyB t).map fun b=>(b.toNat:Int)
theorem Qtd (t:Tw):keyB t=Lib.decDigits t.kind.toNat++32::(Lib.decDigits t.name.size++58::(t.name.data.toList++32::((if t.neg=true then [45] else [])++(Qep t.digits++32::(Lib.decDigits t.kids.length++59::Qdh t.kids))))):=by
 cases t; rw [keyB]; rfl
theorem QdV:∀ (k n:Nat),n<10 ^ (k+1)→(Lib.decDigits n).length≤k+1
 | 0,n,h=>by
  rw [Lib.decDigits,dif_pos (by simpa using h)]
  exact Nat.le_refl _
 | k+1,n,h=>by
  rw [Lib.decDigits]
  split
  · simp
  · have:=QdV k (n / 10) (by rw [Nat.pow_succ] at h; omega)
    simp only [List.length_append,List.length_singleton]
    omega
theorem QiY:∀ {d:List Nat},(∀ x∈d,x<4294967296)→(Qep d).length≤11 * d.length
 | [],_=>Nat.le_refl _
 | x::d,h=>by
  have h1:=QdV 9 x (by have:=h x (by simp); omega)
  have h2:=QiY (d:=d) fun y hy=>h y (by simp [hy])
  simp only [Qep,List.length_append,List.length_cons]
  omega
end Go.Proofs.YtijfaigpilfpaaaGreatDoor
