/- The text of a term: two terms of one text are the same. -/
import Derived.Test.YtmbmbcamecfnkaaGreatDoorTe
import Derived.Lib.ItoaNum
namespace Go.Proofs.YtmbmbcamecfnkaaGreatDoor
open Go.RowKit
set_option linter.unusedVariables false
set_option maxRecDepth 100000
theorem Qug (u:Nat):Lib.decDigits u≠[]:=by
 rw [Lib.decDigits]
 split <;> simp
def Qes:List Nat→List UInt8
 | []=>[]
 | d::l=>Lib.decDigits d++46::Qes l
mutual
def keyB:Tw→List UInt8
 | .mk k n b d l=>Lib.decDigits k.toNat++32::(Lib.decDigits n.size++58::(n.data.toList++32::((if b=true then [45] else [])++(Qes d++32::(Lib.decDigits l.length++59::Qdx l)))))
def Qdx:List Tw→List UInt8
 | []=>[]
 | t::l=>keyB t++Qdx l
end
mutual
def QbN:Tw→Prop
 | .mk k _ _ d l=>((0≤k∧k≤255)∧∀ x∈d,x<4294967296)∧QeJ l
def QeJ:List Tw→Prop
 | []=>True
 | t::l=>QbN t∧QeJ l
end
theorem Qfj:∀ {l:List Tw} {a:Tw},QeJ l→a∈l→QbN a
 | t::l,a,h,ha=>by
  rcases List.mem_cons.1 ha with rfl | ha
  · exact h.1
  · exact Qfj h.2 ha
theorem QmD (t:Tw):QbN t↔((0≤t.kind∧t.kind≤255)∧∀ x∈t.digits,x<4294967296)∧QeJ t.kids:=by cases t; rfl
def keyS (t:Tw):ByteArray:=⟨(keyB t).toArray⟩
def keyI (t:Tw):List Int:=(keyB t).map fun b=>(b.toNat:Int)
theorem Qlb (t:Tw):keyB t=Lib.decDigits t.kind.toNat++32::(Lib.decDigits t.name.size++58::(t.name.data.toList++32::((if t.neg=true then [45] else [])++(Qes t.digits++32::(Lib.decDigits t.kids.length++59::Qdx t.kids))))):=by
 cases t; rw [keyB]; rfl
theorem Qd2:∀ (k n:Nat),n<10 ^ (k+1)→(Lib.decDigits n).length≤k+1
 | 0,n,h=>by
  rw [Lib.decDigits,dif_pos (by simpa using h)]
  exact Nat.le_refl _
 | k+1,n,h=>by
  rw [Lib.decDigits]
  split
  · simp
  · have:=Qd2 k (n / 10) (by rw [Nat.pow_succ] at h; omega)
    simp only [List.length_append,List.length_singleton]
    omega
mutual
def nodW:Tw→Nat
 | .mk _ n _ d l=>max (n.size+11 * d.length) (Qel l)
def Qel:List Tw→Nat
 | []=>0
 | t::l=>max (nodW t) (Qel l)
end
theorem Qj7:∀ {d:List Nat},(∀ x∈d,x<4294967296)→(Qes d).length≤11 * d.length
 | [],_=>Nat.le_refl _
 | x::d,h=>by
  have h1:=Qd2 9 x (by have:=h x (by simp); omega)
  have h2:=Qj7 (d:=d) fun y hy=>h y (by simp [hy])
  simp only [Qes,List.length_append,List.length_cons]
  omega
mutual
theorem QmF:∀ (t:Tw),QbN t→t.fitT→(keyB t).length≤t.size * (nodW t+60)
 | .mk k n b d l,hk,hf=>by
  have h1:=Qd2 2 k.toNat (by have:=hk.1.1; omega)
  have h2:=Qd2 18 n.size (by have:=hf.1; omega)
  have h3:=Qd2 18 l.length (by have:=hf.2.2.1; omega)
  have h4:=Qj7 hk.1.2
  have h5:=QjP l hk.2 hf.2.2.2
  have h6:(if b=true then [(45:UInt8)] else []).length≤1:=by split <;> simp
  have h7:(Tw.mk k n b d l).size=1+szL l:=by rw [Tw.size]; omega
  have h8:nodW (Tw.mk k n b d l)=max (n.size+11 * d.length) (Qel l):=by rw [nodW]
  have h9:n.data.toList.length=n.size:=by rw [Array.length_toList]; rfl
  rw [keyB,h7,h8]
  simp only [List.length_append,List.length_cons]
  have h10:szL l * (Qel l+60)≤szL l * (max (n.size+11 * d.length) (Qel l)+60):=Nat.mul_le_mul_left _ (by omega)
  rw [Nat.add_mul,Nat.one_mul]
  omega
theorem QjP:∀ (l:List Tw),QeJ l→Qn6 l→(Qdx l).length≤szL l * (Qel l+60)
 | [],_,_=>by simp [Qdx]
 | t::l,hk,hf=>by
  have h1:=QmF t hk.1 hf.1
  have h2:=QjP l hk.2 hf.2
  have h3:szL (t::l)=t.size+szL l:=rfl
  have h4:Qel (t::l)=max (nodW t) (Qel l):=by rw [Qel]
  rw [Qdx,List.length_append,h3,h4,Nat.add_mul]
  have h5:t.size * (nodW t+60)≤t.size * (max (nodW t) (Qel l)+60):=Nat.mul_le_mul_left _ (by omega)
  have h6:szL l * (Qel l+60)≤szL l * (max (nodW t) (Qel l)+60):=Nat.mul_le_mul_left _ (by omega)
  omega
end
end Go.Proofs.YtmbmbcamecfnkaaGreatDoor
