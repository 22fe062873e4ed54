/- The text of a term: two terms of one text are the same. -/
import Derived.Test.YtemhncjjiomppaaGreatDoorTe
import Derived.Lib.ItoaNum
namespace Go.Proofs.YtemhncjjiomppaaGreatDoor
open Go.RowKit
set_option linter.unusedVariables false
set_option maxRecDepth 100000
def digC (c:UInt8):Bool:=decide (48≤c.toNat) && decide (c.toNat≤57)
theorem QkQ {n:Nat} (h:n<10):(UInt8.ofNat (48+n)).toNat=48+n:=by
 rw [UInt8.toNat_ofNat']; omega
theorem QkR {n:Nat} (h:n<10):digC (UInt8.ofNat (48+n))=true:=by
 unfold digC; rw [QkQ h]; simp; omega
theorem Qbk:∀ u:Nat,∀ c∈Lib.decDigits u,digC c=true:=by
 intro u
 induction u using Nat.strongRecOn with
 | ind u ih =>
  intro c hc
  rw [Lib.decDigits] at hc
  split at hc
  · rename_i h
    rw [List.mem_singleton] at hc
    rw [hc]; exact QkR h
  · rename_i h
    rcases List.mem_append.1 hc with hc | hc
    · exact ih (u / 10) (by omega) c hc
    · rw [List.mem_singleton] at hc
      rw [hc]; exact QkR (Nat.mod_lt _ (by omega))
theorem Qc9 (u:Nat):Lib.decDigits u≠[]:=by
 rw [Lib.decDigits]
 split <;> simp
def valC (l:List UInt8):Nat:=l.foldl (fun n c=>n * 10+(c.toNat - 48)) 0
theorem Qbx:∀ u:Nat,valC (Lib.decDigits u)=u:=by
 intro u
 induction u using Nat.strongRecOn with
 | ind u ih =>
  rw [Lib.decDigits]
  split
  · rename_i h
    show 0 * 10+((UInt8.ofNat (48+u)).toNat - 48)=u
    rw [QkQ h]; omega
  · rename_i h
    unfold valC
    rw [List.foldl_append]
    have:=ih (u / 10) (by omega)
    unfold valC at this
    rw [this]
    show u / 10 * 10+((UInt8.ofNat (48+u % 10)).toNat - 48)=u
    rw [QkQ (Nat.mod_lt _ (by omega))]; omega
theorem QnF {u v:Nat} (h:Lib.decDigits u=Lib.decDigits v):u=v:=by rw [← Qbx u,h,Qbx]
theorem QhL {p:UInt8→Bool}:∀ {a b:List UInt8} {c d:UInt8} {r s:List UInt8},(∀ x∈a,p x=true)→(∀ x∈b,p x=true)→p c=false→p d=false→a++c::r=b++d::s→a=b∧c=d∧r=s
 | [],[],c,d,r,s,_,_,_,_,h=>by simpa using h
 | [],y::b,c,d,r,s,_,hb,hc,_,h=>by
  simp only [List.nil_append,List.cons_append,List.cons.injEq] at h
  rw [h.1,hb y (by simp)] at hc; cases hc
 | x::a,[],c,d,r,s,ha,_,_,hd,h=>by
  simp only [List.nil_append,List.cons_append,List.cons.injEq] at h
  rw [← h.1,ha x (by simp)] at hd; cases hd
 | x::a,y::b,c,d,r,s,ha,hb,hc,hd,h=>by
  simp only [List.cons_append,List.cons.injEq] at h
  obtain ⟨h1,h2,h3⟩:=QhL (fun z hz=>ha z (by simp [hz])) (fun z hz=>hb z (by simp [hz])) hc hd h.2
  exact ⟨by rw [h.1,h1],h2,h3⟩
theorem Qfn {u v:Nat} {c d:UInt8} {r s:List UInt8} (hc:digC c=false) (hd:digC d=false) (h:Lib.decDigits u++c::r=Lib.decDigits v++d::s):u=v∧c=d∧r=s:=by
 obtain ⟨h1,h2,h3⟩:=QhL (Qbk u) (Qbk v) hc hd h
 exact ⟨QnF h1,h2,h3⟩
def Qai:List Nat→List UInt8
 | []=>[]
 | d::l=>Lib.decDigits d++46::Qai l
theorem Qgr:∀ {l m:List Nat} {r s:List UInt8},Qai l++32::r=Qai m++32::s→l=m∧r=s
 | [],[],r,s,h=>by simpa [Qai] using h
 | [],d::m,r,s,h=>by
  exfalso
  rw [Qai,Qai,List.append_assoc] at h
  cases hd:Lib.decDigits d with
  | nil=>exact Qc9 d hd
  | cons c k =>
   rw [hd] at h
   simp only [List.nil_append,List.cons_append,List.cons.injEq] at h
   have:=Qbk d c (by rw [hd]; simp)
   rw [← h.1] at this; revert this; decide
 | d::l,[],r,s,h=>by
  exfalso
  rw [Qai,Qai,List.append_assoc] at h
  cases hd:Lib.decDigits d with
  | nil=>exact Qc9 d hd
  | cons c k =>
   rw [hd] at h
   simp only [List.nil_append,List.cons_append,List.cons.injEq] at h
   have:=Qbk d c (by rw [hd]; simp)
   rw [h.1] at this; revert this; decide
 | d::l,e::m,r,s,h=>by
  rw [Qai,Qai,List.append_assoc,List.append_assoc] at h
  obtain ⟨h1,-,h2⟩:=Qfn (by decide) (by decide) h
  obtain ⟨h3,h4⟩:=Qgr h2
  exact ⟨by rw [h1,h3],h4⟩
mutual
def keyB:Tw→List UInt8
 | .mk k n b d l=>Lib.decDigits k.toNat++32::(Lib.decDigits n.size++58::(n.data.toList++32::((if b=true then [45] else [])++(Qai d++32::(Lib.decDigits l.length++59::Qad l)))))
def Qad:List Tw→List UInt8
 | []=>[]
 | t::l=>keyB t++Qad l
end
mutual
def QeJ:Tw→Prop
 | .mk k _ _ _ l=>0≤k∧Qd4 l
def Qd4:List Tw→Prop
 | []=>True
 | t::l=>QeJ t∧Qd4 l
end
theorem Qnm {b c:Bool} {d e:List Nat} {r s:List UInt8} (h:(if b=true then [45] else [])++(Qai d++32::r)=(if c=true then [45] else [])++(Qai e++32::s)):b=c∧Qai d++32::r=Qai e++32::s:=by
 have key:∀ (d:List Nat) (r t:List UInt8),¬ Qai d++32::r=45::t:=fun d r t hh=>by
  cases d with
  | nil=>simp [Qai] at hh
  | cons x d =>
   rw [Qai,List.append_assoc] at hh
   cases hd:Lib.decDigits x with
   | nil=>exact Qc9 x hd
   | cons c k =>
    rw [hd] at hh
    simp only [List.cons_append,List.cons.injEq] at hh
    have:=Qbk x c (by rw [hd]; simp)
    rw [hh.1] at this; revert this; decide
 cases b <;> cases c
 · exact ⟨rfl,by simpa using h⟩
 · exact absurd (by simpa using h) (key d r _)
 · exact absurd (by simpa using h.symm) (key e s _)
 · exact ⟨rfl,by simpa using h⟩
mutual
def Qau:Tw→Prop
 | .mk k _ _ d l=>((0≤k∧k≤255)∧∀ x∈d,x<4294967296)∧QcC l
def QcC:List Tw→Prop
 | []=>True
 | t::l=>Qau t∧QcC l
end
mutual
theorem Qfw:∀ (t:Tw),Qau t→QeJ t
 | .mk k _ _ _ l,h=>⟨h.1.1.1,Qgd l h.2⟩
theorem Qgd:∀ (l:List Tw),QcC l→Qd4 l
 | [],_=>trivial
 | t::l,h=>⟨Qfw t h.1,Qgd l h.2⟩
end
theorem QeI:∀ {l:List Tw} {a:Tw},QcC l→a∈l→Qau a
 | t::l,a,h,ha=>by
  rcases List.mem_cons.1 ha with rfl | ha
  · exact h.1
  · exact QeI h.2 ha
theorem QlQ (t:Tw):Qau t↔((0≤t.kind∧t.kind≤255)∧∀ x∈t.digits,x<4294967296)∧QcC t.kids:=by cases t; rfl
def keyS (t:Tw):ByteArray:=⟨(keyB t).toArray⟩
def keyI (t:Tw):List Int:=(keyB t).map fun b=>(b.toNat:Int)
theorem Qnv (t:Tw):keyB t=Lib.decDigits t.kind.toNat++32::(Lib.decDigits t.name.size++58::(t.name.data.toList++32::((if t.neg=true then [45] else [])++(Qai t.digits++32::(Lib.decDigits t.kids.length++59::Qad t.kids))))):=by
 cases t; rw [keyB]; rfl
mutual
theorem Qia:∀ {t u:Tw} {r s:List UInt8},QeJ t→QeJ u→keyB t++r=keyB u++s→t=u∧r=s
 | .mk k n b d l,.mk k' n' b' d' l',r,s,ht,hu,h=>by
  rw [keyB,keyB] at h
  simp only [List.append_assoc,List.cons_append] at h
  obtain ⟨h1,-,h⟩:=Qfn (by decide) (by decide) h
  obtain ⟨h2,-,h⟩:=Qfn (by decide) (by decide) h
  obtain ⟨h3,h⟩:=List.append_inj h (by simpa using h2)
  simp only [List.cons.injEq,true_and] at h
  obtain ⟨h4,h⟩:=Qnm h
  obtain ⟨h5,h⟩:=Qgr h
  obtain ⟨h6,-,h⟩:=Qfn (by decide) (by decide) h
  obtain ⟨h7,hend⟩:=Qgf h6 ht.2 hu.2 h
  have hk:k=k':=by have:=ht.1; have:=hu.1; omega
  have hn:n=n':=by
   cases n; cases n'
   congr 1
   exact Array.ext' h3
  subst hk hn h4 h5 h7
  exact ⟨rfl,hend⟩
theorem Qgf:∀ {l m:List Tw} {r s:List UInt8},l.length=m.length→Qd4 l→Qd4 m→Qad l++r=Qad m++s→l=m∧r=s
 | [],[],r,s,_,_,_,h=>by simpa [Qad] using h
 | t::l,u::m,r,s,hl,ht,hu,h=>by
  rw [Qad,Qad,List.append_assoc,List.append_assoc] at h
  obtain ⟨h1,h⟩:=Qia ht.1 hu.1 h
  obtain ⟨h2,h⟩:=Qgf (by simpa using hl) ht.2 hu.2 h
  exact ⟨by rw [h1,h2],h⟩
 | [],u::m,_,_,hl,_,_,_=>by simp at hl
 | t::l,[],_,_,hl,_,_,_=>by simp at hl
end
theorem QlU {t u:Tw} (ht:QeJ t) (hu:QeJ u):keyB t=keyB u↔t=u :=
 ⟨fun h=>(Qia ht hu (r:=[]) (s:=[]) (by rw [h])).1,fun h=>by rw [h]⟩
theorem Qc8:∀ (k n:Nat),n<10 ^ (k+1)→(Lib.decDigits n).length≤k+1
 | 0,n,h=>by
  rw [Lib.decDigits,dif_pos (by simpa using h)]
  exact Nat.le_refl _
 | k+1,n,h=>by
  rw [Lib.decDigits]
  split
  · simp
  · have:=Qc8 k (n / 10) (by rw [Nat.pow_succ] at h; omega)
    simp only [List.length_append,List.length_singleton]
    omega
mutual
def nodW:Tw→Nat
 | .mk _ n _ d l=>max (n.size+11 * d.length) (Qcq l)
def Qcq:List Tw→Nat
 | []=>0
 | t::l=>max (nodW t) (Qcq l)
end
theorem Qgq:∀ {d:List Nat},(∀ x∈d,x<4294967296)→(Qai d).length≤11 * d.length
 | [],_=>Nat.le_refl _
 | x::d,h=>by
  have h1:=Qc8 9 x (by have:=h x (by simp); omega)
  have h2:=Qgq (d:=d) fun y hy=>h y (by simp [hy])
  simp only [Qai,List.length_append,List.length_cons]
  omega
mutual
theorem Qfx:∀ (t:Tw),Qau t→t.fitT→(keyB t).length≤t.size * (nodW t+60)
 | .mk k n b d l,hk,hf=>by
  have h1:=Qc8 2 k.toNat (by have:=hk.1.1; omega)
  have h2:=Qc8 18 n.size (by have:=hf.1; omega)
  have h3:=Qc8 18 l.length (by have:=hf.2.2.1; omega)
  have h4:=Qgq hk.1.2
  have h5:=Qge l hk.2 hf.2.2.2
  have h6:(if b=true then [(45:UInt8)] else []).length≤1:=by split <;> simp
  have h7:(Tw.mk k n b d l).size=1+szL l:=by rw [Tw.size]; omega
  have h8:nodW (Tw.mk k n b d l)=max (n.size+11 * d.length) (Qcq l):=by rw [nodW]
  have h9:n.data.toList.length=n.size:=by rw [Array.length_toList]; rfl
  rw [keyB,h7,h8]
  simp only [List.length_append,List.length_cons]
  have h10:szL l * (Qcq l+60)≤szL l * (max (n.size+11 * d.length) (Qcq l)+60):=Nat.mul_le_mul_left _ (by omega)
  rw [Nat.add_mul,Nat.one_mul]
  omega
theorem Qge:∀ (l:List Tw),QcC l→Qc4 l→(Qad l).length≤szL l * (Qcq l+60)
 | [],_,_=>by simp [Qad]
 | t::l,hk,hf=>by
  have h1:=Qfx t hk.1 hf.1
  have h2:=Qge l hk.2 hf.2
  have h3:szL (t::l)=t.size+szL l:=rfl
  have h4:Qcq (t::l)=max (nodW t) (Qcq l):=by rw [Qcq]
  rw [Qad,List.length_append,h3,h4,Nat.add_mul]
  have h5:t.size * (nodW t+60)≤t.size * (max (nodW t) (Qcq l)+60):=Nat.mul_le_mul_left _ (by omega)
  have h6:szL l * (Qcq l+60)≤szL l * (max (nodW t) (Qcq l)+60):=Nat.mul_le_mul_left _ (by omega)
  omega
end
end Go.Proofs.YtemhncjjiomppaaGreatDoor
