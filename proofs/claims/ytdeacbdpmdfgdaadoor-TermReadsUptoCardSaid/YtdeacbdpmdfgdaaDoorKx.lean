/- The text of a term: two terms of one text are the same. -/
import Derived.Test.YtdeacbdpmdfgdaaDoorTe
import Derived.Lib.ItoaNum
namespace Go.Proofs.YtdeacbdpmdfgdaaDoor
open Go.RowKit
set_option linter.unusedVariables false
set_option maxRecDepth 100000
def digC (c:UInt8):Bool:=decide (48≤c.toNat) && decide (c.toNat≤57)
theorem dig_of {n:Nat} (h:n<10):(UInt8.ofNat (48+n)).toNat=48+n:=by
 rw [UInt8.toNat_ofNat']; omega
theorem digC_of {n:Nat} (h:n<10):digC (UInt8.ofNat (48+n))=true:=by
 unfold digC; rw [dig_of h]; simp; omega
theorem decC_all:∀ u:Nat,∀ c∈Lib.decDigits u,digC c=true:=by
 intro u
 induction u using Nat.strongRecOn with
 | ind u ih =>
  intro c hc
  rw [Lib.decDigits] at hc
  split at hc
  · rename_i h
    rw [List.mem_singleton] at hc
    rw [hc]; exact digC_of h
  · rename_i h
    rcases List.mem_append.1 hc with hc | hc
    · exact ih (u / 10) (by omega) c hc
    · rw [List.mem_singleton] at hc
      rw [hc]; exact digC_of (Nat.mod_lt _ (by omega))
theorem decC_ne (u:Nat):Lib.decDigits u≠[]:=by
 rw [Lib.decDigits]
 split <;> simp
def valC (l:List UInt8):Nat:=l.foldl (fun n c=>n * 10+(c.toNat - 48)) 0
theorem valC_dec:∀ u:Nat,valC (Lib.decDigits u)=u:=by
 intro u
 induction u using Nat.strongRecOn with
 | ind u ih =>
  rw [Lib.decDigits]
  split
  · rename_i h
    show 0 * 10+((UInt8.ofNat (48+u)).toNat - 48)=u
    rw [dig_of h]; omega
  · rename_i h
    unfold valC
    rw [List.foldl_append]
    have:=ih (u / 10) (by omega)
    unfold valC at this
    rw [this]
    show u / 10 * 10+((UInt8.ofNat (48+u % 10)).toNat - 48)=u
    rw [dig_of (Nat.mod_lt _ (by omega))]; omega
def digsC:List Nat→List UInt8
 | []=>[]
 | d::l=>Lib.decDigits d++46::digsC l
mutual
def keyB:Tw→List UInt8
 | .mk k n b d l=>Lib.decDigits k.toNat++32::(Lib.decDigits n.size++58::(n.data.toList++32::((if b=true then [45] else [])++(digsC d++32::(Lib.decDigits l.length++59::keyBL l)))))
def keyBL:List Tw→List UInt8
 | []=>[]
 | t::l=>keyB t++keyBL l
end
mutual
def kindR:Tw→Prop
 | .mk k _ _ d l=>((0≤k∧k≤255)∧∀ x∈d,x<4294967296)∧kindRL l
def kindRL:List Tw→Prop
 | []=>True
 | t::l=>kindR t∧kindRL l
end
theorem kindRL_mem:∀ {l:List Tw} {a:Tw},kindRL l→a∈l→kindR a
 | t::l,a,h,ha=>by
  rcases List.mem_cons.1 ha with rfl | ha
  · exact h.1
  · exact kindRL_mem h.2 ha
theorem kindR_eq (t:Tw):kindR t↔((0≤t.kind∧t.kind≤255)∧∀ x∈t.digits,x<4294967296)∧kindRL t.kids:=by cases t; rfl
def keyS (t:Tw):ByteArray:=⟨(keyB t).toArray⟩
def keyI (t:Tw):List Int:=(keyB t).map fun b=>(b.toNat:Int)
theorem keyB_eq (t:Tw):keyB t=Lib.decDigits t.kind.toNat++32::(Lib.decDigits t.name.size++58::(t.name.data.toList++32::((if t.neg=true then [45] else [])++(digsC t.digits++32::(Lib.decDigits t.kids.length++59::keyBL t.kids))))):=by
 cases t; rw [keyB]; rfl
theorem dec_len:∀ (k n:Nat),n<10 ^ (k+1)→(Lib.decDigits n).length≤k+1
 | 0,n,h=>by
  rw [Lib.decDigits,dif_pos (by simpa using h)]
  exact Nat.le_refl _
 | k+1,n,h=>by
  rw [Lib.decDigits]
  split
  · simp
  · have:=dec_len k (n / 10) (by rw [Nat.pow_succ] at h; omega)
    simp only [List.length_append,List.length_singleton]
    omega
theorem digsC_len:∀ {d:List Nat},(∀ x∈d,x<4294967296)→(digsC d).length≤11 * d.length
 | [],_=>Nat.le_refl _
 | x::d,h=>by
  have h1:=dec_len 9 x (by have:=h x (by simp); omega)
  have h2:=digsC_len (d:=d) fun y hy=>h y (by simp [hy])
  simp only [digsC,List.length_append,List.length_cons]
  omega
theorem kindRL_of:∀ {l:List Tw},(∀ a∈l,kindR a)→kindRL l
 | [],_=>trivial
 | t::l,h=>⟨h t (by simp),kindRL_of fun a ha=>h a (by simp [ha])⟩
end Go.Proofs.YtdeacbdpmdfgdaaDoor
