/- Terms, in plain words: sizes, sorts. -/
import Derived.Test.YtdeacbdpmdfgdaaDoorPl
import Derived.Test.YtdeacbdpmdfgdaaDoorVr
namespace Go.Proofs.YtdeacbdpmdfgdaaDoor
open Go.RowKit
set_option linter.unusedVariables false
def bInt:ByteArray:=⟨#[105,110,116]⟩
def bBool:ByteArray:=⟨#[98,111,111,108]⟩
def bTag:ByteArray:=⟨#[116,97,103]⟩
theorem Tw.eta:∀ t:Tw,Tw.mk t.kind t.name t.neg t.digits t.kids=t
 | .mk _ _ _ _ _=>rfl
theorem Vw.eta:∀ t:Vw,Vw.mk t.kind t.neg t.digits t.truth t.name t.fields=t
 | .mk _ _ _ _ _ _=>rfl
mutual
def Tw.size:Tw→Nat
 | .mk _ _ _ _ l=>szL l+1
def szL:List Tw→Nat
 | []=>0
 | t::l=>t.size+szL l
end
theorem Tw.size_eq (t:Tw):t.size=szL t.kids+1:=by cases t; rfl
theorem Tw.size_pos (t:Tw):0<t.size:=by rw [t.size_eq]; omega
theorem szL_le {l:List Tw} {i:Nat} (h:i<l.length):(l.getD i default).size≤szL l:=by
 induction l generalizing i with
 | nil=>simp at h
 | cons t l ih =>
  cases i with
  | zero=>simp [szL]
  | succ i =>
   have:=ih (i:=i) (by simpa using h)
   simp only [List.getD_cons_succ,szL]
   omega
theorem szL_len:∀ l:List Tw,l.length≤szL l
 | []=>Nat.le_refl _
 | t::l=>by have:=szL_len l; have:=t.size_pos; simp only [List.length_cons,szL]; omega
theorem szL_app (l m:List Tw):szL (l++m)=szL l+szL m:=by
 induction l with
 | nil=>simp [szL]
 | cons t l ih=>simp only [List.cons_append,szL,ih]; omega
theorem szL_snoc (l:List Tw) {i:Nat} (h:i<l.length):szL (l.take (i+1))=szL (l.take i)+(l.getD i default).size:=by
 rw [List.take_add_one,List.getElem?_eq_getElem h,szL_app,List.getD_eq_getElem?_getD,List.getElem?_eq_getElem h]
 simp [szL]
def okE {α:Type}:Except Int α→Bool
 | .ok _=>true
 | .error _=>false
def valE {α:Type} (d:α):Except Int α→α
 | .ok x=>x
 | .error _=>d
def errE {α:Type}:Except Int α→Int
 | .ok _=>0
 | .error e=>e
theorem bs_l (a b:ByteArray):(a.toList==b.toList)=decide (a=b):=by
 obtain ⟨a⟩:=a
 obtain ⟨b⟩:=b
 have ea:(⟨a⟩:ByteArray)=⟨a.toList.toArray⟩:=by simp
 have eb:(⟨b⟩:ByteArray)=⟨b.toList.toArray⟩:=by simp
 rw [ea,eb]
 refine bseq _ _ _ ?_
 congr 1
 simp
def allEq (l:List ByteArray) (s:ByteArray):Bool:=l.all fun x=>decide (x=s)
def anyB {α:Type} (l:List α) (f:α→Bool):Int:=match l.findIdx? f with
 | some i=>i
 | none=>-1
theorem wJ (n:Int) (h1:-9223372036854775808≤n) (h2:n≤9223372036854775807):IntKind.i64.wrap n=n:=wrapI n ⟨by omega,by omega⟩
def dataB (D:List Dat) (s:ByteArray):Bool:=!decide (s=bInt) && (!decide (s=bBool) && decide (0≤anyB D fun d=>decide (d.name=s)))
def conD (D:List Dat) (s:ByteArray):Option (ByteArray × Cn):=D.findSome? fun d=>(d.cons.find? fun c=>decide (c.name=s)).map fun c=>(d.name,c)
theorem conD_end (s:ByteArray):conD [] s=none:=rfl
theorem conD_skip (n s:ByteArray) (D:List Dat):conD (⟨n,[]⟩::D) s=conD D s:=rfl
theorem conD_step (n s:ByteArray) (c:Cn) (l:List Cn) (D:List Dat):conD (⟨n,c::l⟩::D) s=if c.name=s then some (n,c) else conD (⟨n,l⟩::D) s:=by
 unfold conD
 rw [List.findSome?_cons,List.findSome?_cons,List.find?_cons]
 by_cases h:c.name=s <;> simp [h]
theorem drop_at {α:Type} (l:List α) (d:α) {i:Nat} (h:i<l.length):l.drop i=l.getD i d::l.drop (i+1):=by
 rw [List.drop_eq_getElem_cons h,List.getD_eq_getElem?_getD,List.getElem?_eq_getElem h]; rfl
def byN (s:ByteArray) (i:Nat):Nat:=(s.data.toList.getD i 0).toNat
def funD (D:List Dat) (s:ByteArray):Option (ByteArray × ByteArray) :=
 if s=bTag then some (⟨#[]⟩,bInt)
 else if s.size<2 then none
 else if byN s (s.size - 2)≠46∨byN s (s.size - 1)<48∨57<byN s (s.size - 1) then none
 else match conD D (s.extract 0 (s.size - 2)) with
  | some (d,c)=>if byN s (s.size - 1) - 48<c.fields.length then some (d,c.fields.getD (byN s (s.size - 1) - 48) ⟨#[]⟩) else none
  | none=>none
end Go.Proofs.YtdeacbdpmdfgdaaDoor
