/- Terms, in plain words: sizes, sorts. -/
import Derived.Test.YtijfaigpilfpaaaGreatDoorPn
import Derived.Test.YtijfaigpilfpaaaGreatDoorVr
namespace Go.Proofs.YtijfaigpilfpaaaGreatDoor
open Go.RowKit
set_option linter.unusedVariables false
def bInt:ByteArray:=⟨#[105,110,116]⟩
def Qd4:ByteArray:=⟨#[98,111,111,108]⟩
def bTag:ByteArray:=⟨#[116,97,103]⟩
theorem Tw.eta:∀ t:Tw,Tw.mk t.kind t.name t.neg t.digits t.kids=t
 | .mk _ _ _ _ _=>rfl
theorem Vw.eta:∀ t:Vw,Vw.mk t.kind t.neg t.digits t.truth t.name t.fields=t
 | .mk _ _ _ _ _ _=>rfl
mutual
def Tw.size:Tw→Nat
 | .mk _ _ _ _ l=>szL l+1
def szL:List Tw→Nat
 | []=>0
 | t::l=>t.size+szL l
end
theorem Tw.size_eq (t:Tw):t.size=szL t.kids+1:=by cases t; rfl
theorem Tw.size_pos (t:Tw):0<t.size:=by rw [t.size_eq]; omega
theorem QkS {l:List Tw} {i:Nat} (h:i<l.length):(l.getD i default).size≤szL l:=by
 induction l generalizing i with
 | nil=>simp at h
 | cons t l ih =>
  cases i with
  | zero=>simp [szL]
  | succ i =>
   have:=ih (i:=i) (by simpa using h)
   simp only [List.getD_cons_succ,szL]
   omega
theorem Qg1:∀ l:List Tw,l.length≤szL l
 | []=>Nat.le_refl _
 | t::l=>by have:=Qg1 l; have:=t.size_pos; simp only [List.length_cons,szL]; omega
theorem Qg2 (l m:List Tw):szL (l++m)=szL l+szL m:=by
 induction l with
 | nil=>simp [szL]
 | cons t l ih=>simp only [List.cons_append,szL,ih]; omega
theorem QkR (l:List Tw) {i:Nat} (h:i<l.length):szL (l.take (i+1))=szL (l.take i)+(l.getD i default).size:=by
 rw [List.take_add_one,List.getElem?_eq_getElem h,Qg2,List.getD_eq_getElem?_getD,List.getElem?_eq_getElem h]
 simp [szL]
theorem QqA {t:Tw} {i:Nat} (h:i<t.kids.length):(t.kids.getD i default).size<t.size:=by
 have:=QkS h
 rw [t.size_eq]; omega
def okE {α:Type}:Except Int α→Bool
 | .ok _=>true
 | .error _=>false
def valE {α:Type} (d:α):Except Int α→α
 | .ok x=>x
 | .error _=>d
def errE {α:Type}:Except Int α→Int
 | .ok _=>0
 | .error e=>e
theorem bs_l (a b:ByteArray):(a.toList==b.toList)=decide (a=b):=by
 obtain ⟨a⟩:=a
 obtain ⟨b⟩:=b
 have ea:(⟨a⟩:ByteArray)=⟨a.toList.toArray⟩:=by simp
 have eb:(⟨b⟩:ByteArray)=⟨b.toList.toArray⟩:=by simp
 rw [ea,eb]
 refine bseq _ _ _ ?_
 congr 1
 simp
def Qcz (l:List ByteArray) (s:ByteArray):Bool:=l.all fun x=>decide (x=s)
theorem Qne (l:List ByteArray) (s d:ByteArray) {i:Nat} (h:i<l.length):Qcz (l.take (i+1)) s=(Qcz (l.take i) s && decide (l.getD i d=s)):=by
 unfold Qcz
 rw [List.take_add_one,List.getElem?_eq_getElem h,List.getD_eq_getElem?_getD,List.getElem?_eq_getElem h,List.all_append]
 simp
theorem QpH {l:List ByteArray} {s d:ByteArray} {i:Nat} (h:i<l.length) (hb:l.getD i d≠s):Qcz l s=false:=by
 unfold Qcz
 rw [List.all_eq_false]
 refine ⟨l.getD i d,?_,by simpa using hb⟩
 rw [List.getD_eq_getElem?_getD,List.getElem?_eq_getElem h]
 simp
def anyB {α:Type} (l:List α) (f:α→Bool):Int:=match l.findIdx? f with
 | some i=>i
 | none=>-1
theorem Qe8 {α:Type} {l:List α} {f:α→Bool} {i:Nat} (d:α) (h:i<l.length) (hi:f (l.getD i d)=true) (hk:∀ k,k<i→f (l.getD k d)=false):anyB l f=i:=by
 unfold anyB
 have e:l.findIdx? f=some i:=by
  rw [List.findIdx?_eq_some_iff_getElem]
  refine ⟨h,?_,fun j hj=>?_⟩
  · rw [List.getD_eq_getElem?_getD,List.getElem?_eq_getElem h] at hi; exact hi
  · have:=hk j hj
    rw [List.getD_eq_getElem?_getD,List.getElem?_eq_getElem (by omega)] at this
    simpa using this
 rw [e]
theorem Qd5 {α:Type} {l:List α} {f:α→Bool} (d:α) (hk:∀ k,k<l.length→f (l.getD k d)=false):anyB l f=-1:=by
 unfold anyB
 have e:l.findIdx? f=none:=by
  rw [List.findIdx?_eq_none_iff]
  intro x hx
  obtain ⟨j,hj,rfl⟩:=List.getElem_of_mem hx
  have:=hk j hj
  rwa [List.getD_eq_getElem?_getD,List.getElem?_eq_getElem hj] at this
 rw [e]
theorem wJ (n:Int) (h1:-9223372036854775808≤n) (h2:n≤9223372036854775807):IntKind.i64.wrap n=n:=wrapI n ⟨by omega,by omega⟩
def QfU (D:List Dat) (s:ByteArray):Bool:=!decide (s=bInt) && (!decide (s=Qd4) && decide (0≤anyB D fun d=>decide (d.name=s)))
def Qd3 (D:List Dat) (s:ByteArray):Bool:=decide (s=bInt) || (decide (s=Qd4) || QfU D s)
def Qay (k:Int):Int :=
 if k=1∨k=2∨k=3∨k=4 then 0 else if k=6∨k=7∨k=10 then 1 else if k=8∨k=9∨k=13 then 2 else if k=5∨k=11∨k=12 then -1 else -2
def conD (D:List Dat) (s:ByteArray):Option (ByteArray × Cn):=D.findSome? fun d=>(d.cons.find? fun c=>decide (c.name=s)).map fun c=>(d.name,c)
theorem Qq1 (s:ByteArray):conD [] s=none:=rfl
theorem Qpb (n s:ByteArray) (D:List Dat):conD (⟨n,[]⟩::D) s=conD D s:=rfl
theorem QfY (n s:ByteArray) (c:Cn) (l:List Cn) (D:List Dat):conD (⟨n,c::l⟩::D) s=if c.name=s then some (n,c) else conD (⟨n,l⟩::D) s:=by
 unfold conD
 rw [List.findSome?_cons,List.findSome?_cons,List.find?_cons]
 by_cases h:c.name=s <;> simp [h]
theorem QhF {α:Type} (l:List α) (d:α) {i:Nat} (h:i<l.length):l.drop i=l.getD i d::l.drop (i+1):=by
 rw [List.drop_eq_getElem_cons h,List.getD_eq_getElem?_getD,List.getElem?_eq_getElem h]; rfl
def byN (s:ByteArray) (i:Nat):Nat:=(s.data.toList.getD i 0).toNat
def funD (D:List Dat) (s:ByteArray):Option (ByteArray × ByteArray) :=
 if s=bTag then some (⟨#[]⟩,bInt)
 else if s.size<2 then none
 else if byN s (s.size - 2)≠46∨byN s (s.size - 1)<48∨57<byN s (s.size - 1) then none
 else match conD D (s.extract 0 (s.size - 2)) with
  | some (d,c)=>if byN s (s.size - 1) - 48<c.fields.length then some (d,c.fields.getD (byN s (s.size - 1) - 48) ⟨#[]⟩) else none
  | none=>none
def varS (D:List Dat) (S:List Srt) (s:ByteArray):Except Int ByteArray:=match S.reverse.find? fun x=>decide (x.name=s) with
 | some x=>if Qd3 D x.sort then .ok x.sort else .error 23
 | none=>.error 21
theorem Qfc (D:List Dat) (d:Srt) {S:List Srt} {i:Nat} (h:i<S.length) (s:ByteArray):varS D (S.take (i+1)) s=if (S.getD i d).name=s then (if Qd3 D (S.getD i d).sort then .ok (S.getD i d).sort else .error 23) else varS D (S.take i) s:=by
 unfold varS
 rw [List.take_add_one,List.getElem?_eq_getElem h,List.getD_eq_getElem?_getD,List.getElem?_eq_getElem h]
 simp only [Option.toList_some,List.reverse_append,List.reverse_cons,List.reverse_nil,List.nil_append,List.cons_append,List.find?_cons,Option.getD_some]
 by_cases hc:S[i].name=s <;> simp [hc]
def funS (D:List Dat) (name kid:ByteArray):Except Int ByteArray:=match funD D name with
 | some (u,v)=>if QfU D kid && ((decide (name=bTag) || decide (u=kid)) && Qd3 D v) then .ok v else .error 23
 | none=>.error 23
def Qco (D:List Dat) (k:Int) (name:ByteArray) (l:List ByteArray):Except Int ByteArray :=
 if k=2 then .ok bInt
 else if k=5∨k=6 then (if Qcz l bInt then .ok bInt else .error 23)
 else if k=7 then funS D name (l.getD 0 ⟨#[]⟩)
 else if k=8 then (if decide (l.getD 0 ⟨#[]⟩=l.getD 1 ⟨#[]⟩) && !decide (l.getD 0 ⟨#[]⟩=Qd4) then .ok Qd4 else .error 23)
 else if k=9 then (if Qcz l bInt then .ok Qd4 else .error 23)
 else if Qcz l Qd4 then .ok Qd4 else .error 23
mutual
def QaK (D:List Dat) (S:List Srt):Tw→Except Int ByteArray
 | .mk k name neg digits kids =>
  if Qay k=-2 then .error 23
  else if ¬ (Qay k<0∨Qay k=kids.length) then .error 24
  else if (k=2∨k=6)∧Qbv neg digits=false then .error 23
  else if k=1 then varS D S name
  else match Qbb D S kids with
   | .ok l=>Qco D k name l
   | .error e=>.error e
def Qbb (D:List Dat) (S:List Srt):List Tw→Except Int (List ByteArray)
 | []=>.ok []
 | t::l=>match QaK D S t with
  | .ok s=>match Qbb D S l with
   | .ok m=>.ok (s::m)
   | .error e=>.error e
  | .error e=>.error e
end
end Go.Proofs.YtijfaigpilfpaaaGreatDoor
