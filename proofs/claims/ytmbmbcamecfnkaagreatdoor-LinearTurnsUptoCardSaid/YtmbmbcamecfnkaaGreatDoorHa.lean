/- Types, in plain words: sizes, shapes, what is known of them. -/
import Derived.Test.YtmbmbcamecfnkaaGreatDoorTe
import Derived.Test.YtmbmbcamecfnkaaGreatDoorKx
import Derived.Test.YtmbmbcamecfnkaaGreatDoorTf
namespace Go.Proofs.YtmbmbcamecfnkaaGreatDoor
open Go.RowKit
set_option linter.unusedVariables false
set_option maxRecDepth 100000
theorem Yw.eta:∀ t:Yw,Yw.mk t.fn t.sort t.ref t.params t.result=t
 | .mk _ _ _ _ _=>rfl
theorem Yw.ext {t u:Yw} (h1:t.fn=u.fn) (h2:t.sort=u.sort) (h3:t.ref=u.ref) (h4:t.params=u.params) (h5:t.result=u.result):t=u:=by
 rw [← t.eta,← u.eta,h1,h2,h3,h4,h5]
mutual
def Yw.size:Yw→Nat
 | .mk _ _ _ p r=>szP p+szY r+1
def szQ:ByteArray × Yw→Nat
 | (_,y)=>y.size
def szP:List (ByteArray × Yw)→Nat
 | []=>0
 | x::l=>szQ x+szP l
def szY:List Yw→Nat
 | []=>0
 | y::l=>y.size+szY l
end
theorem Yw.size_eq (t:Yw):t.size=szP t.params+szY t.result+1:=by cases t; rw [Yw.size]; rfl
mutual
def Yw.fit:Yw→Prop
 | .mk _ s t p r=>(s.size≤4611686018427387904∧t.fitT∧QbN t)∧(p.length≤100000000∧r.length≤100000000)∧fitP p∧fitY r
def fitQ:ByteArray × Yw→Prop
 | (s,y)=>s.size≤4611686018427387904∧y.fit
def fitP:List (ByteArray × Yw)→Prop
 | []=>True
 | x::l=>fitQ x∧fitP l
def fitY:List Yw→Prop
 | []=>True
 | y::l=>y.fit∧fitY l
end
theorem gotD {α:Type} {l:List α} {i:Nat} (d:α) (h:i<l.length):l.getD i d∈l:=by
 rw [List.getD_eq_getElem?_getD,List.getElem?_eq_getElem h]; exact List.getElem_mem h
end Go.Proofs.YtmbmbcamecfnkaaGreatDoor
