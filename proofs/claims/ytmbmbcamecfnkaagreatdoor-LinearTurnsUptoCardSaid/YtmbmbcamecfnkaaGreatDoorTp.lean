/- Terms, in plain words: sizes, sorts. -/
import Derived.Test.YtmbmbcamecfnkaaGreatDoorPn
import Derived.Test.YtmbmbcamecfnkaaGreatDoorVr
namespace Go.Proofs.YtmbmbcamecfnkaaGreatDoor
open Go.RowKit
set_option linter.unusedVariables false
def bInt:ByteArray:=⟨#[105,110,116]⟩
def bBool:ByteArray:=⟨#[98,111,111,108]⟩
theorem Tw.eta:∀ t:Tw,Tw.mk t.kind t.name t.neg t.digits t.kids=t
 | .mk _ _ _ _ _=>rfl
theorem Vw.eta:∀ t:Vw,Vw.mk t.kind t.neg t.digits t.truth t.name t.fields=t
 | .mk _ _ _ _ _ _=>rfl
mutual
def Tw.size:Tw→Nat
 | .mk _ _ _ _ l=>szL l+1
def szL:List Tw→Nat
 | []=>0
 | t::l=>t.size+szL l
end
theorem Tw.size_eq (t:Tw):t.size=szL t.kids+1:=by cases t; rfl
theorem Tw.size_pos (t:Tw):0<t.size:=by rw [t.size_eq]; omega
theorem bs_l (a b:ByteArray):(a.toList==b.toList)=decide (a=b):=by
 obtain ⟨a⟩:=a
 obtain ⟨b⟩:=b
 have ea:(⟨a⟩:ByteArray)=⟨a.toList.toArray⟩:=by simp
 have eb:(⟨b⟩:ByteArray)=⟨b.toList.toArray⟩:=by simp
 rw [ea,eb]
 refine bseq _ _ _ ?_
 congr 1
 simp
def QuE (l:List ByteArray) (s:ByteArray):Bool:=l.all fun x=>decide (x=s)
def anyB {α:Type} (l:List α) (f:α→Bool):Int:=match l.findIdx? f with
 | some i=>i
 | none=>-1
theorem wJ (n:Int) (h1:-9223372036854775808≤n) (h2:n≤9223372036854775807):IntKind.i64.wrap n=n:=Qjc n ⟨by omega,by omega⟩
def dataB (D:List Dat) (s:ByteArray):Bool:=!decide (s=bInt) && (!decide (s=bBool) && decide (0≤anyB D fun d=>decide (d.name=s)))
end Go.Proofs.YtmbmbcamecfnkaaGreatDoor
