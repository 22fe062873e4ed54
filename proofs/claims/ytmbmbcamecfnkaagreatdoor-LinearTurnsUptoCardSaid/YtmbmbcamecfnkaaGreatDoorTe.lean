/- The layer term: Sort, told or the error. -/
import Derived.Test.YtmbmbcamecfnkaaGreatDoorTp
import Derived.Test.YtmbmbcamecfnkaaGreatDoorVb
import Derived.Recover
namespace Go.Proofs.YtmbmbcamecfnkaaGreatDoor
open Go.RowKit
set_option linter.unusedVariables false
set_option maxRecDepth 100000
def iV (n:Int):PV:=.f (.v (.int .i64 n))
def bV (b:Bool):PV:=.f (.v (.bool b))
def sV (s:ByteArray):PV:=.f (.v (.string s))
theorem QaT {n m:Bool} (h:n=m):SubB (bV n) (bV m):=by subst h; exact .refl _
theorem QaM {n m:Int} (h:n=m):SubB (iV n) (iV m):=by subst h; exact .refl _
theorem Qgq {s:Sh} {l:List s.T} (h:QlZ (.f (.dt s l))):l.length≤9223372036854775807:=by
 have h':l.length≤maxLen:=h.1
 unfold maxLen at h'
 omega
end Go.Proofs.YtmbmbcamecfnkaaGreatDoor
namespace Go.Proofs.YtmbmbcamecfnkaaGreatDoor
open Go.RowKit
set_option linter.unusedVariables false
set_option maxRecDepth 100000
theorem QaA {n0:Nat} {p:Prop} {o:Out} {t:Bool} {x:PV} {ob:List PO} (h:EndU n0 o.fin t x ob):EndU n0 (Out.need p o).fin t x ob:=h
end Go.Proofs.YtmbmbcamecfnkaaGreatDoor
namespace Go.Proofs.YtmbmbcamecfnkaaGreatDoor
open Go.RowKit
set_option linter.unusedVariables false
set_option maxRecDepth 100000
def tmP (t:Tw):PV:=.agg (QaU (tmC t))
def tmOf:PV→Option Tw
 | .agg l=>match leafs l with
  | some m=>toTm m
  | none=>none
 | _=>none
theorem QlL:∀ (l:List Lf) (i:Nat),(QaU l)[i]?=(l[i]?).map PV.f
 | [],i=>by simp [QaU]
 | x::l,0=>by simp [QaU]
 | x::l,i+1=>by simp [QaU,QlL l i]
theorem Qjd:∀ (l:List Lf),(QaU l).length=l.length
 | []=>rfl
 | x::l=>by simp [QaU,Qjd l]
theorem Qfs {x:PV} {t:Tw} (h:tmOf x=some t):SubB x (tmP t):=by
 unfold tmOf at h
 split at h
 · rename_i l
   split at h
   · rename_i m hm
     have hs:=QfM h
     obtain ⟨h1,h2⟩:=QcX hm
     refine ⟨fun H B v hv=>?_⟩
     obtain ⟨vs,rfl,h3⟩:=PRs.of_agg hv
     refine PRs.agg ⟨by rw [h3.1,← h1,Qjd,hs.len],fun i u y hu hy=>?_⟩
     rw [QlL] at hy
     cases hc:(tmC t)[i]? with
     | none=>rw [hc] at hy; cases hy
     | some z =>
      rw [hc] at hy
      cases hy
      obtain ⟨x,h4,h5⟩:=hs.at hc
      exact .f (h5 _ _ (h3.2 i u _ hu (h2 i x h4)).rd)
   · cases h
 · cases h
mutual
def Tw.fitT:Tw→Prop
 | .mk _ n _ d l=>n.size≤4611686018427387904∧d.length≤40000000∧l.length≤100000000∧Qn6 l
def Qn6:List Tw→Prop
 | []=>True
 | t::l=>t.fitT∧Qn6 l
end
theorem QiU:∀ {l:List Tw} {i:Nat} (d:Tw),Qn6 l→i<l.length→(l.getD i d).fitT
 | t::l,0,d,h,_=>h.1
 | t::l,i+1,d,h,hi=>by simpa using QiU (l:=l) d h.2 (by simpa using hi)
theorem Tw.fitT_eq (t:Tw):t.fitT↔t.name.size≤4611686018427387904∧t.digits.length≤40000000∧t.kids.length≤100000000∧Qn6 t.kids:=by cases t; rfl
end Go.Proofs.YtmbmbcamecfnkaaGreatDoor
namespace Go.Proofs.YtmbmbcamecfnkaaGreatDoor
open Go.RowKit
set_option linter.unusedVariables false
set_option maxRecDepth 100000
theorem SubB.sub {x y:PV} (h:SubB x y):Sub x y:=⟨fun H v hv=>h.out H _ v hv⟩
end Go.Proofs.YtmbmbcamecfnkaaGreatDoor
