/- A path of equalities: what it tells, turned round, one behind the other. -/
import Derived.Test.YtemhncjjiomppaaGreatDoorKx
namespace Go.Proofs.YtemhncjjiomppaaGreatDoor
open Go.RowKit
set_option linter.unusedVariables false
set_option maxRecDepth 100000
def Qgs (L:List Tw) (n:Int):Option (Tw × Tw) :=
 if 0≤n∧n<L.length then
  if (L.getD n.toNat Sh.tm.nil).kind=8∧(L.getD n.toNat Sh.tm.nil).kids.length=2 then some ((L.getD n.toNat Sh.tm.nil).kids.getD 0 Sh.tm.nil,(L.getD n.toNat Sh.tm.nil).kids.getD 1 Sh.tm.nil) else none
 else none
def Qbp (L:List Tw) (k:ByteArray) (n:Int):Option ByteArray:=match Qgs L n with
 | none=>none
 | some (a,b)=>if k=keyS a then some (keyS b) else if k=keyS b then some (keyS a) else none
def Qb2 (L:List Tw):ByteArray→List Int→Option ByteArray
 | k,[]=>some k
 | k,n::l=>match Qbp L k n with
  | none=>none
  | some k'=>Qb2 L k' l
def eqT (a b:Tw):Tw:=.mk 8 ⟨#[]⟩ false [] [a,b]
def Qbd (L:List Tw) (a b:Tw) (at_:List Int):Except Int Tw:=match Qb2 L (keyS a) at_ with
 | some k=>if k=keyS b then .ok (eqT a b) else .error 31
 | none=>.error 31
theorem QhU {L:List Tw}:∀ {l m:List Int} {k:ByteArray},Qb2 L k (l++m)=match Qb2 L k l with
  | none=>none
  | some k'=>Qb2 L k' m
 | [],m,k=>rfl
 | n::l,m,k=>by
  simp only [List.cons_append,Qb2]
  cases Qbp L k n with
  | none=>rfl
  | some k'=>exact QhU (l:=l)
theorem Qpj {L:List Tw} {a b x:Tw} {l:List Int} (h:Qbd L a b l=.ok x):x=eqT a b∧Qb2 L (keyS a) l=some (keyS b):=by
 unfold Qbd at h
 split at h
 · rename_i k hk
   split at h
   · rename_i hb
     cases h
     exact ⟨rfl,by rw [hk,hb]⟩
   · cases h
 · cases h
theorem Qt5 {L:List Tw} {a b:Tw} {l:List Int} {e:Int} (h:Qbd L a b l=.error e):e=31:=by
 unfold Qbd at h
 split at h
 · split at h
   · cases h
   · cases h; rfl
 · cases h; rfl
theorem Qt4 {L:List Tw} {a b:Tw} {l:List Int} (h:Qb2 L (keyS a) l=some (keyS b)):Qbd L a b l=.ok (eqT a b):=by
 unfold Qbd
 rw [h]
 exact if_pos rfl
end Go.Proofs.YtemhncjjiomppaaGreatDoor
