/- Terms put for names, in plain words. -/
import Derived.Test.YtemhncjjiomppaaGreatDoorTe
namespace Go.Proofs.YtemhncjjiomppaaGreatDoor
open Go.RowKit
set_option linter.unusedVariables false
set_option maxRecDepth 100000
def Qgm (l:List ByteArray) (s:ByteArray):Nat→Option Nat
 | 0=>none
 | n+1=>if l.getD n Sh.str.nil=s then some n else Qgm l s n
theorem Qig {l:List ByteArray} {s:ByteArray} {n i:Nat} (hi:i<n) (h:l.getD i Sh.str.nil=s) (hk:∀ k,i<k→k<n→¬ l.getD k Sh.str.nil=s):Qgm l s n=some i:=by
 induction n with
 | zero=>omega
 | succ n ih =>
  unfold Qgm
  by_cases hin:i=n
  · subst hin; exact if_pos h
  · rw [if_neg (hk n (by omega) (Nat.lt_succ_self n))]
    exact ih (by omega) fun k h1 h2=>hk k h1 (by omega)
theorem Ql3 {l:List ByteArray} {s:ByteArray} {n:Nat} (hk:∀ k,k<n→¬ l.getD k Sh.str.nil=s):Qgm l s n=none:=by
 induction n with
 | zero=>rfl
 | succ n ih =>
  unfold Qgm
  rw [if_neg (hk n (Nat.lt_succ_self n))]
  exact ih fun k h1=>hk k (by omega)
def putW (l:List ByteArray) (ts:List Tw) (k:Int) (s:ByteArray):Option Tw:=if k=1 then (Qgm l s (min l.length ts.length)).map fun i=>ts.getD i Sh.tm.nil else none
mutual
def Qab (l:List ByteArray) (ts:List Tw):Tw→Tw
 | .mk k n b d kids=>match putW l ts k n with
  | some t=>t
  | none=>.mk k n b d (Qag l ts kids)
def Qag (l:List ByteArray) (ts:List Tw):List Tw→List Tw
 | []=>[]
 | t::m=>Qab l ts t::Qag l ts m
end
def QbQ (l:List ByteArray) (ts:List Tw) (t:Tw):Except Int Tw:=if (Qab l ts t).size≤20000 then .ok (Qab l ts t) else .error 34
theorem Qf1 (l:List ByteArray) (ts:List Tw) (t:Tw):Qab l ts t=match putW l ts t.kind t.name with
  | some u=>u
  | none=>.mk t.kind t.name t.neg t.digits (Qag l ts t.kids):=by cases t; rfl
theorem Qew {l:List ByteArray} {ts:List Tw} {t u:Tw} (h:putW l ts t.kind t.name=some u):Qab l ts t=u:=by rw [Qf1,h]
theorem Qf0 {l:List ByteArray} {ts:List Tw} {t:Tw} (h:putW l ts t.kind t.name=none):Qab l ts t=.mk t.kind t.name t.neg t.digits (Qag l ts t.kids):=by rw [Qf1,h]
theorem Qa4 (l:List ByteArray) (ts:List Tw):∀ m:List Tw,Qag l ts m=m.map (Qab l ts)
 | []=>rfl
 | t::m=>by rw [Qag,List.map_cons,Qa4 l ts m]
theorem Qex (l:List ByteArray) (ts:List Tw) (m:List Tw):(Qag l ts m).length=m.length:=by rw [Qa4,List.length_map]
theorem QdL (l:List ByteArray) (ts:List Tw) {m:List Tw} {i:Nat} (h:i<m.length):Qag l ts (m.take i)++[Qab l ts (m.getD i Sh.tm.nil)]=Qag l ts (m.take (i+1)):=by
 rw [Qa4,Qa4,List.getD_eq_getElem?_getD,List.getElem?_eq_getElem h,List.take_add_one,List.getElem?_eq_getElem h,List.map_append]
 simp
theorem Qe4 {m:List Tw} {i:Nat} (h:i<m.length):szL (m.take i)+(m.getD i Sh.tm.nil).size=szL (m.take (i+1)):=(QhJ m h).symm
theorem QiD (l:List ByteArray) (ts:List Tw) {m:List Tw} {i:Nat} (h:i<m.length):szL (Qag l ts (m.take i))+(Qab l ts (m.getD i Sh.tm.nil)).size=szL (Qag l ts (m.take (i+1))):=by
 rw [← QdL l ts h,Qe6]
 simp [szL]
theorem Qdn:∀ (m:List Tw) (i:Nat),szL (m.take i)≤szL m
 | [],i=>by simp
 | t::m,0=>by simp [szL]
 | t::m,i+1=>by
  have:=Qdn m i
  simp only [List.take_succ_cons,szL]; omega
theorem QgK (l:List ByteArray) (ts:List Tw) (m:List Tw) (i:Nat):szL (Qag l ts (m.take i))≤szL (Qag l ts m):=by
 have h:Qag l ts (m.take i)=(Qag l ts m).take i:=by rw [Qa4,Qa4,List.map_take]
 rw [h]
 exact Qdn _ i
theorem Qm5 {l:List ByteArray} {ts:List Tw} {t:Tw} (h:putW l ts t.kind t.name=none):(Qab l ts t).size=szL (Qag l ts t.kids)+1:=by
 rw [Qf0 h,Tw.size_eq]; rfl
theorem QlC {l:List ByteArray} {ts:List Tw} {k:Int} {s:ByteArray} (h:¬ k=1):putW l ts k s=none:=if_neg h
theorem QhY {l:List ByteArray} {ts:List Tw} {k:Int} {s:ByteArray} {i:Nat} (h:k=1) (hf:Qgm l s (min l.length ts.length)=some i):putW l ts k s=some (ts.getD i Sh.tm.nil):=by
 unfold putW; rw [if_pos h,hf]; rfl
theorem QlB {l:List ByteArray} {ts:List Tw} {k:Int} {s:ByteArray} (hf:Qgm l s (min l.length ts.length)=none):putW l ts k s=none:=by
 unfold putW; rw [hf]; split <;> rfl
end Go.Proofs.YtemhncjjiomppaaGreatDoor
