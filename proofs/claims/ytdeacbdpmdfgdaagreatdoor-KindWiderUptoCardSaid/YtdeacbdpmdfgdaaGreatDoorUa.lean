/- Terms put for names, in plain words. -/
import Derived.Test.YtdeacbdpmdfgdaaGreatDoorTe
namespace Go.Proofs.YtdeacbdpmdfgdaaGreatDoor
open Go.RowKit
set_option linter.unusedVariables false
set_option maxRecDepth 100000
def Qfu (l:List ByteArray) (s:ByteArray):Nat→Option Nat
 | 0=>none
 | n+1=>if l.getD n Sh.str.nil=s then some n else Qfu l s n
theorem Qgq {l:List ByteArray} {s:ByteArray}:∀ {n i:Nat},Qfu l s n=some i→i<n∧l.getD i Sh.str.nil=s
 | 0,i,h=>by cases h
 | n+1,i,h=>by
  unfold Qfu at h
  split at h
  · rename_i hc
    cases h
    exact ⟨Nat.lt_succ_self _,hc⟩
  · have:=Qgq h
    exact ⟨by omega,this.2⟩
theorem QkP {l:List ByteArray} {s:ByteArray} {n i:Nat} (hi:i<n) (h:l.getD i Sh.str.nil=s) (hk:∀ k,i<k→k<n→¬ l.getD k Sh.str.nil=s):Qfu l s n=some i:=by
 induction n with
 | zero=>omega
 | succ n ih =>
  unfold Qfu
  by_cases hin:i=n
  · subst hin; exact if_pos h
  · rw [if_neg (hk n (by omega) (Nat.lt_succ_self n))]
    exact ih (by omega) fun k h1 h2=>hk k h1 (by omega)
theorem QpC {l:List ByteArray} {s:ByteArray} {n:Nat} (hk:∀ k,k<n→¬ l.getD k Sh.str.nil=s):Qfu l s n=none:=by
 induction n with
 | zero=>rfl
 | succ n ih =>
  unfold Qfu
  rw [if_neg (hk n (Nat.lt_succ_self n))]
  exact ih fun k h1=>hk k (by omega)
def putW (l:List ByteArray) (ts:List Tw) (k:Int) (s:ByteArray):Option Tw:=if k=1 then (Qfu l s (min l.length ts.length)).map fun i=>ts.getD i Sh.tm.nil else none
mutual
def Qah (l:List ByteArray) (ts:List Tw):Tw→Tw
 | .mk k n b d kids=>match putW l ts k n with
  | some t=>t
  | none=>.mk k n b d (Qag l ts kids)
def Qag (l:List ByteArray) (ts:List Tw):List Tw→List Tw
 | []=>[]
 | t::m=>Qah l ts t::Qag l ts m
end
def Qf8 (l:List ByteArray) (ts:List Tw) (t:Tw):Except Int Tw:=if (Qah l ts t).size≤20000 then .ok (Qah l ts t) else .error 34
theorem QhP (l:List ByteArray) (ts:List Tw) (t:Tw):Qah l ts t=match putW l ts t.kind t.name with
  | some u=>u
  | none=>.mk t.kind t.name t.neg t.digits (Qag l ts t.kids):=by cases t; rfl
theorem QdV {l:List ByteArray} {ts:List Tw} {t u:Tw} (h:putW l ts t.kind t.name=some u):Qah l ts t=u:=by rw [QhP,h]
theorem QeU {l:List ByteArray} {ts:List Tw} {t:Tw} (h:putW l ts t.kind t.name=none):Qah l ts t=.mk t.kind t.name t.neg t.digits (Qag l ts t.kids):=by rw [QhP,h]
theorem Qbs (l:List ByteArray) (ts:List Tw):∀ m:List Tw,Qag l ts m=m.map (Qah l ts)
 | []=>rfl
 | t::m=>by rw [Qag,List.map_cons,Qbs l ts m]
theorem QdW (l:List ByteArray) (ts:List Tw) (m:List Tw):(Qag l ts m).length=m.length:=by rw [Qbs,List.length_map]
theorem QeV (l:List ByteArray) (ts:List Tw) {m:List Tw} {i:Nat} (h:i<m.length):Qag l ts (m.take i)++[Qah l ts (m.getD i Sh.tm.nil)]=Qag l ts (m.take (i+1)):=by
 rw [Qbs,Qbs,List.getD_eq_getElem?_getD,List.getElem?_eq_getElem h,List.take_add_one,List.getElem?_eq_getElem h,List.map_append]
 simp
theorem Qj6 {m:List Tw} {i:Nat} (h:i<m.length):szL (m.take i)+(m.getD i Sh.tm.nil).size=szL (m.take (i+1)):=(Qka m h).symm
theorem Qlv (l:List ByteArray) (ts:List Tw) {m:List Tw} {i:Nat} (h:i<m.length):szL (Qag l ts (m.take i))+(Qah l ts (m.getD i Sh.tm.nil)).size=szL (Qag l ts (m.take (i+1))):=by
 rw [← QeV l ts h,QgL]
 simp [szL]
theorem Qeu:∀ (m:List Tw) (i:Nat),szL (m.take i)≤szL m
 | [],i=>by simp
 | t::m,0=>by simp [szL]
 | t::m,i+1=>by
  have:=Qeu m i
  simp only [List.take_succ_cons,szL]; omega
theorem QiP (l:List ByteArray) (ts:List Tw) (m:List Tw) (i:Nat):szL (Qag l ts (m.take i))≤szL (Qag l ts m):=by
 have h:Qag l ts (m.take i)=(Qag l ts m).take i:=by rw [Qbs,Qbs,List.map_take]
 rw [h]
 exact Qeu _ i
theorem QqU {l:List ByteArray} {ts:List Tw} {t:Tw} (h:putW l ts t.kind t.name=none):(Qah l ts t).size=szL (Qag l ts t.kids)+1:=by
 rw [QeU h,Tw.size_eq]; rfl
theorem QoZ {l:List ByteArray} {ts:List Tw} {k:Int} {s:ByteArray} (h:¬ k=1):putW l ts k s=none:=if_neg h
theorem Qkp {l:List ByteArray} {ts:List Tw} {k:Int} {s:ByteArray} {i:Nat} (h:k=1) (hf:Qfu l s (min l.length ts.length)=some i):putW l ts k s=some (ts.getD i Sh.tm.nil):=by
 unfold putW; rw [if_pos h,hf]; rfl
theorem QoY {l:List ByteArray} {ts:List Tw} {k:Int} {s:ByteArray} (hf:Qfu l s (min l.length ts.length)=none):putW l ts k s=none:=by
 unfold putW; rw [hf]; split <;> rfl
theorem put_is {l:List ByteArray} {ts:List Tw} {k:Int} {s:ByteArray} {u:Tw} (h:putW l ts k s=some u):k=1∧∃ i,i<l.length∧i<ts.length∧l.getD i Sh.str.nil=s∧u=ts.getD i Sh.tm.nil:=by
 unfold putW at h
 split at h
 · rename_i hk
   cases hf:Qfu l s (min l.length ts.length) with
   | none=>rw [hf] at h; cases h
   | some i =>
    rw [hf] at h
    cases h
    have:=Qgq hf
    exact ⟨hk,i,by omega,by omega,this.2,rfl⟩
 · cases h
mutual
theorem QhO {l:List ByteArray} {ts:List Tw} (hts:∀ u∈ts,u.fitT):∀ t:Tw,t.fitT→(Qah l ts t).fitT
 | .mk k n b d kids,h=>by
  have h2:=(Tw.fitT_eq _).1 h
  cases hp:putW l ts k n with
  | some u =>
   rw [QdV (t:=.mk k n b d kids) hp]
   obtain ⟨-,i,-,hi,-,rfl⟩:=put_is hp
   refine hts _ ?_
   rw [List.getD_eq_getElem?_getD,List.getElem?_eq_getElem hi]
   exact List.getElem_mem _
  | none =>
   rw [QeU (t:=.mk k n b d kids) hp]
   exact (Tw.fitT_eq _).2 ⟨h2.1,h2.2.1,by show (Qag l ts kids).length≤_; rw [QdW]; exact h2.2.2.1,Qf7 hts kids h2.2.2.2⟩
theorem Qf7 {l:List ByteArray} {ts:List Tw} (hts:∀ u∈ts,u.fitT):∀ m:List Tw,Qcb m→Qcb (Qag l ts m)
 | [],_=>trivial
 | t::m,h=>⟨QhO hts t h.1,Qf7 hts m h.2⟩
end
end Go.Proofs.YtdeacbdpmdfgdaaGreatDoor
