/- Terms put for names, in plain words. -/
import Derived.Test.YtijfaigpilfpaaaGreatDoorTe
namespace Go.Proofs.YtijfaigpilfpaaaGreatDoor
open Go.RowKit
set_option linter.unusedVariables false
set_option maxRecDepth 100000
def QfM (l:List ByteArray) (s:ByteArray):Nat→Option Nat
 | 0=>none
 | n+1=>if l.getD n Sh.str.nil=s then some n else QfM l s n
theorem QgB {l:List ByteArray} {s:ByteArray}:∀ {n i:Nat},QfM l s n=some i→i<n∧l.getD i Sh.str.nil=s
 | 0,i,h=>by cases h
 | n+1,i,h=>by
  unfold QfM at h
  split at h
  · rename_i hc
    cases h
    exact ⟨Nat.lt_succ_self _,hc⟩
  · have:=QgB h
    exact ⟨by omega,this.2⟩
theorem QlP {l:List ByteArray} {s:ByteArray} {n i:Nat} (hi:i<n) (h:l.getD i Sh.str.nil=s) (hk:∀ k,i<k→k<n→¬ l.getD k Sh.str.nil=s):QfM l s n=some i:=by
 induction n with
 | zero=>omega
 | succ n ih =>
  unfold QfM
  by_cases hin:i=n
  · subst hin; exact if_pos h
  · rw [if_neg (hk n (by omega) (Nat.lt_succ_self n))]
    exact ih (by omega) fun k h1 h2=>hk k h1 (by omega)
theorem QqT {l:List ByteArray} {s:ByteArray} {n:Nat} (hk:∀ k,k<n→¬ l.getD k Sh.str.nil=s):QfM l s n=none:=by
 induction n with
 | zero=>rfl
 | succ n ih =>
  unfold QfM
  rw [if_neg (hk n (Nat.lt_succ_self n))]
  exact ih fun k h1=>hk k (by omega)
def putW (l:List ByteArray) (ts:List Tw) (k:Int) (s:ByteArray):Option Tw:=if k=1 then (QfM l s (min l.length ts.length)).map fun i=>ts.getD i Sh.tm.nil else none
mutual
def Qam (l:List ByteArray) (ts:List Tw):Tw→Tw
 | .mk k n b d kids=>match putW l ts k n with
  | some t=>t
  | none=>.mk k n b d (Qax l ts kids)
def Qax (l:List ByteArray) (ts:List Tw):List Tw→List Tw
 | []=>[]
 | t::m=>Qam l ts t::Qax l ts m
end
def QaC (l:List ByteArray) (ts:List Tw) (t:Tw):Except Int Tw:=if (Qam l ts t).size≤20000 then .ok (Qam l ts t) else .error 34
theorem Qij (l:List ByteArray) (ts:List Tw) (t:Tw):Qam l ts t=match putW l ts t.kind t.name with
  | some u=>u
  | none=>.mk t.kind t.name t.neg t.digits (Qax l ts t.kids):=by cases t; rfl
theorem Qc0 {l:List ByteArray} {ts:List Tw} {t u:Tw} (h:putW l ts t.kind t.name=some u):Qam l ts t=u:=by rw [Qij,h]
theorem QdA {l:List ByteArray} {ts:List Tw} {t:Tw} (h:putW l ts t.kind t.name=none):Qam l ts t=.mk t.kind t.name t.neg t.digits (Qax l ts t.kids):=by rw [Qij,h]
theorem QbI (l:List ByteArray) (ts:List Tw):∀ m:List Tw,Qax l ts m=m.map (Qam l ts)
 | []=>rfl
 | t::m=>by rw [Qax,List.map_cons,QbI l ts m]
theorem Qea (l:List ByteArray) (ts:List Tw) (m:List Tw):(Qax l ts m).length=m.length:=by rw [QbI,List.length_map]
theorem Qff (l:List ByteArray) (ts:List Tw) {m:List Tw} {i:Nat} (h:i<m.length):Qax l ts (m.take i)++[Qam l ts (m.getD i Sh.tm.nil)]=Qax l ts (m.take (i+1)):=by
 rw [QbI,QbI,List.getD_eq_getElem?_getD,List.getElem?_eq_getElem h,List.take_add_one,List.getElem?_eq_getElem h,List.map_append]
 simp
theorem QkO {m:List Tw} {i:Nat} (h:i<m.length):szL (m.take i)+(m.getD i Sh.tm.nil).size=szL (m.take (i+1)):=(QkR m h).symm
theorem Qmt (l:List ByteArray) (ts:List Tw) {m:List Tw} {i:Nat} (h:i<m.length):szL (Qax l ts (m.take i))+(Qam l ts (m.getD i Sh.tm.nil)).size=szL (Qax l ts (m.take (i+1))):=by
 rw [← Qff l ts h,Qg2]
 simp [szL]
theorem QeQ:∀ (m:List Tw) (i:Nat),szL (m.take i)≤szL m
 | [],i=>by simp
 | t::m,0=>by simp [szL]
 | t::m,i+1=>by
  have:=QeQ m i
  simp only [List.take_succ_cons,szL]; omega
theorem Qjt (l:List ByteArray) (ts:List Tw) (m:List Tw) (i:Nat):szL (Qax l ts (m.take i))≤szL (Qax l ts m):=by
 have h:Qax l ts (m.take i)=(Qax l ts m).take i:=by rw [QbI,QbI,List.map_take]
 rw [h]
 exact QeQ _ i
theorem Qsx {l:List ByteArray} {ts:List Tw} {t:Tw} (h:putW l ts t.kind t.name=none):(Qam l ts t).size=szL (Qax l ts t.kids)+1:=by
 rw [QdA h,Tw.size_eq]; rfl
theorem Qqf {l:List ByteArray} {ts:List Tw} {k:Int} {s:ByteArray} (h:¬ k=1):putW l ts k s=none:=if_neg h
theorem Qli {l:List ByteArray} {ts:List Tw} {k:Int} {s:ByteArray} {i:Nat} (h:k=1) (hf:QfM l s (min l.length ts.length)=some i):putW l ts k s=some (ts.getD i Sh.tm.nil):=by
 unfold putW; rw [if_pos h,hf]; rfl
theorem Qqe {l:List ByteArray} {ts:List Tw} {k:Int} {s:ByteArray} (hf:QfM l s (min l.length ts.length)=none):putW l ts k s=none:=by
 unfold putW; rw [hf]; split <;> rfl
theorem QrE {l:List ByteArray} {ts:List Tw} {k:Int} {s:ByteArray} {u:Tw} (h:putW l ts k s=some u):k=1∧∃ i,i<l.length∧i<ts.length∧l.getD i Sh.str.nil=s∧u=ts.getD i Sh.tm.nil:=by
 unfold putW at h
 split at h
 · rename_i hk
   cases hf:QfM l s (min l.length ts.length) with
   | none=>rw [hf] at h; cases h
   | some i =>
    rw [hf] at h
    cases h
    have:=QgB hf
    exact ⟨hk,i,by omega,by omega,this.2,rfl⟩
 · cases h
mutual
theorem Qii {l:List ByteArray} {ts:List Tw} (hts:∀ u∈ts,u.fitT):∀ t:Tw,t.fitT→(Qam l ts t).fitT
 | .mk k n b d kids,h=>by
  have h2:=(Tw.fitT_eq _).1 h
  cases hp:putW l ts k n with
  | some u =>
   rw [Qc0 (t:=.mk k n b d kids) hp]
   obtain ⟨-,i,-,hi,-,rfl⟩:=QrE hp
   refine hts _ ?_
   rw [List.getD_eq_getElem?_getD,List.getElem?_eq_getElem hi]
   exact List.getElem_mem _
  | none =>
   rw [QdA (t:=.mk k n b d kids) hp]
   exact (Tw.fitT_eq _).2 ⟨h2.1,h2.2.1,by show (Qax l ts kids).length≤_; rw [Qea]; exact h2.2.2.1,Qgm hts kids h2.2.2.2⟩
theorem Qgm {l:List ByteArray} {ts:List Tw} (hts:∀ u∈ts,u.fitT):∀ m:List Tw,QbW m→QbW (Qax l ts m)
 | [],_=>trivial
 | t::m,h=>⟨Qii hts t h.1,Qgm hts m h.2⟩
end
end Go.Proofs.YtijfaigpilfpaaaGreatDoor
