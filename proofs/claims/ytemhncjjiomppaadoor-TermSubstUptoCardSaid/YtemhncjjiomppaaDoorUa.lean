/- Terms put for names, in plain words. -/
import Derived.Test.YtemhncjjiomppaaDoorTe
namespace Go.Proofs.YtemhncjjiomppaaDoor
open Go.RowKit
set_option linter.unusedVariables false
set_option maxRecDepth 100000
def Qdx (l:List ByteArray) (s:ByteArray):Nat→Option Nat
 | 0=>none
 | n+1=>if l.getD n Sh.str.nil=s then some n else Qdx l s n
theorem QfC {l:List ByteArray} {s:ByteArray}:∀ {n i:Nat},Qdx l s n=some i→i<n∧l.getD i Sh.str.nil=s
 | 0,i,h=>by cases h
 | n+1,i,h=>by
  unfold Qdx at h
  split at h
  · rename_i hc
    cases h
    exact ⟨Nat.lt_succ_self _,hc⟩
  · have:=QfC h
    exact ⟨by omega,this.2⟩
theorem QfD {l:List ByteArray} {s:ByteArray}:∀ {n:Nat},Qdx l s n=none→∀ i,i<n→¬ l.getD i Sh.str.nil=s
 | 0,h,i,hi=>absurd hi (Nat.not_lt_zero i)
 | n+1,h,i,hi=>by
  unfold Qdx at h
  split at h
  · cases h
  · rename_i hc
    rcases Nat.lt_succ_iff_lt_or_eq.1 hi with h1 | h1
    · exact QfD h i h1
    · subst h1; exact hc
theorem Qjk {l:List ByteArray} {s:ByteArray} {n i:Nat} (hi:i<n) (h:l.getD i Sh.str.nil=s) (hk:∀ k,i<k→k<n→¬ l.getD k Sh.str.nil=s):Qdx l s n=some i:=by
 induction n with
 | zero=>omega
 | succ n ih =>
  unfold Qdx
  by_cases hin:i=n
  · subst hin; exact if_pos h
  · rw [if_neg (hk n (by omega) (Nat.lt_succ_self n))]
    exact ih (by omega) fun k h1 h2=>hk k h1 (by omega)
theorem Qnp {l:List ByteArray} {s:ByteArray} {n:Nat} (hk:∀ k,k<n→¬ l.getD k Sh.str.nil=s):Qdx l s n=none:=by
 induction n with
 | zero=>rfl
 | succ n ih =>
  unfold Qdx
  rw [if_neg (hk n (Nat.lt_succ_self n))]
  exact ih fun k h1=>hk k (by omega)
def putW (l:List ByteArray) (ts:List Tw) (k:Int) (s:ByteArray):Option Tw:=if k=1 then (Qdx l s (min l.length ts.length)).map fun i=>ts.getD i Sh.tm.nil else none
mutual
def Qac (l:List ByteArray) (ts:List Tw):Tw→Tw
 | .mk k n b d kids=>match putW l ts k n with
  | some t=>t
  | none=>.mk k n b d (Qae l ts kids)
def Qae (l:List ByteArray) (ts:List Tw):List Tw→List Tw
 | []=>[]
 | t::m=>Qac l ts t::Qae l ts m
end
def Qaz (l:List ByteArray) (ts:List Tw) (t:Tw):Except Int Tw:=if (Qac l ts t).size≤20000 then .ok (Qac l ts t) else .error 34
theorem QgT (l:List ByteArray) (ts:List Tw) (t:Tw):Qac l ts t=match putW l ts t.kind t.name with
  | some u=>u
  | none=>.mk t.kind t.name t.neg t.digits (Qae l ts t.kids):=by cases t; rfl
theorem QaY {l:List ByteArray} {ts:List Tw} {t u:Tw} (h:putW l ts t.kind t.name=some u):Qac l ts t=u:=by rw [QgT,h]
theorem Qbk {l:List ByteArray} {ts:List Tw} {t:Tw} (h:putW l ts t.kind t.name=none):Qac l ts t=.mk t.kind t.name t.neg t.digits (Qae l ts t.kids):=by rw [QgT,h]
theorem Qbe (l:List ByteArray) (ts:List Tw):∀ m:List Tw,Qae l ts m=m.map (Qac l ts)
 | []=>rfl
 | t::m=>by rw [Qae,List.map_cons,Qbe l ts m]
theorem Qcs (l:List ByteArray) (ts:List Tw) (m:List Tw):(Qae l ts m).length=m.length:=by rw [Qbe,List.length_map]
theorem Qeg (l:List ByteArray) (ts:List Tw) {m:List Tw} {i:Nat} (h:i<m.length):Qae l ts (m.take i)++[Qac l ts (m.getD i Sh.tm.nil)]=Qae l ts (m.take (i+1)):=by
 rw [Qbe,Qbe,List.getD_eq_getElem?_getD,List.getElem?_eq_getElem h,List.take_add_one,List.getElem?_eq_getElem h,List.map_append]
 simp
theorem QfQ {m:List Tw} {i:Nat} (h:i<m.length):szL (m.take i)+(m.getD i Sh.tm.nil).size=szL (m.take (i+1)):=(QiG m h).symm
theorem QjN (l:List ByteArray) (ts:List Tw) {m:List Tw} {i:Nat} (h:i<m.length):szL (Qae l ts (m.take i))+(Qac l ts (m.getD i Sh.tm.nil)).size=szL (Qae l ts (m.take (i+1))):=by
 rw [← Qeg l ts h,QfS]
 simp [szL]
theorem QdR:∀ (m:List Tw) (i:Nat),szL (m.take i)≤szL m
 | [],i=>by simp
 | t::m,0=>by simp [szL]
 | t::m,i+1=>by
  have:=QdR m i
  simp only [List.take_succ_cons,szL]; omega
theorem QhI (l:List ByteArray) (ts:List Tw) (m:List Tw) (i:Nat):szL (Qae l ts (m.take i))≤szL (Qae l ts m):=by
 have h:Qae l ts (m.take i)=(Qae l ts m).take i:=by rw [Qbe,Qbe,List.map_take]
 rw [h]
 exact QdR _ i
theorem QkU {l:List ByteArray} {ts:List Tw} {t:Tw} (h:putW l ts t.kind t.name=none):(Qac l ts t).size=szL (Qae l ts t.kids)+1:=by
 rw [Qbk h,Tw.size_eq]; rfl
theorem QmW {l:List ByteArray} {ts:List Tw} {k:Int} {s:ByteArray} (h:¬ k=1):putW l ts k s=none:=if_neg h
theorem QiV {l:List ByteArray} {ts:List Tw} {k:Int} {s:ByteArray} {i:Nat} (h:k=1) (hf:Qdx l s (min l.length ts.length)=some i):putW l ts k s=some (ts.getD i Sh.tm.nil):=by
 unfold putW; rw [if_pos h,hf]; rfl
theorem QmV {l:List ByteArray} {ts:List Tw} {k:Int} {s:ByteArray} (hf:Qdx l s (min l.length ts.length)=none):putW l ts k s=none:=by
 unfold putW; rw [hf]; split <;> rfl
theorem Qfq {l:List ByteArray} {ts:List Tw} {k:Int} {s:ByteArray} {u:Tw} (h:putW l ts k s=some u):k=1∧∃ i,i<l.length∧i<ts.length∧l.getD i Sh.str.nil=s∧u=ts.getD i Sh.tm.nil:=by
 unfold putW at h
 split at h
 · rename_i hk
   cases hf:Qdx l s (min l.length ts.length) with
   | none=>rw [hf] at h; cases h
   | some i =>
    rw [hf] at h
    cases h
    have:=QfC hf
    exact ⟨hk,i,by omega,by omega,this.2,rfl⟩
 · cases h
theorem QoD {l:List ByteArray} {ts:List Tw} {k:Int} {s:ByteArray} (h:putW l ts k s=none) (hk:k=1):∀ i,i<l.length→i<ts.length→¬ l.getD i Sh.str.nil=s:=fun i h1 h2=>by
 unfold putW at h
 rw [if_pos hk,Option.map_eq_none_iff] at h
 exact QfD h i (by omega)
mutual
theorem QgS {l:List ByteArray} {ts:List Tw} (hts:∀ u∈ts,u.fitT):∀ t:Tw,t.fitT→(Qac l ts t).fitT
 | .mk k n b d kids,h=>by
  have h2:=(Tw.fitT_eq _).1 h
  cases hp:putW l ts k n with
  | some u =>
   rw [QaY (t:=.mk k n b d kids) hp]
   obtain ⟨-,i,-,hi,-,rfl⟩:=Qfq hp
   refine hts _ ?_
   rw [List.getD_eq_getElem?_getD,List.getElem?_eq_getElem hi]
   exact List.getElem_mem _
  | none =>
   rw [Qbk (t:=.mk k n b d kids) hp]
   exact (Tw.fitT_eq _).2 ⟨h2.1,h2.2.1,by show (Qae l ts kids).length≤_; rw [Qcs]; exact h2.2.2.1,Qfk hts kids h2.2.2.2⟩
theorem Qfk {l:List ByteArray} {ts:List Tw} (hts:∀ u∈ts,u.fitT):∀ m:List Tw,QdM m→QdM (Qae l ts m)
 | [],_=>trivial
 | t::m,h=>⟨QgS hts t h.1,Qfk hts m h.2⟩
end
end Go.Proofs.YtemhncjjiomppaaDoor
