/- Terms put for names, in plain words. -/
import Derived.Test.YtdeacbdpmdfgdaaDoorTe
namespace Go.Proofs.YtdeacbdpmdfgdaaDoor
open Go.RowKit
set_option linter.unusedVariables false
set_option maxRecDepth 100000
def findN (l:List ByteArray) (s:ByteArray):Nat→Option Nat
 | 0=>none
 | n+1=>if l.getD n Sh.str.nil=s then some n else findN l s n
theorem findN_at {l:List ByteArray} {s:ByteArray} {n i:Nat} (hi:i<n) (h:l.getD i Sh.str.nil=s) (hk:∀ k,i<k→k<n→¬ l.getD k Sh.str.nil=s):findN l s n=some i:=by
 induction n with
 | zero=>omega
 | succ n ih =>
  unfold findN
  by_cases hin:i=n
  · subst hin; exact if_pos h
  · rw [if_neg (hk n (by omega) (Nat.lt_succ_self n))]
    exact ih (by omega) fun k h1 h2=>hk k h1 (by omega)
theorem findN_no {l:List ByteArray} {s:ByteArray} {n:Nat} (hk:∀ k,k<n→¬ l.getD k Sh.str.nil=s):findN l s n=none:=by
 induction n with
 | zero=>rfl
 | succ n ih =>
  unfold findN
  rw [if_neg (hk n (Nat.lt_succ_self n))]
  exact ih fun k h1=>hk k (by omega)
def putW (l:List ByteArray) (ts:List Tw) (k:Int) (s:ByteArray):Option Tw:=if k=1 then (findN l s (min l.length ts.length)).map fun i=>ts.getD i Sh.tm.nil else none
mutual
def substT (l:List ByteArray) (ts:List Tw):Tw→Tw
 | .mk k n b d kids=>match putW l ts k n with
  | some t=>t
  | none=>.mk k n b d (substL l ts kids)
def substL (l:List ByteArray) (ts:List Tw):List Tw→List Tw
 | []=>[]
 | t::m=>substT l ts t::substL l ts m
end
def substE (l:List ByteArray) (ts:List Tw) (t:Tw):Except Int Tw:=if (substT l ts t).size≤20000 then .ok (substT l ts t) else .error 34
theorem substT_eq (l:List ByteArray) (ts:List Tw) (t:Tw):substT l ts t=match putW l ts t.kind t.name with
  | some u=>u
  | none=>.mk t.kind t.name t.neg t.digits (substL l ts t.kids):=by cases t; rfl
theorem substT_put {l:List ByteArray} {ts:List Tw} {t u:Tw} (h:putW l ts t.kind t.name=some u):substT l ts t=u:=by rw [substT_eq,h]
theorem substT_no {l:List ByteArray} {ts:List Tw} {t:Tw} (h:putW l ts t.kind t.name=none):substT l ts t=.mk t.kind t.name t.neg t.digits (substL l ts t.kids):=by rw [substT_eq,h]
theorem substL_map (l:List ByteArray) (ts:List Tw):∀ m:List Tw,substL l ts m=m.map (substT l ts)
 | []=>rfl
 | t::m=>by rw [substL,List.map_cons,substL_map l ts m]
theorem substL_len (l:List ByteArray) (ts:List Tw) (m:List Tw):(substL l ts m).length=m.length:=by rw [substL_map,List.length_map]
theorem substL_snoc (l:List ByteArray) (ts:List Tw) {m:List Tw} {i:Nat} (h:i<m.length):substL l ts (m.take i)++[substT l ts (m.getD i Sh.tm.nil)]=substL l ts (m.take (i+1)):=by
 rw [substL_map,substL_map,List.getD_eq_getElem?_getD,List.getElem?_eq_getElem h,List.take_add_one,List.getElem?_eq_getElem h,List.map_append]
 simp
theorem szU_take {m:List Tw} {i:Nat} (h:i<m.length):szL (m.take i)+(m.getD i Sh.tm.nil).size=szL (m.take (i+1)):=(szL_snoc m h).symm
theorem szL_substL (l:List ByteArray) (ts:List Tw) {m:List Tw} {i:Nat} (h:i<m.length):szL (substL l ts (m.take i))+(substT l ts (m.getD i Sh.tm.nil)).size=szL (substL l ts (m.take (i+1))):=by
 rw [← substL_snoc l ts h,szL_app]
 simp [szL]
theorem szU_part:∀ (m:List Tw) (i:Nat),szL (m.take i)≤szL m
 | [],i=>by simp
 | t::m,0=>by simp [szL]
 | t::m,i+1=>by
  have:=szU_part m i
  simp only [List.take_succ_cons,szL]; omega
theorem szL_subpart (l:List ByteArray) (ts:List Tw) (m:List Tw) (i:Nat):szL (substL l ts (m.take i))≤szL (substL l ts m):=by
 have h:substL l ts (m.take i)=(substL l ts m).take i:=by rw [substL_map,substL_map,List.map_take]
 rw [h]
 exact szU_part _ i
theorem size_no {l:List ByteArray} {ts:List Tw} {t:Tw} (h:putW l ts t.kind t.name=none):(substT l ts t).size=szL (substL l ts t.kids)+1:=by
 rw [substT_no h,Tw.size_eq]; rfl
theorem put_kind {l:List ByteArray} {ts:List Tw} {k:Int} {s:ByteArray} (h:¬ k=1):putW l ts k s=none:=if_neg h
theorem put_some {l:List ByteArray} {ts:List Tw} {k:Int} {s:ByteArray} {i:Nat} (h:k=1) (hf:findN l s (min l.length ts.length)=some i):putW l ts k s=some (ts.getD i Sh.tm.nil):=by
 unfold putW; rw [if_pos h,hf]; rfl
theorem put_none {l:List ByteArray} {ts:List Tw} {k:Int} {s:ByteArray} (hf:findN l s (min l.length ts.length)=none):putW l ts k s=none:=by
 unfold putW; rw [hf]; split <;> rfl
end Go.Proofs.YtdeacbdpmdfgdaaDoor
