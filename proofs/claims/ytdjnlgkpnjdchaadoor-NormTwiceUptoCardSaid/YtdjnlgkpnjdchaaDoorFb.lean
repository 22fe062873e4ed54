/- The layer norm: what it computes; memory of its own. -/
import Derived.Test.YtdjnlgkpnjdchaaDoorFa
namespace Go.Proofs.YtdjnlgkpnjdchaaDoor
open Go.RowKit
set_option linter.unusedVariables false
set_option maxRecDepth 100000
theorem sortT_ok {D:List Dat} {S:List Srt} {t:Tw} {s:ByteArray} (h:sortT D S t=.ok s):kidsN t.kind≠-2∧(kidsN t.kind<0∨kidsN t.kind=t.kids.length)∧(t.kind≠1→∃ m,sortL D S t.kids=.ok m∧partS D t.kind t.name m=.ok s):=by
 rw [sortT_eq] at h
 split at h
 · cases h
 rename_i h1
 split at h
 · cases h
 rename_i h2
 refine ⟨h1,Decidable.not_not.1 h2,fun h3=>?_⟩
 split at h
 · cases h
 try rw [if_neg h3] at h
 cases hl:sortL D S t.kids with
 | error e=>rw [hl] at h; cases h
 | ok m=>rw [hl] at h; exact ⟨m,rfl,h⟩
theorem sortL_at {D:List Dat} {S:List Srt}:∀ {l:List Tw} {m:List ByteArray} {i:Nat} (d:Tw),sortL D S l=.ok m→i<l.length→sortT D S (l.getD i d)=.ok (m.getD i ⟨#[]⟩)
 | [],m,i,d,h,hi=>absurd hi (Nat.not_lt_zero _)
 | t::l,m,i,d,h,hi=>by
  simp only [sortL] at h
  cases ht:sortT D S t with
  | error e=>rw [ht] at h; cases h
  | ok s =>
   rw [ht] at h
   dsimp only at h
   cases hl:sortL D S l with
   | error e=>rw [hl] at h; cases h
   | ok k =>
    rw [hl] at h
    cases h
    cases i with
    | zero=>simpa using ht
    | succ i=>simpa using sortL_at d hl (by simpa using hi)
theorem allEq_at {l:List ByteArray} {s:ByteArray} (h:allEq l s=true) {i:Nat} (hi:i<l.length) (d:ByteArray):l.getD i d=s:=by
 unfold allEq at h
 rw [List.all_eq_true] at h
 have:=h (l[i]) (List.getElem_mem hi)
 rw [List.getD_eq_getElem?_getD,List.getElem?_eq_getElem hi]
 simpa using this
theorem sort_bools {D:List Dat} {S:List Srt} {t:Tw} {s:ByteArray} (h:sortT D S t=.ok s) (hk:t.kind=10∨t.kind=11∨t.kind=12∨t.kind=13) {i:Nat} (hi:i<t.kids.length):sortT D S (kidT t i)=.ok bBool:=by
 obtain ⟨-,-,h3⟩:=sortT_ok h
 obtain ⟨m,h4,h5⟩:=h3 (by omega)
 have h6:=sortL_at Sh.tm.nil h4 hi
 have h7:allEq m bBool=true:=by
  unfold partS at h5
  rw [if_neg (by omega),if_neg (by omega),if_neg (by omega),if_neg (by omega),if_neg (by omega)] at h5
  split at h5
  · assumption
  · cases h5
 rw [allEq_at h7 (by rw [sortL_len D S h4]; exact hi)] at h6
 exact h6
theorem sort_many {D:List Dat} {S:List Srt} {t:Tw} {s:ByteArray} (h:sortT D S t=.ok s):(t.kind=10→t.kids.length=1)∧(t.kind=8∨t.kind=9∨t.kind=13→t.kids.length=2)∧(t.kind=3∨t.kind=4→t.kids.length=0):=by
 obtain ⟨-,h2,-⟩:=sortT_ok h
 have e10:kidsN 10=1:=rfl
 have e8:kidsN 8=2:=rfl
 have e9:kidsN 9=2:=rfl
 have e13:kidsN 13=2:=rfl
 have e3:kidsN 3=0:=rfl
 have e4:kidsN 4=0:=rfl
 refine ⟨fun hk=>?_,fun hk=>?_,fun hk=>?_⟩
 · rw [hk] at h2; omega
 · rcases hk with hk | hk | hk <;> rw [hk] at h2 <;> omega
 · rcases hk with hk | hk <;> rw [hk] at h2 <;> omega
theorem kidT_size {t:Tw} {i:Nat} (h:i<t.kids.length):(kidT t i).size<t.size:=by
 have:=kid_size h
 unfold kidT
 rw [getD_any h Sh.tm.nil default]
 exact this
theorem kidT_fit {t:Tw} {i:Nat} (hf:t.fitT) (h:i<t.kids.length):(kidT t i).fitT:=fitTL_at _ ((Tw.fitT_eq t).1 hf).2.2.2 h
def sizF (m:List (Int × Int)):Int × Int:=m.foldl (fun p q=>(sumC [p.1,q.1],sumC [p.2,q.2])) (1,1)
mutual
def sizT (D:List Dat) (S:List Srt):Tw→Int × Int
 | .mk k n b d l =>
  if k=3∨k=4 then (1,1)
  else if k=9 then ((szL l+1:Int),(szL l+1:Int)+2)
  else if k=10 then (((sizL D S l).getD 0 (0,0)).2,((sizL D S l).getD 0 (0,0)).1)
  else if k=11∨k=12 then sizF (sizL D S l)
  else if k=13 then (sumC [(sizF (sizL D S l)).1,(sizF (sizL D S l)).2,1],sumC [(sizF (sizL D S l)).1,(sizF (sizL D S l)).2,1])
  else if k=8∧wholeB D S (l.getD 0 Sh.tm.nil)=true then ((szL l+1:Int),sumC [(szL l+1:Int),(szL l+1:Int),5])
  else ((szL l+1:Int),(szL l+1:Int)+1)
def sizL (D:List Dat) (S:List Srt):List Tw→List (Int × Int)
 | []=>[]
 | t::l=>sizT D S t::sizL D S l
end
theorem sizL_eq (D:List Dat) (S:List Srt):∀ l:List Tw,sizL D S l=l.map (sizT D S)
 | []=>rfl
 | t::l=>by rw [sizL,sizL_eq D S l]; rfl
theorem sizT_eq (D:List Dat) (S:List Srt) (t:Tw):sizT D S t =
  if t.kind=3∨t.kind=4 then (1,1)
  else if t.kind=9 then ((t.size:Int),(t.size:Int)+2)
  else if t.kind=10 then (((sizL D S t.kids).getD 0 (0,0)).2,((sizL D S t.kids).getD 0 (0,0)).1)
  else if t.kind=11∨t.kind=12 then sizF (sizL D S t.kids)
  else if t.kind=13 then (sumC [(sizF (sizL D S t.kids)).1,(sizF (sizL D S t.kids)).2,1],sumC [(sizF (sizL D S t.kids)).1,(sizF (sizL D S t.kids)).2,1])
  else if t.kind=8∧wholeB D S (kidT t 0)=true then ((t.size:Int),sumC [(t.size:Int),(t.size:Int),5])
  else ((t.size:Int),(t.size:Int)+1):=by
 cases t with
 | mk k n b d l =>
  rw [sizT]
  have:(Tw.mk k n b d l).size=szL l+1:=rfl
  rw [this]
  push_cast
  rfl
theorem sizL_at (D:List Dat) (S:List Srt) {l:List Tw} {i:Nat} (h:i<l.length) (d:Int × Int) (e:Tw):(sizL D S l).getD i d=sizT D S (l.getD i e):=by
 rw [sizL_eq,List.getD_eq_getElem?_getD,List.getD_eq_getElem?_getD,List.getElem?_map,List.getElem?_eq_getElem h]; rfl
theorem sizF_snoc (D:List Dat) (S:List Srt) {l:List Tw} {i:Nat} (h:i<l.length) (e:Tw):sizF (sizL D S (l.take (i+1)))=(sumC [(sizF (sizL D S (l.take i))).1,(sizT D S (l.getD i e)).1],sumC [(sizF (sizL D S (l.take i))).2,(sizT D S (l.getD i e)).2]):=by
 unfold sizF
 rw [sizL_eq,sizL_eq,List.take_add_one,List.getElem?_eq_getElem h,List.map_append,List.foldl_append,List.getD_eq_getElem?_getD,List.getElem?_eq_getElem h]; rfl
theorem sumC_rng {l:List Int} (h:∀ k∈l,0≤k):0≤sumC l∧sumC l≤20001:=by
 unfold sumC
 have:∀ (l:List Int) (n:Int),0≤n→n≤20001→(∀ k∈l,0≤k)→0≤l.foldl (fun n k=>min (n+k) 20001) n∧l.foldl (fun n k=>min (n+k) 20001) n≤20001:=by
  intro l
  induction l with
  | nil=>intro n h1 h2 _; exact ⟨h1,h2⟩
  | cons x l ih =>
   intro n h1 h2 h3
   have:=h3 x List.mem_cons_self
   exact ih (min (n+x) 20001) (by omega) (by omega) fun k hk=>h3 k (List.mem_cons_of_mem _ hk)
 exact this l 0 (by omega) (by omega) h
theorem sizF_rng {m:List (Int × Int)} (h:∀ p∈m,0≤p.1∧0≤p.2):(0≤(sizF m).1∧(sizF m).1≤20001)∧0≤(sizF m).2∧(sizF m).2≤20001:=by
 unfold sizF
 have:∀ (m:List (Int × Int)) (p:Int × Int),((0≤p.1∧p.1≤20001)∧0≤p.2∧p.2≤20001)→(∀ p∈m,0≤p.1∧0≤p.2)→((0≤(m.foldl (fun p q=>(sumC [p.1,q.1],sumC [p.2,q.2])) p).1∧(m.foldl (fun p q=>(sumC [p.1,q.1],sumC [p.2,q.2])) p).1≤20001)∧0≤(m.foldl (fun p q=>(sumC [p.1,q.1],sumC [p.2,q.2])) p).2∧(m.foldl (fun p q=>(sumC [p.1,q.1],sumC [p.2,q.2])) p).2≤20001):=by
  intro m
  induction m with
  | nil=>intro p h1 _; exact h1
  | cons x l ih =>
   intro p h1 h3
   have:=h3 x List.mem_cons_self
   refine ih _ ⟨sumC_rng ?_,sumC_rng ?_⟩ fun k hk=>h3 k (List.mem_cons_of_mem _ hk)
   · intro k hk
     simp only [List.mem_cons,List.not_mem_nil,or_false] at hk
     omega
   · intro k hk
     simp only [List.mem_cons,List.not_mem_nil,or_false] at hk
     omega
 exact this m (1,1) (by decide) h
mutual
theorem sizT_rng {D:List Dat} {S:List Srt}:∀ t:Tw,(0≤(sizT D S t).1∧(sizT D S t).1≤t.size+20003)∧0≤(sizT D S t).2∧(sizT D S t).2≤t.size+20003
 | .mk k n b d l=>by
  have ih:=sizL_rng (D:=D) (S:=S) l
  have hf:=sizF_rng (fun p hp=>⟨(ih p hp).1.1,(ih p hp).2.1⟩)
  have hs:((Tw.mk k n b d l).size:Int)=szL l+1:=by show ((szL l+1:Nat):Int)=_; omega
  rw [hs,sizT]
  split
  · exact ⟨⟨by decide,by omega⟩,by decide,by omega⟩
  split
  · refine ⟨⟨?_,?_⟩,?_,?_⟩ <;> dsimp only <;> omega
  split
  · have h0:(0≤((sizL D S l).getD 0 (0,0)).1∧((sizL D S l).getD 0 (0,0)).1≤szL l+20003)∧0≤((sizL D S l).getD 0 (0,0)).2∧((sizL D S l).getD 0 (0,0)).2≤szL l+20003:=by
     cases hm:sizL D S l with
     | nil=>exact ⟨⟨by decide,by show (0:Int)≤_; omega⟩,by decide,by show (0:Int)≤_; omega⟩
     | cons p m=>exact ih p (by rw [hm]; exact List.mem_cons_self)
    refine ⟨⟨?_,?_⟩,?_,?_⟩ <;> dsimp only <;> omega
  split
  · refine ⟨⟨?_,?_⟩,?_,?_⟩ <;> omega
  split
  · have h1:0≤sumC [(sizF (sizL D S l)).1,(sizF (sizL D S l)).2,1]∧sumC [(sizF (sizL D S l)).1,(sizF (sizL D S l)).2,1]≤20001:=sumC_rng fun k hk=>by
     simp only [List.mem_cons,List.not_mem_nil,or_false] at hk
     omega
    refine ⟨⟨?_,?_⟩,?_,?_⟩ <;> dsimp only <;> omega
  split
  · have h1:0≤sumC [(szL l+1:Int),(szL l+1:Int),5]∧sumC [(szL l+1:Int),(szL l+1:Int),5]≤20001:=sumC_rng fun k hk=>by
     simp only [List.mem_cons,List.not_mem_nil,or_false] at hk
     omega
    refine ⟨⟨?_,?_⟩,?_,?_⟩ <;> dsimp only <;> omega
  · refine ⟨⟨?_,?_⟩,?_,?_⟩ <;> dsimp only <;> omega
theorem sizL_rng {D:List Dat} {S:List Srt}:∀ (l:List Tw),∀ p∈sizL D S l,(0≤p.1∧p.1≤szL l+20003)∧0≤p.2∧p.2≤szL l+20003
 | [],p,hp=>by cases hp
 | t::l,p,hp=>by
  rw [sizL] at hp
  have e:szL (t::l)=t.size+szL l:=rfl
  rw [e]
  rcases List.mem_cons.1 hp with rfl | hp
  · have:=sizT_rng (D:=D) (S:=S) t
    omega
  · have:=sizL_rng (D:=D) (S:=S) l p hp
    omega
end
def sOwnN (n:Nat):Spec
 | [x]=>match tmOf x with
  | some t=>some (some (t.size<n∧t.fitT),.one (tmP t))
  | none=>none
 | _=>none
theorem cOwnN {E:Env} (hU:Up E):∀ n,Contract Tryd.prog E 51 (sOwnN n)
 | 0=>by
  intro xs p r hs hp
  unfold sOwnN at hs
  split at hs
  · split at hs
    · cases hs
      exact absurd (hp _ rfl).1 (Nat.not_lt_zero _)
    · cases hs
  · cases hs
 | n+1=>by
  refine contract_D [(101,sClone),(51,sOwnN n)] [] Tryd.ntmps51 Tryd.func51 (by kernel_rfl) (by kernel_rfl) hU ⟨cClone hU,cOwnN hU n,trivial⟩ trivial ?_
  intro xs p r hs hp
  unfold sOwnN at hs
  split at hs
  · rename_i x
    split at hs
    · rename_i t ht
      cases hs
      obtain ⟨hn,hf⟩:=hp _ rfl
      have f2:=(Tw.fitT_eq t).1 hf
      refine ⟨[tmP t],[(4,.s ⟨Nat,fun i=>⟨[(1,.bp 0 0),(2,.bp 1 0),(3,.tl 2 (.dt .tm (t.kids.take i))),(13,.f (.dt .tm t.kids)),(14,iV t.kids.length),(15,iV i)],[.cells (wrapF (tmC t)),.cells [.f (.v (.int .u8 0)),.f (.v (.string ⟨#[]⟩)),.f (.v (.bool false)),.f (.v (.slice none 0 0)),.f (.v (.slice none 0 0))],.tail 28 5]⟩,fun i=>i≤t.kids.length,fun i=>t.kids.length - i⟩)],.cons (tm_sub ht).sub .nil,rfl,fun _ hsh=>?_⟩
      refine cast_rfl (p:=t.digits.length≤40000000∧∃ (x1:Nat),(((SubB (PV.f (Lf.v (Value.int IntKind.u8 t.kind))) (PV.f (Lf.v (Value.int IntKind.u8 t.kind)))∧SubB (sV t.name) (sV t.name)∧SubB (bV t.neg) (bV t.neg)∧SubB (PV.f (Lf.lr t.digits t.digits.length)) (PV.f (Lf.lr t.digits t.digits.length))∧SubB (PV.f (Lf.dt Sh.tm t.kids)) (PV.f (Lf.dt Sh.tm t.kids))∧True)∧(SubB (PV.f (Lf.v (Value.int IntKind.u8 0))) (PV.f (Lf.v (Value.int IntKind.u8 0)))∧SubB (sV (ByteArray.mk #[])) (sV (ByteArray.mk #[]))∧SubB (bV false) (bV false)∧SubB (PV.f (Lf.v (Value.slice none 0 0))) (PV.f (Lf.v (Value.slice none 0 0)))∧SubB (PV.f (Lf.v (Value.slice none 0 0))) (PV.f (Lf.v (Value.slice none 0 0)))∧True)∧True)∧SubB (PV.bp 0 0) (PV.bp 0 0)∧SubB (PV.bp 1 0) (PV.bp 1 0)∧emptyT (PV.tl 2 (Lf.dt Sh.tm (List.take x1 t.kids)))∧SubB (PV.f (Lf.dt Sh.tm t.kids)) (PV.f (Lf.dt Sh.tm t.kids))∧SubB (iV (↑t.kids.length:Int)) (iV (↑t.kids.length:Int))∧SubB (iV 0) (iV (↑x1:Int))∧True)∧x1≤t.kids.length∧True∧∀ (z2:Nat),z2≤t.kids.length→True→ifB (decide ((↑z2:Int)<(↑t.kids.length:Int))) (((0:Int)≤(↑z2:Int)∧(↑z2:Int)<(↑t.kids.length:Int))∧((Tw.mk (Tw.kind (t.kids.getD (↑z2:Int).toNat Sh.tm.nil)) (Tw.name (t.kids.getD (↑z2:Int).toNat Sh.tm.nil)) (Tw.neg (t.kids.getD (↑z2:Int).toNat Sh.tm.nil)) (Tw.digits (t.kids.getD (↑z2:Int).toNat Sh.tm.nil)) (Tw.kids (t.kids.getD (↑z2:Int).toNat Sh.tm.nil))).size<n∧(Tw.mk (Tw.kind (t.kids.getD (↑z2:Int).toNat Sh.tm.nil)) (Tw.name (t.kids.getD (↑z2:Int).toNat Sh.tm.nil)) (Tw.neg (t.kids.getD (↑z2:Int).toNat Sh.tm.nil)) (Tw.digits (t.kids.getD (↑z2:Int).toNat Sh.tm.nil)) (Tw.kids (t.kids.getD (↑z2:Int).toNat Sh.tm.nil))).fitT)∧((List.take z2 t.kids).length+1≤9223372036854775807∧((List.take z2 t.kids).length+1) * 80≤140737488355328)∧∃ (x3:Nat),(((SubB (PV.f (Lf.v (Value.int IntKind.u8 t.kind))) (PV.f (Lf.v (Value.int IntKind.u8 t.kind)))∧SubB (sV t.name) (sV t.name)∧SubB (bV t.neg) (bV t.neg)∧SubB (PV.f (Lf.lr t.digits t.digits.length)) (PV.f (Lf.lr t.digits t.digits.length))∧SubB (PV.f (Lf.dt Sh.tm t.kids)) (PV.f (Lf.dt Sh.tm t.kids))∧True)∧(SubB (PV.f (Lf.v (Value.int IntKind.u8 0))) (PV.f (Lf.v (Value.int IntKind.u8 0)))∧SubB (sV (ByteArray.mk #[])) (sV (ByteArray.mk #[]))∧SubB (bV false) (bV false)∧SubB (PV.f (Lf.v (Value.slice none 0 0))) (PV.f (Lf.v (Value.slice none 0 0)))∧SubB (PV.f (Lf.v (Value.slice none 0 0))) (PV.f (Lf.v (Value.slice none 0 0)))∧True)∧True)∧SubB (PV.bp 0 0) (PV.bp 0 0)∧SubB (PV.bp 1 0) (PV.bp 1 0)∧SubB (PV.tl 2 (Lf.dt Sh.tm (List.take z2 t.kids++[Tw.mk (Tw.mk (Tw.kind (t.kids.getD (↑z2:Int).toNat Sh.tm.nil)) (Tw.name (t.kids.getD (↑z2:Int).toNat Sh.tm.nil)) (Tw.neg (t.kids.getD (↑z2:Int).toNat Sh.tm.nil)) (Tw.digits (t.kids.getD (↑z2:Int).toNat Sh.tm.nil)) (Tw.kids (t.kids.getD (↑z2:Int).toNat Sh.tm.nil))).kind (Tw.mk (Tw.kind (t.kids.getD (↑z2:Int).toNat Sh.tm.nil)) (Tw.name (t.kids.getD (↑z2:Int).toNat Sh.tm.nil)) (Tw.neg (t.kids.getD (↑z2:Int).toNat Sh.tm.nil)) (Tw.digits (t.kids.getD (↑z2:Int).toNat Sh.tm.nil)) (Tw.kids (t.kids.getD (↑z2:Int).toNat Sh.tm.nil))).name (Tw.mk (Tw.kind (t.kids.getD (↑z2:Int).toNat Sh.tm.nil)) (Tw.name (t.kids.getD (↑z2:Int).toNat Sh.tm.nil)) (Tw.neg (t.kids.getD (↑z2:Int).toNat Sh.tm.nil)) (Tw.digits (t.kids.getD (↑z2:Int).toNat Sh.tm.nil)) (Tw.kids (t.kids.getD (↑z2:Int).toNat Sh.tm.nil))).neg (Tw.mk (Tw.kind (t.kids.getD (↑z2:Int).toNat Sh.tm.nil)) (Tw.name (t.kids.getD (↑z2:Int).toNat Sh.tm.nil)) (Tw.neg (t.kids.getD (↑z2:Int).toNat Sh.tm.nil)) (Tw.digits (t.kids.getD (↑z2:Int).toNat Sh.tm.nil)) (Tw.kids (t.kids.getD (↑z2:Int).toNat Sh.tm.nil))).digits (Tw.mk (Tw.kind (t.kids.getD (↑z2:Int).toNat Sh.tm.nil)) (Tw.name (t.kids.getD (↑z2:Int).toNat Sh.tm.nil)) (Tw.neg (t.kids.getD (↑z2:Int).toNat Sh.tm.nil)) (Tw.digits (t.kids.getD (↑z2:Int).toNat Sh.tm.nil)) (Tw.kids (t.kids.getD (↑z2:Int).toNat Sh.tm.nil))).kids]))) (PV.tl 2 (Lf.dt Sh.tm (List.take x3 t.kids)))∧SubB (PV.f (Lf.dt Sh.tm t.kids)) (PV.f (Lf.dt Sh.tm t.kids))∧SubB (iV (↑t.kids.length:Int)) (iV (↑t.kids.length:Int))∧SubB (iV (IntKind.i64.wrap ((↑z2:Int)+(1:Int)))) (iV (↑x3:Int))∧True)∧x3≤t.kids.length∧True∧(t.kids.length - x3).succ.le (t.kids.length - z2)) (true=true∧Sub (PV.agg [PV.f (Lf.v (Value.int IntKind.u8 t.kind)),sV t.name,bV t.neg,PV.f (Lf.lr t.digits t.digits.length),PV.f (Lf.dt Sh.tm (List.take z2 t.kids))]) (PV.agg (wrapF (tmC t))))) ?kr ?_
      case kr=>kernel_rfl
      refine ⟨?s0,⟨?x0,⟨?s1,⟨?s2,⟨trivial,fun z2=>fun hq0=>fun _=>ifB_iff.2 ⟨fun hb1=>⟨?s3,⟨?s4,⟨?s5,⟨?x1,⟨⟨⟨⟨.refl _,⟨.refl _,⟨.refl _,⟨.refl _,⟨.refl _,trivial⟩⟩⟩⟩⟩,⟨⟨.refl _,⟨.refl _,⟨.refl _,⟨.refl _,⟨.refl _,trivial⟩⟩⟩⟩⟩,trivial⟩⟩,⟨.refl _,⟨.refl _,⟨?m0,⟨.refl _,⟨.refl _,⟨?m1,trivial⟩⟩⟩⟩⟩⟩⟩,⟨?s6,⟨trivial,?m2⟩⟩⟩⟩⟩⟩⟩,fun hb1=>⟨rfl,?m3⟩⟩⟩⟩⟩⟩⟩
      case x0=>exact 0
      case x1=>exact z2+1
      all_goals try simp only [decide_eq_true_eq,decide_eq_false_iff_not,Int.toNat_natCast,Tw.eta] at *
      case s0=>exact f2.2.1
      case s1=>exact ⟨⟨⟨.refl _,.refl _,.refl _,.refl _,.refl _,trivial⟩,⟨.refl _,.refl _,.refl _,.refl _,.refl _,trivial⟩,trivial⟩,.refl _,.refl _,rfl,.refl _,.refl _,.refl _,trivial⟩
      case s2=>exact Nat.zero_le _
      case m3 =>
       rw [List.take_of_length_le (by omega)]
       exact .refl _
      all_goals have hz:z2<t.kids.length:=by omega
      case s3=>omega
      case s4 =>
       have h1:=kidT_size hz
       exact ⟨by unfold kidT at h1; omega,kidT_fit hf hz⟩
      case s5 =>
       rw [List.length_take]
       have:=f2.2.2.1
       omega
      case m0 =>
       rw [List.take_add_one,List.getElem?_eq_getElem hz,List.getD_eq_getElem?_getD,List.getElem?_eq_getElem hz]
       exact .refl _
      case m1=>exact subB_i (by rw [wJ _ (by omega) (by have:=f2.2.2.1; omega)]; rfl)
      case s6=>exact hz
      case m2 =>
       have:t.kids.length - (z2+1)<t.kids.length - z2:=by omega
       exact this
    · cases hs
  · cases hs
def sOwn:Spec
 | [x]=>match tmOf x with
  | some t=>some (some t.fitT,.one (tmP t))
  | none=>none
 | _=>none
theorem cOwn {E:Env} (hU:Up E):Contract Tryd.prog E 51 sOwn:=by
 intro xs p r hs hp
 unfold sOwn at hs
 split at hs
 · rename_i x
   split at hs
   · rename_i t ht
     cases hs
     exact cOwnN hU (t.size+1) [x] _ _ (by simp only [sOwnN,ht]; rfl) (fun q hq=>by cases hq; exact ⟨Nat.lt_succ_self _,hp _ rfl⟩)
   · cases hs
 · cases hs
end Go.Proofs.YtdjnlgkpnjdchaaDoor
