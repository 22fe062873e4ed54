/- How many bytes the text of what was pushed has. -/
import Derived.Test.YtdjnlgkpnjdchaaDoorNy
import Derived.Test.YtdjnlgkpnjdchaaDoorKx
namespace Go.Proofs.YtdjnlgkpnjdchaaDoor
open Go.RowKit
set_option linter.unusedVariables false
set_option maxRecDepth 100000
structure Kept (P:Tw→Prop):Prop where
 con:∀ {k:Int} {l:List Tw},0≤k∧k≤255→(∀ a∈l,P a)→P (conT k l)
 one:P oneT
 nil:P Sh.tm.nil
 kid:∀ {t a:Tw},P t→a∈t.kids→P a
section
variable {P : Tw → Prop} (hP : Kept P) {D : List Dat} {S : List Srt}
include hP
theorem getD_P {l:List Tw} (h:∀ a∈l,P a) (i:Nat):P (l.getD i Sh.tm.nil):=by
 by_cases hi:i<l.length
 · rw [List.getD_eq_getElem?_getD,List.getElem?_eq_getElem hi]
   exact h _ (List.getElem_mem hi)
 · rw [List.getD_eq_getElem?_getD,List.getElem?_eq_none (by omega)]
   exact hP.nil
theorem two_P {k:Int} (hk:0≤k∧k≤255) {a b:Tw} (ha:P a) (hb:P b):P (conT k [a,b]):=hP.con hk fun x hx=>by
 rcases List.mem_cons.1 hx with rfl | hx
 · exact ha
 · rw [List.mem_singleton.1 hx]; exact hb
theorem above_P {a b:Tw} (ha:P a) (hb:P b):P (aboveT a b):=two_P hP (by decide) (two_P hP (by decide) ha hP.one) hb
theorem push_P:∀ (n:Nat) (t:Tw) (is:Bool),t.size≤n→P t→P (pushT D S t is)
 | 0,t,is,hn,h=>absurd t.size_pos (by omega)
 | n+1,t,is,hn,h=>by
  have hl:∀ is,∀ a∈pushL D S t.kids is,P a:=fun is a ha=>by
   rw [pushL_eq] at ha
   obtain ⟨b,hb,rfl⟩:=List.mem_map.1 ha
   exact push_P n b is (by have:=szL_mem hb; have:=t.size_eq; omega) (hP.kid h hb)
  have hk:∀ i,P (kidT t i):=fun i=>getD_P hP (fun a ha=>hP.kid h ha) i
  rw [pushT_eq]
  split
  · exact hP.con (by split <;> decide) fun a ha=>by cases ha
  split
  · exact getD_P hP (hl _) 0
  split
  · cases is
    · exact two_P hP (by decide) (two_P hP (by decide) (getD_P hP (hl _) _) (getD_P hP (hl _) _)) (two_P hP (by decide) (getD_P hP (hl _) _) (getD_P hP (hl _) _))
    · exact two_P hP (by decide) (two_P hP (by decide) (getD_P hP (hl _) _) (getD_P hP (hl _) _)) (two_P hP (by decide) (getD_P hP (hl _) _) (getD_P hP (hl _) _))
  split
  · exact hP.con (by split <;> decide) (hl _)
  split
  · exact h
  · unfold deniedT
    split
    · exact above_P hP (hk _) (hk _)
    split
    · exact two_P hP (by decide) (above_P hP (hk _) (hk _)) (above_P hP (hk _) (hk _))
    · exact hP.con (by decide) fun a ha=>by rw [List.mem_singleton.1 ha]; exact h
end
theorem kept_kind:Kept kindR where
 con:=fun hk h=>⟨⟨hk,fun x hx=>by cases hx⟩,kindRL_of h⟩
 one:=⟨⟨by decide,by decide⟩,trivial⟩
 nil:=⟨⟨by decide,fun x hx=>by cases hx⟩,trivial⟩
 kid:=fun {t a} h ha=>kindRL_mem ((kindR_eq t).1 h).2 ha
theorem kept_nod (m:Nat) (hm:11≤m):Kept fun t=>nodW t≤m where
 con:=fun {k l} _ h=>by
  show nodW (.mk k ⟨#[]⟩ false [] l)≤m
  rw [nodW]
  have:=nodWL_of h
  have e:(⟨#[]⟩:ByteArray).size=0:=rfl
  rw [e]
  simp only [List.length_nil]
  omega
 one:=by
  show nodW oneT≤m
  have:nodW oneT=11:=by decide
  omega
 nil:=by
  show nodW (.mk 0 ⟨#[]⟩ false [] [])≤m
  have:nodW (.mk 0 ⟨#[]⟩ false [] [])=0:=by decide
  omega
 kid:=fun {t a} h ha=>by
  have h1:=nodWL_mem ha
  cases t with
  | mk k n b d l =>
   have h:nodW (.mk k n b d l)≤m:=h
   rw [nodW] at h
   have h1:nodW a≤nodWL l:=h1
   show nodW a≤m
   omega
section
variable {D : List Dat} {S : List Srt}
theorem two_size (k:Int) (a b:Tw):(conT k [a,b]).size=a.size+b.size+1:=by
 show (a.size+(b.size+0))+1=_
 omega
theorem above_size (a b:Tw):(aboveT a b).size=a.size+b.size+3:=by
 unfold aboveT
 rw [two_size,two_size]
 have:oneT.size=1:=rfl
 omega
theorem sumC_le {a b:Int} (ha:0≤a) (hb:0≤b) (h:sumC [a,b]≤20000):sumC [a,b]=a+b:=by rw [sumC2] at h ⊢; omega
theorem fold_size {is:Bool}:∀ {l:List Tw},(∀ a∈l,pickS is (sizT D S a)≤20000→((pushT D S a is).size:Int)≤pickS is (sizT D S a))→∀ p:Int × Int,0≤pickS is p →
  pickS is ((sizL D S l).foldl (fun p q=>(sumC [p.1,q.1],sumC [p.2,q.2])) p)≤20000→pickS is p+szL (pushL D S l is)≤pickS is ((sizL D S l).foldl (fun p q=>(sumC [p.1,q.1],sumC [p.2,q.2])) p)
 | [],_,p,hp,h=>by
  simp only [pushL,sizL,List.foldl_nil] at h ⊢
  show pickS is p+((0:Nat):Int)≤_
  omega
 | t::l,ht,p,hp,h=>by
  rw [sizL,List.foldl_cons] at h ⊢
  have hr:=sizT_rng (D:=D) (S:=S) t
  have h0:0≤pickS is (sizT D S t):=by cases is <;> simp only [pickS] <;> simp <;> omega
  have e:pickS is (sumC [p.1,(sizT D S t).1],sumC [p.2,(sizT D S t).2])=sumC [pickS is p,pickS is (sizT D S t)]:=by cases is <;> rfl
  have hge:∀ a b:Int,0≤a→0≤b→0≤sumC [a,b]:=fun a b ha hb=>by rw [sumC2]; omega
  have ih:=fold_size (l:=l) (is:=is) (fun a ha=>ht a (by simp [ha])) _ (by rw [e]; exact hge _ _ hp h0) h
  rw [e] at ih
  have h1:sumC [pickS is p,pickS is (sizT D S t)]≤20000:=by omega
  have h2:=sumC_le hp h0 h1
  have h3:=ht t (by simp) (by omega)
  rw [pushL]
  have h4:szL (pushT D S t is::pushL D S l is)=(pushT D S t is).size+szL (pushL D S l is):=rfl
  rw [h4]
  push_cast
  omega
set_option maxHeartbeats 2000000 in
theorem push_size:∀ (n:Nat) (t:Tw) (is:Bool),t.size≤n→sortT D S t=.ok bBool→pickS is (sizT D S t)≤20000→((pushT D S t is).size:Int)≤pickS is (sizT D S t)
 | 0,t,is,hn,h,_=>absurd t.size_pos (by omega)
 | n+1,t,is,hn,h,hg=>by
  have hsz:=t.size_eq
  have hpe:=pushT_eq D S t is
  have hse:=sizT_eq D S t
  have den:∀ (u:Tw),(conT 10 [u]).size=u.size+1:=fun u=>rfl
  cases bool_inv h with
  | atom hk hkl =>
   rw [if_neg (by omega),if_neg (by omega),if_neg (by omega),if_neg (by omega),if_neg (by omega),if_neg (by omega)] at hse
   rw [hse]
   cases is with
   | true=>rw [if_neg (by omega),if_neg (by omega),if_neg (by omega),if_neg (by omega),if_pos rfl] at hpe; rw [hpe]; exact Int.le_refl _
   | false =>
    rw [if_neg (by omega),if_neg (by omega),if_neg (by omega),if_neg (by omega),if_neg (by decide)] at hpe
    unfold deniedT at hpe
    rw [if_neg (by omega),if_neg (by omega)] at hpe
    rw [hpe,den]
    show ((t.size+1:Nat):Int)≤(t.size:Int)+1
    omega
  | con hk hk0 =>
   rw [if_pos hk] at hse hpe
   rw [hse,hpe]
   cases is <;> exact Int.le_refl _
  | eq a b hk hab s ha hb hs =>
   have hts:t.size=a.size+b.size+1:=by
    rw [hsz,hab]
    show (a.size+(b.size+0))+1=_
    omega
   have k0:kidT t 0=a:=by unfold kidT; rw [hab]; rfl
   have k1:kidT t 1=b:=by unfold kidT; rw [hab]; rfl
   rw [if_neg (by omega),if_neg (by omega),if_neg (by omega),if_neg (by omega),if_neg (by omega)] at hse
   cases is with
   | true =>
    rw [if_neg (by omega),if_neg (by omega),if_neg (by omega),if_neg (by omega),if_pos rfl] at hpe
    rw [hpe,hse]
    split <;> exact Int.le_refl _
   | false =>
    rw [if_neg (by omega),if_neg (by omega),if_neg (by omega),if_neg (by omega),if_neg (by decide)] at hpe
    unfold deniedT at hpe
    rw [if_neg (by omega),k0,k1] at hpe
    rw [k0] at hse
    by_cases hw:wholeB D S a=true
    · rw [if_pos ⟨hk,hw⟩] at hpe hse
      rw [hse] at hg ⊢
      rw [hpe,two_size,above_size,above_size]
      show _≤sumC [(t.size:Int),(t.size:Int),5]
      have hg:sumC [(t.size:Int),(t.size:Int),5]≤20000:=hg
      rw [sumC3] at hg ⊢
      push_cast
      omega
    · rw [if_neg (fun c=>hw c.2)] at hpe hse
      rw [hse,hpe,den]
      show ((t.size+1:Nat):Int)≤(t.size:Int)+1
      omega
  | le a b hk hab ha hb =>
   have hts:t.size=a.size+b.size+1:=by
    rw [hsz,hab]
    show (a.size+(b.size+0))+1=_
    omega
   rw [if_neg (by omega),if_pos hk] at hse
   rw [hse]
   cases is with
   | true=>rw [if_neg (by omega),if_neg (by omega),if_neg (by omega),if_neg (by omega),if_pos rfl] at hpe; rw [hpe]; exact Int.le_refl _
   | false =>
    have k0:kidT t 0=a:=by unfold kidT; rw [hab]; rfl
    have k1:kidT t 1=b:=by unfold kidT; rw [hab]; rfl
    rw [if_neg (by omega),if_neg (by omega),if_neg (by omega),if_neg (by omega),if_neg (by decide)] at hpe
    unfold deniedT at hpe
    rw [if_pos hk,k0,k1] at hpe
    rw [hpe,above_size]
    show _≤(t.size:Int)+2
    omega
  | not a hk hab ha =>
   have hs:a.size≤n:=by have:=szL_mem (l:=t.kids) (a:=a) (by rw [hab]; simp); omega
   have e2:pushT D S t is=pushT D S a (!is):=by
    rw [hpe,if_neg (by omega),if_pos hk,hab,pushL]; rfl
   have e3:pickS is (sizT D S t)=pickS (!is) (sizT D S a):=by
    rw [hse,if_neg (by omega),if_neg (by omega),if_pos hk,hab,sizL]
    cases is <;> rfl
   rw [e3] at hg ⊢
   rw [e2]
   exact push_size n a (!is) hs ha hg
  | iff a b hk hab ha hb =>
   have hsa:a.size≤n:=by have:=szL_mem (l:=t.kids) (a:=a) (by rw [hab]; simp); omega
   have hsb:b.size≤n:=by have:=szL_mem (l:=t.kids) (a:=b) (by rw [hab]; simp); omega
   have e2:pushT D S t is=iffT [pushT D S a true,pushT D S b true] [pushT D S a false,pushT D S b false] is:=by
    rw [hpe,if_neg (by omega),if_neg (by omega),if_pos hk,hab]
    simp only [pushL]
   have ra:=sizT_rng (D:=D) (S:=S) a
   have rb:=sizT_rng (D:=D) (S:=S) b
   have e3:pickS is (sizT D S t)=sumC [sumC [sumC [1,(sizT D S a).1],(sizT D S b).1],sumC [sumC [1,(sizT D S a).2],(sizT D S b).2],1]:=by
    rw [hse,if_neg (by omega),if_neg (by omega),if_neg (by omega),if_neg (by omega),if_pos hk,hab]
    cases is <;> rfl
   rw [e3] at hg ⊢
   simp only [sumC2,sumC3] at hg ⊢
   have a1:=push_size n a true hsa ha
   have a0:=push_size n a false hsa ha
   have b1:=push_size n b true hsb hb
   have b0:=push_size n b false hsb hb
   have pt:∀ p:Int × Int,pickS true p=p.1:=fun _=>rfl
   have pf:∀ p:Int × Int,pickS false p=p.2:=fun _=>rfl
   rw [pt] at a1 b1
   rw [pf] at a0 b0
   have a1:=a1 (by omega)
   have a0:=a0 (by omega)
   have b1:=b1 (by omega)
   have b0:=b0 (by omega)
   have hi:(iffT [pushT D S a true,pushT D S b true] [pushT D S a false,pushT D S b false] is).size=(pushT D S a true).size+(pushT D S b true).size+(pushT D S a false).size+(pushT D S b false).size+3:=by
    cases is
    · show (conT 11 [conT 12 [pushT D S a true,pushT D S b true],conT 12 [pushT D S a false,pushT D S b false]]).size=_
      rw [two_size,two_size,two_size]; omega
    · show (conT 11 [conT 12 [pushT D S a false,pushT D S b true],conT 12 [pushT D S b false,pushT D S a true]]).size=_
      rw [two_size,two_size,two_size]; omega
   rw [e2,hi]
   push_cast
   omega
  | join hk hall =>
   have e2:pushT D S t is=conT (if decide (t.kind=11)=is then 11 else 12) (pushL D S t.kids is):=by
    rw [hpe,if_neg (by omega),if_neg (by omega),if_neg (by omega),if_pos hk]
   have e3:sizT D S t=sizF (sizL D S t.kids):=by
    rw [hse,if_neg (by omega),if_neg (by omega),if_neg (by omega),if_pos hk]
   rw [e3] at hg ⊢
   have h1:=fold_size (D:=D) (S:=S) (is:=is) (l:=t.kids) (fun a ha hga=>push_size n a is (by have:=szL_mem ha; omega) (hall a ha) hga) (1,1) (by cases is <;> decide) hg
   have h2:pickS is ((1:Int),(1:Int))=1:=by cases is <;> rfl
   rw [h2] at h1
   rw [e2]
   show ((szL (pushL D S t.kids is)+1:Nat):Int)≤pickS is (sizF (sizL D S t.kids))
   unfold sizF
   push_cast
   omega
theorem push_key {t:Tw} {is:Bool} {m:Nat} (hs:sortT D S t=.ok bBool) (hk:kindR t) (hf:t.fitT) (hm:nodW t≤m) (h11:11≤m) (hmm:m≤1000000) (hg:pickS is (sizT D S t)≤20000) :
  kindR (pushT D S t is)∧(pushT D S t is).fitT∧(keyB (pushT D S t is)).length≤140737488355328:=by
 have h1:=push_P kept_kind (D:=D) (S:=S) t.size t is (Nat.le_refl _) hk
 have h2:=push_fit (D:=D) (S:=S) is hf
 have h3:=push_P (kept_nod m h11) (D:=D) (S:=S) t.size t is (Nat.le_refl _) hm
 have h4:=push_size (D:=D) (S:=S) t.size t is (Nat.le_refl _) hs hg
 refine ⟨h1,h2,Nat.le_trans (keyB_len _ h1 h2) ?_⟩
 have h5:(pushT D S t is).size≤20000:=by omega
 have h6:nodW (pushT D S t is)+60≤1000060:=by have:nodW (pushT D S t is)≤m:=h3; omega
 exact Nat.le_trans (Nat.mul_le_mul h5 h6) (by decide)
end
end Go.Proofs.YtdjnlgkpnjdchaaDoor
