/- What was pushed is pushed to itself, and has the parts that were told. -/
import Derived.Test.YtdjnlgkpnjdchaaDoorNx
namespace Go.Proofs.YtdjnlgkpnjdchaaDoor
open Go.RowKit
set_option linter.unusedVariables false
set_option maxRecDepth 100000
def pickS (is:Bool) (p:Int × Int):Int:=if is=true then p.1 else p.2
section
variable {D : List Dat} {S : List Srt}
theorem pushL_idem {is:Bool}:∀ {l:List Tw},(∀ a∈l,pushT D S (pushT D S a is) true=pushT D S a is)→pushL D S (pushL D S l is) true=pushL D S l is
 | [],_=>by simp only [pushL]
 | t::l,h=>by
  have:=pushL_idem (l:=l) fun a ha=>h a (by simp [ha])
  rw [pushL,pushL,h t (by simp),this]
theorem above_idem (a b:Tw):pushT D S (aboveT a b) true=aboveT a b:=by
 unfold aboveT conT
 rw [pushT,if_neg (by decide),if_neg (by decide),if_neg (by decide),if_neg (by decide),if_pos rfl]
theorem push_join {k:Int} (hk:k=11∨k=12) (l:List Tw):pushT D S (conT k l) true=conT k (pushL D S l true):=by
 unfold conT
 rw [pushT,if_neg (by omega),if_neg (by omega),if_neg (by omega),if_pos hk]
 rcases hk with rfl | rfl <;> rfl
theorem push_ten (t:Tw) (is:Bool):pushT D S (conT 10 [t]) is=pushT D S t (!is):=by
 unfold conT
 rw [pushT,if_neg (by decide),if_pos rfl,pushL]; rfl
theorem two_idem {k:Int} (hk:k=11∨k=12) {a b:Tw} (ha:pushT D S a true=a) (hb:pushT D S b true=b):pushT D S (conT k [a,b]) true=conT k [a,b]:=by
 rw [push_join hk]
 simp only [pushL,ha,hb]
theorem push_idem:∀ (n:Nat) (t:Tw) (is:Bool),t.size≤n→sortT D S t=.ok bBool→pushT D S (pushT D S t is) true=pushT D S t is
 | 0,t,is,hn,h=>absurd t.size_pos (by omega)
 | n+1,t,is,hn,h=>by
  have hsz:=t.size_eq
  have hpe:=pushT_eq D S t is
  have den:pushT D S t false=conT 10 [t]→pushT D S (pushT D S t false) true=pushT D S t false:=fun h3=>by
   rw [h3,push_ten]
   exact h3
  cases bool_inv h with
  | atom hk hkl =>
   cases is with
   | true=>rw [if_neg (by omega),if_neg (by omega),if_neg (by omega),if_neg (by omega),if_pos rfl] at hpe; rw [hpe,hpe]
   | false =>
    exact den (by
     rw [hpe,if_neg (by omega),if_neg (by omega),if_neg (by omega),if_neg (by omega),if_neg (by decide)]
     unfold deniedT
     rw [if_neg (by omega),if_neg (by omega)])
  | con hk hk0 =>
   rw [if_pos hk] at hpe
   rw [hpe]
   split
   · rfl
   · rfl
  | eq a b hk hab s ha hb hs =>
   cases is with
   | true=>rw [if_neg (by omega),if_neg (by omega),if_neg (by omega),if_neg (by omega),if_pos rfl] at hpe; rw [hpe,hpe]
   | false =>
    have k0:kidT t 0=a:=by unfold kidT; rw [hab]; rfl
    have k1:kidT t 1=b:=by unfold kidT; rw [hab]; rfl
    by_cases hw:wholeB D S a=true
    · have e2:pushT D S t false=conT 12 [aboveT a b,aboveT b a]:=by
       rw [hpe,if_neg (by omega),if_neg (by omega),if_neg (by omega),if_neg (by omega),if_neg (by decide)]
       unfold deniedT
       rw [if_neg (by omega),k0,k1,if_pos ⟨hk,hw⟩]
      rw [e2]
      exact two_idem (.inr rfl) (above_idem _ _) (above_idem _ _)
    · exact den (by
       rw [hpe,if_neg (by omega),if_neg (by omega),if_neg (by omega),if_neg (by omega),if_neg (by decide)]
       unfold deniedT
       rw [if_neg (by omega),k0,if_neg (fun c=>hw c.2)])
  | le a b hk hab ha hb =>
   cases is with
   | true=>rw [if_neg (by omega),if_neg (by omega),if_neg (by omega),if_neg (by omega),if_pos rfl] at hpe; rw [hpe,hpe]
   | false =>
    have e2:pushT D S t false=aboveT (kidT t 1) (kidT t 0):=by
     rw [hpe,if_neg (by omega),if_neg (by omega),if_neg (by omega),if_neg (by omega),if_neg (by decide)]
     unfold deniedT
     rw [if_pos hk]
    rw [e2]
    exact above_idem _ _
  | not a hk hab ha =>
   have hs:a.size≤n:=by have:=szL_mem (l:=t.kids) (a:=a) (by rw [hab]; simp); omega
   have e2:pushT D S t is=pushT D S a (!is):=by
    rw [hpe,if_neg (by omega),if_pos hk,hab,pushL]; rfl
   rw [e2]
   exact push_idem n a (!is) hs ha
  | iff a b hk hab ha hb =>
   have hsa:a.size≤n:=by have:=szL_mem (l:=t.kids) (a:=a) (by rw [hab]; simp); omega
   have hsb:b.size≤n:=by have:=szL_mem (l:=t.kids) (a:=b) (by rw [hab]; simp); omega
   have e2:pushT D S t is=iffT [pushT D S a true,pushT D S b true] [pushT D S a false,pushT D S b false] is:=by
    rw [hpe,if_neg (by omega),if_neg (by omega),if_pos hk,hab]
    simp only [pushL]
   have a1:=push_idem n a true hsa ha
   have a0:=push_idem n a false hsa ha
   have b1:=push_idem n b true hsb hb
   have b0:=push_idem n b false hsb hb
   rw [e2]
   cases is with
   | true=>exact two_idem (.inl rfl) (two_idem (.inr rfl) a0 b1) (two_idem (.inr rfl) b0 a1)
   | false=>exact two_idem (.inl rfl) (two_idem (.inr rfl) a1 b1) (two_idem (.inr rfl) a0 b0)
  | join hk hall =>
   have hl:=pushL_idem (D:=D) (S:=S) (is:=is) (l:=t.kids) fun a ha=>push_idem n a is (by have:=szL_mem ha; omega) (hall a ha)
   have e2:pushT D S t is=conT (if decide (t.kind=11)=is then 11 else 12) (pushL D S t.kids is):=by
    rw [hpe,if_neg (by omega),if_neg (by omega),if_neg (by omega),if_pos hk]
   have hk':(if decide (t.kind=11)=is then (11:Int) else 12)=11∨(if decide (t.kind=11)=is then (11:Int) else 12)=12:=by split <;> simp
   rw [e2,push_join hk',hl]
theorem sumC2 (a b:Int):sumC [a,b]=min (min (0+a) 20001+b) 20001:=rfl
theorem sumC3 (a b c:Int):sumC [a,b,c]=min (min (min (0+a) 20001+b) 20001+c) 20001:=rfl
theorem siz_nine (l:List Tw):sizT D S (conT 9 l)=((szL l+1:Int),(szL l+1:Int)+2):=by
 unfold conT
 rw [sizT,if_neg (by decide),if_pos rfl]
theorem siz_ten (t:Tw):(sizT D S (conT 10 [t])).1=(sizT D S t).2:=by
 unfold conT
 rw [sizT,if_neg (by decide),if_neg (by decide),if_pos rfl,sizL]; rfl
theorem siz_join {k:Int} (hk:k=11∨k=12) (l:List Tw):sizT D S (conT k l)=sizF (sizL D S l):=by
 unfold conT
 rw [sizT,if_neg (by omega),if_neg (by omega),if_neg (by omega),if_pos hk]
theorem siz_above (a b:Tw):(sizT D S (aboveT a b)).1=(a.size:Int)+b.size+3:=by
 unfold aboveT
 rw [siz_nine]
 have h1:szL [conT 5 [a,oneT],b]=(a.size+(oneT.size+0)+1)+(b.size+0):=rfl
 have h2:oneT.size=1:=rfl
 rw [h1,h2]
 push_cast
 omega
theorem siz_fold {is:Bool}:∀ {l:List Tw},(∀ a∈l,(sizT D S (pushT D S a is)).1=pickS is (sizT D S a))→∀ p q:Int × Int,p.1=pickS is q →
  ((sizL D S (pushL D S l is)).foldl (fun p q=>(sumC [p.1,q.1],sumC [p.2,q.2])) p).1=pickS is ((sizL D S l).foldl (fun p q=>(sumC [p.1,q.1],sumC [p.2,q.2])) q)
 | [],_,p,q,hp=>by simp only [pushL,sizL,List.foldl_nil]; exact hp
 | t::l,h,p,q,hp=>by
  rw [pushL,sizL,sizL,List.foldl_cons,List.foldl_cons]
  refine siz_fold (l:=l) (fun a ha=>h a (by simp [ha])) _ _ ?_
  show sumC [p.1,(sizT D S (pushT D S t is)).1]=_
  rw [hp,h t (by simp)]
  cases is <;> rfl
theorem siz_two {k:Int} (hk:k=11∨k=12) (a b:Tw):(sizT D S (conT k [a,b])).1=sumC [sumC [1,(sizT D S a).1],(sizT D S b).1]:=by
 rw [siz_join hk]
 simp only [sizL,sizF,List.foldl_cons,List.foldl_nil]
theorem push_siz:∀ (n:Nat) (t:Tw) (is:Bool),t.size≤n→sortT D S t=.ok bBool→(sizT D S (pushT D S t is)).1=pickS is (sizT D S t)
 | 0,t,is,hn,h=>absurd t.size_pos (by omega)
 | n+1,t,is,hn,h=>by
  have hsz:=t.size_eq
  have hpe:=pushT_eq D S t is
  have den:pushT D S t false=conT 10 [t]→(sizT D S (pushT D S t false)).1=pickS false (sizT D S t):=fun h3=>by
   rw [h3]
   exact siz_ten t
  cases bool_inv h with
  | atom hk hkl =>
   cases is with
   | true=>rw [if_neg (by omega),if_neg (by omega),if_neg (by omega),if_neg (by omega),if_pos rfl] at hpe; rw [hpe]; rfl
   | false =>
    exact den (by
     rw [hpe,if_neg (by omega),if_neg (by omega),if_neg (by omega),if_neg (by omega),if_neg (by decide)]
     unfold deniedT
     rw [if_neg (by omega),if_neg (by omega)])
  | con hk hk0 =>
   rw [if_pos hk] at hpe
   rw [hpe,sizT_eq D S t,if_pos hk,sizT_eq,if_pos (by show (if _ then (3:Int) else 4)=3∨(if _ then (3:Int) else 4)=4; split <;> simp)]
   cases is <;> rfl
  | eq a b hk hab s ha hb hs =>
   cases is with
   | true=>rw [if_neg (by omega),if_neg (by omega),if_neg (by omega),if_neg (by omega),if_pos rfl] at hpe; rw [hpe]; rfl
   | false =>
    have k0:kidT t 0=a:=by unfold kidT; rw [hab]; rfl
    have k1:kidT t 1=b:=by unfold kidT; rw [hab]; rfl
    by_cases hw:wholeB D S a=true
    · have e2:pushT D S t false=conT 12 [aboveT a b,aboveT b a]:=by
       rw [hpe,if_neg (by omega),if_neg (by omega),if_neg (by omega),if_neg (by omega),if_neg (by decide)]
       unfold deniedT
       rw [if_neg (by omega),k0,k1,if_pos ⟨hk,hw⟩]
      rw [e2,siz_two (.inr rfl),siz_above,siz_above,sizT_eq,if_neg (by omega),if_neg (by omega),if_neg (by omega),if_neg (by omega),if_neg (by omega),if_pos ⟨hk,by rw [k0]; exact hw⟩]
      show _=sumC [_,_,5]
      have:t.size=a.size+b.size+1:=by rw [hsz,hab]; simp only [szL]; omega
      rw [this,sumC2,sumC2,sumC3]
      push_cast
      omega
    · exact den (by
       rw [hpe,if_neg (by omega),if_neg (by omega),if_neg (by omega),if_neg (by omega),if_neg (by decide)]
       unfold deniedT
       rw [if_neg (by omega),k0,if_neg (fun c=>hw c.2)])
  | le a b hk hab ha hb =>
   cases is with
   | true=>rw [if_neg (by omega),if_neg (by omega),if_neg (by omega),if_neg (by omega),if_pos rfl] at hpe; rw [hpe]; rfl
   | false =>
    have k0:kidT t 0=a:=by unfold kidT; rw [hab]; rfl
    have k1:kidT t 1=b:=by unfold kidT; rw [hab]; rfl
    have e2:pushT D S t false=aboveT b a:=by
     rw [hpe,if_neg (by omega),if_neg (by omega),if_neg (by omega),if_neg (by omega),if_neg (by decide)]
     unfold deniedT
     rw [if_pos hk,k0,k1]
    rw [e2,siz_above,sizT_eq,if_neg (by omega),if_pos hk]
    show _=(t.size:Int)+2
    have:t.size=a.size+b.size+1:=by rw [hsz,hab]; simp only [szL]; omega
    rw [this]
    omega
  | not a hk hab ha =>
   have hs:a.size≤n:=by have:=szL_mem (l:=t.kids) (a:=a) (by rw [hab]; simp); omega
   have e2:pushT D S t is=pushT D S a (!is):=by
    rw [hpe,if_neg (by omega),if_pos hk,hab,pushL]; rfl
   rw [e2,push_siz n a (!is) hs ha,sizT_eq D S t,if_neg (by omega),if_neg (by omega),if_pos hk,hab]
   simp only [sizL]
   cases is <;> rfl
  | iff a b hk hab ha hb =>
   have hsa:a.size≤n:=by have:=szL_mem (l:=t.kids) (a:=a) (by rw [hab]; simp); omega
   have hsb:b.size≤n:=by have:=szL_mem (l:=t.kids) (a:=b) (by rw [hab]; simp); omega
   have e2:pushT D S t is=iffT [pushT D S a true,pushT D S b true] [pushT D S a false,pushT D S b false] is:=by
    rw [hpe,if_neg (by omega),if_neg (by omega),if_pos hk,hab]
    simp only [pushL]
   have a1:=push_siz n a true hsa ha
   have a0:=push_siz n a false hsa ha
   have b1:=push_siz n b true hsb hb
   have b0:=push_siz n b false hsb hb
   have ra:=sizT_rng (D:=D) (S:=S) a
   have rb:=sizT_rng (D:=D) (S:=S) b
   have a1:(sizT D S (pushT D S a true)).1=(sizT D S a).1:=a1
   have a0:(sizT D S (pushT D S a false)).1=(sizT D S a).2:=a0
   have b1:(sizT D S (pushT D S b true)).1=(sizT D S b).1:=b1
   have b0:(sizT D S (pushT D S b false)).1=(sizT D S b).2:=b0
   have e3:pickS is (sizT D S t)=sumC [sumC [sumC [1,(sizT D S a).1],(sizT D S b).1],sumC [sumC [1,(sizT D S a).2],(sizT D S b).2],1]:=by
    rw [sizT_eq D S t,if_neg (by omega),if_neg (by omega),if_neg (by omega),if_neg (by omega),if_pos hk,hab]
    simp only [sizL,sizF,List.foldl_cons,List.foldl_nil]
    cases is <;> rfl
   rw [e2,e3]
   generalize (sizT D S a).1=ya at *
   generalize (sizT D S a).2=na at *
   generalize (sizT D S b).1=yb at *
   generalize (sizT D S b).2=nb at *
   cases is with
   | true =>
    show (sizT D S (conT 11 [conT 12 [pushT D S a false,pushT D S b true],conT 12 [pushT D S b false,pushT D S a true]])).1=_
    rw [siz_two (.inl rfl),siz_two (.inr rfl),siz_two (.inr rfl),a0,b1,b0,a1]
    simp only [sumC2,sumC3]
    omega
   | false =>
    show (sizT D S (conT 11 [conT 12 [pushT D S a true,pushT D S b true],conT 12 [pushT D S a false,pushT D S b false]])).1=_
    rw [siz_two (.inl rfl),siz_two (.inr rfl),siz_two (.inr rfl),a0,b1,b0,a1]
    simp only [sumC2,sumC3]
    omega
  | join hk hall =>
   have hm:∀ a∈t.kids,(sizT D S (pushT D S a is)).1=pickS is (sizT D S a):=fun a ha=>push_siz n a is (by have:=szL_mem ha; omega) (hall a ha)
   have hl:=siz_fold hm (1,1) (1,1) (by cases is <;> rfl)
   have e2:pushT D S t is=conT (if decide (t.kind=11)=is then 11 else 12) (pushL D S t.kids is):=by
    rw [hpe,if_neg (by omega),if_neg (by omega),if_neg (by omega),if_pos hk]
   have hk':(if decide (t.kind=11)=is then (11:Int) else 12)=11∨(if decide (t.kind=11)=is then (11:Int) else 12)=12:=by split <;> simp
   rw [e2,siz_join hk',sizT_eq D S t,if_neg (by omega),if_neg (by omega),if_neg (by omega),if_pos hk]
   exact hl
end
end Go.Proofs.YtdjnlgkpnjdchaaDoor
