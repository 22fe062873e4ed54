/- What a formula is pushed to: pushed, a truth, and it comes to what it must. -/
import Derived.Test.YtdjnlgkpnjdchaaDoorNw
namespace Go.Proofs.YtdjnlgkpnjdchaaDoor
open Go.RowKit
set_option linter.unusedVariables false
set_option maxRecDepth 100000
def litM (k:Int):Int × Bool:=lookN (.int .u8) k 0 [8,9,7,1,4,3] [2,2,1,0,0,0]
mutual
def litT:Tw→Bool
 | .mk k n b d l=>if k=10 then decide (l.length=1) && litH l else (litM k).2 && decide ((l.length:Int)=(litM k).1)
def litH:List Tw→Bool
 | []=>false
 | t::_=>decide (t.kind=1∨t.kind=7∨t.kind=8) && litT t
end
mutual
def pusT:Tw→Bool
 | .mk k n b d l=>if k=11∨k=12 then pusL l else litT (.mk k n b d l)
def pusL:List Tw→Bool
 | []=>true
 | t::l=>pusT t && pusL l
end
theorem litT_eq (t:Tw):litT t=if t.kind=10 then decide (t.kids.length=1) && litH t.kids else (litM t.kind).2 && decide ((t.kids.length:Int)=(litM t.kind).1):=by cases t; rw [litT]; rfl
theorem pusT_eq (t:Tw):pusT t=if t.kind=11∨t.kind=12 then pusL t.kids else litT t:=by cases t; rw [pusT]; rfl
section
variable {D : List Dat} {S : List Srt} {V : List Vw}
theorem sort_inv {t:Tw} {s:ByteArray} (h:sortT D S t=.ok s):¬ kidsN t.kind=-2∧(kidsN t.kind<0∨kidsN t.kind=t.kids.length)∧(t.kind=1∨∃ m,sortL D S t.kids=.ok m∧partS D t.kind t.name m=.ok s):=by
 rw [sortT_eq] at h
 split at h
 · cases h
 rename_i h1
 split at h
 · cases h
 rename_i h2
 split at h
 · cases h
 refine ⟨h1,Classical.byContradiction h2,?_⟩
 split at h
 · rename_i hk; exact .inl hk
 · split at h
   · rename_i m hm; exact .inr ⟨m,hm,h⟩
   · cases h
theorem sort_mk {k:Int} {l:List Tw} {m:List ByteArray} {s:ByteArray} (h1:¬ kidsN k=-2) (h2:kidsN k<0∨kidsN k=l.length) (h3:¬ (k=2∨k=6)) (h4:¬ k=1) (hl:sortL D S l=.ok m) (hp:partS D k ⟨#[]⟩ m=.ok s):sortT D S (conT k l)=.ok s:=by
 rw [sortT_eq]
 show (if kidsN k=-2 then _ else if ¬ (kidsN k<0∨kidsN k=l.length) then _ else if (k=2∨k=6)∧rightZ (conT k l).neg (conT k l).digits=false then _ else if k=1 then _ else match sortL D S l with | .ok l=>partS D k ⟨#[]⟩ l | .error e=>.error e)=_
 rw [if_neg h1,if_neg (fun c=>c h2),if_neg (c:=(k=2∨k=6)∧rightZ (conT k l).neg (conT k l).digits=false) (fun c=>h3 c.1),if_neg h4,hl]
 exact hp
theorem sortL_all {s:ByteArray}:∀ {l:List Tw} {m:List ByteArray},sortL D S l=.ok m→allEq m s=true→∀ t∈l,sortT D S t=.ok s
 | [],m,h,ha,t,ht=>by cases ht
 | u::l,m,h,ha,t,ht=>by
  rw [sortL] at h
  split at h
  · rename_i x hx
    split at h
    · rename_i m' hm
      cases h
      unfold allEq at ha
      rw [List.all_cons,Bool.and_eq_true,decide_eq_true_eq] at ha
      rcases List.mem_cons.1 ht with rfl | ht
      · rw [hx,ha.1]
      · exact sortL_all hm (show allEq m' s=true from ha.2) t ht
    · cases h
  · cases h
theorem sortL_mk {s:ByteArray}:∀ {l:List Tw},(∀ t∈l,sortT D S t=.ok s)→∃ m,sortL D S l=.ok m∧allEq m s=true
 | [],_=>⟨[],by rw [sortL],rfl⟩
 | u::l,h=>by
  obtain ⟨m,h1,h2⟩:=sortL_mk (l:=l) fun t ht=>h t (by simp [ht])
  refine ⟨s::m,by rw [sortL,h u (by simp),h1],?_⟩
  unfold allEq at h2 ⊢
  rw [List.all_cons,h2,decide_eq_true rfl]; rfl
theorem sort_bool {k:Int} {l:List Tw} (hk:k=3∨k=4∨k=10∨k=11∨k=12∨k=13) (h2:kidsN k<0∨kidsN k=l.length) (h:∀ t∈l,sortT D S t=.ok bBool):sortT D S (conT k l)=.ok bBool:=by
 obtain ⟨m,h3,h4⟩:=sortL_mk h
 have h1:¬ kidsN k=-2:=by rcases hk with rfl | rfl | rfl | rfl | rfl | rfl <;> decide
 refine sort_mk h1 h2 (by omega) (by omega) h3 ?_
 unfold partS
 rw [if_neg (by omega),if_neg (by omega),if_neg (by omega),if_neg (by omega),if_neg (by omega),if_pos h4]
theorem sort_le {a b:Tw} (ha:sortT D S a=.ok bInt) (hb:sortT D S b=.ok bInt):sortT D S (conT 9 [a,b])=.ok bBool :=
 sort_mk (m:=[bInt,bInt]) (by decide) (.inr (show kidsN 9=((2:Nat):Int) by decide)) (by decide) (by decide) (by rw [sortL,ha,sortL,hb,sortL]) (by
  unfold partS
  rw [if_neg (by decide),if_neg (by decide),if_neg (by decide),if_neg (by decide),if_pos (by decide),if_pos (by decide)])
theorem sort_one:sortT D S oneT=.ok bInt:=by
 rw [sortT_eq]
 show (if kidsN 2=-2 then _ else if ¬ (kidsN 2<0∨kidsN 2=((0:Nat):Int)) then _ else if ((2:Int)=2∨(2:Int)=6)∧rightZ (zNeg 1) (digs 1000000000 (1:Int).natAbs)=false then _ else if (2:Int)=1 then _ else match sortL D S [] with | .ok l=>partS D 2 ⟨#[]⟩ l | .error e=>.error e)=_
 rw [if_neg (by decide),if_neg (by decide),if_neg (by rw [rightZ_of]; decide),if_neg (by decide),sortL]
 rfl
theorem sort_sum {a b:Tw} (ha:sortT D S a=.ok bInt) (hb:sortT D S b=.ok bInt):sortT D S (conT 5 [a,b])=.ok bInt :=
 sort_mk (m:=[bInt,bInt]) (by decide) (.inl (by decide)) (by decide) (by decide) (by rw [sortL,ha,sortL,hb,sortL]) (by
  unfold partS
  rw [if_neg (by decide),if_pos (by decide),if_pos (by decide)])
theorem sort_above {a b:Tw} (ha:sortT D S a=.ok bInt) (hb:sortT D S b=.ok bInt):sortT D S (aboveT a b)=.ok bBool:=sort_le (sort_sum ha sort_one) hb
theorem kid_mem {l:List Tw} {i:Nat} (h:i<l.length):l.getD i Sh.tm.nil∈l:=by
 rw [List.getD_eq_getElem?_getD,List.getElem?_eq_getElem h]
 exact List.getElem_mem h
inductive BoolT (D:List Dat) (S:List Srt) (t:Tw):Prop
 | atom (hk:t.kind=1∨t.kind=7) (hl:(t.kids.length:Int)=kidsN t.kind)
 | con (hk:t.kind=3∨t.kind=4) (hl:t.kids=[])
 | eq (a b:Tw) (hk:t.kind=8) (hl:t.kids=[a,b]) (s:ByteArray) (ha:sortT D S a=.ok s) (hb:sortT D S b=.ok s) (hs:¬ s=bBool)
 | le (a b:Tw) (hk:t.kind=9) (hl:t.kids=[a,b]) (ha:sortT D S a=.ok bInt) (hb:sortT D S b=.ok bInt)
 | not (a:Tw) (hk:t.kind=10) (hl:t.kids=[a]) (ha:sortT D S a=.ok bBool)
 | iff (a b:Tw) (hk:t.kind=13) (hl:t.kids=[a,b]) (ha:sortT D S a=.ok bBool) (hb:sortT D S b=.ok bBool)
 | join (hk:t.kind=11∨t.kind=12) (h:∀ a∈t.kids,sortT D S a=.ok bBool)
theorem one_kid {l:List Tw} (h:l.length=1):∃ a,l=[a]:=by
 match l,h with
 | [a],_=>exact ⟨a,rfl⟩
theorem two_kids {l:List Tw} (h:l.length=2):∃ a b,l=[a,b]:=by
 match l,h with
 | [a,b],_=>exact ⟨a,b,rfl⟩
theorem bool_inv {t:Tw} (h:sortT D S t=.ok bBool):BoolT D S t:=by
 obtain ⟨h1,h2,h3⟩:=sort_inv h
 rcases h3 with hk | ⟨m,hm,hp⟩
 · exact .atom (.inl hk) (by rw [hk] at h2 ⊢; have : kidsN 1 = 0 := by decide
                             omega)
 unfold partS at hp
 rcases kidsN_cases h1 with e | e | e | e | e | e | e | e | e | e | e | e | e
 · exact .atom (.inl e) (by rw [e] at h2 ⊢; have : kidsN 1 = 0 := by decide
                            omega)
 · rw [e] at hp; cases hp
 · refine .con (.inl e) (List.eq_nil_of_length_eq_zero ?_)
   rw [e] at h2; have:kidsN 3=0:=by decide
   omega
 · refine .con (.inr e) (List.eq_nil_of_length_eq_zero ?_)
   rw [e] at h2; have:kidsN 4=0:=by decide
   omega
 · have hp:(if allEq m bInt then Except.ok bInt else Except.error (23:Int))=Except.ok bBool:=by rw [e] at hp; exact hp
   exact absurd (ite_ok hp).2 int_bool
 · have hp:(if allEq m bInt then Except.ok bInt else Except.error (23:Int))=Except.ok bBool:=by rw [e] at hp; exact hp
   exact absurd (ite_ok hp).2 int_bool
 · exact .atom (.inr e) (by rw [e] at h2 ⊢; have : kidsN 7 = 1 := by decide
                            omega)
 · have hl:t.kids.length=2:=by
    rw [e] at h2; have:kidsN 8=2:=by decide
    omega
   obtain ⟨a,b,hab⟩:=two_kids hl
   rw [hab,sortL] at hm
   split at hm
   · rename_i s hs
     rw [sortL] at hm
     split at hm
     · rename_i m' hm'
       split at hm'
       · rename_i s' hs'
         rw [sortL] at hm'
         cases hm'; cases hm
         have hp:(if decide (s=s') && !decide (s=bBool) then Except.ok bBool else Except.error (23:Int))=Except.ok bBool:=by rw [e] at hp; exact hp
         have h6:=(ite_ok hp).1
         simp only [Bool.and_eq_true,decide_eq_true_eq,Bool.not_eq_true',decide_eq_false_iff_not] at h6
         obtain ⟨h4,h5⟩:=h6
         subst h4
         exact .eq a b e hab s hs hs' h5
       · cases hm'
     · cases hm
   · cases hm
 · have hl:t.kids.length=2:=by
    rw [e] at h2; have:kidsN 9=2:=by decide
    omega
   obtain ⟨a,b,hab⟩:=two_kids hl
   have hp:(if allEq m bInt then Except.ok bBool else Except.error (23:Int))=Except.ok bBool:=by rw [e] at hp; exact hp
   have hall:=sortL_all hm (ite_ok hp).1
   rw [hab] at hall
   exact .le a b e hab (hall a (by simp)) (hall b (by simp))
 · have hl:t.kids.length=1:=by
    rw [e] at h2; have:kidsN 10=1:=by decide
    omega
   obtain ⟨a,hab⟩:=one_kid hl
   have hp:(if allEq m bBool then Except.ok bBool else Except.error (23:Int))=Except.ok bBool:=by rw [e] at hp; exact hp
   have hall:=sortL_all hm (ite_ok hp).1
   rw [hab] at hall
   exact .not a e hab (hall a (by simp))
 · have hp:(if allEq m bBool then Except.ok bBool else Except.error (23:Int))=Except.ok bBool:=by rw [e] at hp; exact hp
   exact .join (.inl e) (sortL_all hm (ite_ok hp).1)
 · have hp:(if allEq m bBool then Except.ok bBool else Except.error (23:Int))=Except.ok bBool:=by rw [e] at hp; exact hp
   exact .join (.inr e) (sortL_all hm (ite_ok hp).1)
 · have hl:t.kids.length=2:=by
    rw [e] at h2; have:kidsN 13=2:=by decide
    omega
   obtain ⟨a,b,hab⟩:=two_kids hl
   have hp:(if allEq m bBool then Except.ok bBool else Except.error (23:Int))=Except.ok bBool:=by rw [e] at hp; exact hp
   have hall:=sortL_all hm (ite_ok hp).1
   rw [hab] at hall
   exact .iff a b e hab (hall a (by simp)) (hall b (by simp))
theorem whole_is {t:Tw}:wholeB D S t=true↔sortT D S t=.ok bInt:=by
 unfold wholeB
 cases h:sortT D S t with
 | error e=>simp
 | ok s=>simp
theorem lit_le (a b:Tw):litT (conT 9 [a,b])=true:=by rw [litT_eq]; rfl
theorem pus_le (a b:Tw):pusT (conT 9 [a,b])=true:=by rw [pusT_eq]; exact lit_le a b
theorem lit_not {t:Tw} (hk:t.kind=1∨t.kind=7∨t.kind=8) (h:litT t=true):litT (conT 10 [t])=true:=by
 rw [litT_eq]
 show (decide ([t].length=1) && litH [t])=true
 rw [litH,h,decide_eq_true hk]; rfl
theorem pus_two {k:Int} (hk:k=11∨k=12) {a b:Tw} (ha:pusT a=true) (hb:pusT b=true):pusT (conT k [a,b])=true:=by
 rw [pusT_eq]
 show (if k=11∨k=12 then pusL [a,b] else _)=true
 rw [if_pos hk,pusL,pusL,pusL,ha,hb]; rfl
theorem pus_all {k:Int} (hk:k=11∨k=12) {l:List Tw} (h:pusL l=true):pusT (conT k l)=true:=by
 rw [pusT_eq]
 show (if k=11∨k=12 then pusL l else _)=true
 rw [if_pos hk,h]
theorem atom_lit {t:Tw} (hk:t.kind=1∨t.kind=7∨t.kind=8∨t.kind=9) (hl:(t.kids.length:Int)=kidsN t.kind):litT t=true:=by
 rw [litT_eq,if_neg (by omega)]
 rcases hk with e | e | e | e <;> rw [e] at hl ⊢
 · rw [show litM 1=(0,true) by decide,hl]; decide
 · rw [show litM 7=(1,true) by decide,hl]; decide
 · rw [show litM 8=(2,true) by decide,hl]; decide
 · rw [show litM 9=(2,true) by decide,hl]; decide
theorem szL_mem {l:List Tw} {a:Tw} (h:a∈l):a.size≤szL l:=by
 induction l with
 | nil=>cases h
 | cons t l ih =>
  rw [szL]
  rcases List.mem_cons.1 h with rfl | h
  · omega
  · have:=ih h; omega
def PushSt (D:List Dat) (S:List Srt) (t:Tw) (is:Bool):Prop:=pusT (pushT D S t is)=true∧sortT D S (pushT D S t is)=.ok bBool
theorem pushL_st {is:Bool}:∀ {l:List Tw},(∀ a∈l,PushSt D S a is)→pusL (pushL D S l is)=true∧∀ a∈pushL D S l is,sortT D S a=.ok bBool
 | [],_=>⟨by rw [pushL,pusL],fun a ha=>by rw [pushL] at ha; cases ha⟩
 | t::l,h=>by
  obtain ⟨h1,h2⟩:=h t (by simp)
  obtain ⟨g1,g2⟩:=pushL_st (l:=l) fun a ha=>h a (by simp [ha])
  refine ⟨by rw [pushL,pusL,h1,g1]; rfl,fun a ha=>?_⟩
  rw [pushL] at ha
  rcases List.mem_cons.1 ha with rfl | ha
  · exact h2
  · exact g2 a ha
theorem sort_pair {k:Int} (hk:k=11∨k=12) {c d:Tw} (hc:sortT D S c=.ok bBool) (hd:sortT D S d=.ok bBool):sortT D S (conT k [c,d])=.ok bBool :=
 sort_bool (by omega) (.inl (by rcases hk with e | e <;> rw [e] <;> decide)) fun e he=>by
  simp at he
  rcases he with rfl | rfl
  · exact hc
  · exact hd
theorem push_st:∀ (n:Nat) (t:Tw) (is:Bool),t.size≤n→sortT D S t=.ok bBool→PushSt D S t is
 | 0,t,is,hn,h=>absurd t.size_pos (by omega)
 | n+1,t,is,hn,h=>by
  have hsz:=t.size_eq
  have asis:litT t=true→¬ (t.kind=11∨t.kind=12)→pushT D S t true=t→PushSt D S t true:=fun h1 h2 h3=>by
   unfold PushSt
   rw [h3,pusT_eq,if_neg h2]; exact ⟨h1,h⟩
  have den:litT t=true→(t.kind=1∨t.kind=7∨t.kind=8)→pushT D S t false=conT 10 [t]→PushSt D S t false:=fun h1 h2 h3=>by
   unfold PushSt
   rw [h3]
   exact ⟨by rw [pusT_eq]; exact lit_not h2 h1,sort_bool (by decide) (.inr rfl) fun a ha=>by simp at ha; rw [ha]; exact h⟩
  have hpe:=pushT_eq D S t is
  cases bool_inv h with
  | atom hk hkl =>
   have hlit:litT t=true:=atom_lit (by omega) hkl
   cases is with
   | true=>exact asis hlit (by omega) (by rw [hpe,if_neg (by omega),if_neg (by omega),if_neg (by omega),if_neg (by omega),if_pos rfl])
   | false=>exact den hlit (by omega) (by
     rw [hpe,if_neg (by omega),if_neg (by omega),if_neg (by omega),if_neg (by omega),if_neg (by decide)]
     unfold deniedT
     rw [if_neg (by omega),if_neg (by omega)])
  | con hk hk0 =>
   rw [if_pos hk] at hpe
   unfold PushSt
   rw [hpe]
   split
   · exact ⟨by decide,sort_bool (by decide) (.inr (by decide)) (fun a ha=>by cases ha)⟩
   · exact ⟨by decide,sort_bool (by decide) (.inr (by decide)) (fun a ha=>by cases ha)⟩
  | eq a b hk hab s ha hb hs =>
   have hlit:litT t=true:=atom_lit (by omega) (by rw [hab,hk]; rfl)
   cases is with
   | true=>exact asis hlit (by omega) (by rw [hpe,if_neg (by omega),if_neg (by omega),if_neg (by omega),if_neg (by omega),if_pos rfl])
   | false =>
    have k0:kidT t 0=a:=by unfold kidT; rw [hab]; rfl
    have k1:kidT t 1=b:=by unfold kidT; rw [hab]; rfl
    by_cases hw:wholeB D S a=true
    · have hai:=whole_is.1 hw
      have hsi:s=bInt:=by rw [ha] at hai; cases hai; rfl
      subst hsi
      have e2:pushT D S t false=conT 12 [aboveT a b,aboveT b a]:=by
       rw [hpe,if_neg (by omega),if_neg (by omega),if_neg (by omega),if_neg (by omega),if_neg (by decide)]
       unfold deniedT
       rw [if_neg (by omega),k0,k1,if_pos ⟨hk,hw⟩]
      unfold PushSt
      rw [e2]
      exact ⟨pus_two (.inr rfl) (pus_le _ _) (pus_le _ _),sort_pair (.inr rfl) (sort_above ha hb) (sort_above hb ha)⟩
    · exact den hlit (by omega) (by
       rw [hpe,if_neg (by omega),if_neg (by omega),if_neg (by omega),if_neg (by omega),if_neg (by decide)]
       unfold deniedT
       rw [if_neg (by omega),k0,if_neg (fun c=>hw c.2)])
  | le a b hk hab ha hb =>
   have hlit:litT t=true:=atom_lit (by omega) (by rw [hab,hk]; rfl)
   cases is with
   | true=>exact asis hlit (by omega) (by rw [hpe,if_neg (by omega),if_neg (by omega),if_neg (by omega),if_neg (by omega),if_pos rfl])
   | false =>
    have k0:kidT t 0=a:=by unfold kidT; rw [hab]; rfl
    have k1:kidT t 1=b:=by unfold kidT; rw [hab]; rfl
    have e2:pushT D S t false=aboveT b a:=by
     rw [hpe,if_neg (by omega),if_neg (by omega),if_neg (by omega),if_neg (by omega),if_neg (by decide)]
     unfold deniedT
     rw [if_pos hk,k0,k1]
    unfold PushSt
    rw [e2]
    exact ⟨pus_le _ _,sort_above hb ha⟩
  | not a hk hab ha =>
   have hs:a.size≤n:=by have:=szL_mem (l:=t.kids) (a:=a) (by rw [hab]; simp); omega
   have e2:pushT D S t is=pushT D S a (!is):=by
    rw [hpe,if_neg (by omega),if_pos hk,hab,pushL]; rfl
   unfold PushSt
   rw [e2]
   exact push_st n a (!is) hs ha
  | iff a b hk hab ha hb =>
   have hsa:a.size≤n:=by have:=szL_mem (l:=t.kids) (a:=a) (by rw [hab]; simp); omega
   have hsb:b.size≤n:=by have:=szL_mem (l:=t.kids) (a:=b) (by rw [hab]; simp); omega
   obtain ⟨y1,y2⟩:=push_st n a true hsa ha
   obtain ⟨z1,z2⟩:=push_st n b true hsb hb
   obtain ⟨n1,n2⟩:=push_st n a false hsa ha
   obtain ⟨m1,m2⟩:=push_st n b false hsb hb
   have e2:pushT D S t is=iffT [pushT D S a true,pushT D S b true] [pushT D S a false,pushT D S b false] is:=by
    rw [hpe,if_neg (by omega),if_neg (by omega),if_pos hk,hab]
    simp only [pushL]
   unfold PushSt
   rw [e2]
   cases is with
   | true=>exact ⟨pus_two (.inl rfl) (pus_two (.inr rfl) n1 z1) (pus_two (.inr rfl) m1 y1),sort_pair (.inl rfl) (sort_pair (.inr rfl) n2 z2) (sort_pair (.inr rfl) m2 y2)⟩
   | false=>exact ⟨pus_two (.inl rfl) (pus_two (.inr rfl) y1 z1) (pus_two (.inr rfl) n1 m1),sort_pair (.inl rfl) (sort_pair (.inr rfl) y2 z2) (sort_pair (.inr rfl) n2 m2)⟩
  | join hk hall =>
   obtain ⟨g1,g2⟩:=pushL_st (D:=D) (S:=S) (is:=is) (l:=t.kids) fun a ha=>push_st n a is (by have:=szL_mem ha; omega) (hall a ha)
   have e2:pushT D S t is=conT (if decide (t.kind=11)=is then 11 else 12) (pushL D S t.kids is):=by
    rw [hpe,if_neg (by omega),if_neg (by omega),if_neg (by omega),if_pos hk]
   have hk':(if decide (t.kind=11)=is then (11:Int) else 12)=11∨(if decide (t.kind=11)=is then (11:Int) else 12)=12:=by split <;> simp
   unfold PushSt
   rw [e2]
   exact ⟨pus_all hk' g1,sort_bool (by omega) (.inl (by rcases hk' with e | e <;> rw [e] <;> decide)) g2⟩
end
end Go.Proofs.YtdjnlgkpnjdchaaDoor
