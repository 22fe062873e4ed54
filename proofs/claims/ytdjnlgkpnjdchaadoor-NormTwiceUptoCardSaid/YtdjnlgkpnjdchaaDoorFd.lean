/- The layer norm: a formula pushed down. -/
import Derived.Test.YtdjnlgkpnjdchaaDoorFc
namespace Go.Proofs.YtdjnlgkpnjdchaaDoor
open Go.RowKit
set_option linter.unusedVariables false
set_option maxRecDepth 100000
def deniedT (D:List Dat) (S:List Srt) (t:Tw):Tw :=
 if t.kind=9 then aboveT (kidT t 1) (kidT t 0)
 else if t.kind=8∧wholeB D S (kidT t 0)=true then conT 12 [aboveT (kidT t 0) (kidT t 1),aboveT (kidT t 1) (kidT t 0)]
 else conT 10 [t]
def iffT (yes no:List Tw) (is:Bool):Tw:=match is with
 | true=>conT 11 [conT 12 [no.getD 0 Sh.tm.nil,yes.getD 1 Sh.tm.nil],conT 12 [no.getD 1 Sh.tm.nil,yes.getD 0 Sh.tm.nil]]
 | false=>conT 11 [conT 12 [yes.getD 0 Sh.tm.nil,yes.getD 1 Sh.tm.nil],conT 12 [no.getD 0 Sh.tm.nil,no.getD 1 Sh.tm.nil]]
mutual
def pushT (D:List Dat) (S:List Srt):Tw→Bool→Tw
 | .mk k n b d l,is =>
  if k=3∨k=4 then conT (if decide (k=3)=is then 3 else 4) []
  else if k=10 then (pushL D S l (!is)).getD 0 Sh.tm.nil
  else if k=13 then iffT (pushL D S l true) (pushL D S l false) is
  else if k=11∨k=12 then conT (if decide (k=11)=is then 11 else 12) (pushL D S l is)
  else if is=true then .mk k n b d l
  else deniedT D S (.mk k n b d l)
def pushL (D:List Dat) (S:List Srt):List Tw→Bool→List Tw
 | [],_=>[]
 | t::l,is=>pushT D S t is::pushL D S l is
end
theorem pushT_eq (D:List Dat) (S:List Srt) (t:Tw) (is:Bool):pushT D S t is =
  if t.kind=3∨t.kind=4 then conT (if decide (t.kind=3)=is then 3 else 4) []
  else if t.kind=10 then (pushL D S t.kids (!is)).getD 0 Sh.tm.nil
  else if t.kind=13 then iffT (pushL D S t.kids true) (pushL D S t.kids false) is
  else if t.kind=11∨t.kind=12 then conT (if decide (t.kind=11)=is then 11 else 12) (pushL D S t.kids is)
  else if is=true then t
  else deniedT D S t:=by
 cases t; rw [pushT]; rfl
theorem pushL_eq (D:List Dat) (S:List Srt) (is:Bool):∀ l:List Tw,pushL D S l is=l.map (pushT D S · is)
 | []=>rfl
 | t::l=>by rw [pushL,pushL_eq D S is l]; rfl
theorem pushL_len (D:List Dat) (S:List Srt) (is:Bool) (l:List Tw):(pushL D S l is).length=l.length:=by rw [pushL_eq,List.length_map]
theorem pushL_at (D:List Dat) (S:List Srt) (is:Bool) {l:List Tw} {i:Nat} (h:i<l.length) (d e:Tw):(pushL D S l is).getD i d=pushT D S (l.getD i e) is:=by
 rw [pushL_eq,List.getD_eq_getElem?_getD,List.getD_eq_getElem?_getD,List.getElem?_map,List.getElem?_eq_getElem h]; rfl
theorem pushL_snoc (D:List Dat) (S:List Srt) (is:Bool) {l:List Tw} {i:Nat} (h:i<l.length) (e:Tw):pushL D S (l.take (i+1)) is=pushL D S (l.take i) is++[pushT D S (l.getD i e) is]:=by
 rw [pushL_eq,pushL_eq,List.take_add_one,List.getElem?_eq_getElem h,List.map_append,List.getD_eq_getElem?_getD,List.getElem?_eq_getElem h]; rfl
theorem conT_fit {k:Int} {l:List Tw} (hl:l.length≤100000000) (h:fitTL l):(conT k l).fitT:=⟨Nat.zero_le _,Nat.zero_le _,hl,h⟩
theorem two_ok {α:Type} (a b:α):[a,b].length≤100000000:=by show 2≤100000000; omega
theorem one_ok {α:Type} (a:α):[a].length≤100000000:=by show 1≤100000000; omega
theorem nil_fit:(Sh.tm.nil:Tw).fitT:=⟨Nat.zero_le _,Nat.zero_le _,Nat.zero_le _,trivial⟩
theorem getD_fit {l:List Tw} (h:fitTL l) (i:Nat):(l.getD i Sh.tm.nil).fitT:=by
 by_cases hi:i<l.length
 · exact fitTL_at _ h hi
 · rw [List.getD_eq_getElem?_getD,List.getElem?_eq_none (by omega)]
   exact nil_fit
theorem one_fit:oneT.fitT:=⟨Nat.zero_le _,by show (digs 1000000000 1).length≤40000000; rw [show digs 1000000000 1=[1] from by decide]; decide,Nat.zero_le _,trivial⟩
theorem above_fit {a b:Tw} (ha:a.fitT) (hb:b.fitT):(aboveT a b).fitT :=
 conT_fit (two_ok _ _) ⟨conT_fit (two_ok _ _) ⟨ha,one_fit,trivial⟩,hb,trivial⟩
theorem denied_fit {D:List Dat} {S:List Srt} {t:Tw} (h:t.fitT):(deniedT D S t).fitT:=by
 have hk:∀ i,(kidT t i).fitT:=fun i=>getD_fit ((Tw.fitT_eq t).1 h).2.2.2 i
 unfold deniedT
 split
 · exact above_fit (hk 1) (hk 0)
 split
 · exact conT_fit (two_ok _ _) ⟨above_fit (hk 0) (hk 1),above_fit (hk 1) (hk 0),trivial⟩
 · exact conT_fit (one_ok _) ⟨h,trivial⟩
theorem iff_fit {yes no:List Tw} {is:Bool} (h:fitTL yes) (h':fitTL no):(iffT yes no is).fitT:=by
 unfold iffT
 split
 · exact conT_fit (two_ok _ _) ⟨conT_fit (two_ok _ _) ⟨getD_fit h' 0,getD_fit h 1,trivial⟩,conT_fit (two_ok _ _) ⟨getD_fit h' 1,getD_fit h 0,trivial⟩,trivial⟩
 · exact conT_fit (two_ok _ _) ⟨conT_fit (two_ok _ _) ⟨getD_fit h 0,getD_fit h 1,trivial⟩,conT_fit (two_ok _ _) ⟨getD_fit h' 0,getD_fit h' 1,trivial⟩,trivial⟩
mutual
theorem push_fit {D:List Dat} {S:List Srt}:∀ {t:Tw} (is:Bool),t.fitT→(pushT D S t is).fitT
 | .mk k n b d l,is,h=>by
  rw [pushT]
  split
  · exact conT_fit (Nat.zero_le _) trivial
  split
  · exact getD_fit (pushL_fit _ h.2.2.2) 0
  split
  · exact iff_fit (pushL_fit _ h.2.2.2) (pushL_fit _ h.2.2.2)
  split
  · exact conT_fit (by rw [pushL_len]; exact h.2.2.1) (pushL_fit _ h.2.2.2)
  split
  · exact h
  · exact denied_fit h
theorem pushL_fit {D:List Dat} {S:List Srt}:∀ {l:List Tw} (is:Bool),fitTL l→fitTL (pushL D S l is)
 | [],is,h=>trivial
 | t::l,is,h=>⟨push_fit is h.1,pushL_fit is h.2⟩
end
theorem tm_fin {z u:Tw} (h:z=u):Sub (tmP z) (tmP u):=by subst h; exact .refl _
theorem one_nat:Int.toNat 1=1:=rfl
def sDenied:Spec
 | [x]=>match forOf x with
  | some (D,S,t)=>some (some (t.fitT∧(t.kind=8∨t.kind=9→t.kids.length=2)),.nm Tw (deniedT D S t) tmP)
  | none=>none
 | _=>none
theorem cDenied {E:Env} (hU:Up E):Contract Tryd.prog E 107 sDenied:=by
 refine contract_D [(144,sAbove),(100,sWhole),(105,sAnd 12),(102,sConT)] [] Tryd.ntmps107 Tryd.func107 (by kernel_rfl) (by kernel_rfl) hU ⟨cAbove hU,cWhole hU,cOr hU,cConT hU,trivial⟩ trivial ?_
 intro xs p r hs hp
 unfold sDenied at hs
 split at hs
 · rename_i x
   split at hs
   · rename_i D S t ht
     cases hs
     obtain ⟨hf,hk⟩:=hp _ rfl
     refine ⟨[forP D S t],[],.cons (for_sub ht).sub .nil,rfl,fun _ hsh=>?_⟩
     refine cast_rfl (p:=ifB (t.kind==(9:Int)) (((0:Int)≤(1:Int)∧(1:Int)<(↑t.kids.length:Int))∧((0:Int)≤(0:Int)∧(0:Int)<(↑t.kids.length:Int))∧∀ (z1:Tw),z1=aboveT (Tw.mk (Tw.kind (t.kids.getD (Int.toNat (1:Int)) Sh.tm.nil)) (Tw.name (t.kids.getD (Int.toNat (1:Int)) Sh.tm.nil)) (Tw.neg (t.kids.getD (Int.toNat (1:Int)) Sh.tm.nil)) (Tw.digits (t.kids.getD (Int.toNat (1:Int)) Sh.tm.nil)) (Tw.kids (t.kids.getD (Int.toNat (1:Int)) Sh.tm.nil))) (Tw.mk (Tw.kind (t.kids.getD (Int.toNat (0:Int)) Sh.tm.nil)) (Tw.name (t.kids.getD (Int.toNat (0:Int)) Sh.tm.nil)) (Tw.neg (t.kids.getD (Int.toNat (0:Int)) Sh.tm.nil)) (Tw.digits (t.kids.getD (Int.toNat (0:Int)) Sh.tm.nil)) (Tw.kids (t.kids.getD (Int.toNat (0:Int)) Sh.tm.nil)))→true=true∧Sub (PV.agg (wrapF (tmC z1))) (PV.agg (wrapF (tmC (deniedT D S t))))) (ifB (t.kind==(8:Int)) (((0:Int)≤(0:Int)∧(0:Int)<(↑t.kids.length:Int))∧(Tw.mk (Tw.kind (t.kids.getD (Int.toNat (0:Int)) Sh.tm.nil)) (Tw.name (t.kids.getD (Int.toNat (0:Int)) Sh.tm.nil)) (Tw.neg (t.kids.getD (Int.toNat (0:Int)) Sh.tm.nil)) (Tw.digits (t.kids.getD (Int.toNat (0:Int)) Sh.tm.nil)) (Tw.kids (t.kids.getD (Int.toNat (0:Int)) Sh.tm.nil))).fitT∧∀ (z1:Bool),z1=wholeB D S (Tw.mk (Tw.kind (t.kids.getD (Int.toNat (0:Int)) Sh.tm.nil)) (Tw.name (t.kids.getD (Int.toNat (0:Int)) Sh.tm.nil)) (Tw.neg (t.kids.getD (Int.toNat (0:Int)) Sh.tm.nil)) (Tw.digits (t.kids.getD (Int.toNat (0:Int)) Sh.tm.nil)) (Tw.kids (t.kids.getD (Int.toNat (0:Int)) Sh.tm.nil)))→ifB z1 (((0:Int)≤(0:Int)∧(0:Int)<(↑t.kids.length:Int))∧((0:Int)≤(1:Int)∧(1:Int)<(↑t.kids.length:Int))∧∀ (z2:Tw),z2=aboveT (Tw.mk (Tw.kind (t.kids.getD (Int.toNat (0:Int)) Sh.tm.nil)) (Tw.name (t.kids.getD (Int.toNat (0:Int)) Sh.tm.nil)) (Tw.neg (t.kids.getD (Int.toNat (0:Int)) Sh.tm.nil)) (Tw.digits (t.kids.getD (Int.toNat (0:Int)) Sh.tm.nil)) (Tw.kids (t.kids.getD (Int.toNat (0:Int)) Sh.tm.nil))) (Tw.mk (Tw.kind (t.kids.getD (Int.toNat (1:Int)) Sh.tm.nil)) (Tw.name (t.kids.getD (Int.toNat (1:Int)) Sh.tm.nil)) (Tw.neg (t.kids.getD (Int.toNat (1:Int)) Sh.tm.nil)) (Tw.digits (t.kids.getD (Int.toNat (1:Int)) Sh.tm.nil)) (Tw.kids (t.kids.getD (Int.toNat (1:Int)) Sh.tm.nil)))→((0:Int)≤(1:Int)∧(1:Int)<(↑t.kids.length:Int))∧((0:Int)≤(0:Int)∧(0:Int)<(↑t.kids.length:Int))∧∀ (z3:Tw),z3=aboveT (Tw.mk (Tw.kind (t.kids.getD (Int.toNat (1:Int)) Sh.tm.nil)) (Tw.name (t.kids.getD (Int.toNat (1:Int)) Sh.tm.nil)) (Tw.neg (t.kids.getD (Int.toNat (1:Int)) Sh.tm.nil)) (Tw.digits (t.kids.getD (Int.toNat (1:Int)) Sh.tm.nil)) (Tw.kids (t.kids.getD (Int.toNat (1:Int)) Sh.tm.nil))) (Tw.mk (Tw.kind (t.kids.getD (Int.toNat (0:Int)) Sh.tm.nil)) (Tw.name (t.kids.getD (Int.toNat (0:Int)) Sh.tm.nil)) (Tw.neg (t.kids.getD (Int.toNat (0:Int)) Sh.tm.nil)) (Tw.digits (t.kids.getD (Int.toNat (0:Int)) Sh.tm.nil)) (Tw.kids (t.kids.getD (Int.toNat (0:Int)) Sh.tm.nil)))→∀ (z4:Tw),z4=conT (12:Int) [Tw.mk z2.kind z2.name z2.neg z2.digits z2.kids,Tw.mk z3.kind z3.name z3.neg z3.digits z3.kids]→true=true∧Sub (PV.agg (wrapF (tmC z4))) (PV.agg (wrapF (tmC (deniedT D S t))))) (∀ (z2:Tw),z2=conT (10:Int) [Tw.mk t.kind t.name t.neg t.digits t.kids]→true=true∧Sub (PV.agg (wrapF (tmC z2))) (PV.agg (wrapF (tmC (deniedT D S t)))))) (∀ (z1:Tw),z1=conT (10:Int) [Tw.mk t.kind t.name t.neg t.digits t.kids]→true=true∧Sub (PV.agg (wrapF (tmC z1))) (PV.agg (wrapF (tmC (deniedT D S t))))))) ?kr ?_
     case kr=>kernel_rfl
     refine ifB_iff.2 ⟨fun hb0=>⟨?s0,⟨?s1,fun z1=>fun hz1=>⟨rfl,?m0⟩⟩⟩,fun hb0=>ifB_iff.2 ⟨fun hb1=>⟨?s2,⟨?s3,fun z1=>fun hz1=>ifB_iff.2 ⟨fun hb2=>⟨?s4,⟨?s5,fun z2=>fun hz2=>⟨?s6,⟨?s7,fun z3=>fun hz3=>fun z4=>fun hz4=>⟨rfl,?m1⟩⟩⟩⟩⟩,fun hb2=>fun z2=>fun hz2=>⟨rfl,?m2⟩⟩⟩⟩,fun hb1=>fun z1=>fun hz1=>⟨rfl,?m3⟩⟩⟩
     all_goals try simp only [Tw.eta,beq_iff_eq,beq_eq_false_iff_ne,ne_eq,Int.toNat_zero,one_nat] at *
     case s0=>have:=hk (.inr hb0); omega
     case s1=>have:=hk (.inr hb0); omega
     case m0=>exact tm_fin (u:=deniedT D S t) (by unfold deniedT; rw [if_pos hb0]; exact hz1)
     case s2=>have:=hk (.inl hb1); omega
     case s3=>exact kidT_fit hf (by have:=hk (.inl hb1); omega)
     case s4=>have:=hk (.inl hb1); omega
     case s5=>have:=hk (.inl hb1); omega
     case s6=>have:=hk (.inl hb1); omega
     case s7=>have:=hk (.inl hb1); omega
     case m1=>exact tm_fin (u:=deniedT D S t) (by unfold deniedT; rw [if_neg hb0,if_pos ⟨hb1,hz1.symm.trans hb2⟩,hz4,hz3,hz2]; rfl)
     case m2=>exact tm_fin (u:=deniedT D S t) (by unfold deniedT; rw [if_neg hb0,if_neg (fun h=>by have h3:=hz1.trans h.2; rw [hb2] at h3; cases h3)]; exact hz2)
     case m3=>exact tm_fin (u:=deniedT D S t) (by unfold deniedT; rw [if_neg hb0,if_neg (fun h=>hb1 h.1)]; exact hz1)
   · cases hs
 · cases hs
def sPushN (n:Nat):Spec
 | [x,.f (.v (.bool is))]=>match forOf x with
  | some (D,S,t)=>some (some (t.size<n∧t.fitT∧sortT D S t=.ok bBool),.nm Tw (pushT D S t is) tmP)
  | none=>none
 | _=>none
def boolKids (D:List Dat) (S:List Srt) (t:Tw):Prop:=∀ i,i<t.kids.length→sortT D S (kidT t i)=.ok bBool
def sAllN (n:Nat):Spec
 | [x,.f (.v (.bool is))]=>match forOf x with
  | some (D,S,t)=>some (some (t.size<n+1∧t.fitT∧boolKids D S t),.nm (List Tw) (pushL D S t.kids is) fun l=>.f (.dt .tm l))
  | none=>none
 | _=>none
def sIffN (n:Nat):Spec
 | [x,.f (.v (.bool is))]=>match forOf x with
  | some (D,S,t)=>some (some (t.size<n+1∧t.fitT∧boolKids D S t∧t.kids.length=2),.nm Tw (iffT (pushL D S t.kids true) (pushL D S t.kids false) is) tmP)
  | none=>none
 | _=>none
theorem cAllN {E:Env} (hU:Up E) (n:Nat) (h:Contract Tryd.prog E 52 (sPushN n)):Contract Tryd.prog E 106 (sAllN n):=by
 refine contract_D [(98,sKid),(52,sPushN n)] [] Tryd.ntmps106 Tryd.func106 (by kernel_rfl) (by kernel_rfl) hU ⟨cKid hU,h,trivial⟩ trivial ?_
 intro xs p r hs hp
 unfold sAllN at hs
 split at hs
 · rename_i x is
   split at hs
   · rename_i D S t ht
     cases hs
     obtain ⟨hn,hf,hk⟩:=hp _ rfl
     refine ⟨[forP D S t,bV is],[(3,.s ⟨Nat,fun i=>⟨[(1,bV is),(2,.bp 0 0),(5,.tl 1 (.dt .tm (pushL D S (t.kids.take i) is))),(10,iV t.kids.length),(11,iV i)],[.cells (wrapF (.dt .dat D::.dt .srt S::tmC t)),.tail 28 5]⟩,fun i=>i≤t.kids.length,fun i=>t.kids.length - i⟩)],.cons (for_sub ht).sub (.cons (.refl _) .nil),rfl,fun _ hsh=>?_⟩
     refine cast_rfl (p:=∃ (x1:Nat),(((SubB (PV.f (Lf.dt Sh.dat D)) (PV.f (Lf.dt Sh.dat D))∧SubB (PV.f (Lf.dt Sh.srt S)) (PV.f (Lf.dt Sh.srt S))∧SubB (PV.f (Lf.v (Value.int IntKind.u8 t.kind))) (PV.f (Lf.v (Value.int IntKind.u8 t.kind)))∧SubB (sV t.name) (sV t.name)∧SubB (bV t.neg) (bV t.neg)∧SubB (PV.f (Lf.lr t.digits t.digits.length)) (PV.f (Lf.lr t.digits t.digits.length))∧SubB (PV.f (Lf.dt Sh.tm t.kids)) (PV.f (Lf.dt Sh.tm t.kids))∧True)∧True)∧SubB (bV is) (bV is)∧SubB (PV.bp 0 0) (PV.bp 0 0)∧emptyT (PV.tl 1 (Lf.dt Sh.tm (pushL D S (List.take x1 t.kids) is)))∧SubB (iV (↑t.kids.length:Int)) (iV (↑t.kids.length:Int))∧SubB (iV 0) (iV (↑x1:Int))∧True)∧x1≤t.kids.length∧True∧∀ (z2:Nat),z2≤t.kids.length→True→ifB (decide ((↑z2:Int)<(↑t.kids.length:Int))) (((0:Int)≤(↑z2:Int)∧(↑z2:Int)<(↑(Tw.mk t.kind t.name t.neg t.digits t.kids).kids.length:Int))∧((Tw.mk (kidT (Tw.mk t.kind t.name t.neg t.digits t.kids) (↑z2:Int).toNat).kind (kidT (Tw.mk t.kind t.name t.neg t.digits t.kids) (↑z2:Int).toNat).name (kidT (Tw.mk t.kind t.name t.neg t.digits t.kids) (↑z2:Int).toNat).neg (kidT (Tw.mk t.kind t.name t.neg t.digits t.kids) (↑z2:Int).toNat).digits (kidT (Tw.mk t.kind t.name t.neg t.digits t.kids) (↑z2:Int).toNat).kids).size<n∧(Tw.mk (kidT (Tw.mk t.kind t.name t.neg t.digits t.kids) (↑z2:Int).toNat).kind (kidT (Tw.mk t.kind t.name t.neg t.digits t.kids) (↑z2:Int).toNat).name (kidT (Tw.mk t.kind t.name t.neg t.digits t.kids) (↑z2:Int).toNat).neg (kidT (Tw.mk t.kind t.name t.neg t.digits t.kids) (↑z2:Int).toNat).digits (kidT (Tw.mk t.kind t.name t.neg t.digits t.kids) (↑z2:Int).toNat).kids).fitT∧sortT D S (Tw.mk (kidT (Tw.mk t.kind t.name t.neg t.digits t.kids) (↑z2:Int).toNat).kind (kidT (Tw.mk t.kind t.name t.neg t.digits t.kids) (↑z2:Int).toNat).name (kidT (Tw.mk t.kind t.name t.neg t.digits t.kids) (↑z2:Int).toNat).neg (kidT (Tw.mk t.kind t.name t.neg t.digits t.kids) (↑z2:Int).toNat).digits (kidT (Tw.mk t.kind t.name t.neg t.digits t.kids) (↑z2:Int).toNat).kids)=Except.ok bBool)∧∀ (z3:Tw),z3=pushT D S (Tw.mk (kidT (Tw.mk t.kind t.name t.neg t.digits t.kids) (↑z2:Int).toNat).kind (kidT (Tw.mk t.kind t.name t.neg t.digits t.kids) (↑z2:Int).toNat).name (kidT (Tw.mk t.kind t.name t.neg t.digits t.kids) (↑z2:Int).toNat).neg (kidT (Tw.mk t.kind t.name t.neg t.digits t.kids) (↑z2:Int).toNat).digits (kidT (Tw.mk t.kind t.name t.neg t.digits t.kids) (↑z2:Int).toNat).kids) is→((pushL D S (List.take z2 t.kids) is).length+1≤9223372036854775807∧((pushL D S (List.take z2 t.kids) is).length+1) * 80≤140737488355328)∧∃ (x4:Nat),(((SubB (PV.f (Lf.dt Sh.dat D)) (PV.f (Lf.dt Sh.dat D))∧SubB (PV.f (Lf.dt Sh.srt S)) (PV.f (Lf.dt Sh.srt S))∧SubB (PV.f (Lf.v (Value.int IntKind.u8 t.kind))) (PV.f (Lf.v (Value.int IntKind.u8 t.kind)))∧SubB (sV t.name) (sV t.name)∧SubB (bV t.neg) (bV t.neg)∧SubB (PV.f (Lf.lr t.digits t.digits.length)) (PV.f (Lf.lr t.digits t.digits.length))∧SubB (PV.f (Lf.dt Sh.tm t.kids)) (PV.f (Lf.dt Sh.tm t.kids))∧True)∧True)∧SubB (bV is) (bV is)∧SubB (PV.bp 0 0) (PV.bp 0 0)∧SubB (PV.tl 1 (Lf.dt Sh.tm (pushL D S (List.take z2 t.kids) is++[Tw.mk z3.kind z3.name z3.neg z3.digits z3.kids]))) (PV.tl 1 (Lf.dt Sh.tm (pushL D S (List.take x4 t.kids) is)))∧SubB (iV (↑t.kids.length:Int)) (iV (↑t.kids.length:Int))∧SubB (iV (IntKind.i64.wrap ((↑z2:Int)+(1:Int)))) (iV (↑x4:Int))∧True)∧x4≤t.kids.length∧True∧(t.kids.length - x4).succ.le (t.kids.length - z2)) (true=true∧Sub (PV.f (Lf.dt Sh.tm (pushL D S (List.take z2 t.kids) is))) (PV.f (Lf.dt Sh.tm (pushL D S t.kids is))))) ?kr ?_
     case kr=>kernel_rfl
     refine ⟨?x0,⟨?s0,⟨?s1,⟨trivial,fun z2=>fun hq0=>fun _=>ifB_iff.2 ⟨fun hb1=>⟨?s2,⟨?s3,fun z3=>fun hz3=>⟨?s4,⟨?x1,⟨⟨⟨⟨.refl _,⟨.refl _,⟨.refl _,⟨.refl _,⟨.refl _,⟨.refl _,⟨.refl _,trivial⟩⟩⟩⟩⟩⟩⟩,trivial⟩,⟨.refl _,⟨.refl _,⟨?m0,⟨.refl _,⟨?m1,trivial⟩⟩⟩⟩⟩⟩,⟨?s5,⟨trivial,?m2⟩⟩⟩⟩⟩⟩⟩,fun hb1=>⟨rfl,?m3⟩⟩⟩⟩⟩⟩
     case x0=>exact 0
     case x1=>exact z2+1
     all_goals try simp only [Tw.eta,decide_eq_true_eq,decide_eq_false_iff_not,Int.toNat_natCast] at *
     case s0=>exact ⟨⟨⟨.refl _,.refl _,.refl _,.refl _,.refl _,.refl _,.refl _,trivial⟩,trivial⟩,.refl _,.refl _,rfl,.refl _,.refl _,trivial⟩
     case s1=>exact Nat.zero_le _
     case m3 =>
      rw [List.take_of_length_le (by omega)]
      exact .refl _
     all_goals have hz:z2<t.kids.length:=by omega
     case s2=>omega
     case s3 =>
      have:=kidT_size hz
      have h3:(kidT t z2).size<n:=by omega
      exact ⟨h3,kidT_fit hf hz,hk z2 hz⟩
     case s4 =>
      have:=((Tw.fitT_eq t).1 hf).2.2.1
      rw [pushL_len,List.length_take]
      omega
     case m0 =>
      rw [pushL_snoc D S is hz Sh.tm.nil,hz3]
      exact .refl _
     case m1 =>
      have:=((Tw.fitT_eq t).1 hf).2.2.1
      exact subB_i (by rw [wJ _ (by omega) (by omega)]; rfl)
     case s5=>exact hz
     case m2 =>
      have:t.kids.length - (z2+1)<t.kids.length - z2:=by omega
      exact this
   · cases hs
 · cases hs
theorem cIffN {E:Env} (hU:Up E) (n:Nat) (h:Contract Tryd.prog E 52 (sPushN n)):Contract Tryd.prog E 103 (sIffN n):=by
 refine contract_D [(106,sAllN n),(104,sAnd 11),(105,sAnd 12)] [] Tryd.ntmps103 Tryd.func103 (by kernel_rfl) (by kernel_rfl) hU ⟨cAllN hU n h,cAnd hU,cOr hU,trivial⟩ trivial ?_
 intro xs p r hs hp
 unfold sIffN at hs
 split at hs
 · rename_i x is
   split at hs
   · rename_i D S t ht
     cases hs
     obtain ⟨hn,hf,hk,h2⟩:=hp _ rfl
     refine ⟨[forP D S t,bV is],[],.cons (for_sub ht).sub (.cons (.refl _) .nil),rfl,fun _ hsh=>?_⟩
     refine cast_rfl (p:=((Tw.mk t.kind t.name t.neg t.digits t.kids).size<n+1∧(Tw.mk t.kind t.name t.neg t.digits t.kids).fitT∧boolKids D S (Tw.mk t.kind t.name t.neg t.digits t.kids))∧∀ (z1:List Tw),z1=pushL D S (Tw.mk t.kind t.name t.neg t.digits t.kids).kids true→((Tw.mk t.kind t.name t.neg t.digits t.kids).size<n+1∧(Tw.mk t.kind t.name t.neg t.digits t.kids).fitT∧boolKids D S (Tw.mk t.kind t.name t.neg t.digits t.kids))∧∀ (z2:List Tw),z2=pushL D S (Tw.mk t.kind t.name t.neg t.digits t.kids).kids false→ifB is (((0:Int)≤(0:Int)∧(0:Int)<(↑z2.length:Int))∧((0:Int)≤(1:Int)∧(1:Int)<(↑z1.length:Int))∧∀ (z3:Tw),z3=conT (12:Int) [Tw.mk (Tw.kind (z2.getD (Int.toNat (0:Int)) Sh.tm.nil)) (Tw.name (z2.getD (Int.toNat (0:Int)) Sh.tm.nil)) (Tw.neg (z2.getD (Int.toNat (0:Int)) Sh.tm.nil)) (Tw.digits (z2.getD (Int.toNat (0:Int)) Sh.tm.nil)) (Tw.kids (z2.getD (Int.toNat (0:Int)) Sh.tm.nil)),Tw.mk (Tw.kind (z1.getD (Int.toNat (1:Int)) Sh.tm.nil)) (Tw.name (z1.getD (Int.toNat (1:Int)) Sh.tm.nil)) (Tw.neg (z1.getD (Int.toNat (1:Int)) Sh.tm.nil)) (Tw.digits (z1.getD (Int.toNat (1:Int)) Sh.tm.nil)) (Tw.kids (z1.getD (Int.toNat (1:Int)) Sh.tm.nil))]→((0:Int)≤(1:Int)∧(1:Int)<(↑z2.length:Int))∧((0:Int)≤(0:Int)∧(0:Int)<(↑z1.length:Int))∧∀ (z4:Tw),z4=conT (12:Int) [Tw.mk (Tw.kind (z2.getD (Int.toNat (1:Int)) Sh.tm.nil)) (Tw.name (z2.getD (Int.toNat (1:Int)) Sh.tm.nil)) (Tw.neg (z2.getD (Int.toNat (1:Int)) Sh.tm.nil)) (Tw.digits (z2.getD (Int.toNat (1:Int)) Sh.tm.nil)) (Tw.kids (z2.getD (Int.toNat (1:Int)) Sh.tm.nil)),Tw.mk (Tw.kind (z1.getD (Int.toNat (0:Int)) Sh.tm.nil)) (Tw.name (z1.getD (Int.toNat (0:Int)) Sh.tm.nil)) (Tw.neg (z1.getD (Int.toNat (0:Int)) Sh.tm.nil)) (Tw.digits (z1.getD (Int.toNat (0:Int)) Sh.tm.nil)) (Tw.kids (z1.getD (Int.toNat (0:Int)) Sh.tm.nil))]→∀ (z5:Tw),z5=conT (11:Int) [Tw.mk z3.kind z3.name z3.neg z3.digits z3.kids,Tw.mk z4.kind z4.name z4.neg z4.digits z4.kids]→true=true∧Sub (PV.agg (wrapF (tmC z5))) (PV.agg (wrapF (tmC (iffT (pushL D S t.kids true) (pushL D S t.kids false) is))))) (((0:Int)≤(0:Int)∧(0:Int)<(↑z1.length:Int))∧((0:Int)≤(1:Int)∧(1:Int)<(↑z1.length:Int))∧∀ (z3:Tw),z3=conT (12:Int) [Tw.mk (Tw.kind (z1.getD (Int.toNat (0:Int)) Sh.tm.nil)) (Tw.name (z1.getD (Int.toNat (0:Int)) Sh.tm.nil)) (Tw.neg (z1.getD (Int.toNat (0:Int)) Sh.tm.nil)) (Tw.digits (z1.getD (Int.toNat (0:Int)) Sh.tm.nil)) (Tw.kids (z1.getD (Int.toNat (0:Int)) Sh.tm.nil)),Tw.mk (Tw.kind (z1.getD (Int.toNat (1:Int)) Sh.tm.nil)) (Tw.name (z1.getD (Int.toNat (1:Int)) Sh.tm.nil)) (Tw.neg (z1.getD (Int.toNat (1:Int)) Sh.tm.nil)) (Tw.digits (z1.getD (Int.toNat (1:Int)) Sh.tm.nil)) (Tw.kids (z1.getD (Int.toNat (1:Int)) Sh.tm.nil))]→((0:Int)≤(0:Int)∧(0:Int)<(↑z2.length:Int))∧((0:Int)≤(1:Int)∧(1:Int)<(↑z2.length:Int))∧∀ (z4:Tw),z4=conT (12:Int) [Tw.mk (Tw.kind (z2.getD (Int.toNat (0:Int)) Sh.tm.nil)) (Tw.name (z2.getD (Int.toNat (0:Int)) Sh.tm.nil)) (Tw.neg (z2.getD (Int.toNat (0:Int)) Sh.tm.nil)) (Tw.digits (z2.getD (Int.toNat (0:Int)) Sh.tm.nil)) (Tw.kids (z2.getD (Int.toNat (0:Int)) Sh.tm.nil)),Tw.mk (Tw.kind (z2.getD (Int.toNat (1:Int)) Sh.tm.nil)) (Tw.name (z2.getD (Int.toNat (1:Int)) Sh.tm.nil)) (Tw.neg (z2.getD (Int.toNat (1:Int)) Sh.tm.nil)) (Tw.digits (z2.getD (Int.toNat (1:Int)) Sh.tm.nil)) (Tw.kids (z2.getD (Int.toNat (1:Int)) Sh.tm.nil))]→∀ (z5:Tw),z5=conT (11:Int) [Tw.mk z3.kind z3.name z3.neg z3.digits z3.kids,Tw.mk z4.kind z4.name z4.neg z4.digits z4.kids]→true=true∧Sub (PV.agg (wrapF (tmC z5))) (PV.agg (wrapF (tmC (iffT (pushL D S t.kids true) (pushL D S t.kids false) is)))))) ?kr ?_
     case kr=>kernel_rfl
     refine ⟨?s0,fun z1=>fun hz1=>⟨?s1,fun z2=>fun hz2=>ifB_iff.2 ⟨fun hb0=>⟨?s2,⟨?s3,fun z3=>fun hz3=>⟨?s4,⟨?s5,fun z4=>fun hz4=>fun z5=>fun hz5=>⟨rfl,?m0⟩⟩⟩⟩⟩,fun hb0=>⟨?s6,⟨?s7,fun z3=>fun hz3=>⟨?s8,⟨?s9,fun z4=>fun hz4=>fun z5=>fun hz5=>⟨rfl,?m1⟩⟩⟩⟩⟩⟩⟩⟩
     all_goals try simp only [Tw.eta,Int.toNat_zero,one_nat] at *
     all_goals have hl:∀ b,(pushL D S t.kids b).length=2:=fun b=>by rw [pushL_len,h2]
     case s0=>exact ⟨hn,hf,hk⟩
     case s1=>exact ⟨hn,hf,hk⟩
     case s2=>rw [hz2,hl]; decide
     case s3=>rw [hz1,hl]; decide
     case s4=>rw [hz2,hl]; decide
     case s5=>rw [hz1,hl]; decide
     case s6=>rw [hz1,hl]; decide
     case s7=>rw [hz1,hl]; decide
     case s8=>rw [hz2,hl]; decide
     case s9=>rw [hz2,hl]; decide
     case m0=>exact tm_fin (u:=iffT (pushL D S t.kids true) (pushL D S t.kids false) is) (by rw [hz5,hz4,hz3,hz2,hz1,hb0]; rfl)
     case m1=>exact tm_fin (u:=iffT (pushL D S t.kids true) (pushL D S t.kids false) is) (by rw [hz5,hz4,hz3,hz2,hz1,hb0]; rfl)
   · cases hs
 · cases hs
theorem cPushN {E:Env} (hU:Up E):∀ n,Contract Tryd.prog E 52 (sPushN n)
 | 0=>by
  intro xs p r hs hp
  unfold sPushN at hs
  split at hs
  · split at hs
    · cases hs
      exact absurd (hp _ rfl).1 (Nat.not_lt_zero _)
    · cases hs
  · cases hs
 | n+1=>by
  refine contract_D [(98,sKid),(52,sPushN n),(106,sAllN n),(103,sIffN n),(107,sDenied),(102,sConT),(104,sAnd 11),(105,sAnd 12)] [] Tryd.ntmps52 Tryd.func52 (by kernel_rfl) (by kernel_rfl) hU ⟨cKid hU,cPushN hU n,cAllN hU n (cPushN hU n),cIffN hU n (cPushN hU n),cDenied hU,cConT hU,cAnd hU,cOr hU,trivial⟩ trivial ?_
  intro xs p r hs hp
  unfold sPushN at hs
  split at hs
  · rename_i x is
    split at hs
    · rename_i D S t ht
      cases hs
      obtain ⟨hn,hf,hs⟩:=hp _ rfl
      have m2:=sort_many hs
      refine ⟨[forP D S t,bV is],[],.cons (for_sub ht).sub (.cons (.refl _) .nil),rfl,fun _ hsh=>?_⟩
      refine cast_rfl (p:=ifB (t.kind==(3:Int)) (ifB ((t.kind==(3:Int))==is) (∀ (z1:Tw),z1=conT (3:Int) []→true=true∧Sub (PV.agg (wrapF (tmC z1))) (PV.agg (wrapF (tmC (pushT D S t is))))) (∀ (z1:Tw),z1=conT (4:Int) []→true=true∧Sub (PV.agg (wrapF (tmC z1))) (PV.agg (wrapF (tmC (pushT D S t is)))))) (ifB (t.kind==(4:Int)) (ifB ((t.kind==(3:Int))==is) (∀ (z1:Tw),z1=conT (3:Int) []→true=true∧Sub (PV.agg (wrapF (tmC z1))) (PV.agg (wrapF (tmC (pushT D S t is))))) (∀ (z1:Tw),z1=conT (4:Int) []→true=true∧Sub (PV.agg (wrapF (tmC z1))) (PV.agg (wrapF (tmC (pushT D S t is)))))) (ifB (t.kind==(10:Int)) (((0:Int)≤(0:Int)∧(0:Int)<(↑(Tw.mk t.kind t.name t.neg t.digits t.kids).kids.length:Int))∧((Tw.mk (kidT (Tw.mk t.kind t.name t.neg t.digits t.kids) (Int.toNat (0:Int))).kind (kidT (Tw.mk t.kind t.name t.neg t.digits t.kids) (Int.toNat (0:Int))).name (kidT (Tw.mk t.kind t.name t.neg t.digits t.kids) (Int.toNat (0:Int))).neg (kidT (Tw.mk t.kind t.name t.neg t.digits t.kids) (Int.toNat (0:Int))).digits (kidT (Tw.mk t.kind t.name t.neg t.digits t.kids) (Int.toNat (0:Int))).kids).size<n∧(Tw.mk (kidT (Tw.mk t.kind t.name t.neg t.digits t.kids) (Int.toNat (0:Int))).kind (kidT (Tw.mk t.kind t.name t.neg t.digits t.kids) (Int.toNat (0:Int))).name (kidT (Tw.mk t.kind t.name t.neg t.digits t.kids) (Int.toNat (0:Int))).neg (kidT (Tw.mk t.kind t.name t.neg t.digits t.kids) (Int.toNat (0:Int))).digits (kidT (Tw.mk t.kind t.name t.neg t.digits t.kids) (Int.toNat (0:Int))).kids).fitT∧sortT D S (Tw.mk (kidT (Tw.mk t.kind t.name t.neg t.digits t.kids) (Int.toNat (0:Int))).kind (kidT (Tw.mk t.kind t.name t.neg t.digits t.kids) (Int.toNat (0:Int))).name (kidT (Tw.mk t.kind t.name t.neg t.digits t.kids) (Int.toNat (0:Int))).neg (kidT (Tw.mk t.kind t.name t.neg t.digits t.kids) (Int.toNat (0:Int))).digits (kidT (Tw.mk t.kind t.name t.neg t.digits t.kids) (Int.toNat (0:Int))).kids)=Except.ok bBool)∧∀ (z1:Tw),z1=pushT D S (Tw.mk (kidT (Tw.mk t.kind t.name t.neg t.digits t.kids) (Int.toNat (0:Int))).kind (kidT (Tw.mk t.kind t.name t.neg t.digits t.kids) (Int.toNat (0:Int))).name (kidT (Tw.mk t.kind t.name t.neg t.digits t.kids) (Int.toNat (0:Int))).neg (kidT (Tw.mk t.kind t.name t.neg t.digits t.kids) (Int.toNat (0:Int))).digits (kidT (Tw.mk t.kind t.name t.neg t.digits t.kids) (Int.toNat (0:Int))).kids) !is→true=true∧Sub (PV.agg (wrapF (tmC z1))) (PV.agg (wrapF (tmC (pushT D S t is))))) (ifB (t.kind==(13:Int)) (((Tw.mk t.kind t.name t.neg t.digits t.kids).size<n+1∧(Tw.mk t.kind t.name t.neg t.digits t.kids).fitT∧boolKids D S (Tw.mk t.kind t.name t.neg t.digits t.kids)∧(Tw.mk t.kind t.name t.neg t.digits t.kids).kids.length=2)∧∀ (z1:Tw),z1=iffT (pushL D S (Tw.mk t.kind t.name t.neg t.digits t.kids).kids true) (pushL D S (Tw.mk t.kind t.name t.neg t.digits t.kids).kids false) is→true=true∧Sub (PV.agg (wrapF (tmC z1))) (PV.agg (wrapF (tmC (pushT D S t is))))) (ifB (t.kind==(11:Int)) (ifB (!(t.kind==(11:Int))==is) (((Tw.mk t.kind t.name t.neg t.digits t.kids).size<n+1∧(Tw.mk t.kind t.name t.neg t.digits t.kids).fitT∧boolKids D S (Tw.mk t.kind t.name t.neg t.digits t.kids))∧∀ (z1:List Tw),z1=pushL D S (Tw.mk t.kind t.name t.neg t.digits t.kids).kids is→∀ (z2:Tw),z2=conT (12:Int) z1→true=true∧Sub (PV.agg (wrapF (tmC z2))) (PV.agg (wrapF (tmC (pushT D S t is))))) (((Tw.mk t.kind t.name t.neg t.digits t.kids).size<n+1∧(Tw.mk t.kind t.name t.neg t.digits t.kids).fitT∧boolKids D S (Tw.mk t.kind t.name t.neg t.digits t.kids))∧∀ (z1:List Tw),z1=pushL D S (Tw.mk t.kind t.name t.neg t.digits t.kids).kids is→∀ (z2:Tw),z2=conT (11:Int) z1→true=true∧Sub (PV.agg (wrapF (tmC z2))) (PV.agg (wrapF (tmC (pushT D S t is)))))) (ifB (t.kind==(12:Int)) (ifB (!(t.kind==(11:Int))==is) (((Tw.mk t.kind t.name t.neg t.digits t.kids).size<n+1∧(Tw.mk t.kind t.name t.neg t.digits t.kids).fitT∧boolKids D S (Tw.mk t.kind t.name t.neg t.digits t.kids))∧∀ (z1:List Tw),z1=pushL D S (Tw.mk t.kind t.name t.neg t.digits t.kids).kids is→∀ (z2:Tw),z2=conT (12:Int) z1→true=true∧Sub (PV.agg (wrapF (tmC z2))) (PV.agg (wrapF (tmC (pushT D S t is))))) (((Tw.mk t.kind t.name t.neg t.digits t.kids).size<n+1∧(Tw.mk t.kind t.name t.neg t.digits t.kids).fitT∧boolKids D S (Tw.mk t.kind t.name t.neg t.digits t.kids))∧∀ (z1:List Tw),z1=pushL D S (Tw.mk t.kind t.name t.neg t.digits t.kids).kids is→∀ (z2:Tw),z2=conT (11:Int) z1→true=true∧Sub (PV.agg (wrapF (tmC z2))) (PV.agg (wrapF (tmC (pushT D S t is)))))) (ifB is (true=true∧Sub (PV.agg (wrapF (tmC t))) (PV.agg (wrapF (tmC (pushT D S t is))))) (((Tw.mk t.kind t.name t.neg t.digits t.kids).fitT∧((Tw.mk t.kind t.name t.neg t.digits t.kids).kind=(8:Int)∨(Tw.mk t.kind t.name t.neg t.digits t.kids).kind=(9:Int)→(Tw.mk t.kind t.name t.neg t.digits t.kids).kids.length=2))∧∀ (z1:Tw),z1=deniedT D S (Tw.mk t.kind t.name t.neg t.digits t.kids)→true=true∧Sub (PV.agg (wrapF (tmC z1))) (PV.agg (wrapF (tmC (pushT D S t is)))))))))))) ?kr ?_
      case kr=>kernel_rfl
      refine ifB_iff.2 ⟨fun hb0=>ifB_iff.2 ⟨fun hb1=>fun z1=>fun hz1=>⟨rfl,?m0⟩,fun hb1=>fun z1=>fun hz1=>⟨rfl,?m1⟩⟩,fun hb0=>ifB_iff.2 ⟨fun hb2=>ifB_iff.2 ⟨fun hb3=>fun z1=>fun hz1=>⟨rfl,?m2⟩,fun hb3=>fun z1=>fun hz1=>⟨rfl,?m3⟩⟩,fun hb2=>ifB_iff.2 ⟨fun hb4=>⟨?s0,⟨?s1,fun z1=>fun hz1=>⟨rfl,?m4⟩⟩⟩,fun hb4=>ifB_iff.2 ⟨fun hb5=>⟨?s2,fun z1=>fun hz1=>⟨rfl,?m5⟩⟩,fun hb5=>ifB_iff.2 ⟨fun hb6=>ifB_iff.2 ⟨fun hb7=>⟨?s3,fun z1=>fun hz1=>fun z2=>fun hz2=>⟨rfl,?m6⟩⟩,fun hb7=>⟨?s4,fun z1=>fun hz1=>fun z2=>fun hz2=>⟨rfl,?m7⟩⟩⟩,fun hb6=>ifB_iff.2 ⟨fun hb8=>ifB_iff.2 ⟨fun hb9=>⟨?s5,fun z1=>fun hz1=>fun z2=>fun hz2=>⟨rfl,?m8⟩⟩,fun hb9=>⟨?s6,fun z1=>fun hz1=>fun z2=>fun hz2=>⟨rfl,?m9⟩⟩⟩,fun hb8=>ifB_iff.2 ⟨fun hb10=>⟨rfl,?m10⟩,fun hb10=>⟨?s7,fun z1=>fun hz1=>⟨rfl,?m11⟩⟩⟩⟩⟩⟩⟩⟩⟩
      all_goals try simp only [Tw.eta,beq_iff_eq,beq_eq_false_iff_ne,ne_eq,Int.toNat_zero] at *
      all_goals have hq:=pushT_eq D S t is
      case m0=>rw [if_pos (.inl hb0),if_pos (by rw [← hb1,hb0]; rfl)] at hq; exact tm_fin (u:=pushT D S t is) (hz1.trans hq.symm)
      case m1=>rw [if_pos (.inl hb0),if_neg (by rw [hb0] at hb1 ⊢; exact hb1)] at hq; exact tm_fin (u:=pushT D S t is) (hz1.trans hq.symm)
      case m2=>rw [if_pos (.inr hb2),if_pos (by rw [← hb3,hb2]; rfl)] at hq; exact tm_fin (u:=pushT D S t is) (hz1.trans hq.symm)
      case m3=>rw [if_pos (.inr hb2),if_neg (by rw [hb2] at hb3 ⊢; exact hb3)] at hq; exact tm_fin (u:=pushT D S t is) (hz1.trans hq.symm)
      all_goals rw [if_neg (fun h=>h.elim hb0 hb2)] at hq
      case s0=>have:=m2.1 hb4; omega
      case s1 =>
       have h1:=m2.1 hb4
       have h2:=kidT_size (t:=t) (i:=0) (by omega)
       exact ⟨by omega,kidT_fit hf (by omega),sort_bools hs (.inl hb4) (by omega)⟩
      case m4 =>
       rw [if_pos hb4,pushL_at D S _ (by have:=m2.1 hb4; omega) _ Sh.tm.nil] at hq
       exact tm_fin (u:=pushT D S t is) (hz1.trans hq.symm)
      all_goals rw [if_neg hb4] at hq
      case s2=>exact ⟨hn,hf,fun i hi=>sort_bools hs (.inr (.inr (.inr hb5))) hi,m2.2.1 (.inr (.inr hb5))⟩
      case m5=>rw [if_pos hb5] at hq; exact tm_fin (u:=pushT D S t is) (hz1.trans hq.symm)
      all_goals rw [if_neg hb5] at hq
      case s3=>exact ⟨hn,hf,fun i hi=>sort_bools hs (.inr (.inl hb6)) hi⟩
      case s4=>exact ⟨hn,hf,fun i hi=>sort_bools hs (.inr (.inl hb6)) hi⟩
      case s5=>exact ⟨hn,hf,fun i hi=>sort_bools hs (.inr (.inr (.inl hb8))) hi⟩
      case s6=>exact ⟨hn,hf,fun i hi=>sort_bools hs (.inr (.inr (.inl hb8))) hi⟩
      case m6 =>
       rw [if_pos (.inl hb6),hb6,if_neg (by rw [hb6] at hb7; cases is <;> first | exact absurd hb7 (by decide) | decide)] at hq
       exact tm_fin (u:=pushT D S t is) (by rw [hq,hz2,hz1])
      case m7 =>
       rw [if_pos (.inl hb6),hb6,if_pos (by rw [hb6] at hb7; cases is <;> first | exact absurd hb7 (by decide) | decide)] at hq
       exact tm_fin (u:=pushT D S t is) (by rw [hq,hz2,hz1])
      case m8 =>
       rw [if_pos (.inr hb8),hb8,if_neg (by rw [hb8] at hb9; cases is <;> first | exact absurd hb9 (by decide) | decide)] at hq
       exact tm_fin (u:=pushT D S t is) (by rw [hq,hz2,hz1])
      case m9 =>
       rw [if_pos (.inr hb8),hb8,if_pos (by rw [hb8] at hb9; cases is <;> first | exact absurd hb9 (by decide) | decide)] at hq
       exact tm_fin (u:=pushT D S t is) (by rw [hq,hz2,hz1])
      all_goals rw [if_neg (fun h=>h.elim hb6 hb8)] at hq
      case m10=>rw [if_pos hb10] at hq; exact tm_fin (u:=pushT D S t is) hq.symm
      case s7=>exact ⟨hf,fun h=>m2.2.1 (h.imp id .inl)⟩
      case m11=>rw [if_neg (by rw [hb10]; decide)] at hq; exact tm_fin (u:=pushT D S t is) (hz1.trans hq.symm)
    · cases hs
  · cases hs
def sPushF:Spec
 | [x,.f (.v (.bool is))]=>match forOf x with
  | some (D,S,t)=>some (some (t.fitT∧sortT D S t=.ok bBool),.nm Tw (pushT D S t is) tmP)
  | none=>none
 | _=>none
theorem cPushF {E:Env} (hU:Up E):Contract Tryd.prog E 52 sPushF:=by
 intro xs p r hs hp
 unfold sPushF at hs
 split at hs
 · rename_i x is
   split at hs
   · rename_i D S t ht
     cases hs
     exact cPushN hU (t.size+1) [x,.f (.v (.bool is))] _ _ (by simp only [sPushN,ht]; rfl) (fun q hq=>by cases hq; exact ⟨Nat.lt_succ_self _,hp _ rfl⟩)
   · cases hs
 · cases hs
end Go.Proofs.YtdjnlgkpnjdchaaDoor
