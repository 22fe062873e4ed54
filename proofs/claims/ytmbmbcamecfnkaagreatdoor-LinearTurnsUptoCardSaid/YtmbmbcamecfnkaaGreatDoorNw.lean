/- What a term that has a sort comes to: a value of it. -/
import Derived.Test.YtmbmbcamecfnkaaGreatDoorFa
import Derived.Test.YtmbmbcamecfnkaaGreatDoorVr
namespace Go.Proofs.YtmbmbcamecfnkaaGreatDoor
open Go.RowKit
set_option linter.unusedVariables false
set_option maxRecDepth 100000
mutual
def Vw.fitV (m:Nat):Vw→Prop
 | .mk _ _ d _ n l=>n.size≤4611686018427387904∧d.length≤m∧l.length≤100000000∧QrO m l
def QrO (m:Nat):List Vw→Prop
 | []=>True
 | t::l=>t.fitV m∧QrO m l
def Vw.size:Vw→Nat
 | .mk _ _ _ _ _ l=>szVL l+1
def szVL:List Vw→Nat
 | []=>0
 | t::l=>t.size+szVL l
end
theorem Vw.size_eq (t:Vw):t.size=szVL t.fields+1:=by cases t; rfl
def conIx (l:List Cn) (s:ByteArray):Int:=anyB l fun c=>decide (c.name=s)
def conM:List Dat→ByteArray→Nat→Option (Nat × Nat)
 | [],_,_=>none
 | d::D,s,k=>if 0≤conIx d.cons s then some (k,(conIx d.cons s).toNat) else conM D s (k+1)
def fldsM (D:List Dat) (p:Nat × Nat):List ByteArray:=(((D.getD p.1 Sh.dat.nil).cons).getD p.2 Sh.con.nil).fields
def noneB (v:Vw):Bool:=(decide (v.kind=1) || (decide (v.digits.length=0) && !v.neg)) && (decide (v.kind=2) || !v.truth) && (decide (v.kind=3) || (decide (v.name=⟨#[]⟩) && decide (v.fields.length=0)))
mutual
def ofV (D:List Dat) (s:ByteArray):Vw→Bool
 | .mk k neg dg tr name fs=>noneB (.mk k neg dg tr name fs) &&
  (if k=1 then decide (s=bInt) && Qak neg dg
  else if k=2 then decide (s=bBool)
  else if k=3 then dataB D s && (if name=⟨#[]⟩ then decide (fs.length=0) else match conM D name 0 with
   | none=>false
   | some p=>decide ((D.getD p.1 Sh.dat.nil).name=s) && (decide ((fldsM D p).length=fs.length) && ofVL D (fldsM D p) fs))
  else false)
def ofVL (D:List Dat):List ByteArray→List Vw→Bool
 | s::l,v::m=>ofV D s v && ofVL D l m
 | _,_=>true
end
end Go.Proofs.YtmbmbcamecfnkaaGreatDoor
namespace Go.Proofs.YtmbmbcamecfnkaaGreatDoor
open Go.RowKit
set_option linter.unusedVariables false
set_option maxRecDepth 100000
theorem Vw.ext {t u:Vw} (h1:t.kind=u.kind) (h2:t.neg=u.neg) (h3:t.digits=u.digits) (h4:t.truth=u.truth) (h5:t.name=u.name) (h6:t.fields=u.fields):t=u:=by
 rw [← t.eta,← u.eta,h1,h2,h3,h4,h5,h6]
end Go.Proofs.YtmbmbcamecfnkaaGreatDoor
namespace Go.Proofs.YtmbmbcamecfnkaaGreatDoor
open Go.RowKit
set_option linter.unusedVariables false
set_option maxRecDepth 100000
def outR:Rs→Out
 | .one x=>.ret x []
 | .nm α e r=>.nm α e fun y=>.ret (r y) []
 | .nm2 α β e e' r=>.nm α e fun y=>.nm β e' fun y'=>.ret (r y y') []
def upS (sp:Spec):Spec2:=fun xs ob=>match ob with
 | []=>match QgK (Qde xs),sp (Qde xs) with
  | true,some (some p,r)=>some (.need p (outR r))
  | true,some (none,r)=>some (outR r)
  | _,_=>none
 | _::_=>none
theorem Qmq (r:Rs):(outR r).fin=(true,r.out,[]):=by cases r <;> rfl
theorem Contract.up {P:Program} {E:Env} {f:FuncId} {sp:Spec} (hU:Up E) (h:Contract P E f sp):Contract2 P E f (upS sp):=by
 intro xs ob o hs hok K w g vs hK hO hfull hE hvs
 cases ob with
 | cons x ob=>cases hs
 | nil =>
  have key:∀ p r,QgK (Qde xs)=true→sp (Qde xs)=some (p,r)→(∀ q,p=some q→q)→o.fin=(true,r.out,[]) →
    Calls P f vs.toArray w fun e w'=>∃ g' v,ExtK ⟨K,w,g.B,[]⟩ g.H w' g'.H∧Obs K o.fin.2.2 g' w'∧(∀ i,i<o.fin.2.2.length→∃ u,g'.B i=some u)∧(∀ i p,FixB g.B i p→g'.B i=some p)∧PR g'.H g'.B v o.fin.2.1 ∧
     e=(match o.fin.1 with | true=>.returned v | false=>.panicked [{ v,recovered:=false }]):=by
   intro p r hpu hsp hp hfin
   rw [hfin]
   have hfl:PRs g.H g.B vs (Qde xs):=⟨by rw [QcI]; exact hvs.1,fun i v x hv hx=>by
    rw [QiS] at hx
    cases hx':xs[i]? with
    | none=>rw [hx'] at hx; cases hx
    | some y=>rw [hx'] at hx; cases hx; exact (hvs.2 i v y hv hx').flat⟩
   refine (h (Qde xs) p r hsp hp w g.H vs hO.fro (hU.more K _ w g.H hK hE) (hfl.pure hpu)).mono ?_
   rintro e w' ⟨H',v,rfl,hext,hpr⟩
   have hdom:∀ o u,g.B o=some u→False:=fun o u hb=>absurd (hO.dom o u hb) (Nat.not_lt_zero _)
   refine ⟨⟨H',g.B⟩,v,(ExtK.refl (c:=⟨K,w,g.B,[]⟩) hO.fro hK).trans hext,?_,fun i hi=>absurd hi (Nat.not_lt_zero _),fun i p hp=>hp.1,hpr.mono (Hp.le_refl _) (B0.le _),rfl⟩
   exact hO.ext hext
  unfold upS at hs
  dsimp only at hs
  split at hs
  · rename_i p r hpu hsp
    cases hs
    exact key (some p) r hpu hsp (fun q hq=>by cases hq; exact hok.1) (Qmq r)
  · rename_i r hpu hsp
    cases hs
    exact key none r hpu hsp (fun q hq=>by cases hq) (Qmq r)
  · cases hs
end Go.Proofs.YtmbmbcamecfnkaaGreatDoor
namespace Go.Proofs.YtmbmbcamecfnkaaGreatDoor
open Go.RowKit
set_option linter.unusedVariables false
set_option maxRecDepth 100000
mutual
def cntT:Tw→Nat
 | .mk _ n _ d l=>1+n.size / 8+d.length+QbT l
def QbT:List Tw→Nat
 | []=>0
 | t::l=>cntT t+QbT l
end
theorem Qg8 (t:Tw):cntT t=1+t.name.size / 8+t.digits.length+QbT t.kids:=by cases t; rfl
theorem QrZ (t:Tw):1≤cntT t:=by rw [Qg8]; omega
theorem Qkb:∀ l:List Tw,l.length≤QbT l
 | []=>Nat.le_refl _
 | t::l=>by
  have:=Qkb l
  have:=QrZ t
  simp only [List.length_cons,QbT]; omega
mutual
theorem Vw.fitV.mono:∀ {v:Vw} {m m':Nat},v.fitV m→m≤m'→v.fitV m'
 | .mk k b d t n l,m,m',h,hm=>⟨h.1,Nat.le_trans h.2.1 hm,h.2.2.1,QhP h.2.2.2 hm⟩
theorem QhP:∀ {l:List Vw} {m m':Nat},QrO m l→m≤m'→QrO m' l
 | [],_,_,_,_=>trivial
 | v::l,m,m',h,hm=>⟨h.1.mono hm,QhP h.2 hm⟩
end
theorem Tw.fitT.nm {t:Tw} (h:t.fitT):t.name.size≤4611686018427387904:=((Tw.fitT_eq t).1 h).1
end Go.Proofs.YtmbmbcamecfnkaaGreatDoor
namespace Go.Proofs.YtmbmbcamecfnkaaGreatDoor
open Go.RowKit
set_option linter.unusedVariables false
set_option maxRecDepth 100000
mutual
theorem Qka:∀ v:Tw,v.size≤cntT v
 | .mk _ _ _ _ l=>by
  have:=QhT l
  rw [Tw.size_eq,cntT]
  simp only [Tw.kids]; omega
theorem QhT:∀ l:List Tw,szL l≤QbT l
 | []=>by simp [szL]
 | v::l=>by
  have:=Qka v
  have:=QhT l
  rw [szL,QbT]; omega
end
end Go.Proofs.YtmbmbcamecfnkaaGreatDoor
namespace Go.Proofs.YtmbmbcamecfnkaaGreatDoor
open Go.RowKit
set_option linter.unusedVariables false
set_option maxRecDepth 100000
section
variable {D : List Dat} {B : List Bnd} {s t : Tw} {v w : Vw}
end
section
variable {D : List Dat} {v : Vw} {s : ByteArray}
end
def OfL (D:List Dat):List ByteArray→List Vw→Prop
 | [],[]=>True
 | s::m,v::l=>ofV D s v=true∧OfL D m l
 | _,_=>False
theorem OfL.len {D:List Dat}:∀ {m:List ByteArray} {l:List Vw},OfL D m l→l.length=m.length
 | [],[],_=>rfl
 | _::_,_::_,h=>by simp [h.2.len]
theorem OfL.all {D:List Dat} {s:ByteArray}:∀ {m:List ByteArray} {l:List Vw},OfL D m l→QuE m s=true→∀ v∈l,ofV D s v=true
 | [],[],_,_,v,hv=>by cases hv
 | x::m,u::l,h,ha,v,hv=>by
  unfold QuE at ha
  rw [List.all_cons,Bool.and_eq_true,decide_eq_true_eq] at ha
  rcases List.mem_cons.1 hv with rfl | hv
  · rw [← ha.1]; exact h.1
  · exact h.2.all (show QuE m s=true from ha.2) v hv
theorem OfL.at {D:List Dat}:∀ {m:List ByteArray} {l:List Vw} {i:Nat},OfL D m l→i<m.length→ofV D (m.getD i ⟨#[]⟩) (l.getD i Sh.vl.nil)=true
 | x::m,u::l,0,h,_=>h.1
 | x::m,u::l,i+1,h,hi=>by
  rw [List.getD_cons_succ,List.getD_cons_succ]
  exact h.2.at (by simpa using hi)
section
variable {D : List Dat} {S : List Srt} {V : List Vw}
end
mutual
theorem Qm0:∀ (t:Tw),cntT t≤400000→t.fitT
 | .mk k n b d l,h=>by
  unfold cntT at h
  have h1:=Qkb l
  exact ⟨by omega,by omega,by omega,Qkc l (by omega)⟩
theorem Qkc:∀ (l:List Tw),QbT l≤400000→Qn6 l
 | [],_=>trivial
 | v::l,h=>by
  unfold QbT at h
  exact ⟨Qm0 v (by omega),Qkc l (by omega)⟩
end
end Go.Proofs.YtmbmbcamecfnkaaGreatDoor
