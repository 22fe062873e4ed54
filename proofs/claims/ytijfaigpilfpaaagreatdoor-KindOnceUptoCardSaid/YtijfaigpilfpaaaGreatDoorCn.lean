/- How much there is, as far as it is asked: the kit's counts. -/
import Derived.Test.YtijfaigpilfpaaaGreatDoorFa
import Derived.Test.YtijfaigpilfpaaaGreatDoorVt
set_option linter.unusedSimpArgs false
namespace Go.Proofs.YtijfaigpilfpaaaGreatDoor
open Go.RowKit
set_option linter.unusedVariables false
set_option maxRecDepth 100000
mutual
def Vw.fitV (m:Nat):Vw→Prop
 | .mk _ _ d _ n l=>n.size≤4611686018427387904∧d.length≤m∧l.length≤100000000∧QqR m l
def QqR (m:Nat):List Vw→Prop
 | []=>True
 | t::l=>t.fitV m∧QqR m l
def Vw.size:Vw→Nat
 | .mk _ _ _ _ _ l=>szVL l+1
def szVL:List Vw→Nat
 | []=>0
 | t::l=>t.size+szVL l
end
theorem Vw.size_eq (t:Vw):t.size=szVL t.fields+1:=by cases t; rfl
end Go.Proofs.YtijfaigpilfpaaaGreatDoor
namespace Go.Proofs.YtijfaigpilfpaaaGreatDoor
open Go.RowKit
set_option linter.unusedVariables false
set_option maxRecDepth 100000
def sEqD:Spec
 | [.f x,.f y]=>match QfT x,QfT y with
  | some l,some m=>some (some (l.length≤40000000),.nm Bool (decide (l=m)) bV)
  | _,_=>none
 | _=>none
theorem QlZ {x:Lf} {l:List Nat} (h:QfT x=some l):SubB (.f x) (.f (.lr l l.length)):=⟨fun H B v hv=>.f (QfS h H v hv.rd)⟩
theorem cEqD {E:Env} (hU:Up E):Contract Tryz.prog E 101 sEqD:=by
 refine Qac [] [] Tryz.ntmps101 Tryz.func101 (by kernel_rfl) (by kernel_rfl) hU trivial trivial ?_
 intro xs p r hs hp
 unfold sEqD at hs
 split at hs
 · rename_i x y
   split at hs
   · rename_i l m hl hm
     cases hs
     have hf:=hp _ rfl
     refine ⟨[.f (.lr l l.length),.f (.lr m m.length)],[(4,.s ⟨Nat,fun i=>⟨[(0,.f (.lr l l.length)),(1,.f (.lr m m.length)),(12,iV l.length),(13,iV i)],[]⟩,fun i=>i≤l.length∧l.length=m.length∧l.take i=m.take i,fun i=>l.length - i⟩)],.cons (QlZ hl).sub (.cons (QlZ hm).sub .nil),rfl,fun _ hsh=>?_⟩
     refine Qab (p:=ifB ((↑l.length:Int) != (↑m.length:Int)) (true=true∧Sub (bV false) (bV (decide (l=m)))) (∃ (x1:Nat),(True∧rfB (PV.f (Lf.lr l l.length))∧rfB (PV.f (Lf.lr m m.length))∧rfB (iV (↑l.length:Int))∧SubB (iV 0) (iV (↑x1:Int))∧True)∧(x1≤l.length∧l.length=m.length∧List.take x1 l=List.take x1 m)∧True∧∀ (z2:Nat),z2≤l.length∧l.length=m.length∧List.take z2 l=List.take z2 m→True→ifB (decide ((↑z2:Int)<(↑l.length:Int))) (((0:Int)≤(↑z2:Int)∧(↑z2:Int)<(↑l.length:Int))∧((0:Int)≤(↑z2:Int)∧(↑z2:Int)<(↑m.length:Int))∧ifB ((↑(l.getD (↑z2:Int).toNat 0):Int) != (↑(m.getD (↑z2:Int).toNat 0):Int)) (true=true∧Sub (bV false) (bV (decide (l=m)))) (∃ (x3:Nat),(True∧rfB (PV.f (Lf.lr l l.length))∧rfB (PV.f (Lf.lr m m.length))∧rfB (iV (↑l.length:Int))∧SubB (iV (IntKind.i64.wrap ((↑z2:Int)+(1:Int)))) (iV (↑x3:Int))∧True)∧(x3≤l.length∧l.length=m.length∧List.take x3 l=List.take x3 m)∧True∧(l.length - x3).succ.le (l.length - z2))) (true=true∧Sub (bV true) (bV (decide (l=m)))))) ?kr ?_
     case kr=>kernel_rfl
     refine Qaa.2 ⟨fun hb0=>⟨rfl,?m0⟩,fun hb0=>⟨?x0,⟨⟨trivial,⟨.refl _,⟨.refl _,⟨.refl _,⟨?m1,trivial⟩⟩⟩⟩⟩,⟨?s0,⟨trivial,fun z2=>fun hq1=>fun _=>Qaa.2 ⟨fun hb2=>⟨?s1,⟨?s2,Qaa.2 ⟨fun hb3=>⟨rfl,?m2⟩,fun hb3=>⟨?x1,⟨⟨trivial,⟨.refl _,⟨.refl _,⟨.refl _,⟨?m3,trivial⟩⟩⟩⟩⟩,⟨?s3,⟨trivial,?m4⟩⟩⟩⟩⟩⟩⟩,fun hb2=>⟨rfl,?m5⟩⟩⟩⟩⟩⟩⟩
     case x0=>exact 0
     case x1=>exact z2+1
     all_goals try simp only [bne_iff_ne,ne_eq,bne_eq_false_iff_eq,decide_eq_true_eq,decide_eq_false_iff_not,Int.toNat_natCast,Int.natCast_inj] at *
     case m0=>exact (Qah (decide_eq_false fun h=>hb0 (by rw [h])).symm).sub
     case m1=>exact .refl _
     case s0=>exact ⟨Nat.zero_le _,hb0,rfl⟩
     case m5 =>
      refine (Qah (decide_eq_true ?_).symm).sub
      have h:=hq1.2.2
      rwa [List.take_of_length_le (by omega),List.take_of_length_le (by omega)] at h
     case s1=>omega
     case s2=>have:=hq1.2.1; omega
     case m2=>exact (Qah (decide_eq_false fun h=>hb3 (by rw [h])).symm).sub
     case m3=>exact Qad (by rw [wJ _ (by omega) (by omega)]; rfl)
     case s3=>exact ⟨by omega,hq1.2.1,QbQ 0 (by omega) (by have:=hq1.2.1; omega) hq1.2.2 hb3⟩
     case m4=>exact (by omega:l.length - (z2+1)<l.length - z2)
   · cases hs
 · cases hs
theorem Vw.ext {t u:Vw} (h1:t.kind=u.kind) (h2:t.neg=u.neg) (h3:t.digits=u.digits) (h4:t.truth=u.truth) (h5:t.name=u.name) (h6:t.fields=u.fields):t=u:=by
 rw [← t.eta,← u.eta,h1,h2,h3,h4,h5,h6]
end Go.Proofs.YtijfaigpilfpaaaGreatDoor
namespace Go.Proofs.YtijfaigpilfpaaaGreatDoor
open Go.RowKit
set_option linter.unusedVariables false
set_option maxRecDepth 100000
def outR:Rs→Out
 | .one x=>.ret x []
 | .nm α e r=>.nm α e fun y=>.ret (r y) []
 | .nm2 α β e e' r=>.nm α e fun y=>.nm β e' fun y'=>.ret (r y y') []
def upS (sp:Spec):Spec2:=fun xs ob=>match ob with
 | []=>match Qfr (QcF xs),sp (QcF xs) with
  | true,some (some p,r)=>some (.need p (outR r))
  | true,some (none,r)=>some (outR r)
  | _,_=>none
 | _::_=>none
theorem Qlq (r:Rs):(outR r).fin=(true,r.out,[]):=by cases r <;> rfl
theorem Contract.up {P:Program} {E:Env} {f:FuncId} {sp:Spec} (hU:Up E) (h:Contract P E f sp):Contract2 P E f (upS sp):=by
 intro xs ob o hs hok K w g vs hK hO hfull hE hvs
 cases ob with
 | cons x ob=>cases hs
 | nil =>
  have key:∀ p r,Qfr (QcF xs)=true→sp (QcF xs)=some (p,r)→(∀ q,p=some q→q)→o.fin=(true,r.out,[]) →
    Calls P f vs.toArray w fun e w'=>∃ g' v,ExtK ⟨K,w,g.B,[]⟩ g.H w' g'.H∧Obs K o.fin.2.2 g' w'∧(∀ i,i<o.fin.2.2.length→∃ u,g'.B i=some u)∧(∀ i p,FixB g.B i p→g'.B i=some p)∧PR g'.H g'.B v o.fin.2.1 ∧
     e=(match o.fin.1 with | true=>.returned v | false=>.panicked [{ v,recovered:=false }]):=by
   intro p r hpu hsp hp hfin
   rw [hfin]
   have hfl:PRs g.H g.B vs (QcF xs):=⟨by rw [Qcc]; exact hvs.1,fun i v x hv hx=>by
    rw [QhA] at hx
    cases hx':xs[i]? with
    | none=>rw [hx'] at hx; cases hx
    | some y=>rw [hx'] at hx; cases hx; exact (hvs.2 i v y hv hx').flat⟩
   refine (h (QcF xs) p r hsp hp w g.H vs hO.fro (hU.more K _ w g.H hK hE) (hfl.pure hpu)).mono ?_
   rintro e w' ⟨H',v,rfl,hext,hpr⟩
   have hdom:∀ o u,g.B o=some u→False:=fun o u hb=>absurd (hO.dom o u hb) (Nat.not_lt_zero _)
   refine ⟨⟨H',g.B⟩,v,(ExtK.refl (c:=⟨K,w,g.B,[]⟩) hO.fro hK).trans hext,?_,fun i hi=>absurd hi (Nat.not_lt_zero _),fun i p hp=>hp.1,hpr.mono (Hp.le_refl _) (B0.le _),rfl⟩
   exact hO.ext hext
  unfold upS at hs
  dsimp only at hs
  split at hs
  · rename_i p r hpu hsp
    cases hs
    exact key (some p) r hpu hsp (fun q hq=>by cases hq; exact hok.1) (Qlq r)
  · rename_i r hpu hsp
    cases hs
    exact key none r hpu hsp (fun q hq=>by cases hq) (Qlq r)
  · cases hs
end Go.Proofs.YtijfaigpilfpaaaGreatDoor
namespace Go.Proofs.YtijfaigpilfpaaaGreatDoor
open Go.RowKit
set_option linter.unusedVariables false
set_option maxRecDepth 100000
mutual
def cntT:Tw→Nat
 | .mk _ n _ d l=>1+n.size / 8+d.length+Qat l
def Qat:List Tw→Nat
 | []=>0
 | t::l=>cntT t+Qat l
end
theorem Qpc (t:Tw):cntT t=1+t.name.size / 8+t.digits.length+Qat t.kids:=by cases t; rfl
theorem Qq2 (t:Tw):1≤cntT t:=by rw [Qpc]; omega
theorem Qi4:∀ l:List Tw,l.length≤Qat l
 | []=>Nat.le_refl _
 | t::l=>by
  have:=Qi4 l
  have:=Qq2 t
  simp only [List.length_cons,Qat]; omega
theorem Ql3:∀ {l:List Tw} {i:Nat} (d:Tw),i<l.length→cntT (l.getD i d)≤Qat l
 | t::l,0,d,_=>by simp [Qat]
 | t::l,i+1,d,h=>by
  have:=Ql3 (l:=l) (i:=i) d (by simpa using h)
  simp only [List.getD_cons_succ,Qat]; omega
mutual
theorem Vw.fitV.mono:∀ {v:Vw} {m m':Nat},v.fitV m→m≤m'→v.fitV m'
 | .mk k b d t n l,m,m',h,hm=>⟨h.1,Nat.le_trans h.2.1 hm,h.2.2.1,QgA h.2.2.2 hm⟩
theorem QgA:∀ {l:List Vw} {m m':Nat},QqR m l→m≤m'→QqR m' l
 | [],_,_,_,_=>trivial
 | v::l,m,m',h,hm=>⟨h.1.mono hm,QgA h.2 hm⟩
end
theorem Tw.fitT.nm {t:Tw} (h:t.fitT):t.name.size≤4611686018427387904:=((Tw.fitT_eq t).1 h).1
end Go.Proofs.YtijfaigpilfpaaaGreatDoor
namespace Go.Proofs.YtijfaigpilfpaaaGreatDoor
open Go.RowKit
set_option linter.unusedVariables false
set_option maxRecDepth 100000
mutual
def capT:Int→Tw→Int
 | m,.mk _ n _ d l=>1+(n.size / 8:Nat)+(d.length:Nat)+Qa1 (m - 1) l
def Qa1:Int→List Tw→Int
 | _,[]=>0
 | m,t::l=>if 0≤m then capT m t+Qa1 (m - capT m t) l else 0
end
theorem Qty (m:Int) (t:Tw):capT m t=1+(t.name.size / 8:Nat)+(t.digits.length:Nat)+Qa1 (m - 1) t.kids:=by cases t; rw [capT]; rfl
mutual
theorem Qcv:∀ (t:Tw) (m:Int),1≤capT m t∧capT m t≤cntT t
 | .mk k n b d l,m=>by
  have:=Qf2 l (m - 1)
  rw [capT,cntT]; omega
theorem Qf2:∀ (l:List Tw) (m:Int),0≤Qa1 m l∧Qa1 m l≤Qat l
 | [],m=>by simp [Qa1,Qat]
 | t::l,m=>by
  have h1:=Qcv t m
  have h2:=Qf2 l (m - capT m t)
  rw [Qa1,Qat]
  split <;> omega
end
def cntK:List Cn→Nat
 | []=>0
 | c::l=>1+c.name.size / 8+c.fields.length+cntK l
def capK:Int→List Cn→Int
 | _,[]=>0
 | m,c::l=>if 0≤m then ((1+c.name.size / 8+c.fields.length:Nat):Int)+capK (m - ((1+c.name.size / 8+c.fields.length:Nat):Int)) l else 0
def cntD:List Dat→Nat
 | []=>0
 | d::l=>1+d.name.size / 8+cntK d.cons+cntD l
def Qm9 (m:Int) (d:Dat):Int:=((1+d.name.size / 8:Nat):Int)+capK (m - ((1+d.name.size / 8:Nat):Int)) d.cons
def capD:Int→List Dat→Int
 | _,[]=>0
 | m,d::l=>if 0≤m then Qm9 m d+capD (m - Qm9 m d) l else 0
theorem Qq7:∀ (l:List Tw) (i:Nat) (m n:Int),Qa1 m l=n+Qa1 (m - n) (l.drop i)→i<l.length→n≤m→Qa1 m l=(n+capT (m - n) (l.getD i Sh.tm.nil))+Qa1 (m - (n+capT (m - n) (l.getD i Sh.tm.nil))) (l.drop (i+1)):=by
 intro l i m n h hi hn
 rw [h]
 have e:l.drop i=l.getD i Sh.tm.nil::l.drop (i+1):=by
  rw [List.getD_eq_getElem?_getD,List.getElem?_eq_getElem hi,Option.getD_some,List.drop_eq_getElem_cons hi]
 rw [e,Qa1,if_pos (by omega),Int.add_assoc,show m - n - capT (m - n) (l.getD i Sh.tm.nil)=m - (n+capT (m - n) (l.getD i Sh.tm.nil)) by omega]
theorem QgK {l:List Tw} {i:Nat} {m n:Int} (h:Qa1 m l=n+Qa1 (m - n) (l.drop i)) (hi:¬ i<l.length∨¬ n≤m):Qa1 m l=n:=by
 rw [h]
 rcases hi with hi | hi
 · rw [List.drop_eq_nil_of_le (by omega),Qa1]; omega
 · cases hd:l.drop i with
   | nil=>rw [Qa1]; omega
   | cons t r=>rw [Qa1,if_neg (by omega)]; omega
theorem QtB:∀ (l:List Cn) (i:Nat) (m n:Int) (c:Int),c=n+capK (m - n) (l.drop i)→i<l.length→n≤m→c=(n+((1+(Cn.name (l.getD i Sh.con.nil)).size / 8+(Cn.fields (l.getD i Sh.con.nil)).length:Nat):Int))+capK (m - (n+((1+(Cn.name (l.getD i Sh.con.nil)).size / 8+(Cn.fields (l.getD i Sh.con.nil)).length:Nat):Int))) (l.drop (i+1)):=by
 intro l i m n c h hi hn
 rw [h]
 have e:l.drop i=l.getD i Sh.con.nil::l.drop (i+1):=by
  rw [List.getD_eq_getElem?_getD,List.getElem?_eq_getElem hi,Option.getD_some,List.drop_eq_getElem_cons hi]
 rw [e,capK,if_pos (by omega),Int.add_assoc,Int.sub_sub]
theorem Qje {l:List Cn} {i:Nat} {m n c:Int} (h:c=n+capK (m - n) (l.drop i)) (hi:¬ i<l.length∨¬ n≤m):c=n:=by
 rw [h]
 rcases hi with hi | hi
 · rw [List.drop_eq_nil_of_le (by omega),capK]; omega
 · cases hd:l.drop i with
   | nil=>rw [capK]; omega
   | cons t r=>rw [capK,if_neg (by omega)]; omega
theorem QtC:∀ (l:List Dat) (i:Nat) (m n:Int),capD m l=n+capD (m - n) (l.drop i)→i<l.length→n≤m→capD m l=(n+Qm9 (m - n) (l.getD i Sh.dat.nil))+capD (m - (n+Qm9 (m - n) (l.getD i Sh.dat.nil))) (l.drop (i+1)):=by
 intro l i m n h hi hn
 rw [h]
 have e:l.drop i=l.getD i Sh.dat.nil::l.drop (i+1):=by
  rw [List.getD_eq_getElem?_getD,List.getElem?_eq_getElem hi,Option.getD_some,List.drop_eq_getElem_cons hi]
 rw [e,capD,if_pos (by omega),Int.add_assoc,Int.sub_sub]
theorem Qjf {l:List Dat} {i:Nat} {m n:Int} (h:capD m l=n+capD (m - n) (l.drop i)) (hi:¬ i<l.length∨¬ n≤m):capD m l=n:=by
 rw [h]
 rcases hi with hi | hi
 · rw [List.drop_eq_nil_of_le (by omega),capD]; omega
 · cases hd:l.drop i with
   | nil=>rw [capD]; omega
   | cons t r=>rw [capD,if_neg (by omega)]; omega
theorem QcU:∀ l m:List Tw,Qat (l++m)=Qat l+Qat m
 | [],m=>by simp [Qat]
 | x::l,m=>by
  have:=QcU l m
  simp only [List.cons_append,Qat,this]
  omega
theorem QgF (l:List Tw) (i:Nat):Qat (l.take i)≤Qat l:=by
 have:=QcU (l.take i) (l.drop i)
 rw [List.take_append_drop] at this
 omega
theorem Qm1 {l:List Tw} {i:Nat} (h:i<l.length):Qat (l.take (i+1))=Qat (l.take i)+cntT (l.getD i Sh.tm.nil):=by
 rw [List.take_add_one,QcU,List.getElem?_eq_getElem h,List.getD_eq_getElem?_getD,List.getElem?_eq_getElem h]
 simp only [Option.toList_some,Option.getD_some,Qat]
 omega
theorem QhM:∀ l m:List Cn,cntK (l++m)=cntK l+cntK m
 | [],m=>by simp [cntK]
 | x::l,m=>by
  have:=QhM l m
  simp only [List.cons_append,cntK,this]
  omega
theorem Qi7 (l:List Cn) (i:Nat):cntK (l.take i)≤cntK l:=by
 have:=QhM (l.take i) (l.drop i)
 rw [List.take_append_drop] at this
 omega
theorem Qpg {l:List Cn} {i:Nat} (h:i<l.length):cntK (l.take (i+1))=cntK (l.take i)+(1+(Cn.name (l.getD i Sh.con.nil)).size / 8+(Cn.fields (l.getD i Sh.con.nil)).length):=by
 rw [List.take_add_one,QhM,List.getElem?_eq_getElem h,List.getD_eq_getElem?_getD,List.getElem?_eq_getElem h]
 simp only [Option.toList_some,Option.getD_some,cntK]
 omega
theorem QhN:∀ l m:List Dat,cntD (l++m)=cntD l+cntD m
 | [],m=>by simp [cntD]
 | x::l,m=>by
  have:=QhN l m
  simp only [List.cons_append,cntD,this]
  omega
theorem Qi8 (l:List Dat) (i:Nat):cntD (l.take i)≤cntD l:=by
 have:=QhN (l.take i) (l.drop i)
 rw [List.take_append_drop] at this
 omega
theorem Qph {l:List Dat} {i:Nat} (h:i<l.length):cntD (l.take (i+1))=cntD (l.take i)+(1+(Dat.name (l.getD i Sh.dat.nil)).size / 8+cntK (Dat.cons (l.getD i Sh.dat.nil))):=by
 rw [List.take_add_one,QhN,List.getElem?_eq_getElem h,List.getD_eq_getElem?_getD,List.getElem?_eq_getElem h]
 simp only [Option.toList_some,Option.getD_some,cntD]
 omega
mutual
theorem Qcf:∀ v:Tw,v.size≤cntT v
 | .mk _ _ _ _ l=>by
  have:=Qer l
  rw [Tw.size_eq,cntT]
  simp only [Tw.kids]; omega
theorem Qer:∀ l:List Tw,szL l≤Qat l
 | []=>by simp [szL]
 | v::l=>by
  have:=Qcf v
  have:=Qer l
  rw [szL,Qat]; omega
end
theorem Qpo {l:List Dat} {i:Nat} {m n n':Int} (h:capD m l=n+capD (m - n) (l.drop i)) (hi:i<l.length) (hn:n≤m)
  (hk:(n+((1+(Dat.name (l.getD i Sh.dat.nil)).size / 8:Nat):Int))+capK (m - (n+((1+(Dat.name (l.getD i Sh.dat.nil)).size / 8:Nat):Int))) ((Dat.cons (l.getD i Sh.dat.nil)).drop 0)=n'):capD m l=n'+capD (m - n') (l.drop (i+1)):=by
 rw [QtC l i m n h hi hn]
 have e:n+Qm9 (m - n) (l.getD i Sh.dat.nil)=n':=by
  unfold Qm9
  rw [List.drop_zero] at hk
  rw [← hk,Int.add_assoc,Int.sub_sub]
 rw [e]
theorem Ql4:∀ l:List Cn,l.length≤cntK l
 | []=>Nat.le_refl _
 | t::l=>by
  have:=Ql4 l
  simp only [List.length_cons,cntK]; omega
end Go.Proofs.YtijfaigpilfpaaaGreatDoor
namespace Go.Proofs.YtijfaigpilfpaaaGreatDoor
open Go.RowKit
set_option linter.unusedVariables false
set_option maxRecDepth 100000
def Qc5 (n:Nat):Spec
 | [x,.f (.v (.int .i64 m))]=>match tmOf x with
  | some t=>some (some (2 * t.size<n∧cntT t≤4000000∧0≤m∧m≤4000000),.nm Int (capT m t) iV)
  | none=>none
 | _=>none
def QcH (n:Nat):Spec
 | [.f (.dt .tm l),.f (.v (.int .i64 m))]=>some (some (2 * szL l+1<n∧Qat l≤4000000∧-1≤m∧m≤4000000),.nm Int (Qa1 m l) iV)
 | _=>none
theorem Qpv {E:Env} (hU:Up E):∀ n,Contract Tryz.prog E 96 (Qc5 n)∧Contract Tryz.prog E 35 (QcH n)
 | 0=>by
  refine ⟨fun xs p r hs hp=>?_,fun xs p r hs hp=>?_⟩
  · unfold Qc5 at hs
    split at hs
    · split at hs
      · cases hs
        exact absurd (hp _ rfl).1 (Nat.not_lt_zero _)
      · cases hs
    · cases hs
  · unfold QcH at hs
    split at hs
    · cases hs
      exact absurd (hp _ rfl).1 (Nat.not_lt_zero _)
    · cases hs
 | n+1=>by
  refine ⟨?_,?_⟩
  · refine Qac [(35,QcH n)] [] Tryz.ntmps96 Tryz.func96 (by kernel_rfl) (by kernel_rfl) hU ⟨(Qpv hU n).2,trivial⟩ trivial ?_
    intro xs p r hs hp
    unfold Qc5 at hs
    split at hs
    · rename_i x m
      split at hs
      · rename_i t ht
        cases hs
        obtain ⟨hn,hc,hm0,hm⟩:=hp _ rfl
        refine ⟨[tmP t,.f (.v (.int .i64 m))],[],.cons (QaG ht).sub (.cons (.refl _) .nil),rfl,fun _ hsh=>?_⟩
        refine Qab (p:=(2 * szL t.kids+1<n∧Qat t.kids≤4000000∧(-1:Int)≤IntKind.i64.wrap (m - (1:Int))∧IntKind.i64.wrap (m - (1:Int))≤(4000000:Int))∧∀ (z1:Int),z1=Qa1 (IntKind.i64.wrap (m - (1:Int))) t.kids→true=true∧Sub (iV (IntKind.i64.wrap (IntKind.i64.wrap (IntKind.i64.wrap ((1:Int)+IntKind.i64.wrap ((↑t.name.size:Int).tdiv (8:Int)))+(↑t.digits.length:Int))+z1))) (iV (capT m t))) ?kr ?_
        case kr=>kernel_rfl
        refine ⟨?s0,fun z1=>fun hz1=>⟨rfl,?m0⟩⟩
        all_goals have e1:IntKind.i64.wrap (m - 1)=m - 1:=wJ _ (by omega) (by omega)
        all_goals have q:=Qpc t
        all_goals have q1:=t.size_eq
        all_goals have e8:((t.name.size:Int)).tdiv 8=((t.name.size / 8:Nat):Int):=(Int.ofNat_tdiv _ 8).symm
        all_goals have r:=Qf2 t.kids (m - 1)
        case s0=>rw [e1]; exact ⟨by omega,by omega,by omega,by omega⟩
        case m0 =>
         rw [e1] at hz1
         have p:=Qty m t
         refine (Qad ?_).sub
         rw [e8]
         simp (disch:=omega) only [wJ]
         omega
      · cases hs
    · cases hs
  · refine Qac [(96,Qc5 n)] [] Tryz.ntmps35 Tryz.func35 (by kernel_rfl) (by kernel_rfl) hU ⟨(Qpv hU n).1,trivial⟩ trivial ?_
    intro xs p r hs hp
    unfold QcH at hs
    split at hs
    · rename_i l m
      cases hs
      obtain ⟨hn,hc,hm0,hm⟩:=hp _ rfl
      refine ⟨[.f (.dt .tm l),.f (.v (.int .i64 m))],[(3,.s ⟨Nat × Int,fun y=>⟨[(0,.f (.dt .tm l)),(1,iV m),(5,iV y.2),(6,iV y.1)],[]⟩,fun y=>y.1≤l.length∧Qa1 m l=y.2+Qa1 (m - y.2) (l.drop y.1)∧0≤y.2∧y.2≤Qat (l.take y.1),fun y=>l.length - y.1⟩)],.cons (.refl _) (.cons (.refl _) .nil),rfl,fun _ hsh=>?_⟩
      have hl:=Qap hsh.1
      refine Qab (p:=∃ (x1:Nat × Int),(True∧rfB (dP Sh.tm l)∧rfB (iV m)∧SubB (iV 0) (iV x1.snd)∧SubB (iV 0) (iV (↑x1.fst:Int))∧True)∧(x1.fst≤l.length∧Qa1 m l=x1.snd+Qa1 (m - x1.snd) (List.drop x1.fst l)∧(0:Int)≤x1.snd∧x1.snd≤(↑(Qat (List.take x1.fst l)):Int))∧True∧∀ (z2:Nat × Int),z2.fst≤l.length∧Qa1 m l=z2.snd+Qa1 (m - z2.snd) (List.drop z2.fst l)∧(0:Int)≤z2.snd∧z2.snd≤(↑(Qat (List.take z2.fst l)):Int)→True→ifB (decide ((↑z2.fst:Int)<(↑l.length:Int))) (ifB (decide (z2.snd≤m)) (((0:Int)≤(↑z2.fst:Int)∧(↑z2.fst:Int)<(↑l.length:Int))∧(2 * (etaT (l.getD (↑z2.fst:Int).toNat Sh.tm.nil)).size<n∧cntT (etaT (l.getD (↑z2.fst:Int).toNat Sh.tm.nil))≤4000000∧(0:Int)≤IntKind.i64.wrap (m - z2.snd)∧IntKind.i64.wrap (m - z2.snd)≤(4000000:Int))∧∀ (z3:Int),z3=capT (IntKind.i64.wrap (m - z2.snd)) (etaT (l.getD (↑z2.fst:Int).toNat Sh.tm.nil))→∃ (x4:Nat × Int),(True∧rfB (dP Sh.tm l)∧rfB (iV m)∧SubB (iV (IntKind.i64.wrap (z2.snd+z3))) (iV x4.snd)∧SubB (iV (IntKind.i64.wrap ((↑z2.fst:Int)+(1:Int)))) (iV (↑x4.fst:Int))∧True)∧(x4.fst≤l.length∧Qa1 m l=x4.snd+Qa1 (m - x4.snd) (List.drop x4.fst l)∧(0:Int)≤x4.snd∧x4.snd≤(↑(Qat (List.take x4.fst l)):Int))∧True∧(l.length - x4.fst).succ.le (l.length - z2.fst)) (true=true∧Sub (iV z2.snd) (iV (Qa1 m l)))) (true=true∧Sub (iV z2.snd) (iV (Qa1 m l)))) ?kr ?_
      case kr=>kernel_rfl
      refine ⟨?x0,⟨⟨trivial,⟨.refl _,⟨.refl _,⟨?m0,⟨?m1,trivial⟩⟩⟩⟩⟩,⟨?s0,⟨trivial,fun z2=>fun hq0=>fun _=>Qaa.2 ⟨fun hb1=>Qaa.2 ⟨fun hb2=>⟨?s1,⟨?s2,fun z3=>fun hz3=>⟨?x1,⟨⟨trivial,⟨.refl _,⟨.refl _,⟨?m2,⟨?m3,trivial⟩⟩⟩⟩⟩,⟨?s3,⟨trivial,?m4⟩⟩⟩⟩⟩⟩,fun hb2=>⟨rfl,?m5⟩⟩,fun hb1=>⟨rfl,?m6⟩⟩⟩⟩⟩⟩
      all_goals try simp only [etaT] at *
      case x0=>exact (0,0)
      case x1=>exact (z2.1+1,z2.2+z3)
      all_goals try simp only [decide_eq_true_eq,decide_eq_false_iff_not,Int.toNat_natCast,Tw.eta] at *
      case m0=>exact .refl _
      case m1=>exact .refl _
      case s0=>exact ⟨Nat.zero_le _,by simp,by simp,by simp [Qat]⟩
      all_goals obtain ⟨q1,q2,q3,q4⟩:=hq0
      case m5=>exact (Qad (QgK q2 (.inr (by omega))).symm).sub
      case m6=>exact (Qad (QgK q2 (.inl (by omega))).symm).sub
      all_goals have hz:z2.1<l.length:=by omega
      all_goals have t1:=QgF l z2.1
      all_goals have e1:IntKind.i64.wrap (m - z2.2)=m - z2.2:=wJ _ (by omega) (by omega)
      case s1=>omega
      case s2 =>
       have h1:=QkS hz
       rw [QdM hz default Sh.tm.nil] at h1
       have h2:=Ql3 Sh.tm.nil hz
       rw [e1]
       exact ⟨by omega,by omega,by omega,by omega⟩
      all_goals rw [e1] at hz3
      all_goals have r:=Qcv (l.getD z2.1 Sh.tm.nil) (m - z2.2)
      all_goals have t2:=Qm1 hz
      all_goals have t3:=QgF l (z2.1+1)
      case m2=>exact Qad (wJ _ (by omega) (by omega))
      case m3=>exact Qad (wJ _ (by omega) (by omega))
      case s3=>exact ⟨by omega,by subst hz3; exact Qq7 _ _ _ _ q2 hz (by omega),by show 0≤z2.2+z3; omega,by show z2.2+z3≤_; omega⟩
      case m4 =>
       have:l.length - (z2.1+1)<l.length - z2.1:=by omega
       exact this
    · cases hs
def Qhe:Spec
 | [.f (.dt .dat l),.f (.v (.int .i64 m))]=>some (some (cntD l≤4000000∧0≤m∧m≤4000000),.nm Int (capD m l) iV)
 | _=>none
theorem Qrg {E:Env} (hU:Up E):Contract Tryz.prog E 32 Qhe:=by
 refine Qac [] [] Tryz.ntmps32 Tryz.func32 (by kernel_rfl) (by kernel_rfl) hU trivial trivial ?_
 intro xs p r hs hp
 unfold Qhe at hs
 split at hs
 · rename_i l m
   cases hs
   obtain ⟨hc,hm0,hm⟩:=hp _ rfl
   refine ⟨[.f (.dt .dat l),.f (.v (.int .i64 m))],[(3,.s ⟨Nat × Int,fun y=>⟨[(0,.f (.dt .dat l)),(1,iV m),(5,iV y.2),(6,iV y.1)],[]⟩,fun y=>y.1≤l.length∧capD m l=y.2+capD (m - y.2) (l.drop y.1)∧0≤y.2∧y.2≤cntD (l.take y.1),fun y=>l.length - y.1⟩),
    (7,⟨Nat × Nat × Int,fun y=>⟨[(0,.f (.dt .dat l)),(1,iV m),(5,iV y.2.2),(6,iV y.1),(7,iV y.2.1)],[]⟩,fun y=>y.1<l.length∧y.2.1≤(Dat.cons (l.getD y.1 Sh.dat.nil)).length∧0≤y.2.2∧y.2.2≤((cntD (l.take y.1)+1+(Dat.name (l.getD y.1 Sh.dat.nil)).size / 8+cntK ((Dat.cons (l.getD y.1 Sh.dat.nil)).take y.2.1):Nat):Int),fun y=>(Dat.cons (l.getD y.1 Sh.dat.nil)).length - y.2.1,fun x y=>y.1=x.1∧x.2.2+capK (m - x.2.2) ((Dat.cons (l.getD x.1 Sh.dat.nil)).drop x.2.1)=y.2.2+capK (m - y.2.2) ((Dat.cons (l.getD x.1 Sh.dat.nil)).drop y.2.1)⟩)],.cons (.refl _) (.cons (.refl _) .nil),rfl,fun _ hsh=>?_⟩
   have hl:=Qap hsh.1
   refine Qab (p:=∃ (x1:Nat × Int),(True∧rfB (dP Sh.dat l)∧rfB (iV m)∧SubB (iV 0) (iV x1.snd)∧SubB (iV 0) (iV (↑x1.fst:Int))∧True)∧(x1.fst≤l.length∧capD m l=x1.snd+capD (m - x1.snd) (List.drop x1.fst l)∧(0:Int)≤x1.snd∧x1.snd≤(↑(cntD (List.take x1.fst l)):Int))∧True∧∀ (z2:Nat × Int),z2.fst≤l.length∧capD m l=z2.snd+capD (m - z2.snd) (List.drop z2.fst l)∧(0:Int)≤z2.snd∧z2.snd≤(↑(cntD (List.take z2.fst l)):Int)→True→ifB (decide ((↑z2.fst:Int)<(↑l.length:Int))) (ifB (decide (z2.snd≤m)) (((0:Int)≤(↑z2.fst:Int)∧(↑z2.fst:Int)<(↑l.length:Int))∧∃ (x3:Nat × Nat × Int),(True∧rfB (dP Sh.dat l)∧rfB (iV m)∧SubB (iV (IntKind.i64.wrap (IntKind.i64.wrap (z2.snd+(1:Int))+IntKind.i64.wrap ((↑(l.getD (↑z2.fst:Int).toNat Sh.dat.nil).name.size:Int).tdiv (8:Int))))) (iV x3.snd.snd)∧SubB (iV (↑z2.fst:Int)) (iV (↑x3.fst:Int))∧SubB (iV 0) (iV (↑x3.snd.fst:Int))∧True)∧(x3.fst<l.length∧x3.snd.fst≤(l.getD x3.fst Sh.dat.nil).cons.length∧(0:Int)≤x3.snd.snd∧x3.snd.snd≤(↑(cntD (List.take x3.fst l)+1+(l.getD x3.fst Sh.dat.nil).name.size / 8+cntK (List.take x3.snd.fst (l.getD x3.fst Sh.dat.nil).cons)):Int))∧(x3.fst=x3.fst∧x3.snd.snd+capK (m - x3.snd.snd) (List.drop x3.snd.fst (l.getD x3.fst Sh.dat.nil).cons)=x3.snd.snd+capK (m - x3.snd.snd) (List.drop x3.snd.fst (l.getD x3.fst Sh.dat.nil).cons))∧∀ (z4:Nat × Nat × Int),z4.fst<l.length∧z4.snd.fst≤(l.getD z4.fst Sh.dat.nil).cons.length∧(0:Int)≤z4.snd.snd∧z4.snd.snd≤(↑(cntD (List.take z4.fst l)+1+(l.getD z4.fst Sh.dat.nil).name.size / 8+cntK (List.take z4.snd.fst (l.getD z4.fst Sh.dat.nil).cons)):Int)→z4.fst=x3.fst∧x3.snd.snd+capK (m - x3.snd.snd) (List.drop x3.snd.fst (l.getD x3.fst Sh.dat.nil).cons)=z4.snd.snd+capK (m - z4.snd.snd) (List.drop z4.snd.fst (l.getD x3.fst Sh.dat.nil).cons)→((0:Int)≤(↑z4.fst:Int)∧(↑z4.fst:Int)<(↑l.length:Int))∧ifB (decide ((↑z4.snd.fst:Int)<(↑(l.getD (↑z4.fst:Int).toNat Sh.dat.nil).cons.length:Int))) (ifB (decide (z4.snd.snd≤m)) (((0:Int)≤(↑z4.fst:Int)∧(↑z4.fst:Int)<(↑l.length:Int))∧((0:Int)≤(↑z4.snd.fst:Int)∧(↑z4.snd.fst:Int)<(↑(l.getD (↑z4.fst:Int).toNat Sh.dat.nil).cons.length:Int))∧((0:Int)≤(↑z4.fst:Int)∧(↑z4.fst:Int)<(↑l.length:Int))∧((0:Int)≤(↑z4.snd.fst:Int)∧(↑z4.snd.fst:Int)<(↑(l.getD (↑z4.fst:Int).toNat Sh.dat.nil).cons.length:Int))∧∃ (x5:Nat × Nat × Int),(True∧rfB (dP Sh.dat l)∧rfB (iV m)∧SubB (iV (IntKind.i64.wrap (IntKind.i64.wrap (IntKind.i64.wrap (z4.snd.snd+(1:Int))+IntKind.i64.wrap ((↑((l.getD (↑z4.fst:Int).toNat Sh.dat.nil).cons.getD (↑z4.snd.fst:Int).toNat Sh.con.nil).name.size:Int).tdiv (8:Int)))+(↑((l.getD (↑z4.fst:Int).toNat Sh.dat.nil).cons.getD (↑z4.snd.fst:Int).toNat Sh.con.nil).fields.length:Int)))) (iV x5.snd.snd)∧SubB (iV (↑z4.fst:Int)) (iV (↑x5.fst:Int))∧SubB (iV (IntKind.i64.wrap ((↑z4.snd.fst:Int)+(1:Int)))) (iV (↑x5.snd.fst:Int))∧True)∧(x5.fst<l.length∧x5.snd.fst≤(l.getD x5.fst Sh.dat.nil).cons.length∧(0:Int)≤x5.snd.snd∧x5.snd.snd≤(↑(cntD (List.take x5.fst l)+1+(l.getD x5.fst Sh.dat.nil).name.size / 8+cntK (List.take x5.snd.fst (l.getD x5.fst Sh.dat.nil).cons)):Int))∧(x5.fst=x3.fst∧x3.snd.snd+capK (m - x3.snd.snd) (List.drop x3.snd.fst (l.getD x3.fst Sh.dat.nil).cons)=x5.snd.snd+capK (m - x5.snd.snd) (List.drop x5.snd.fst (l.getD x3.fst Sh.dat.nil).cons))∧((l.getD x5.fst Sh.dat.nil).cons.length - x5.snd.fst).succ.le ((l.getD z4.fst Sh.dat.nil).cons.length - z4.snd.fst)) (∃ (x5:Nat × Int),(True∧rfB (dP Sh.dat l)∧rfB (iV m)∧SubB (iV z4.snd.snd) (iV x5.snd)∧SubB (iV (IntKind.i64.wrap ((↑z4.fst:Int)+(1:Int)))) (iV (↑x5.fst:Int))∧True)∧(x5.fst≤l.length∧capD m l=x5.snd+capD (m - x5.snd) (List.drop x5.fst l)∧(0:Int)≤x5.snd∧x5.snd≤(↑(cntD (List.take x5.fst l)):Int))∧True∧(l.length - x5.fst).succ.le (l.length - z2.fst))) (∃ (x5:Nat × Int),(True∧rfB (dP Sh.dat l)∧rfB (iV m)∧SubB (iV z4.snd.snd) (iV x5.snd)∧SubB (iV (IntKind.i64.wrap ((↑z4.fst:Int)+(1:Int)))) (iV (↑x5.fst:Int))∧True)∧(x5.fst≤l.length∧capD m l=x5.snd+capD (m - x5.snd) (List.drop x5.fst l)∧(0:Int)≤x5.snd∧x5.snd≤(↑(cntD (List.take x5.fst l)):Int))∧True∧(l.length - x5.fst).succ.le (l.length - z2.fst))) (true=true∧Sub (iV z2.snd) (iV (capD m l)))) (true=true∧Sub (iV z2.snd) (iV (capD m l)))) ?kr ?_
   case kr=>kernel_rfl
   refine ⟨?x0,⟨⟨trivial,⟨.refl _,⟨.refl _,⟨?m0,⟨?m1,trivial⟩⟩⟩⟩⟩,⟨?s0,⟨trivial,fun z2=>fun hq0=>fun _=>Qaa.2 ⟨fun hb1=>Qaa.2 ⟨fun hb2=>⟨?s1,⟨?x1,⟨⟨trivial,⟨.refl _,⟨.refl _,⟨?m2,⟨?m3,⟨?m4,trivial⟩⟩⟩⟩⟩⟩,⟨?s2,⟨⟨rfl,rfl⟩,fun z4=>fun hq3=>fun hq4=>⟨?s3,Qaa.2 ⟨fun hb5=>Qaa.2 ⟨fun hb6=>⟨?s4,⟨?s5,⟨?s6,⟨?s7,⟨?x2,⟨⟨trivial,⟨.refl _,⟨.refl _,⟨?m5,⟨?m6,⟨?m7,trivial⟩⟩⟩⟩⟩⟩,⟨?s8,⟨?s9,?m8⟩⟩⟩⟩⟩⟩⟩⟩,fun hb6=>⟨?x3,⟨⟨trivial,⟨.refl _,⟨.refl _,⟨?m9,⟨?m10,trivial⟩⟩⟩⟩⟩,⟨?s10,⟨trivial,?m11⟩⟩⟩⟩⟩,fun hb5=>⟨?x4,⟨⟨trivial,⟨.refl _,⟨.refl _,⟨?m12,⟨?m13,trivial⟩⟩⟩⟩⟩,⟨?s11,⟨trivial,?m14⟩⟩⟩⟩⟩⟩⟩⟩⟩⟩⟩,fun hb2=>⟨rfl,?m15⟩⟩,fun hb1=>⟨rfl,?m16⟩⟩⟩⟩⟩⟩
   case x0=>exact (0,0)
   case x1=>exact (z2.1,0,z2.2+((1+(Dat.name (l.getD z2.1 Sh.dat.nil)).size / 8:Nat):Int))
   case x2=>exact (z4.1,z4.2.1+1,z4.2.2+((1+(Cn.name ((Dat.cons (l.getD z4.1 Sh.dat.nil)).getD z4.2.1 Sh.con.nil)).size / 8+(Cn.fields ((Dat.cons (l.getD z4.1 Sh.dat.nil)).getD z4.2.1 Sh.con.nil)).length:Nat):Int))
   case x3=>exact (z4.1+1,z4.2.2)
   case x4=>exact (z4.1+1,z4.2.2)
   all_goals try simp only [decide_eq_true_eq,decide_eq_false_iff_not,Int.toNat_natCast] at *
   case m0=>exact .refl _
   case m1=>exact .refl _
   case m3=>exact .refl _
   case m4=>exact .refl _
   case m6=>exact .refl _
   case m9=>exact .refl _
   case m12=>exact .refl _
   case s0=>exact ⟨Nat.zero_le _,by simp,by simp,by simp [cntD]⟩
   all_goals obtain ⟨q1,q2,q3,q4⟩:=hq0
   case m15=>exact (Qad (Qjf q2 (.inr (by omega))).symm).sub
   case m16=>exact (Qad (Qjf q2 (.inl (by omega))).symm).sub
   all_goals have hz:z2.1<l.length:=by omega
   all_goals have t1:=Qi8 l z2.1
   all_goals have t2:=Qph hz
   all_goals have t3:=Qi8 l (z2.1+1)
   all_goals have e8:(((Dat.name (l.getD z2.1 Sh.dat.nil)).size:Int)).tdiv 8=(((Dat.name (l.getD z2.1 Sh.dat.nil)).size / 8:Nat):Int):=(Int.ofNat_tdiv _ 8).symm
   case s1=>omega
   case m2 =>
    refine Qad ?_
    rw [e8]
    simp (disch:=omega) only [wJ]
    omega
   case s2=>exact ⟨hz,Nat.zero_le _,by show 0≤z2.2+((1+(Dat.name (l.getD z2.1 Sh.dat.nil)).size / 8:Nat):Int); omega,by simp only [List.take_zero,cntK]; omega⟩
   all_goals obtain ⟨p0,p1,p2,p3⟩:=hq3
   all_goals obtain ⟨r0,r1⟩:=hq4
   all_goals have r0:z4.1=z2.1:=r0
   all_goals simp only [r0] at *
   all_goals have u1:=Qi7 (Dat.cons (l.getD z2.1 Sh.dat.nil)) z4.2.1
   case s3=>omega
   case s4=>omega
   case s6=>omega
   case m10=>exact Qad (wJ _ (by omega) (by omega))
   case m13=>exact Qad (wJ _ (by omega) (by omega))
   case m11 =>
    have:l.length - (z2.1+1)<l.length - z2.1:=by omega
    exact this
   case m14 =>
    have:l.length - (z2.1+1)<l.length - z2.1:=by omega
    exact this
   case s10=>exact ⟨by show z2.1+1≤_; omega,Qpo q2 hz (by omega) (r1.trans (Qje rfl (.inr (by omega)))),p2,by show z4.2.2≤_; omega⟩
   case s11=>exact ⟨by show z2.1+1≤_; omega,Qpo q2 hz (by omega) (r1.trans (Qje rfl (.inl (by omega)))),p2,by show z4.2.2≤_; omega⟩
   all_goals have hk:z4.2.1<(Dat.cons (l.getD z2.1 Sh.dat.nil)).length:=by omega
   all_goals have u2:=Qpg hk
   all_goals have u3:=Qi7 (Dat.cons (l.getD z2.1 Sh.dat.nil)) (z4.2.1+1)
   case s5=>omega
   case s7=>omega
   all_goals have e9:(((Cn.name ((Dat.cons (l.getD z2.1 Sh.dat.nil)).getD z4.2.1 Sh.con.nil)).size:Int)).tdiv 8=(((Cn.name ((Dat.cons (l.getD z2.1 Sh.dat.nil)).getD z4.2.1 Sh.con.nil)).size / 8:Nat):Int):=(Int.ofNat_tdiv _ 8).symm
   all_goals have hcl:=Ql4 (Dat.cons (l.getD z2.1 Sh.dat.nil))
   case m5 =>
    refine Qad ?_
    rw [e9]
    simp (disch:=omega) only [wJ]
    omega
   case m7=>exact Qad (wJ _ (by omega) (by omega))
   case s8=>exact ⟨hz,by show z4.2.1+1≤_; omega,by show 0≤z4.2.2+((1+(Cn.name ((Dat.cons (l.getD z2.1 Sh.dat.nil)).getD z4.2.1 Sh.con.nil)).size / 8+(Cn.fields ((Dat.cons (l.getD z2.1 Sh.dat.nil)).getD z4.2.1 Sh.con.nil)).length:Nat):Int); omega,by show z4.2.2+((1+(Cn.name ((Dat.cons (l.getD z2.1 Sh.dat.nil)).getD z4.2.1 Sh.con.nil)).size / 8+(Cn.fields ((Dat.cons (l.getD z2.1 Sh.dat.nil)).getD z4.2.1 Sh.con.nil)).length:Nat):Int)≤_; omega⟩
   case s9=>exact ⟨trivial,r1.trans (QtB _ _ _ _ _ rfl hk (by omega))⟩
   case m8 =>
    have:(Dat.cons (l.getD z2.1 Sh.dat.nil)).length - (z4.2.1+1)<(Dat.cons (l.getD z2.1 Sh.dat.nil)).length - z4.2.1:=by omega
    exact this
 · cases hs
end Go.Proofs.YtijfaigpilfpaaaGreatDoor
