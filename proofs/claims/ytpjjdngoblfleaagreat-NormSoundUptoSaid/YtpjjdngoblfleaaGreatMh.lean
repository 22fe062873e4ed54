/- The layer model: what a term comes to. -/
import Derived.Test.YtpjjdngoblfleaaGreatMg
namespace Go.Proofs.YtpjjdngoblfleaaGreat
open Go.RowKit
set_option linter.unusedVariables false
set_option maxRecDepth 100000
def outR:Rs→Out
 | .one x=>.ret x []
 | .nm α e r=>.nm α e fun y=>.ret (r y) []
 | .nm2 α β e e' r=>.nm α e fun y=>.nm β e' fun y'=>.ret (r y y') []
def upS (sp:Spec):Spec2:=fun xs ob=>match ob with
 | []=>match pureL (flatL xs),sp (flatL xs) with
  | true,some (some p,r)=>some (.need p (outR r))
  | true,some (none,r)=>some (outR r)
  | _,_=>none
 | _::_=>none
theorem outR_fin (r:Rs):(outR r).fin=(true,r.out,[]):=by cases r <;> rfl
theorem Contract.up {P:Program} {E:Env} {f:FuncId} {sp:Spec} (hU:Up E) (h:Contract P E f sp):Contract2 P E f (upS sp):=by
 intro xs ob o hs hok K w g vs hK hO hfull hE hvs
 cases ob with
 | cons x ob=>cases hs
 | nil =>
  have key:∀ p r,pureL (flatL xs)=true→sp (flatL xs)=some (p,r)→(∀ q,p=some q→q)→o.fin=(true,r.out,[]) →
    Calls P f vs.toArray w fun e w'=>∃ g' v,ExtK ⟨K,w,g.B,[]⟩ g.H w' g'.H∧Obs K o.fin.2.2 g' w'∧(∀ i,i<o.fin.2.2.length→∃ u,g'.B i=some u)∧(∀ i p,FixB g.B i p→g'.B i=some p)∧PR g'.H g'.B v o.fin.2.1 ∧
     e=(match o.fin.1 with | true=>.returned v | false=>.panicked [{ v,recovered:=false }]):=by
   intro p r hpu hsp hp hfin
   rw [hfin]
   have hfl:PRs g.H g.B vs (flatL xs):=⟨by rw [flatL_len]; exact hvs.1,fun i v x hv hx=>by
    rw [flatL_at] at hx
    cases hx':xs[i]? with
    | none=>rw [hx'] at hx; cases hx
    | some y=>rw [hx'] at hx; cases hx; exact (hvs.2 i v y hv hx').flat⟩
   refine (h (flatL xs) p r hsp hp w g.H vs hO.fro (hU.more K _ w g.H hK hE) (hfl.pure hpu)).mono ?_
   rintro e w' ⟨H',v,rfl,hext,hpr⟩
   have hdom:∀ o u,g.B o=some u→False:=fun o u hb=>absurd (hO.dom o u hb) (Nat.not_lt_zero _)
   refine ⟨⟨H',g.B⟩,v,(ExtK.refl (c:=⟨K,w,g.B,[]⟩) hO.fro hK).trans hext,?_,fun i hi=>absurd hi (Nat.not_lt_zero _),fun i p hp=>hp.1,hpr.mono (Hp.le_refl _) (B0.le _),rfl⟩
   exact hO.ext hext
  unfold upS at hs
  dsimp only at hs
  split at hs
  · rename_i p r hpu hsp
    cases hs
    exact key (some p) r hpu hsp (fun q hq=>by cases hq; exact hok.1) (outR_fin r)
  · rename_i r hpu hsp
    cases hs
    exact key none r hpu hsp (fun q hq=>by cases hq) (outR_fin r)
  · cases hs
def z0V:Vw:=.mk 0 false [] false ⟨#[]⟩ []
def varE (D:List Dat) (nm:ByteArray) (B:List Bnd):Except Int Vw:=B.foldl (fun r b=>if b.name=nm then (if someV D b.value=true then .ok b.value else .error 23) else r) (.error 21)
theorem varE_snoc (D:List Dat) (nm:ByteArray) {B:List Bnd} {i:Nat} (d:Bnd) (h:i<B.length):varE D nm (B.take (i+1))=if (B.getD i d).name=nm then (if someV D (B.getD i d).value=true then .ok (B.getD i d).value else .error 23) else varE D nm (B.take i):=by
 unfold varE
 rw [List.take_add_one,List.getElem?_eq_getElem h,List.getD_eq_getElem?_getD,List.getElem?_eq_getElem h,List.foldl_append]
 rfl
def manyM (k:Int):Int × Bool:=lookN (.int .u8) k 0 [12,11,5,13,9,8,10,7,6,4,3,2,1] [-1,-1,-1,2,2,2,1,1,1,0,0,0,0]
noncomputable def opW (D:List Dat) (t:Tw) (l:List Vw):Vw × Bool :=
 if t.kind=2 then (numV (zV t.neg t.digits),rightZ t.neg t.digits)
 else if t.kind=3 then (boolV true,true)
 else if t.kind=4 then (boolV false,true)
 else if t.kind=5 then (numV (sumW l 0),allV l 1)
 else if t.kind=6 then (numV (prodW l 1 * zV t.neg t.digits),allV l 1 && rightZ t.neg t.digits)
 else if t.kind=7 then appV D t l
 else if t.kind=8 then (boolV (sameV (l.getD 0 Sh.vl.nil) (l.getD 1 Sh.vl.nil)),allV l 1 || allV l 3)
 else if t.kind=9 then (boolV (decide (cmpI (zV (Vw.neg (l.getD 0 Sh.vl.nil)) (Vw.digits (l.getD 0 Sh.vl.nil))) (zV (Vw.neg (l.getD 1 Sh.vl.nil)) (Vw.digits (l.getD 1 Sh.vl.nil)))≤0)),allV l 1)
 else if t.kind=10 then (boolV (!Vw.truth (l.getD 0 Sh.vl.nil)),allV l 2)
 else if t.kind=13 then (boolV (Vw.truth (l.getD 0 Sh.vl.nil)==Vw.truth (l.getD 1 Sh.vl.nil)),allV l 2)
 else if t.kind=11 then (boolV (eachV l true),allV l 2)
 else (boolV (!eachV l false),allV l 2)
mutual
noncomputable def evalT (D:List Dat) (B:List Bnd):Tw→Except Int Vw
 | .mk k nm neg dg kids=>if k=1∧kids.length=0 then varE D nm B
  else if (manyM k).2=false then .error 23
  else if 0≤(manyM k).1∧¬ (kids.length:Int)=(manyM k).1 then .error 24
  else match evalL D B kids with
   | .error e=>.error e
   | .ok l=>if (opW D (.mk k nm neg dg kids) l).2=true then .ok (opW D (.mk k nm neg dg kids) l).1 else .error 23
noncomputable def evalL (D:List Dat) (B:List Bnd):List Tw→Except Int (List Vw)
 | []=>.ok []
 | t::l=>match evalT D B t with
  | .error e=>.error e
  | .ok v=>match evalL D B l with
   | .error e=>.error e
   | .ok m=>.ok (v::m)
end
def sBackB:Spec2
 | [.f (.dt .bnd l)],[]=>some (.ret (.fn 77 [] [.bp 0 0]) [.cells [.f (.dt .bnd l)]])
 | _,_=>none
theorem cBackB {E:Env} (hU:Up E):Contract2 Tryz.prog E 37 sBackB:=by
 refine contract2 [] [] Tryz.ntmps37 Tryz.func37 (by kernel_rfl) (by kernel_rfl) hU trivial trivial ?_
 intro xs ob o hs hok
 unfold sBackB at hs
 split at hs
 · rename_i l
   cases hs
   refine ⟨[.f (.dt .bnd l)],[],.cons (.refl _) .nil,rfl,fun _ _=>?_⟩
   refine cast_rfl (p:=EndU 0 (Out.ret (PV.fn 77 [] [PV.bp 0 0]) [PO.cells [PV.f (Lf.dt Sh.bnd l)]]).fin true (PV.fn 77 [] [PV.bp 0 0]) [PO.cells [PV.f (Lf.dt Sh.bnd l)]]) ?kr ?_
   case kr=>kernel_rfl
   refine ?m0
   case m0=>exact endU rfl (.refl _) rfl rfl (r:=[]) rfl
 · cases hs
def bkB:Backs:=bkL [(77,34,33)]
theorem bkB_ok:BackOk Tryz.prog bkB :=
 backOk1 (tI:=3) (tB:=4) (ts:=#[3,33]) Tryz.func77 (by kernel_rfl) (by kernel_rfl) Tryz.ntmps77 (by kernel_rfl) (by kernel_rfl) (by kernel_rfl) (by kernel_rfl) (by kernel_rfl) (by kernel_rfl) (by kernel_rfl)
end Go.Proofs.YtpjjdngoblfleaaGreat
