/- What a function hands back as it stands: a row of its own. -/
import Derived.Test.YtijfaigpilfpaaaGreatDoorVr
namespace Go.Proofs.YtijfaigpilfpaaaGreatDoor
open Go.RowKit
set_option linter.unusedVariables false
def QkB (P:Program) (rs:List ResultVar) (n0:Nat) (o:Bool × PV × List PO):Exit→PS→Prop
 | .normal,s=>match resP P s rs with | some x=>EndU n0 o true x s.ob | none=>False
 | .ret,s=>match resP P s rs with | some x=>EndU n0 o true x s.ob | none=>False
 | _,_=>False
theorem Qrb {P:Program} {E:Env} {Γ:Specs} {Δ:Specs2} (hΔ:Sound2 P E Δ) {Λ:Loops} {f:FuncId} {fn:Func} {c:Code} (hf:P.funcs[f]?=some fn) (hb:fn.body=some c) (hmix:P.follows .mixedOrders=true) (hU:Up E) (hΓ:Sound P E Γ) {xs:List PV} {ob:List PO} {o:Bool × PV × List PO} (hlen:xs.length≤fn.ntmps)
  (hpw:PW P Γ Δ Λ fn.ntmps ob.length (fun y s=>EndU ob.length o false y s.ob) c (QkB P fn.results.toList ob.length o) ⟨entry 0 xs,ob⟩)
  (K:Nat→Prop) (w:World) (g:Gh) (vs:List Value) (hK:∀ b,K b→b<w.heap.size) (hO:Obs K ob g w) (hfull:∀ i,i<ob.length→∃ u,g.B i=some u) (hE:E K w g.H) (hvs:PRs g.H g.B vs xs) :
  Calls P f vs.toArray w fun e w'=>∃ g' v,ExtK ⟨K,w,g.B,[]⟩ g.H w' g'.H∧Obs K o.2.2 g' w'∧(∀ i,i<o.2.2.length→∃ u,g'.B i=some u)∧(∀ i p,FixB g.B i p→g'.B i=some p)∧PR g'.H g'.B v o.2.1 ∧
   e=(match o.1 with | true=>.returned v | false=>.panicked [{ v,recovered:=false }]):=by
 refine calls_of_wp hf hb ?_
 have hsize:(vs.toArray++Array.replicate (fn.ntmps - vs.toArray.size) undef).size=fn.ntmps:=by
  simp [hvs.1]; omega
 have hR:Real ⟨K,w,g.B,[]⟩ g.H fn.ntmps ⟨entry 0 xs,ob⟩ g { tmps:=vs.toArray++Array.replicate (fn.ntmps - vs.toArray.size) undef,defers:=[] } w:=by
  refine ⟨ExtK.refl hO.fro hK,hO,hfull,fun d x hx=>?_,hsize,rfl,fun o p hp=>hp.1⟩
  obtain ⟨_,h2⟩:=Qa8 xs 0 d x hx
  rw [Nat.sub_zero] at h2
  obtain ⟨v,h3,h4⟩:=hvs.at h2
  have hd:=(List.getElem?_eq_some_iff.1 h3).1
  have:(vs.toArray++Array.replicate (fn.ntmps - vs.toArray.size) undef).getD d undef=v:=by
   rw [Array.getD_eq_getD_getElem?,Array.getElem?_append_left (by simpa using hd)]
   simp [h3]
  rw [this]; exact h4
 have hn0:∀ o u,(⟨K,w,g.B,[]⟩:Cx).B o=some u→o<ob.length:=fun o u hu=>hO.dom o u hu
 refine wp_mono (Qaj hΔ hn0 hΓ hU hE hmix c _ _ hpw _ _ _ hR) fun e a' w' hq=>?_
 have key:∀ s g1,Real ⟨K,w,g.B,[]⟩ g.H fn.ntmps s g1 a' w'→(match resP P s fn.results.toList with | some x=>EndU ob.length o true x s.ob | none=>False) →
   a'.defers=[]∧∃ v,(results fn a'.tmps).run P w'=.ok v w'∧∃ g' v',ExtK ⟨K,w,g.B,[]⟩ g.H w' g'.H∧Obs K o.2.2 g' w'∧(∀ i,i<o.2.2.length→∃ u,g'.B i=some u)∧(∀ i p,FixB g.B i p→g'.B i=some p)∧PR g'.H g'.B v' o.2.1 ∧
   Ending.returned v=(match o.1 with | true=>.returned v' | false=>.panicked [{ v:=v',recovered:=false }]):=by
  intro s g1 hR' hE
  split at hE
  · rename_i x hx
    obtain ⟨v,h1,h2⟩:=QaS hR' hx
    obtain ⟨h3,g',h4,h5,h6,h7,h8⟩:=QaZ hR' hn0 h2 hE.out
    exact ⟨hR'.dfr,v,h1,g',v,h4,h5,h6,h7,h8,by rw [h3]⟩
  · exact hE.elim
 cases e with
 | normal=>obtain ⟨s,g,h1,h2⟩:=hq; exact key s g h1 h2
 | ret=>obtain ⟨s,g,h1,h2⟩:=hq; exact key s g h1 h2
 | exit i=>obtain ⟨s,g,h1,h2⟩:=hq; exact h2.elim
 | goto i=>obtain ⟨s,g,h1,h2⟩:=hq; exact h2.elim
 | panic c =>
  obtain ⟨ob',g1,v,y,rfl,h1,h2,h3⟩:=hq
  obtain ⟨h3,g',h4,h5,h6,h7,h8⟩:=QaZ h1 hn0 h2 h3.out
  exact ⟨h1.dfr,g',v,h4,h5,h6,h7,h8,by rw [h3]⟩
 | outgrown=>exact hq.elim
theorem Qkk {P:Program} {E:Env} {f:FuncId} {fn:Func} {sp:Spec2} {m:Nat} (L:List (FuncId × Spec)) (L2:List (FuncId × Spec2)) (hm:fn.ntmps=m) (hf:P.funcs[f]?=some fn) (hb:fn.body=some (fn.body.getD .skip)) (hmix:P.follows .mixedOrders=true) (hU:Up E) (hL:AllC P E L) (hL2:Qjp P E L2)
  (h:∀ xs ob o,sp xs ob=some o→o.ok→∃ ys l,SubsB xs ys∧Nat.ble ys.length m=true∧(QfE ys→QcG ys→PW P (spL L) (spL2 L2) (lpL l) m ob.length (fun y s=>EndU ob.length o.fin false y s.ob) (fn.body.getD .skip) (QkB P fn.results.toList ob.length o.fin) ⟨entry 0 ys,ob⟩)):Contract2 P E f sp:=by
 intro xs ob o hsp hok K w g vs hK hO hfull hE hvs
 obtain ⟨ys,l,h1,h2,h3⟩:=h xs ob o hsp hok
 subst hm
 have hv:=h1.prs hvs
 exact Qrb (Qbj hL2) hf hb hmix hU (Qbq hL) (Nat.le_of_ble_eq_true h2) (h3 hv.good hv.short) K w g vs hK hO hfull hE hv
def Qro (P:Program) (rs:List ResultVar) (n0:Nat) (o:Bool × PV × List PO) (e:Exit) (s:PS):Prop:=QkB P rs n0 o e s∨Ends2 P rs n0 o e s
theorem Qra {P:Program} {E:Env} {Γ:Specs} {Δ:Specs2} (hΔ:Sound2 P E Δ) {Λ:Loops} {f:FuncId} {fn:Func} {c:Code} (hf:P.funcs[f]?=some fn) (hb:fn.body=some c) (hmix:P.follows .mixedOrders=true) (hU:Up E) (hΓ:Sound P E Γ) {xs:List PV} {ob:List PO} {o:Bool × PV × List PO} (hlen:xs.length≤fn.ntmps)
  (hpw:PW P Γ Δ Λ fn.ntmps ob.length (fun y s=>EndU ob.length o false y s.ob) c (Qro P fn.results.toList ob.length o) ⟨entry 0 xs,ob⟩)
  (K:Nat→Prop) (w:World) (g:Gh) (vs:List Value) (hK:∀ b,K b→b<w.heap.size) (hO:Obs K ob g w) (hfull:∀ i,i<ob.length→∃ u,g.B i=some u) (hE:E K w g.H) (hvs:PRs g.H g.B vs xs) :
  Calls P f vs.toArray w fun e w'=>∃ g' v,ExtK ⟨K,w,g.B,[]⟩ g.H w' g'.H∧Obs K o.2.2 g' w'∧(∀ i,i<o.2.2.length→∃ u,g'.B i=some u)∧(∀ i p,FixB g.B i p→g'.B i=some p)∧PR g'.H g'.B v o.2.1 ∧
   e=(match o.1 with | true=>.returned v | false=>.panicked [{ v,recovered:=false }]):=by
 refine calls_of_wp hf hb ?_
 have hsize:(vs.toArray++Array.replicate (fn.ntmps - vs.toArray.size) undef).size=fn.ntmps:=by
  simp [hvs.1]; omega
 have hR:Real ⟨K,w,g.B,[]⟩ g.H fn.ntmps ⟨entry 0 xs,ob⟩ g { tmps:=vs.toArray++Array.replicate (fn.ntmps - vs.toArray.size) undef,defers:=[] } w:=by
  refine ⟨ExtK.refl hO.fro hK,hO,hfull,fun d x hx=>?_,hsize,rfl,fun o p hp=>hp.1⟩
  obtain ⟨_,h2⟩:=Qa8 xs 0 d x hx
  rw [Nat.sub_zero] at h2
  obtain ⟨v,h3,h4⟩:=hvs.at h2
  have hd:=(List.getElem?_eq_some_iff.1 h3).1
  have:(vs.toArray++Array.replicate (fn.ntmps - vs.toArray.size) undef).getD d undef=v:=by
   rw [Array.getD_eq_getD_getElem?,Array.getElem?_append_left (by simpa using hd)]
   simp [h3]
  rw [this]; exact h4
 have hn0:∀ o u,(⟨K,w,g.B,[]⟩:Cx).B o=some u→o<ob.length:=fun o u hu=>hO.dom o u hu
 refine wp_mono (Qaj hΔ hn0 hΓ hU hE hmix c _ _ hpw _ _ _ hR) fun e a' w' hq=>?_
 have keyT:∀ s g1,Real ⟨K,w,g.B,[]⟩ g.H fn.ntmps s g1 a' w'→(match resP P s fn.results.toList with | some x=>EndU ob.length o true x s.ob | none=>False) →
   a'.defers=[]∧∃ v,(results fn a'.tmps).run P w'=.ok v w'∧∃ g' v',ExtK ⟨K,w,g.B,[]⟩ g.H w' g'.H∧Obs K o.2.2 g' w'∧(∀ i,i<o.2.2.length→∃ u,g'.B i=some u)∧(∀ i p,FixB g.B i p→g'.B i=some p)∧PR g'.H g'.B v' o.2.1 ∧
   Ending.returned v=(match o.1 with | true=>.returned v' | false=>.panicked [{ v:=v',recovered:=false }]):=by
  intro s g1 hR' hE
  split at hE
  · rename_i x hx
    obtain ⟨v,h1,h2⟩:=QaS hR' hx
    obtain ⟨h3,g',h4,h5,h6,h7,h8⟩:=QaZ hR' hn0 h2 hE.out
    exact ⟨hR'.dfr,v,h1,g',v,h4,h5,h6,h7,h8,by rw [h3]⟩
  · exact hE.elim
 have keyF:∀ s g1,Real ⟨K,w,g.B,[]⟩ g.H fn.ntmps s g1 a' w'→endS P fn.results.toList ob.length o (frzAll s s.ob.length) →
   a'.defers=[]∧∃ v,(results fn a'.tmps).run P w'=.ok v w'∧∃ g' v',ExtK ⟨K,w,g.B,[]⟩ g.H w' g'.H∧Obs K o.2.2 g' w'∧(∀ i,i<o.2.2.length→∃ u,g'.B i=some u)∧(∀ i p,FixB g.B i p→g'.B i=some p)∧PR g'.H g'.B v' o.2.1 ∧
   Ending.returned v=(match o.1 with | true=>.returned v' | false=>.panicked [{ v:=v',recovered:=false }]):=by
  intro s g1 hR0 hE
  obtain ⟨g2,hR'⟩:=hR0.frzAll s.ob.length
  unfold endS at hE
  split at hE
  · rename_i x hx
    obtain ⟨v,h1,h2⟩:=QaS hR' hx
    obtain ⟨h3,g',h4,h5,h6,h7,h8⟩:=QaZ hR' hn0 h2.flatR hE.out
    exact ⟨hR'.dfr,v,h1,g',v,h4,h5,h6,h7,h8,by rw [h3]⟩
  · exact hE.elim
 cases e with
 | normal=>obtain ⟨s,g,h1,h2 | h2⟩:=hq; exact keyT s g h1 h2; exact keyF s g h1 h2
 | ret=>obtain ⟨s,g,h1,h2 | h2⟩:=hq; exact keyT s g h1 h2; exact keyF s g h1 h2
 | exit i=>obtain ⟨s,g,h1,h2 | h2⟩:=hq <;> exact h2.elim
 | goto i=>obtain ⟨s,g,h1,h2 | h2⟩:=hq <;> exact h2.elim
 | panic c =>
  obtain ⟨ob',g1,v,y,rfl,h1,h2,h3⟩:=hq
  obtain ⟨h3,g',h4,h5,h6,h7,h8⟩:=QaZ h1 hn0 h2 h3.out
  exact ⟨h1.dfr,g',v,h4,h5,h6,h7,h8,by rw [h3]⟩
 | outgrown=>exact hq.elim
theorem Qkj {P:Program} {E:Env} {f:FuncId} {fn:Func} {sp:Spec2} {m:Nat} (L:List (FuncId × Spec)) (L2:List (FuncId × Spec2)) (hm:fn.ntmps=m) (hf:P.funcs[f]?=some fn) (hb:fn.body=some (fn.body.getD .skip)) (hmix:P.follows .mixedOrders=true) (hU:Up E) (hL:AllC P E L) (hL2:Qjp P E L2)
  (h:∀ xs ob o,sp xs ob=some o→o.ok→∃ ys l,SubsB xs ys∧Nat.ble ys.length m=true∧(QfE ys→QcG ys→PW P (spL L) (spL2 L2) (lpL l) m ob.length (fun y s=>EndU ob.length o.fin false y s.ob) (fn.body.getD .skip) (Qro P fn.results.toList ob.length o.fin) ⟨entry 0 ys,ob⟩)):Contract2 P E f sp:=by
 intro xs ob o hsp hok K w g vs hK hO hfull hE hvs
 obtain ⟨ys,l,h1,h2,h3⟩:=h xs ob o hsp hok
 subst hm
 have hv:=h1.prs hvs
 exact Qra (Qbj hL2) hf hb hmix hU (Qbq hL) (Nat.le_of_ble_eq_true h2) (h3 hv.good hv.short) K w g vs hK hO hfull hE hv
theorem QrT {P:Program} {rs:List ResultVar} {n0:Nat} {o:Bool × PV × List PO} {s:PS} {x:PV} {ob:List PO} (hr:resP P s rs=some x) (ho:s.ob=ob) (h:EndU n0 o true x ob):Qro P rs n0 o .ret s :=
 .inl (by
  show match resP P s rs with | some x=>EndU n0 o true x s.ob | none=>False
  rw [hr,ho]; exact h)
theorem endV_F {P:Program} {rs:List ResultVar} {n0:Nat} {o:Bool × PV × List PO} {s:PS} {x:PV} {ob:List PO} (hr:resP P (frzAll s s.ob.length) rs=some x) (ho:(frzAll s s.ob.length).ob=ob) (h:EndU n0 o true (flatR x) ob):Qro P rs n0 o .ret s :=
 .inr (by
  show endS P rs n0 o (frzAll s s.ob.length)
  unfold endS
  rw [hr,ho]; exact h)
end Go.Proofs.YtijfaigpilfpaaaGreatDoor
