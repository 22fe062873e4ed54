/- A function that catches what another one panics with: its contract, by pure runs of its parts. -/
import Derived.Test.YtijfaigpilfpaaaGreatDoorVb
import Derived.Recover
namespace Go.Proofs.YtijfaigpilfpaaaGreatDoor
set_option linter.unusedVariables false
open Go.RowKit
def bpE:List (Nat × PV)→List (Nat × PV)
 | []=>[]
 | (d,.bp o i)::l=>(d,.bp o i)::bpE l
 | (d,_)::l=>(d,.any)::bpE l
theorem Qmc:∀ {l:List (Nat × PV)} {d:Nat} {y:PV},look (bpE l) d=some y→y=.any∨∃ o i,y=.bp o i∧look l d=some (.bp o i)
 | [],d,y,h=>by cases h
 | (e,x)::l,d,y,h=>by
  have ih:=@Qmc l d y
  by_cases hx:∃ o i,x=.bp o i
  · obtain ⟨o,i,rfl⟩:=hx
    unfold bpE at h
    rw [Qag] at h
    rw [Qag]
    split at h
    · rename_i he; cases h; exact .inr ⟨o,i,rfl,if_pos he⟩
    · rename_i he
      rw [if_neg he]; exact ih h
  · have hb:bpE ((e,x)::l)=(e,.any)::bpE l:=by
     cases x <;> first | rfl | exact absurd ⟨_,_,rfl⟩ hx
    rw [hb,Qag] at h
    rw [Qag]
    split at h
    · cases h; exact .inl rfl
    · rename_i he
      rw [if_neg he]; exact ih h
theorem ExtK.transK {c:Cx} {w w':World} {H H' H'':Hp} {B:Hd} {D:List Deferred} (h:ExtK c H w H') (h':ExtK ⟨c.K,w,B,D⟩ H' w' H''):ExtK c H w' H'':=by
 refine ⟨h'.os.trans h.os,h'.tape.trans h.tape,h'.output.trans h.output,Nat.le_trans h.size h'.size,fun b hb=>(h'.block b hb).trans (h.block b hb),h.lt,Hp.le_trans h.le h'.le,h'.fro,fun b j v h1 h2 hb=>?_⟩
 cases hh:H' b j with
 | none=>exact h'.new b j v h1 hh hb
 | some u=>exact h.new b j u hh h2 hb
section
variable {P : Program} {w0 : Cx} {H0 : Hp} {m : Nat} {s : PS} {g : Gh} {a : Act} {w : World}
theorem Real.inner (h:Real w0 H0 m s g a w) {e':List (Nat × PV)} {a':Act} {m':Nat} (D:List Deferred) (he:∀ d x,Go.Proofs.YtijfaigpilfpaaaGreatDoor.look e' d=some x→PR g.H g.B (a'.tmps.getD d undef) x) (hs:a'.tmps.size=m') (hd:a'.defers=D):Real ⟨w0.K,w,g.B,D⟩ g.H m' ⟨e',s.ob⟩ g a' w :=
 ⟨ExtK.refl h.obs.fro h.ext.kept,h.obs,h.full,he,hs,hd,fun _ _ h=>h.1⟩
theorem Real.outer (h:Real w0 H0 m s g a w) {s':PS} {g':Gh} {a':Act} {w':World} {m':Nat} {D:List Deferred} (h':Real ⟨w0.K,w,g.B,D⟩ g.H m' s' g' a' w'):Real w0 H0 m ⟨bpE s.env,s'.ob⟩ g' a w':=by
 refine ⟨h.ext.transK h'.ext,h'.obs,h'.full,fun d x hx=>?_,h.sz,h.dfr,fun o p hp=>h'.ptr o p ⟨h.ptr o p hp,hp.2⟩⟩
 rcases Qmc hx with rfl | ⟨o,i,rfl,h1⟩
 · exact .any
 · have h2:=h.env d _ h1
   generalize a.tmps.getD d undef=v at h2
   cases h2 with
   | bp hb=>exact .bp (h'.ptr _ _ ⟨hb,rfl⟩)
theorem Real.along (h:Real w0 H0 m s g a w) {s':PS} {g':Gh} {a':Act} {w':World} {m':Nat} {D:List Deferred} (h':Real ⟨w0.K,w,g.B,D⟩ g.H m' s' g' a' w'):Real ⟨w0.K,w0.w,w0.B,D⟩ H0 m' s' g' a' w':=by
 have h1:=h.ext.transK h'.ext
 exact ⟨⟨h1.os,h1.tape,h1.output,h1.size,h1.block,h1.lt,h1.le,h1.fro,h1.new⟩,h'.obs,h'.full,h'.env,h'.sz,h'.dfr,fun o p hp=>h'.ptr o p ⟨h.ptr o p hp,hp.2⟩⟩
end
def QoQ:List PV→Bool
 | []=>true
 | .bp ..::l=>QoQ l
 | _=>false
theorem QlD:∀ {l:List PV},QoQ l=true→∀ (i:Nat) x,l[i]?=some x→∃ o n,x=.bp o n
 | [],_,i,x,h=>by simp at h
 | .bp o n::l,h,i,x,hx=>by
  cases i with
  | zero=>simp at hx; exact ⟨o,n,hx.symm⟩
  | succ i=>exact QlD (by simpa [QoQ] using h) i x (by simpa using hx)
 | .f _::_,h,_,_,_ | .ep _::_,h,_,_,_ | .tl ..::_,h,_,_,_ | .wr _::_,h,_,_,_ | .wp ..::_,h,_,_,_ | .any::_,h,_,_,_ | .agg _::_,h,_,_,_ | .tup _::_,h,_,_,_ | .fn ..::_,h,_,_,_ | .ifc ..::_,h,_,_,_=>by cases h
def AtD (P:Program) (Γ:Specs) (Δ:Specs2) (m' d5 d2 n0:Nat) (rest:Code) (rs:List ResultVar) (o:Bool × PV × List PO) (ms:List PV) (y:PV) (s:PS):Prop :=
 PW P Γ Δ Qfv m' s.ob.length noQ rest (fun e s4=>match e with
  | .normal=>endS P rs n0 o (frzAll ⟨bpE s.env,s4.ob⟩ s4.ob.length)
  | .ret=>endS P rs n0 o (frzAll ⟨bpE s.env,s4.ob⟩ s4.ob.length)
  | _=>False) ⟨(d2,y)::(d5,y)::entry 0 ms,s.ob⟩
def AtC (P:Program) (Γ:Specs) (Δ:Specs2) (m m' d4 d5 d2 n0:Nat) (cf:FuncId) (caps:List Operand) (C rest:Code) (rs:List ResultVar) (o:Bool × PV × List PO) (s:PS):Prop:=match evs s caps with
 | some ms=>match QoQ ms with
  | true=>PW P Γ Δ Qfv m s.ob.length (fun y s3=>AtD P Γ Δ m' d5 d2 n0 rest rs o ms y s3) C (fun e s3=>match e with
   | .normal=>AtD P Γ Δ m' d5 d2 n0 rest rs o ms (.f (.v .nilIface)) s3
   | .ret=>AtD P Γ Δ m' d5 d2 n0 rest rs o ms (.f (.v .nilIface)) s3
   | _=>False) (s.put (some d4) (.fn cf [] ms))
  | false=>False
 | none=>False
section
variable {P : Program}
theorem Qgx {cf:FuncId} {vs args:Array Value} {w:World} (hf:QcB P cf=true):(invoke (.fn (.func cf) vs) args).run P w=.ok (.enter cf (args++vs)) w:=by
 unfold QcB at hf
 split at hf
 · rename_i fn hfn
   simp only [Bool.and_eq_true,Bool.not_eq_true'] at hf
   have hb:fn.body.isNone=false:=by cases h:fn.body <;> simp_all
   have hn : ¬ fn.name = "runtime.NumGoroutine" := by simpa using hf.1
   have hb':¬ fn.body=none:=fun hc=>by rw [hc] at hb; cases hb
   simp [invoke,callFunc,hfn,hn,hb']
 · cases hf
set_option maxHeartbeats 1000000 in
theorem QhH {E:Env} {Γ:Specs} {Δ:Specs2} (hΔ:Sound2 P E Δ) (hΓ:Sound P E Γ) (hU:Up E) (hmix:P.follows .mixedOrders=true) {cf:FuncId} {cfn:Func} {rest:Code} {id2 d5 d2:Nat} {r1 r2:Oper} {ts:Array TypeId}
  (hcf:P.funcs[cf]?=some cfn) (hcb:cfn.body=some (.seq (.region id2 #[r1,r2] false) rest)) (hr1:r1.op=.call ⟨.builtin .recover,#[],ts⟩) (hr1d:r1.dst=some d5) (hr1g:r1.guard=none) (hr2:r2.op=.assign (.tmp d5)) (hr2d:r2.dst=some d2) (hr2g:r2.guard=none)
  (hres:cfn.results.toList=[]) (hd5:d5<cfn.ntmps) (hd2:d2<cfn.ntmps) {w0:Cx} {H0:Hp} {m:Nat} {s:PS} {g:Gh} {a:Act} {w:World} (hE:E w0.K w0.w H0) (hR:Real w0 H0 m s g a w)
  {n0:Nat} {rs:List ResultVar} {o:Bool × PV × List PO} {ms:List PV} {vs:Array Value} {y:PV} {u:FrameMode} {v:Value} (hms:PRs g.H g.B vs.toList ms) (hlen:ms.length≤cfn.ntmps) (hv:PR g.H g.B v y)
  (hu:(u=.returning∧v=.nilIface)∨u=.panicking [{ v,recovered:=false }]) (h:AtD P Γ Δ cfn.ntmps d5 d2 n0 rest rs o ms y s)
  {R:World→Prop} (hQ:∀ s4 g4 a4 w4,Real ⟨w0.K,w,g.B,[]⟩ g.H cfn.ntmps s4 g4 a4 w4→endS P rs n0 o (frzAll ⟨bpE s.env,s4.ob⟩ s4.ob.length)→R w4) :
  CallsD P cf vs u w fun e u' w'=>(∃ v',e=.returned v')∧settle u'=.returning∧R w':=by
 refine callsD_of_wpS hcf hcb fun c₀ cs hc=>?_
 refine wpS_seq (wpS_region ?_)
 have hsize:(vs++Array.replicate (cfn.ntmps - vs.size) undef).size=cfn.ntmps:=by
  have:=hms.1
  simp at this ⊢; omega
 obtain ⟨u',hrec,hset⟩:∃ u',(recoverD (c₀::cs)=some (v,{ c₀ with mode:=u' }::cs)∨(recoverD (c₀::cs)=none∧v=.nilIface∧c₀={ c₀ with mode:=u' }))∧settle u'=.returning:=by
  rcases hu with ⟨rfl,rfl⟩ | rfl
  · refine ⟨.returning,.inr ⟨?_,rfl,?_⟩,rfl⟩
    · simp [recoverD,hc]
    · rw [← hc]
  · refine ⟨.panicking [{ v,recovered:=true }],.inl ?_,rfl⟩
    simp only [recoverD,hc]
 have e1:∀ (b:Act) w,(execOp b.eval r1).run P w=.ok .recover w:=fun b w=>by
  obtain ⟨dst,op,ty,pos,af,gd⟩:=r1
  dsimp only at hr1
  subst hr1
  simp [execOp,resolve,invoke,builtin]
 have e2:∀ (b:Act) w,(execOp b.eval r2).run P w=.ok (.value (b.eval (.tmp d5))) w:=fun b w=>by
  obtain ⟨dst,op,ty,pos,af,gd⟩:=r2
  dsimp only at hr2
  subst hr2
  rfl
 generalize ha0:(⟨vs++Array.replicate (cfn.ntmps - vs.size) undef,[]⟩:Act)=a0
 have hs0:a0.tmps.size=cfn.ntmps:=by rw [← ha0]; exact hsize
 have key:(rest.wpS P (bodyPostS P cfn c₀ cs fun e u' w'=>(∃ v',e=.returned v')∧settle u'=.returning∧R w') ((a0.put (some d5) v).put (some d2) v) ({ c₀ with mode:=u' }::cs) w):=by
  have hR0:Real ⟨w0.K,w,g.B,[]⟩ g.H cfn.ntmps ⟨entry 0 ms,s.ob⟩ g a0 w:=by
   refine hR.inner [] (fun d x hx=>?_) hs0 (by rw [← ha0])
   obtain ⟨_,h2⟩:=Qa8 ms 0 d x hx
   rw [Nat.sub_zero] at h2
   obtain ⟨v,h3,h4⟩:=hms.at h2
   have hd:=(List.getElem?_eq_some_iff.1 h3).1
   have:a0.tmps.getD d undef=v:=by
    rw [← ha0]
    dsimp only
    rw [Array.getD_eq_getD_getElem?,Array.getElem?_append_left (by simpa using hd)]
    have h5:vs[d]?=some v:=by simpa using h3
    rw [h5]; rfl
   rw [this]; exact h4
  have hR1:=(hR0.put (dst:=some d5) (u:=v) (y:=y) (by simpa [QbX] using hd5) hv).put (dst:=some d2) (u:=v) (y:=y) (by simpa [QbX] using hd2) hv
  have hE':E w0.K w g.H:=hU.go _ _ _ _ hR.ext hE
  refine wpS_of_wp (wp_mono (Qaj hΔ (w0:=⟨w0.K,w,g.B,[]⟩) (fun o u hu=>hR.obs.dom o u hu) hΓ hU hE' hmix rest _ _ h g _ w hR1) fun e a' w' hq=>?_)
  have fin:∀ s4 g4,Real ⟨w0.K,w,g.B,[]⟩ g.H cfn.ntmps s4 g4 a' w'→endS P rs n0 o (frzAll ⟨bpE s.env,s4.ob⟩ s4.ob.length)→bodyPostS P cfn c₀ cs (fun e u' w'=>(∃ v',e=.returned v')∧settle u'=.returning∧R w') .ret a' ({ c₀ with mode:=u' }::cs) w':=by
   intro s4 g4 h1 h2
   obtain ⟨v',h3,_⟩:=QaS (P:=P) h1 (fn:=cfn) (x:=.tup []) (by rw [hres]; rfl)
   exact ⟨h1.dfr,u',rfl,v',h3,⟨_,rfl⟩,hset,hQ s4 g4 a' w' h1 h2⟩
  cases e with
  | normal=>obtain ⟨s4,g4,h1,h2⟩:=hq; exact fin s4 g4 h1 h2
  | ret=>obtain ⟨s4,g4,h1,h2⟩:=hq; exact fin s4 g4 h1 h2
  | exit i=>obtain ⟨s4,g4,h1,h2⟩:=hq; exact h2.elim
  | goto i=>obtain ⟨s4,g4,h1,h2⟩:=hq; exact h2.elim
  | panic c=>obtain ⟨_,_,_,_,_,_,_,h⟩:=hq; exact h.elim
  | outgrown=>exact hq.elim
 have hev:(a0.put (some d5) v).eval (.tmp d5)=v:=by
  show (a0.put (some d5) v).tmps.getD d5 undef=v
  rw [Qar,if_pos ⟨rfl,by rw [hs0]; exact hd5⟩]
 have hw1:∀ ys,Region.wanted r1 ys=true:=fun ys=>by simp [Region.wanted,hr1g]
 have hw2:∀ ys,Region.wanted r2 ys=true:=fun ys=>by simp [Region.wanted,hr2g]
 show wpOpsS P #[r1,r2] _ [0,1] a0 (c₀::cs) w
 unfold wpOpsS
 simp only [List.getElem?_toArray,List.getElem?_cons_zero,hw1,if_true,e1]
 rcases hrec with hrec | ⟨hrec,rfl,hc0⟩
 · rw [hrec]
   dsimp only
   unfold wpOpsS
   simp only [List.getElem?_toArray,List.getElem?_cons_succ,List.getElem?_cons_zero,hw2,if_true,e2,hr1d,hev,Oper.upon_value,hr2d]
   unfold wpOpsS
   exact key
 · rw [hrec]
   dsimp only
   unfold wpOpsS
   simp only [List.getElem?_toArray,List.getElem?_cons_succ,List.getElem?_cons_zero,hw2,if_true,e2,hr1d,hev,Oper.upon_value,hr2d]
   unfold wpOpsS
   rw [← hc0] at key
   exact key
theorem Qrj {H H':Hp} {B B':Hd} (hB:∀ o p,FixB B o p→B' o=some p) {vs:List Value} {ms:List PV} (h:PRs H B vs ms) (hb:QoQ ms=true):PRs H' B' vs ms:=by
 refine ⟨h.1,fun i v x hv hx=>?_⟩
 obtain ⟨o,n,rfl⟩:=QlD hb i x hx
 have:=h.2 i v _ hv hx
 cases this with
 | bp hb=>exact .bp (hB _ _ ⟨hb,rfl⟩)
set_option maxHeartbeats 1000000 in
theorem QbY {E:Env} {f:FuncId} {fn:Func} {sp:Spec2} {m m':Nat} {A C rest:Code} {id1 id2 d4 d5 d2:Nat} {o1 o2 r1 r2:Oper} {cf:FuncId} {cfn:Func} {caps:Array Operand} {ts ts':Array TypeId} (L:List (FuncId × Spec)) (L2:List (FuncId × Spec2))
  (hm:fn.ntmps=m) (hf:P.funcs[f]?=some fn) (hb:fn.body=some (.seq A (.seq (.region id1 #[o1,o2] false) C))) (hmix:P.follows .mixedOrders=true) (hU:Up E) (hL:AllC P E L) (hL2:Qjp P E L2)
  (ho1:o1.op=.makeFunc (.func cf) #[] caps) (ho1d:o1.dst=some d4) (ho1g:o1.guard=none) (ho2:o2.op=.defer ⟨.value (.tmp d4),#[],ts'⟩) (ho2d:o2.dst=none) (ho2g:o2.guard=none)
  (hcm:cfn.ntmps=m') (hcf:P.funcs[cf]?=some cfn) (hcb:cfn.body=some (.seq (.region id2 #[r1,r2] false) rest)) (hr1:r1.op=.call ⟨.builtin .recover,#[],ts⟩) (hr1d:r1.dst=some d5) (hr1g:r1.guard=none) (hr2:r2.op=.assign (.tmp d5)) (hr2d:r2.dst=some d2) (hr2g:r2.guard=none)
  (hres:cfn.results.toList=[]) (hpl:QcB P cf=true) (hds:(Nat.blt d4 m && (Nat.blt d5 m' && (Nat.blt d2 m' && Nat.ble caps.size m')))=true)
  (h:∀ xs ob o,sp xs ob=some o→o.ok→∃ ys,SubsB xs ys∧Nat.ble ys.length m=true∧PW P (spL L) (spL2 L2) Qfv m ob.length noQ A (fun e s=>match e with
   | .normal=>AtC P (spL L) (spL2 L2) m m' d4 d5 d2 ob.length cf caps.toList C rest fn.results.toList o.fin s
   | _=>False) ⟨entry 0 ys,ob⟩):Contract2 P E f sp:=by
 intro xs ob o hsp hok K w g vs hK hO hfull hE hvs
 obtain ⟨ys,h1,h2,h3⟩:=h xs ob o hsp hok
 subst hm hcm
 simp only [Bool.and_eq_true] at hds
 obtain ⟨hd4,hd5,hd2,hcl⟩:=hds
 have hvs:=h1.prs hvs
 have hlen:=Nat.le_of_ble_eq_true h2
 refine calls_of_wp_defers hf hb ?_
 have hsize:(vs.toArray++Array.replicate (fn.ntmps - vs.toArray.size) undef).size=fn.ntmps:=by
  simp [hvs.1]; omega
 have hR:Real ⟨K,w,g.B,[]⟩ g.H fn.ntmps ⟨entry 0 ys,ob⟩ g { tmps:=vs.toArray++Array.replicate (fn.ntmps - vs.toArray.size) undef,defers:=[] } w:=by
  refine ⟨ExtK.refl hO.fro hK,hO,hfull,fun d x hx=>?_,hsize,rfl,fun o p hp=>hp.1⟩
  obtain ⟨_,h2⟩:=Qa8 ys 0 d x hx
  rw [Nat.sub_zero] at h2
  obtain ⟨v,h3,h4⟩:=hvs.at h2
  have hd:=(List.getElem?_eq_some_iff.1 h3).1
  have:(vs.toArray++Array.replicate (fn.ntmps - vs.toArray.size) undef).getD d undef=v:=by
   rw [Array.getD_eq_getD_getElem?,Array.getElem?_append_left (by simpa using hd)]
   simp [h3]
  rw [this]; exact h4
 have hΔ:=Qbj hL2
 have hΓ:=Qbq hL
 have hn0:∀ o u,(⟨K,w,g.B,[]⟩:Cx).B o=some u→o<ob.length:=fun o u hu=>hO.dom o u hu
 refine wp_seq (wp_mono (Qaj hΔ hn0 hΓ hU hE hmix A _ _ h3 g _ w hR) fun e a1 w1 hq=>?_)
 cases e with
 | exit i=>obtain ⟨_,_,_,h⟩:=hq; exact h.elim
 | goto i=>obtain ⟨_,_,_,h⟩:=hq; exact h.elim
 | ret=>obtain ⟨_,_,_,h⟩:=hq; exact h.elim
 | panic c=>obtain ⟨_,_,_,_,_,_,_,h⟩:=hq; exact h.elim
 | outgrown=>exact hq.elim
 | normal =>
 obtain ⟨s1,g1,hR1,hC⟩:=hq
 dsimp only at hC
 unfold AtC at hC
 split at hC
 rotate_left
 · exact hC.elim
 rename_i ms hms
 split at hC
 rotate_left
 · exact hC.elim
 rename_i hbps
 have hv2:PRs g1.H g1.B (caps.map a1.eval).toList ms:=by simpa using QdR (a:=a1) (g:=g1) (fun x _=>Qcd (hR1.ev x)) hms
 have hlm:ms.length≤cfn.ntmps:=by
  have:=hv2.1
  simp at this
  have:=Nat.le_of_ble_eq_true hcl
  omega
 generalize hvs2:caps.map a1.eval=vs2 at hv2
 generalize hfv:Value.func (.func cf) #[] vs2=fv
 have hR2:=hR1.put (dst:=some d4) (u:=fv) (y:=.fn cf [] ms) (by simpa [QbX] using hd4) (by
  rw [← hfv]
  exact .fn rfl (fun i v x hv hx=>by simp at hv) (by simpa using hv2.1) (fun i v x hv hx=>hv2.2 i v x (by simpa using hv) hx))
 have hev:(a1.put (some d4) fv).eval (.tmp d4)=fv:=by
  show (a1.put (some d4) fv).tmps.getD d4 undef=fv
  rw [Qar,if_pos ⟨rfl,by rw [hR1.sz]; exact Qdn hd4⟩]
 refine wp_seq (wp_region_list ?_)
 refine wpList_step fun K1 hK1=>?_
 rw [if_pos (by simp [Region.wanted,ho1g])]
 have e1:(execOp a1.eval o1).run P w1=.ok (.value fv) w1:=by
  obtain ⟨dst,op,ty,pos,af,gd⟩:=o1
  dsimp only at ho1
  subst ho1
  show (do pure (Next.value (← Instr.makeFunc (.func cf) (#[].map a1.eval) (caps.map a1.eval))):Sem Next).run P w1=_
  rw [hvs2,← hfv]
  simp [Instr.makeFunc]
 refine Qbc e1 ?_
 rw [ho1d]
 refine hK1 _ _ ?_
 refine wpList_step fun K2 hK2=>?_
 rw [if_pos (by simp [Region.wanted,ho2g])]
 generalize hd:({ target:=.fn (.func cf) vs2,args:=#[] }:Deferred)=d
 have e2:(execOp (a1.put (some d4) fv).eval o2).run P w1=.ok (.defer d) w1:=by
  obtain ⟨dst,op,ty,pos,af,gd⟩:=o2
  dsimp only at ho2
  subst ho2
  show (do pure (Next.defer (← resolve (a1.put (some d4) fv).eval ⟨.value (.tmp d4),#[],ts'⟩ ty)):Sem Next).run P w1=_
  have e3:resolve (a1.put (some d4) fv).eval ⟨.value (.tmp d4),#[],ts'⟩ ty=pure d:=by
   show Deferred.ofValue ((a1.put (some d4) fv).eval (.tmp d4)) _=_
   rw [hev,← hfv,← hd]; simp [Deferred.ofValue]
  rw [e3]; rfl
 unfold Oper.wp
 rw [e2,Oper.upon_defer,ho2d]
 refine hK2 _ _ ?_
 -- the function itself
 have hR3:Real ⟨K,w1,g1.B,[d]⟩ g1.H fn.ntmps (s1.put (some d4) (.fn cf [] ms)) g1 ({ a1.put (some d4) fv with defers:=d::(a1.put (some d4) fv).defers }:Act) w1:=by
  have:=hR2.inner [d] (e':=(s1.put (some d4) (.fn cf [] ms)).env) (a':=({ a1.put (some d4) fv with defers:=d::(a1.put (some d4) fv).defers }:Act)) (m':=fn.ntmps) hR2.env hR2.sz (by
   have h5:=hR2.dfr
   dsimp only at h5 ⊢
   rw [h5])
  exact this
 have hE1:E K w1 g1.H:=hU.go _ _ _ _ hR1.ext hE
 have fin:∀ (s3:PS) (g3:Gh) (a3:Act) (w3:World) (y:PV) (v:Value) (u:FrameMode),Real ⟨K,w1,g1.B,[d]⟩ g1.H fn.ntmps s3 g3 a3 w3→AtD P (spL L) (spL2 L2) cfn.ntmps d5 d2 ob.length rest fn.results.toList o.fin ms y s3 →
   PR g3.H g3.B v y→((u=.returning∧v=.nilIface)∨u=.panicking [{ v,recovered:=false }]) →
   Leaves P fn a3.tmps (fun e w'=>∃ g' v,ExtK ⟨K,w,g.B,[]⟩ g.H w' g'.H∧Obs K o.fin.2.2 g' w'∧(∀ i,i<o.fin.2.2.length→∃ u,g'.B i=some u)∧(∀ i p,FixB g.B i p→g'.B i=some p)∧PR g'.H g'.B v o.fin.2.1 ∧
    e=(match o.fin.1 with | true=>.returned v | false=>.panicked [{ v,recovered:=false }])) a3.defers u w3:=by
  intro s3 g3 a3 w3 y v u hR4 hAt hv hu
  rw [hR4.dfr]
  show Leaves P fn a3.tmps _ [d] u w3
  rw [← hd]
  refine leaves_cons (by rcases hu with ⟨rfl,_⟩ | rfl <;> simp) (Qgx hpl) ?_
  have hms3:PRs g3.H g3.B (#[]++vs2).toList ms:=by simpa using Qrj hR4.ptr hv2 hbps
  refine (QhH hΔ hΓ hU hmix hcf hcb hr1 hr1d hr1g hr2 hr2d hr2g hres (Qdn hd5) (Qdn hd2) hE1 hR4 hms3 hlm hv hu hAt (R:=fun w5=>Leaves P fn a3.tmps (fun e w'=>∃ g' v,ExtK ⟨K,w,g.B,[]⟩ g.H w' g'.H∧Obs K o.fin.2.2 g' w'∧(∀ i,i<o.fin.2.2.length→∃ u,g'.B i=some u)∧(∀ i p,FixB g.B i p→g'.B i=some p)∧PR g'.H g'.B v o.fin.2.1 ∧
    e=(match o.fin.1 with | true=>.returned v | false=>.panicked [{ v,recovered:=false }])) [] .returning w5) ?_).mono ?_
  · intro s4 g4 a5 w5 hR5 hend
    have hR7:=hR1.along (hR4.outer hR5)
    obtain ⟨g8,hR8⟩:=hR7.frzAll s4.ob.length
    unfold endS at hend
    split at hend
    · rename_i x hx
      obtain ⟨v',q1,q2⟩:=QaS hR8 hx
      obtain ⟨q3,g',q4,q5,q6,q7,q8⟩:=QaZ hR8 hn0 q2.flatR hend.out
      exact ⟨v',q1,g',v',⟨q4.os,q4.tape,q4.output,q4.size,q4.block,q4.lt,q4.le,q4.fro,q4.new⟩,q5,q6,q7,q8,by rw [q3]⟩
    · exact hend.elim
  · rintro e u' w' ⟨⟨v',rfl⟩,hset,hr⟩
    dsimp only
    rw [hset]; exact hr
 refine wp_mono (Qaj hΔ (w0:=⟨K,w1,g1.B,[d]⟩) (n0:=s1.ob.length) (fun o u hu=>hR1.obs.dom o u hu) hΓ hU hE1 hmix C _ _ hC g1 _ w1 hR3) fun e a3 w3 hq=>?_
 cases e with
 | exit i=>obtain ⟨_,_,_,h⟩:=hq; exact h.elim
 | goto i=>obtain ⟨_,_,_,h⟩:=hq; exact h.elim
 | normal=>obtain ⟨s3,g3,q1,q2⟩:=hq; exact fin s3 g3 a3 w3 _ _ _ q1 q2 (.f (.v _ rfl)) (.inl ⟨rfl,rfl⟩)
 | ret=>obtain ⟨s3,g3,q1,q2⟩:=hq; exact fin s3 g3 a3 w3 _ _ _ q1 q2 (.f (.v _ rfl)) (.inl ⟨rfl,rfl⟩)
 | panic c=>obtain ⟨s3,g3,v,y,rfl,q1,q2,q3⟩:=hq; exact fin s3 g3 a3 w3 y v _ q1 q3 q2 (.inr rfl)
 | outgrown=>exact hq.elim
end
end Go.Proofs.YtijfaigpilfpaaaGreatDoor
