/- The layer model: what each kind comes to. -/
import Derived.Test.YtpjjdngoblfleaaGreatMd
namespace Go.Proofs.YtpjjdngoblfleaaGreat
open Go.RowKit
set_option linter.unusedVariables false
set_option maxRecDepth 100000
def nilV:Vw:=.mk 3 false [] false ⟨#[]⟩ []
def zeroW (s:ByteArray):Vw:=.mk (if s=bBool then 2 else if s=bInt then 1 else 0) false [] false ⟨#[]⟩ []
def vz (v:Vw):Bool × List Nat × Nat:=(v.neg,v.digits,v.digits.length)
def sumW:List Vw→Int→Int
 | [],a=>a
 | v::l,a=>sumW l (a+zV v.neg v.digits)
def prodW:List Vw→Int→Int
 | [],a=>a
 | v::l,a=>prodW l (a * zV v.neg v.digits)
def sizV:List Vw→Nat
 | []=>0
 | v::l=>v.digits.length+2+sizV l
def rowZ (L:List (Bool × List Nat × Nat)):List ((Bool × List Nat) × Nat × Nat):=L.map fun e=>((e.1,e.2.1),e.2.2,e.2.2+1)
theorem zsOf_row (L:List (Bool × List Nat × Nat)):zsOf (rowZ L)=L:=by
 unfold zsOf rowZ
 rw [List.map_map]
 exact (List.map_congr_left fun e _=>rfl).trans (List.map_id L)
theorem row_zs (L:List (Bool × List Nat × Nat)):Sub (.f (.row 2 (zsRow L))) (.f (.zs L)):=by
 have h:sliceR (.row 2 (zsRow L))=some (rowZ L):=rowsR_zs L
 have:=sub_zs h
 rwa [zsOf_row] at this
theorem row_sum:∀ (l:List Vw) (a:Int),sumR (rowZ (l.map vz)) a=sumW l a
 | [],a=>rfl
 | v::l,a=>row_sum l _
theorem row_prod:∀ (l:List Vw) (a:Int),prodR (rowZ (l.map vz)) a=prodW l a
 | [],a=>rfl
 | v::l,a=>row_prod l _
theorem row_size:∀ (l:List Vw),sizeR (rowZ (l.map vz))=sizV l
 | []=>rfl
 | v::l=>by
  show v.digits.length+2+sizeR (rowZ (l.map vz))=_
  rw [row_size l]; rfl
theorem row_all {l:List Vw} {n:Nat} (h:∀ v∈l,v.digits.length≤n):∀ x∈rowZ (l.map vz),x.2.1≤n:=by
 intro x hx
 unfold rowZ at hx
 rw [List.map_map,List.mem_map] at hx
 obtain ⟨v,hv,rfl⟩:=hx
 exact h v hv
theorem row_snoc (l:List Vw) (b:Bool) (d:List Nat):zsRow (l.map vz)++[[.v (.bool b),.lr d d.length]]=zsRow (l.map vz++[(b,d,d.length)]):=by
 unfold zsRow; rw [List.map_append]; rfl
theorem sizeR_app:∀ (l m:List ((Bool × List Nat) × Nat × Nat)),sizeR (l++m)=sizeR l+sizeR m
 | [],m=>by simp [sizeR]
 | x::l,m=>by
  have:=sizeR_app l m
  show x.2.1+2+sizeR (l++m)=x.2.1+2+sizeR l+sizeR m
  omega
theorem prodR_app:∀ (l m:List ((Bool × List Nat) × Nat × Nat)) (a:Int),prodR (l++m) a=prodR m (prodR l a)
 | [],m,a=>rfl
 | x::l,m,a=>prodR_app l m _
theorem rowsFit_snoc {l:List Vw} {b:Bool} {d:List Nat} (h:sizV l+d.length+2≤2000000):RowsFit (zsRow (l.map vz)++[[.v (.bool b),.lr d d.length]]):=by
 rw [row_snoc]
 refine ⟨rowZ (l.map vz++[(b,d,d.length)]),rowsR_zs _,?_⟩
 unfold rowZ
 rw [List.map_append,sizeR_app]
 have h1:=row_size l
 unfold rowZ at h1
 rw [h1]
 show sizV l+(d.length+2+0)≤2000000
 omega
theorem prodRow_snoc (l:List Vw) (b:Bool) (d:List Nat):prodRow (zsRow (l.map vz)++[[.v (.bool b),.lr d d.length]])=prodW l 1 * zV b d:=by
 rw [row_snoc]
 have h:rowsR (zsRow (l.map vz++[(b,d,d.length)]))=some (rowZ (l.map vz++[(b,d,d.length)])):=rowsR_zs _
 unfold prodRow
 rw [h]
 dsimp only
 unfold rowZ
 rw [List.map_append,prodR_app]
 have h1:=row_prod l 1
 unfold rowZ at h1
 rw [h1]
 rfl
theorem getD_in {l:List Vw} {i:Nat} (h:i<l.length):l.getD i Sh.vl.nil∈l:=by
 rw [List.getD_eq_getElem?_getD,List.getElem?_eq_getElem h]
 exact List.getElem_mem h
theorem row_len (l:List Vw):(rowZ (l.map vz)).length=l.length:=by simp [rowZ]
def EndsT (P:Program) (rs:List ResultVar) (n0:Nat) (o:Bool × PV × List PO):Exit→PS→Prop
 | .normal,s=>match resP P s rs with | some x=>EndU n0 o true x s.ob | none=>False
 | .ret,s=>match resP P s rs with | some x=>EndU n0 o true x s.ob | none=>False
 | _,_=>False
theorem calls2_T {P:Program} {E:Env} {Γ:Specs} {Δ:Specs2} (hΔ:Sound2 P E Δ) {Λ:Loops} {f:FuncId} {fn:Func} {c:Code} (hf:P.funcs[f]?=some fn) (hb:fn.body=some c) (hmix:P.follows .mixedOrders=true) (hU:Up E) (hΓ:Sound P E Γ) {xs:List PV} {ob:List PO} {o:Bool × PV × List PO} (hlen:xs.length≤fn.ntmps)
  (hpw:PW P Γ Δ Λ fn.ntmps ob.length (fun y s=>EndU ob.length o false y s.ob) c (EndsT P fn.results.toList ob.length o) ⟨entry 0 xs,ob⟩)
  (K:Nat→Prop) (w:World) (g:Gh) (vs:List Value) (hK:∀ b,K b→b<w.heap.size) (hO:Obs K ob g w) (hfull:∀ i,i<ob.length→∃ u,g.B i=some u) (hE:E K w g.H) (hvs:PRs g.H g.B vs xs) :
  Calls P f vs.toArray w fun e w'=>∃ g' v,ExtK ⟨K,w,g.B,[]⟩ g.H w' g'.H∧Obs K o.2.2 g' w'∧(∀ i,i<o.2.2.length→∃ u,g'.B i=some u)∧(∀ i p,FixB g.B i p→g'.B i=some p)∧PR g'.H g'.B v o.2.1 ∧
   e=(match o.1 with | true=>.returned v | false=>.panicked [{ v,recovered:=false }]):=by
 refine calls_of_wp hf hb ?_
 have hsize:(vs.toArray++Array.replicate (fn.ntmps - vs.toArray.size) undef).size=fn.ntmps:=by
  simp [hvs.1]; omega
 have hR:Real ⟨K,w,g.B,[]⟩ g.H fn.ntmps ⟨entry 0 xs,ob⟩ g { tmps:=vs.toArray++Array.replicate (fn.ntmps - vs.toArray.size) undef,defers:=[] } w:=by
  refine ⟨ExtK.refl hO.fro hK,hO,hfull,fun d x hx=>?_,hsize,rfl,fun o p hp=>hp.1⟩
  obtain ⟨_,h2⟩:=entry_look xs 0 d x hx
  rw [Nat.sub_zero] at h2
  obtain ⟨v,h3,h4⟩:=hvs.at h2
  have hd:=(List.getElem?_eq_some_iff.1 h3).1
  have:(vs.toArray++Array.replicate (fn.ntmps - vs.toArray.size) undef).getD d undef=v:=by
   rw [Array.getD_eq_getD_getElem?,Array.getElem?_append_left (by simpa using hd)]
   simp [h3]
  rw [this]; exact h4
 have hn0:∀ o u,(⟨K,w,g.B,[]⟩:Cx).B o=some u→o<ob.length:=fun o u hu=>hO.dom o u hu
 refine wp_mono (pw_sound hΔ hn0 hΓ hU hE hmix c _ _ hpw _ _ _ hR) fun e a' w' hq=>?_
 have key:∀ s g1,Real ⟨K,w,g.B,[]⟩ g.H fn.ntmps s g1 a' w'→(match resP P s fn.results.toList with | some x=>EndU ob.length o true x s.ob | none=>False) →
   a'.defers=[]∧∃ v,(results fn a'.tmps).run P w'=.ok v w'∧∃ g' v',ExtK ⟨K,w,g.B,[]⟩ g.H w' g'.H∧Obs K o.2.2 g' w'∧(∀ i,i<o.2.2.length→∃ u,g'.B i=some u)∧(∀ i p,FixB g.B i p→g'.B i=some p)∧PR g'.H g'.B v' o.2.1 ∧
   Ending.returned v=(match o.1 with | true=>.returned v' | false=>.panicked [{ v:=v',recovered:=false }]):=by
  intro s g1 hR' hE
  split at hE
  · rename_i x hx
    obtain ⟨v,h1,h2⟩:=results_run hR' hx
    obtain ⟨h3,g',h4,h5,h6,h7,h8⟩:=endO_real hR' hn0 h2 hE.out
    exact ⟨hR'.dfr,v,h1,g',v,h4,h5,h6,h7,h8,by rw [h3]⟩
  · exact hE.elim
 cases e with
 | normal=>obtain ⟨s,g,h1,h2⟩:=hq; exact key s g h1 h2
 | ret=>obtain ⟨s,g,h1,h2⟩:=hq; exact key s g h1 h2
 | exit i=>obtain ⟨s,g,h1,h2⟩:=hq; exact h2.elim
 | goto i=>obtain ⟨s,g,h1,h2⟩:=hq; exact h2.elim
 | panic c =>
  obtain ⟨ob',g1,v,y,rfl,h1,h2,h3⟩:=hq
  obtain ⟨h3,g',h4,h5,h6,h7,h8⟩:=endO_real h1 hn0 h2 h3.out
  exact ⟨h1.dfr,g',v,h4,h5,h6,h7,h8,by rw [h3]⟩
 | outgrown=>exact hq.elim
theorem contract2_T {P:Program} {E:Env} {f:FuncId} {fn:Func} {sp:Spec2} {m:Nat} (L:List (FuncId × Spec)) (L2:List (FuncId × Spec2)) (hm:fn.ntmps=m) (hf:P.funcs[f]?=some fn) (hb:fn.body=some (fn.body.getD .skip)) (hmix:P.follows .mixedOrders=true) (hU:Up E) (hL:AllC P E L) (hL2:AllC2 P E L2)
  (h:∀ xs ob o,sp xs ob=some o→o.ok→∃ ys l,SubsB xs ys∧Nat.ble ys.length m=true∧(goodA ys→shortA ys→PW P (spL L) (spL2 L2) (lpL l) m ob.length (fun y s=>EndU ob.length o.fin false y s.ob) (fn.body.getD .skip) (EndsT P fn.results.toList ob.length o.fin) ⟨entry 0 ys,ob⟩)):Contract2 P E f sp:=by
 intro xs ob o hsp hok K w g vs hK hO hfull hE hvs
 obtain ⟨ys,l,h1,h2,h3⟩:=h xs ob o hsp hok
 subst hm
 have hv:=h1.prs hvs
 exact calls2_T (spL2_sound hL2) hf hb hmix hU (spL_sound hL) (Nat.le_of_ble_eq_true h2) (h3 hv.good hv.short) K w g vs hK hO hfull hE hv
def sNumber:Spec
 | [.agg [.f (.zn z),.f (.zd z' k)]]=>some (some (z=z'),.one (vlP (numV z)))
 | _=>none
theorem cNumber {E:Env} (hU:Up E):Contract Tryz.prog E 81 sNumber:=by
 refine contract_D [] [] Tryz.ntmps81 Tryz.func81 (by kernel_rfl) (by kernel_rfl) hU trivial trivial ?_
 intro xs p r hs hp
 unfold sNumber at hs
 split at hs
 · rename_i z z' k
   cases hs
   obtain rfl:=hp _ rfl
   refine ⟨[zP z k],[],.cons (.refl _) .nil,rfl,fun _ hsh=>?_⟩
   refine cast_rfl (p:=true=true∧Sub (PV.agg [PV.f (Lf.v (Value.int IntKind.u8 1)),PV.f (Lf.zn z),PV.f (Lf.zd z k),bV false,sV (ByteArray.mk #[]),PV.f (Lf.v (Value.slice none 0 0))]) (PV.agg [PV.f (Lf.v (Value.int IntKind.u8 (numV z).kind)),bV ((numV z).neg),PV.f (Lf.lr (numV z).digits (numV z).digits.length),bV ((numV z).truth),sV ((numV z).name),PV.f (Lf.dt Sh.vl [])])) ?kr ?_
   case kr=>kernel_rfl
   refine ⟨rfl,?m0⟩
   case m0=>exact (vl_sub (t:=numV z) rfl).sub
 · cases hs
def sTruth:Spec
 | [.f (.v (.bool b))]=>some (none,.one (vlP (boolV b)))
 | _=>none
theorem cTruth {E:Env} (hU:Up E):Contract Tryz.prog E 83 sTruth:=by
 refine contract_D [] [] Tryz.ntmps83 Tryz.func83 (by kernel_rfl) (by kernel_rfl) hU trivial trivial ?_
 intro xs p r hs hp
 unfold sTruth at hs
 split at hs
 · rename_i b
   cases hs
   refine ⟨[.f (.v (.bool b))],[],.cons (.refl _) .nil,rfl,fun _ hsh=>?_⟩
   refine cast_rfl (p:=true=true∧Sub (PV.agg [PV.f (Lf.v (Value.int IntKind.u8 2)),bV false,PV.f (Lf.v (Value.slice none 0 0)),bV b,sV (ByteArray.mk #[]),PV.f (Lf.v (Value.slice none 0 0))]) (PV.agg [PV.f (Lf.v (Value.int IntKind.u8 (boolV b).kind)),bV ((boolV b).neg),PV.f (Lf.lr (boolV b).digits 0),bV ((boolV b).truth),sV ((boolV b).name),PV.f (Lf.dt Sh.vl [])])) ?kr ?_
   case kr=>kernel_rfl
   refine ⟨rfl,?m0⟩
   case m0=>exact (vl_sub (t:=boolV b) rfl).sub
 · cases hs
def sNothing:Spec
 | []=>some (none,.one (vlP nilV))
 | _=>none
theorem cNothing {E:Env} (hU:Up E):Contract Tryz.prog E 89 sNothing:=by
 refine contract_D [] [] Tryz.ntmps89 Tryz.func89 (by kernel_rfl) (by kernel_rfl) hU trivial trivial ?_
 intro xs p r hs hp
 unfold sNothing at hs
 split at hs
 · cases hs
   refine ⟨[],[],.nil,rfl,fun _ hsh=>?_⟩
   refine cast_rfl (p:=true=true∧Sub (PV.agg [PV.f (Lf.v (Value.int IntKind.u8 3)),bV false,PV.f (Lf.v (Value.slice none 0 0)),bV false,sV (ByteArray.mk #[]),PV.f (Lf.v (Value.slice none 0 0))]) (PV.agg [PV.f (Lf.v (Value.int IntKind.u8 nilV.kind)),bV nilV.neg,PV.f (Lf.lr nilV.digits 0),bV nilV.truth,sV nilV.name,PV.f (Lf.dt Sh.vl [])])) ?kr ?_
   case kr=>kernel_rfl
   refine ⟨rfl,?m0⟩
   case m0=>exact (vl_sub (t:=nilV) rfl).sub
 · cases hs
def sZero:Spec
 | [.f (.v (.string s))]=>some (none,.one (vlP (zeroW s)))
 | _=>none
theorem cZero {E:Env} (hU:Up E):Contract Tryz.prog E 88 sZero:=by
 refine contract_D [] [] Tryz.ntmps88 Tryz.func88 (by kernel_rfl) (by kernel_rfl) hU trivial trivial ?_
 intro xs p r hs hp
 unfold sZero at hs
 split at hs
 · rename_i s
   cases hs
   refine ⟨[.f (.v (.string s))],[],.cons (.refl _) .nil,rfl,fun _ hsh=>?_⟩
   refine cast_rfl (p:=ifB (Kt.str.eq s (ByteArray.mk #[(98:UInt8),(111:UInt8),(111:UInt8),(108:UInt8)])) (true=true∧Sub (PV.agg [PV.f (Lf.v (Value.int IntKind.u8 2)),bV false,PV.f (Lf.v (Value.slice none 0 0)),bV false,sV (ByteArray.mk #[]),PV.f (Lf.v (Value.slice none 0 0))]) (PV.agg [PV.f (Lf.v (Value.int IntKind.u8 (zeroW s).kind)),bV ((zeroW s).neg),PV.f (Lf.lr (zeroW s).digits 0),bV ((zeroW s).truth),sV ((zeroW s).name),PV.f (Lf.dt Sh.vl [])])) (ifB (Kt.str.eq s (ByteArray.mk #[(105:UInt8),(110:UInt8),(116:UInt8)])) (true=true∧Sub (PV.agg [PV.f (Lf.v (Value.int IntKind.u8 1)),bV false,PV.f (Lf.v (Value.slice none 0 0)),bV false,sV (ByteArray.mk #[]),PV.f (Lf.v (Value.slice none 0 0))]) (PV.agg [PV.f (Lf.v (Value.int IntKind.u8 (zeroW s).kind)),bV ((zeroW s).neg),PV.f (Lf.lr (zeroW s).digits 0),bV ((zeroW s).truth),sV ((zeroW s).name),PV.f (Lf.dt Sh.vl [])])) (true=true∧Sub (PV.agg [PV.f (Lf.v (Value.int IntKind.u8 0)),bV false,PV.f (Lf.v (Value.slice none 0 0)),bV false,sV (ByteArray.mk #[]),PV.f (Lf.v (Value.slice none 0 0))]) (PV.agg [PV.f (Lf.v (Value.int IntKind.u8 (zeroW s).kind)),bV ((zeroW s).neg),PV.f (Lf.lr (zeroW s).digits 0),bV ((zeroW s).truth),sV ((zeroW s).name),PV.f (Lf.dt Sh.vl [])])))) ?kr ?_
   case kr=>kernel_rfl
   refine ifB_iff.2 ⟨fun hb0=>⟨rfl,?m0⟩,fun hb0=>ifB_iff.2 ⟨fun hb1=>⟨rfl,?m1⟩,fun hb1=>⟨rfl,?m2⟩⟩⟩
   all_goals have eB:Kt.str.eq s bBool=decide (s=bBool):=rfl
   all_goals have eI:Kt.str.eq s bInt=decide (s=bInt):=rfl
   case m0 =>
    have h:s=bBool:=of_decide_eq_true (eB.symm.trans hb0)
    exact (vl_sub (t:=zeroW s) (by unfold zeroW; rw [if_pos h]; rfl)).sub
   all_goals have h0:¬ s=bBool:=of_decide_eq_false (eB.symm.trans hb0)
   case m1 =>
    have h:s=bInt:=of_decide_eq_true (eI.symm.trans hb1)
    exact (vl_sub (t:=zeroW s) (by unfold zeroW; rw [if_neg h0,if_pos h]; rfl)).sub
   case m2 =>
    have h:¬ s=bInt:=of_decide_eq_false (eI.symm.trans hb1)
    exact (vl_sub (t:=zeroW s) (by unfold zeroW; rw [if_neg h0,if_neg h]; rfl)).sub
 · cases hs
def sNums:Spec
 | [x]=>match wkOf x with
  | some (D,t,l)=>some (some (l.length≤100000000),.one (.f (.zs (l.map vz))))
  | none=>none
 | _=>none
theorem cNums {E:Env} (hU:Up E):Contract Tryz.prog E 84 sNums:=by
 refine contract_D [] [] Tryz.ntmps84 Tryz.func84 (by kernel_rfl) (by kernel_rfl) hU trivial trivial ?_
 intro xs p r hs hp
 unfold sNums at hs
 split at hs
 · rename_i x
   split at hs
   · rename_i D t l hv
     cases hs
     have hf:=hp _ rfl
     refine ⟨[wkP D t l],[(3,.s ⟨Nat,fun i=>⟨[(3,.tl 1 (.row 2 (zsRow ((l.take i).map vz)))),(7,.f (.dt .vl l)),(8,iV l.length),(9,iV i)],[.cells (wrapF (wkC D t l)),.tail 26 2]⟩,fun i=>i≤l.length,fun i=>l.length - i⟩)],.cons (wk_sub hv).sub .nil,rfl,fun _ hsh=>?_⟩
     have h0:=hv
     refine cast_rfl (p:=∃ (x1:Nat),(((SubB (PV.f (Lf.dt Sh.dat D)) (PV.f (Lf.dt Sh.dat D))∧SubB (PV.f (Lf.v (Value.int IntKind.u8 t.kind))) (PV.f (Lf.v (Value.int IntKind.u8 t.kind)))∧SubB (sV t.name) (sV t.name)∧SubB (bV t.neg) (bV t.neg)∧SubB (PV.f (Lf.lr t.digits t.digits.length)) (PV.f (Lf.lr t.digits t.digits.length))∧SubB (PV.f (Lf.dt Sh.tm t.kids)) (PV.f (Lf.dt Sh.tm t.kids))∧SubB (PV.f (Lf.dt Sh.vl l)) (PV.f (Lf.dt Sh.vl l))∧True)∧True)∧emptyT (PV.tl 1 (Lf.row 2 (zsRow (List.map vz (List.take x1 l)))))∧SubB (PV.f (Lf.dt Sh.vl l)) (PV.f (Lf.dt Sh.vl l))∧SubB (iV (↑l.length:Int)) (iV (↑l.length:Int))∧SubB (iV 0) (iV (↑x1:Int))∧True)∧x1≤l.length∧True∧∀ (z2:Nat),z2≤l.length→True→ifB (decide ((↑z2:Int)<(↑l.length:Int))) (((0:Int)≤(↑z2:Int)∧(↑z2:Int)<(↑l.length:Int))∧((zsRow (List.map vz (List.take z2 l))).length+1≤9223372036854775807∧((zsRow (List.map vz (List.take z2 l))).length+1) * 32≤140737488355328)∧∃ (x3:Nat),(((SubB (PV.f (Lf.dt Sh.dat D)) (PV.f (Lf.dt Sh.dat D))∧SubB (PV.f (Lf.v (Value.int IntKind.u8 t.kind))) (PV.f (Lf.v (Value.int IntKind.u8 t.kind)))∧SubB (sV t.name) (sV t.name)∧SubB (bV t.neg) (bV t.neg)∧SubB (PV.f (Lf.lr t.digits t.digits.length)) (PV.f (Lf.lr t.digits t.digits.length))∧SubB (PV.f (Lf.dt Sh.tm t.kids)) (PV.f (Lf.dt Sh.tm t.kids))∧SubB (PV.f (Lf.dt Sh.vl l)) (PV.f (Lf.dt Sh.vl l))∧True)∧True)∧SubB (PV.tl 1 (Lf.row 2 (zsRow (List.map vz (List.take z2 l))++[[Lf.v (Value.bool (Vw.neg (l.getD (↑z2:Int).toNat Sh.vl.nil))),Lf.lr (Vw.digits (l.getD (↑z2:Int).toNat Sh.vl.nil)) (Vw.digits (l.getD (↑z2:Int).toNat Sh.vl.nil)).length]]))) (PV.tl 1 (Lf.row 2 (zsRow (List.map vz (List.take x3 l)))))∧SubB (PV.f (Lf.dt Sh.vl l)) (PV.f (Lf.dt Sh.vl l))∧SubB (iV (↑l.length:Int)) (iV (↑l.length:Int))∧SubB (iV (IntKind.i64.wrap ((↑z2:Int)+(1:Int)))) (iV (↑x3:Int))∧True)∧x3≤l.length∧True∧(l.length - x3).succ.le (l.length - z2)) (true=true∧Sub (PV.f (Lf.row 2 (zsRow (List.map vz (List.take z2 l))))) (PV.f (Lf.zs (List.map vz l))))) ?kr ?_
     case kr=>kernel_rfl
     refine ⟨?x0,⟨?s0,⟨?s1,⟨trivial,fun z2=>fun hq0=>fun _=>ifB_iff.2 ⟨fun hb1=>⟨?s2,⟨?s3,⟨?x1,⟨⟨⟨⟨.refl _,⟨.refl _,⟨.refl _,⟨.refl _,⟨.refl _,⟨.refl _,⟨.refl _,trivial⟩⟩⟩⟩⟩⟩⟩,trivial⟩,⟨?m0,⟨.refl _,⟨.refl _,⟨?m1,trivial⟩⟩⟩⟩⟩,⟨?s4,⟨trivial,?m2⟩⟩⟩⟩⟩⟩,fun hb1=>⟨rfl,?m3⟩⟩⟩⟩⟩⟩
     case x0=>exact 0
     case x1=>exact z2+1
     all_goals try simp only [decide_eq_true_eq,decide_eq_false_iff_not,Int.toNat_natCast] at *
     case s0=>exact ⟨⟨⟨.refl _,.refl _,.refl _,.refl _,.refl _,.refl _,.refl _,trivial⟩,trivial⟩,rfl,.refl _,.refl _,.refl _,trivial⟩
     case s1=>exact Nat.zero_le _
     case m3 =>
      rw [List.take_of_length_le (by omega)]
      exact row_zs _
     all_goals have hz:z2<l.length:=by omega
     case s2=>omega
     case s3 =>
      rw [show (zsRow ((l.take z2).map vz)).length=z2 by simp [zsRow]; omega]
      omega
     case m0 =>
      have e:zsRow ((l.take (z2+1)).map vz)=zsRow ((l.take z2).map vz)++[[.v (.bool (Vw.neg (l.getD z2 Sh.vl.nil))),.lr (Vw.digits (l.getD z2 Sh.vl.nil)) (Vw.digits (l.getD z2 Sh.vl.nil)).length]]:=by
       rw [List.take_add_one,List.getElem?_eq_getElem hz,List.getD_eq_getElem?_getD,List.getElem?_eq_getElem hz]
       unfold zsRow
       rw [List.map_append,List.map_append]
       rfl
      rw [e]
      exact .refl _
     case m1=>exact subB_i (by rw [wJ _ (by omega) (by omega)]; rfl)
     case s4=>exact hz
     case m2=>exact (by omega:l.length - (z2+1)<l.length - z2)
   · cases hs
 · cases hs
def sNumsO:Spec2
 | [x],[]=>match wkOf x with
  | some (D,t,l)=>some (.need (l.length≤100000000) (.ret (.tl 1 (.row 2 (zsRow (l.map vz)))) [.cells (wrapF (wkC D t l)),.tail 26 2]))
  | none=>none
 | _,_=>none
theorem cNumsO {E:Env} (hU:Up E):Contract2 Tryz.prog E 84 sNumsO:=by
 refine contract2_T [] [] Tryz.ntmps84 Tryz.func84 (by kernel_rfl) (by kernel_rfl) hU trivial trivial ?_
 intro xs ob o hs hok
 unfold sNumsO at hs
 split at hs
 · rename_i x
   split at hs
   · rename_i D t l hv
     cases hs
     have hf:=hok.1
     refine ⟨[wkP D t l],[(3,.s ⟨Nat,fun i=>⟨[(3,.tl 1 (.row 2 (zsRow ((l.take i).map vz)))),(7,.f (.dt .vl l)),(8,iV l.length),(9,iV i)],[.cells (wrapF (wkC D t l)),.tail 26 2]⟩,fun i=>i≤l.length,fun i=>l.length - i⟩)],.cons (wk_sub hv) .nil,rfl,fun _ hsh=>?_⟩
     have h0:=hv
     refine cast_rfl (p:=∃ (x1:Nat),(((SubB (PV.f (Lf.dt Sh.dat D)) (PV.f (Lf.dt Sh.dat D))∧SubB (PV.f (Lf.v (Value.int IntKind.u8 t.kind))) (PV.f (Lf.v (Value.int IntKind.u8 t.kind)))∧SubB (sV t.name) (sV t.name)∧SubB (bV t.neg) (bV t.neg)∧SubB (PV.f (Lf.lr t.digits t.digits.length)) (PV.f (Lf.lr t.digits t.digits.length))∧SubB (PV.f (Lf.dt Sh.tm t.kids)) (PV.f (Lf.dt Sh.tm t.kids))∧SubB (PV.f (Lf.dt Sh.vl l)) (PV.f (Lf.dt Sh.vl l))∧True)∧True)∧emptyT (PV.tl 1 (Lf.row 2 (zsRow (List.map vz (List.take x1 l)))))∧SubB (PV.f (Lf.dt Sh.vl l)) (PV.f (Lf.dt Sh.vl l))∧SubB (iV (↑l.length:Int)) (iV (↑l.length:Int))∧SubB (iV 0) (iV (↑x1:Int))∧True)∧x1≤l.length∧True∧∀ (z2:Nat),z2≤l.length→True→ifB (decide ((↑z2:Int)<(↑l.length:Int))) (((0:Int)≤(↑z2:Int)∧(↑z2:Int)<(↑l.length:Int))∧((zsRow (List.map vz (List.take z2 l))).length+1≤9223372036854775807∧((zsRow (List.map vz (List.take z2 l))).length+1) * 32≤140737488355328)∧∃ (x3:Nat),(((SubB (PV.f (Lf.dt Sh.dat D)) (PV.f (Lf.dt Sh.dat D))∧SubB (PV.f (Lf.v (Value.int IntKind.u8 t.kind))) (PV.f (Lf.v (Value.int IntKind.u8 t.kind)))∧SubB (sV t.name) (sV t.name)∧SubB (bV t.neg) (bV t.neg)∧SubB (PV.f (Lf.lr t.digits t.digits.length)) (PV.f (Lf.lr t.digits t.digits.length))∧SubB (PV.f (Lf.dt Sh.tm t.kids)) (PV.f (Lf.dt Sh.tm t.kids))∧SubB (PV.f (Lf.dt Sh.vl l)) (PV.f (Lf.dt Sh.vl l))∧True)∧True)∧SubB (PV.tl 1 (Lf.row 2 (zsRow (List.map vz (List.take z2 l))++[[Lf.v (Value.bool (Vw.neg (l.getD (↑z2:Int).toNat Sh.vl.nil))),Lf.lr (Vw.digits (l.getD (↑z2:Int).toNat Sh.vl.nil)) (Vw.digits (l.getD (↑z2:Int).toNat Sh.vl.nil)).length]]))) (PV.tl 1 (Lf.row 2 (zsRow (List.map vz (List.take x3 l)))))∧SubB (PV.f (Lf.dt Sh.vl l)) (PV.f (Lf.dt Sh.vl l))∧SubB (iV (↑l.length:Int)) (iV (↑l.length:Int))∧SubB (iV (IntKind.i64.wrap ((↑z2:Int)+(1:Int)))) (iV (↑x3:Int))∧True)∧x3≤l.length∧True∧(l.length - x3).succ.le (l.length - z2)) (EndU 0 (Out.need (l.length≤100000000) (Out.ret (PV.tl 1 (Lf.row 2 (zsRow (List.map vz l)))) [PO.cells (wrapF (wkC D t l)),PO.tail 26 2])).fin true (PV.tl 1 (Lf.row 2 (zsRow (List.map vz (List.take z2 l))))) [PO.cells ([PV.f (Lf.dt Sh.dat D)]++(wrapF (tmC t)++[PV.f (Lf.dt Sh.vl l)])),PO.tail 26 2])) ?kr ?_
     case kr=>kernel_rfl
     refine ⟨?x0,⟨?s0,⟨?s1,⟨trivial,fun z2=>fun hq0=>fun _=>ifB_iff.2 ⟨fun hb1=>⟨?s2,⟨?s3,⟨?x1,⟨⟨⟨⟨.refl _,⟨.refl _,⟨.refl _,⟨.refl _,⟨.refl _,⟨.refl _,⟨.refl _,trivial⟩⟩⟩⟩⟩⟩⟩,trivial⟩,⟨?m0,⟨.refl _,⟨.refl _,⟨?m1,trivial⟩⟩⟩⟩⟩,⟨?s4,⟨trivial,?m2⟩⟩⟩⟩⟩⟩,fun hb1=>?m3⟩⟩⟩⟩⟩
     case x0=>exact 0
     case x1=>exact z2+1
     all_goals try simp only [decide_eq_true_eq,decide_eq_false_iff_not,Int.toNat_natCast] at *
     case s0=>exact ⟨⟨⟨.refl _,.refl _,.refl _,.refl _,.refl _,.refl _,.refl _,trivial⟩,trivial⟩,rfl,.refl _,.refl _,.refl _,trivial⟩
     case s1=>exact Nat.zero_le _
     case m3 =>
      rw [List.take_of_length_le (by omega)]
      exact endU rfl (.refl _) rfl rfl (r:=[]) rfl
     all_goals have hz:z2<l.length:=by omega
     case s2=>omega
     case s3 =>
      rw [show (zsRow ((l.take z2).map vz)).length=z2 by simp [zsRow]; omega]
      omega
     case m0 =>
      have e:zsRow ((l.take (z2+1)).map vz)=zsRow ((l.take z2).map vz)++[[.v (.bool (Vw.neg (l.getD z2 Sh.vl.nil))),.lr (Vw.digits (l.getD z2 Sh.vl.nil)) (Vw.digits (l.getD z2 Sh.vl.nil)).length]]:=by
       rw [List.take_add_one,List.getElem?_eq_getElem hz,List.getD_eq_getElem?_getD,List.getElem?_eq_getElem hz]
       unfold zsRow
       rw [List.map_append,List.map_append]
       rfl
      rw [e]
      exact .refl _
     case m1=>exact subB_i (by rw [wJ _ (by omega) (by omega)]; rfl)
     case s4=>exact hz
     case m2=>exact (by omega:l.length - (z2+1)<l.length - z2)
   · cases hs
 · cases hs
def sLit:Spec
 | [x]=>match wkOf x with
  | some (D,t,l)=>some (some (t.digits.length≤1500000),.one (.tup [vlP (numV (zV t.neg t.digits)),bV (rightZ t.neg t.digits)]))
  | none=>none
 | _=>none
theorem cLit {E:Env} (hU:Up E):Contract Tryz.prog E 40 sLit:=by
 refine contract_D [(82,sAddW),(81,sNumber),(65,sRight)] [] Tryz.ntmps40 Tryz.func40 (by kernel_rfl) (by kernel_rfl) hU ⟨cAddW hU,cNumber hU,cRight hU,trivial⟩ trivial ?_
 intro xs p r hs hp
 unfold sLit at hs
 split at hs
 · rename_i x
   split at hs
   · rename_i D t l hv
     cases hs
     have hf:=hp _ rfl
     refine ⟨[wkP D t l],[],.cons (wk_sub hv).sub .nil,rfl,fun _ hsh=>?_⟩
     have h0:=hv
     refine cast_rfl (p:=((∀ (x:(Bool × List Nat) × Nat × Nat),x∈[((t.neg,t.digits),t.digits.length,t.digits.length+1)]→x.snd.fst≤2000000)∧1≤100000000)∧∀ (z1:Int),z1=(0:Int)+zV t.neg t.digits→z1=z1∧t.digits.length≤100000000∧true=true∧Sub (PV.tup [PV.agg [PV.f (Lf.v (Value.int IntKind.u8 (numV z1).kind)),bV ((numV z1).neg),PV.f (Lf.lr (numV z1).digits (numV z1).digits.length),bV ((numV z1).truth),sV ((numV z1).name),PV.f (Lf.dt Sh.vl [])],bV (rightZ t.neg t.digits)]) (PV.tup [PV.agg [PV.f (Lf.v (Value.int IntKind.u8 (numV (zV t.neg t.digits)).kind)),bV ((numV (zV t.neg t.digits)).neg),PV.f (Lf.lr (numV (zV t.neg t.digits)).digits (numV (zV t.neg t.digits)).digits.length),bV ((numV (zV t.neg t.digits)).truth),sV ((numV (zV t.neg t.digits)).name),PV.f (Lf.dt Sh.vl [])],bV (rightZ t.neg t.digits)])) ?kr ?_
     case kr=>kernel_rfl
     refine ⟨?s0,fun z1=>fun hz1=>⟨rfl,⟨?s1,⟨rfl,?m0⟩⟩⟩⟩
     case s0=>exact ⟨fun x hx=>by simp at hx; subst hx; show t.digits.length≤2000000; omega,by omega⟩
     case s1=>omega
     case m0=>rw [Int.zero_add] at hz1; subst hz1; exact .refl _
   · cases hs
 · cases hs
def sYes:Spec
 | [x]=>match wkOf x with
  | some (D,t,l)=>some (none,.one (.tup [vlP (boolV true),bV true]))
  | none=>none
 | _=>none
theorem cYes {E:Env} (hU:Up E):Contract Tryz.prog E 41 sYes:=by
 refine contract_D [(83,sTruth)] [] Tryz.ntmps41 Tryz.func41 (by kernel_rfl) (by kernel_rfl) hU ⟨cTruth hU,trivial⟩ trivial ?_
 intro xs p r hs hp
 unfold sYes at hs
 split at hs
 · rename_i x
   split at hs
   · rename_i D t l hv
     cases hs
     refine ⟨[wkP D t l],[],.cons (wk_sub hv).sub .nil,rfl,fun _ hsh=>?_⟩
     have h0:=hv
     refine cast_rfl (p:=true=true∧Sub (PV.tup [PV.agg [PV.f (Lf.v (Value.int IntKind.u8 (boolV true).kind)),bV ((boolV true).neg),PV.f (Lf.lr (boolV true).digits 0),bV ((boolV true).truth),sV ((boolV true).name),PV.f (Lf.dt Sh.vl [])],bV true]) (PV.tup [PV.agg [PV.f (Lf.v (Value.int IntKind.u8 (boolV true).kind)),bV ((boolV true).neg),PV.f (Lf.lr (boolV true).digits 0),bV ((boolV true).truth),sV ((boolV true).name),PV.f (Lf.dt Sh.vl [])],bV true])) ?kr ?_
     case kr=>kernel_rfl
     refine ⟨rfl,?m0⟩
     case m0=>exact .refl _
   · cases hs
 · cases hs
def sNo:Spec
 | [x]=>match wkOf x with
  | some (D,t,l)=>some (none,.one (.tup [vlP (boolV false),bV true]))
  | none=>none
 | _=>none
theorem cNo {E:Env} (hU:Up E):Contract Tryz.prog E 42 sNo:=by
 refine contract_D [(83,sTruth)] [] Tryz.ntmps42 Tryz.func42 (by kernel_rfl) (by kernel_rfl) hU ⟨cTruth hU,trivial⟩ trivial ?_
 intro xs p r hs hp
 unfold sNo at hs
 split at hs
 · rename_i x
   split at hs
   · rename_i D t l hv
     cases hs
     refine ⟨[wkP D t l],[],.cons (wk_sub hv).sub .nil,rfl,fun _ hsh=>?_⟩
     have h0:=hv
     refine cast_rfl (p:=true=true∧Sub (PV.tup [PV.agg [PV.f (Lf.v (Value.int IntKind.u8 (boolV false).kind)),bV ((boolV false).neg),PV.f (Lf.lr (boolV false).digits 0),bV ((boolV false).truth),sV ((boolV false).name),PV.f (Lf.dt Sh.vl [])],bV true]) (PV.tup [PV.agg [PV.f (Lf.v (Value.int IntKind.u8 (boolV false).kind)),bV ((boolV false).neg),PV.f (Lf.lr (boolV false).digits 0),bV ((boolV false).truth),sV ((boolV false).name),PV.f (Lf.dt Sh.vl [])],bV true])) ?kr ?_
     case kr=>kernel_rfl
     refine ⟨rfl,?m0⟩
     case m0=>exact .refl _
   · cases hs
 · cases hs
def sSumW:Spec
 | [x]=>match wkOf x with
  | some (D,t,l)=>some (some ((∀ v∈l,v.digits.length≤2000000)∧l.length≤100000000),.one (.tup [vlP (numV (sumW l 0)),bV (allV l 1)]))
  | none=>none
 | _=>none
theorem cSumW {E:Env} (hU:Up E):Contract Tryz.prog E 43 sSumW:=by
 refine contract_D [(84,sNums),(82,sAddW),(81,sNumber),(85,sAllM)] [] Tryz.ntmps43 Tryz.func43 (by kernel_rfl) (by kernel_rfl) hU ⟨cNums hU,cAddW hU,cNumber hU,cAllM hU,trivial⟩ trivial ?_
 intro xs p r hs hp
 unfold sSumW at hs
 split at hs
 · rename_i x
   split at hs
   · rename_i D t l hv
     cases hs
     have hf:=hp _ rfl
     refine ⟨[wkP D t l],[],.cons (wk_sub hv).sub .nil,rfl,fun _ hsh=>?_⟩
     have h0:=hv
     refine cast_rfl (p:=l.length≤100000000∧((∀ (x:(Bool × List Nat) × Nat × Nat),x∈List.map (fun (e:Bool × List Nat × Nat)=>((e.fst,e.snd.fst),e.snd.snd,e.snd.snd+1)) (List.map vz l)→x.snd.fst≤2000000)∧(List.map (fun (e:Bool × List Nat × Nat)=>((e.fst,e.snd.fst),e.snd.snd,e.snd.snd+1)) (List.map vz l)).length≤100000000)∧∀ (z1:Int),z1=sumR (List.map (fun (e:Bool × List Nat × Nat)=>((e.fst,e.snd.fst),e.snd.snd,e.snd.snd+1)) (List.map vz l)) (0:Int)→z1=z1∧∀ (z2:Bool),z2=allV l (1:Int)→true=true∧Sub (PV.tup [PV.agg [PV.f (Lf.v (Value.int IntKind.u8 (numV z1).kind)),bV ((numV z1).neg),PV.f (Lf.lr (numV z1).digits (numV z1).digits.length),bV ((numV z1).truth),sV ((numV z1).name),PV.f (Lf.dt Sh.vl [])],bV z2]) (PV.tup [PV.agg [PV.f (Lf.v (Value.int IntKind.u8 (numV (sumW l (0:Int))).kind)),bV ((numV (sumW l (0:Int))).neg),PV.f (Lf.lr (numV (sumW l (0:Int))).digits (numV (sumW l (0:Int))).digits.length),bV ((numV (sumW l (0:Int))).truth),sV ((numV (sumW l (0:Int))).name),PV.f (Lf.dt Sh.vl [])],bV (allV l (1:Int))])) ?kr ?_
     case kr=>kernel_rfl
     refine ⟨?s0,⟨?s1,fun z1=>fun hz1=>⟨rfl,fun z2=>fun hz2=>⟨rfl,?m0⟩⟩⟩⟩
     all_goals try rw [show List.map _ (l.map vz)=rowZ (l.map vz) from rfl] at *
     case s0=>exact hf.2
     case s1=>exact ⟨row_all hf.1,by rw [row_len]; exact hf.2⟩
     case m0=>subst_vars; rw [row_sum]; exact .refl _
   · cases hs
 · cases hs
def sProdW:Spec
 | [x]=>match wkOf x with
  | some (D,t,l)=>some (some (sizV l+t.digits.length+2≤2000000∧l.length≤100000000),.one (.tup [vlP (numV (prodW l 1 * zV t.neg t.digits)),bV (allV l 1 && rightZ t.neg t.digits)]))
  | none=>none
 | _=>none
theorem cProdW {E:Env} (hU:Up E):Contract Tryz.prog E 44 sProdW:=by
 refine contract_D [(86,sMulR),(81,sNumber),(85,sAllM),(65,sRight)] [(84,sNumsO)] Tryz.ntmps44 Tryz.func44 (by kernel_rfl) (by kernel_rfl) hU ⟨cMulR hU,cNumber hU,cAllM hU,cRight hU,trivial⟩ ⟨cNumsO hU,trivial⟩ ?_
 intro xs p r hs hp
 unfold sProdW at hs
 split at hs
 · rename_i x
   split at hs
   · rename_i D t l hv
     cases hs
     have hf:=hp _ rfl
     refine ⟨[wkP D t l],[],.cons (wk_sub hv).sub .nil,rfl,fun _ hsh=>?_⟩
     have h0:=hv
     refine cast_rfl (p:=SameL [PV.agg ([PV.f (Lf.dt Sh.dat D)]++(wrapF (tmC t)++[PV.f (Lf.dt Sh.vl l)])),PV.bp 0 1,PV.bp 0 3,PV.agg [bV t.neg,PV.f (Lf.lr t.digits t.digits.length)],PV.f (Lf.row 2 [[Lf.v (Value.bool t.neg),Lf.lr t.digits t.digits.length]]),PV.agg ([PV.f (Lf.dt Sh.dat D)]++(wrapF (tmC t)++[PV.f (Lf.dt Sh.vl l)]))] [PV.agg ([PV.f (Lf.dt Sh.dat D)]++(wrapF (tmC t)++[PV.f (Lf.dt Sh.vl l)])),PV.bp 0 1,PV.bp 0 3,PV.agg [bV t.neg,PV.f (Lf.lr t.digits t.digits.length)],PV.f (Lf.row 2 [[Lf.v (Value.bool t.neg),Lf.lr t.digits t.digits.length]]),PV.agg ([PV.f (Lf.dt Sh.dat D)]++(wrapF (tmC t)++[PV.f (Lf.dt Sh.vl l)]))]∧l.length≤100000000∧SameL [PV.agg ([PV.f (Lf.dt Sh.dat D)]++(wrapF (tmC t)++[PV.f (Lf.dt Sh.vl l)])),PV.bp 0 1,PV.bp 0 3,PV.agg [bV t.neg,PV.f (Lf.lr t.digits t.digits.length)],PV.f (Lf.row 2 [[Lf.v (Value.bool t.neg),Lf.lr t.digits t.digits.length]]),PV.agg ([PV.f (Lf.dt Sh.dat D)]++(wrapF (tmC t)++[PV.f (Lf.dt Sh.vl l)]))] [PV.agg ([PV.f (Lf.dt Sh.dat D)]++(wrapF (tmC t)++[PV.f (Lf.dt Sh.vl l)])),PV.bp 0 1,PV.bp 0 3,PV.agg [bV t.neg,PV.f (Lf.lr t.digits t.digits.length)],PV.f (Lf.row 2 [[Lf.v (Value.bool t.neg),Lf.lr t.digits t.digits.length]]),PV.agg ([PV.f (Lf.dt Sh.dat D)]++(wrapF (tmC t)++[PV.f (Lf.dt Sh.vl l)]))]∧((zsRow (List.map vz l)).length+1≤9223372036854775807∧((zsRow (List.map vz l)).length+1) * 32≤140737488355328)∧SameL [PV.agg ([PV.f (Lf.dt Sh.dat D)]++(wrapF (tmC t)++[PV.f (Lf.dt Sh.vl l)])),PV.bp 0 1,PV.bp 0 3,PV.agg [bV t.neg,PV.f (Lf.lr t.digits t.digits.length)],PV.f (Lf.row 2 [[Lf.v (Value.bool t.neg),Lf.lr t.digits t.digits.length]]),PV.agg ([PV.f (Lf.dt Sh.dat D)]++(wrapF (tmC t)++[PV.f (Lf.dt Sh.vl l)]))] [PV.agg ([PV.f (Lf.dt Sh.dat D)]++(wrapF (tmC t)++[PV.f (Lf.dt Sh.vl l)])),PV.bp 0 1,PV.bp 0 3,PV.agg [bV t.neg,PV.f (Lf.lr t.digits t.digits.length)],PV.f (Lf.row 2 [[Lf.v (Value.bool t.neg),Lf.lr t.digits t.digits.length]]),PV.agg ([PV.f (Lf.dt Sh.dat D)]++(wrapF (tmC t)++[PV.f (Lf.dt Sh.vl l)]))]∧RowsFit (zsRow (List.map vz l)++[[Lf.v (Value.bool t.neg),Lf.lr t.digits t.digits.length]])∧∀ (z1:Int),z1=prodRow (zsRow (List.map vz l)++[[Lf.v (Value.bool t.neg),Lf.lr t.digits t.digits.length]])→SameL [PV.agg ([PV.f (Lf.dt Sh.dat D)]++(wrapF (tmC t)++[PV.f (Lf.dt Sh.vl l)])),PV.bp 0 1,PV.bp 0 3,PV.agg [bV t.neg,PV.f (Lf.lr t.digits t.digits.length)],PV.f (Lf.row 2 [[Lf.v (Value.bool t.neg),Lf.lr t.digits t.digits.length]]),PV.agg ([PV.f (Lf.dt Sh.dat D)]++(wrapF (tmC t)++[PV.f (Lf.dt Sh.vl l)]))] [PV.agg ([PV.f (Lf.dt Sh.dat D)]++(wrapF (tmC t)++[PV.f (Lf.dt Sh.vl l)])),PV.bp 0 1,PV.bp 0 3,PV.agg [bV t.neg,PV.f (Lf.lr t.digits t.digits.length)],PV.f (Lf.row 2 [[Lf.v (Value.bool t.neg),Lf.lr t.digits t.digits.length]]),PV.agg ([PV.f (Lf.dt Sh.dat D)]++(wrapF (tmC t)++[PV.f (Lf.dt Sh.vl l)]))]∧z1=z1∧SameL [PV.agg ([PV.f (Lf.dt Sh.dat D)]++(wrapF (tmC t)++[PV.f (Lf.dt Sh.vl l)])),PV.bp 0 1,PV.bp 0 3,PV.agg [bV t.neg,PV.f (Lf.lr t.digits t.digits.length)],PV.f (Lf.row 2 [[Lf.v (Value.bool t.neg),Lf.lr t.digits t.digits.length]]),PV.agg ([PV.f (Lf.dt Sh.dat D)]++(wrapF (tmC t)++[PV.f (Lf.dt Sh.vl l)]))] [PV.agg ([PV.f (Lf.dt Sh.dat D)]++(wrapF (tmC t)++[PV.f (Lf.dt Sh.vl l)])),PV.bp 0 1,PV.bp 0 3,PV.agg [bV t.neg,PV.f (Lf.lr t.digits t.digits.length)],PV.f (Lf.row 2 [[Lf.v (Value.bool t.neg),Lf.lr t.digits t.digits.length]]),PV.agg ([PV.f (Lf.dt Sh.dat D)]++(wrapF (tmC t)++[PV.f (Lf.dt Sh.vl l)]))]∧∀ (z2:Bool),z2=allV l (1:Int)→SameL [PV.agg ([PV.f (Lf.dt Sh.dat D)]++(wrapF (tmC t)++[PV.f (Lf.dt Sh.vl l)])),PV.bp 0 1,PV.bp 0 3,PV.agg [bV t.neg,PV.f (Lf.lr t.digits t.digits.length)],PV.f (Lf.row 2 [[Lf.v (Value.bool t.neg),Lf.lr t.digits t.digits.length]]),PV.agg ([PV.f (Lf.dt Sh.dat D)]++(wrapF (tmC t)++[PV.f (Lf.dt Sh.vl l)]))] [PV.agg ([PV.f (Lf.dt Sh.dat D)]++(wrapF (tmC t)++[PV.f (Lf.dt Sh.vl l)])),PV.bp 0 1,PV.bp 0 3,PV.agg [bV t.neg,PV.f (Lf.lr t.digits t.digits.length)],PV.f (Lf.row 2 [[Lf.v (Value.bool t.neg),Lf.lr t.digits t.digits.length]]),PV.agg ([PV.f (Lf.dt Sh.dat D)]++(wrapF (tmC t)++[PV.f (Lf.dt Sh.vl l)]))]∧SameL [PV.agg ([PV.f (Lf.dt Sh.dat D)]++(wrapF (tmC t)++[PV.f (Lf.dt Sh.vl l)])),PV.bp 0 1,PV.bp 0 3,PV.agg [bV t.neg,PV.f (Lf.lr t.digits t.digits.length)],PV.f (Lf.row 2 [[Lf.v (Value.bool t.neg),Lf.lr t.digits t.digits.length]]),PV.agg ([PV.f (Lf.dt Sh.dat D)]++(wrapF (tmC t)++[PV.f (Lf.dt Sh.vl l)]))] [PV.agg ([PV.f (Lf.dt Sh.dat D)]++(wrapF (tmC t)++[PV.f (Lf.dt Sh.vl l)])),PV.bp 0 1,PV.bp 0 3,PV.agg [bV t.neg,PV.f (Lf.lr t.digits t.digits.length)],PV.f (Lf.row 2 [[Lf.v (Value.bool t.neg),Lf.lr t.digits t.digits.length]]),PV.agg ([PV.f (Lf.dt Sh.dat D)]++(wrapF (tmC t)++[PV.f (Lf.dt Sh.vl l)]))]∧ifB z2 (SameL [PV.agg ([PV.f (Lf.dt Sh.dat D)]++(wrapF (tmC t)++[PV.f (Lf.dt Sh.vl l)])),PV.bp 0 1,PV.bp 0 3,PV.agg [bV t.neg,PV.f (Lf.lr t.digits t.digits.length)],PV.f (Lf.row 2 [[Lf.v (Value.bool t.neg),Lf.lr t.digits t.digits.length]]),PV.agg ([PV.f (Lf.dt Sh.dat D)]++(wrapF (tmC t)++[PV.f (Lf.dt Sh.vl l)]))] [PV.agg ([PV.f (Lf.dt Sh.dat D)]++(wrapF (tmC t)++[PV.f (Lf.dt Sh.vl l)])),PV.bp 0 1,PV.bp 0 3,PV.agg [bV t.neg,PV.f (Lf.lr t.digits t.digits.length)],PV.f (Lf.row 2 [[Lf.v (Value.bool t.neg),Lf.lr t.digits t.digits.length]]),PV.agg ([PV.f (Lf.dt Sh.dat D)]++(wrapF (tmC t)++[PV.f (Lf.dt Sh.vl l)]))]∧SameL [PV.agg ([PV.f (Lf.dt Sh.dat D)]++(wrapF (tmC t)++[PV.f (Lf.dt Sh.vl l)])),PV.bp 0 1,PV.bp 0 3,PV.agg [bV t.neg,PV.f (Lf.lr t.digits t.digits.length)],PV.f (Lf.row 2 [[Lf.v (Value.bool t.neg),Lf.lr t.digits t.digits.length]]),PV.agg ([PV.f (Lf.dt Sh.dat D)]++(wrapF (tmC t)++[PV.f (Lf.dt Sh.vl l)]))] [PV.agg ([PV.f (Lf.dt Sh.dat D)]++(wrapF (tmC t)++[PV.f (Lf.dt Sh.vl l)])),PV.bp 0 1,PV.bp 0 3,PV.agg [bV t.neg,PV.f (Lf.lr t.digits t.digits.length)],PV.f (Lf.row 2 [[Lf.v (Value.bool t.neg),Lf.lr t.digits t.digits.length]]),PV.agg ([PV.f (Lf.dt Sh.dat D)]++(wrapF (tmC t)++[PV.f (Lf.dt Sh.vl l)]))]∧SameL [PV.agg ([PV.f (Lf.dt Sh.dat D)]++(wrapF (tmC t)++[PV.f (Lf.dt Sh.vl l)])),PV.bp 0 1,PV.bp 0 3,PV.agg [bV t.neg,PV.f (Lf.lr t.digits t.digits.length)],PV.f (Lf.row 2 [[Lf.v (Value.bool t.neg),Lf.lr t.digits t.digits.length]]),PV.agg ([PV.f (Lf.dt Sh.dat D)]++(wrapF (tmC t)++[PV.f (Lf.dt Sh.vl l)]))] [PV.agg ([PV.f (Lf.dt Sh.dat D)]++(wrapF (tmC t)++[PV.f (Lf.dt Sh.vl l)])),PV.bp 0 1,PV.bp 0 3,PV.agg [bV t.neg,PV.f (Lf.lr t.digits t.digits.length)],PV.f (Lf.row 2 [[Lf.v (Value.bool t.neg),Lf.lr t.digits t.digits.length]]),PV.agg ([PV.f (Lf.dt Sh.dat D)]++(wrapF (tmC t)++[PV.f (Lf.dt Sh.vl l)]))]∧t.digits.length≤100000000∧SameL [PV.agg ([PV.f (Lf.dt Sh.dat D)]++(wrapF (tmC t)++[PV.f (Lf.dt Sh.vl l)])),PV.bp 0 1,PV.bp 0 3,PV.agg [bV t.neg,PV.f (Lf.lr t.digits t.digits.length)],PV.f (Lf.row 2 [[Lf.v (Value.bool t.neg),Lf.lr t.digits t.digits.length]]),PV.agg ([PV.f (Lf.dt Sh.dat D)]++(wrapF (tmC t)++[PV.f (Lf.dt Sh.vl l)]))] [PV.agg ([PV.f (Lf.dt Sh.dat D)]++(wrapF (tmC t)++[PV.f (Lf.dt Sh.vl l)])),PV.bp 0 1,PV.bp 0 3,PV.agg [bV t.neg,PV.f (Lf.lr t.digits t.digits.length)],PV.f (Lf.row 2 [[Lf.v (Value.bool t.neg),Lf.lr t.digits t.digits.length]]),PV.agg ([PV.f (Lf.dt Sh.dat D)]++(wrapF (tmC t)++[PV.f (Lf.dt Sh.vl l)]))]∧SameL [PV.agg ([PV.f (Lf.dt Sh.dat D)]++(wrapF (tmC t)++[PV.f (Lf.dt Sh.vl l)])),PV.bp 0 1,PV.bp 0 3,PV.agg [bV t.neg,PV.f (Lf.lr t.digits t.digits.length)],PV.f (Lf.row 2 [[Lf.v (Value.bool t.neg),Lf.lr t.digits t.digits.length]]),PV.agg ([PV.f (Lf.dt Sh.dat D)]++(wrapF (tmC t)++[PV.f (Lf.dt Sh.vl l)]))] [PV.agg ([PV.f (Lf.dt Sh.dat D)]++(wrapF (tmC t)++[PV.f (Lf.dt Sh.vl l)])),PV.bp 0 1,PV.bp 0 3,PV.agg [bV t.neg,PV.f (Lf.lr t.digits t.digits.length)],PV.f (Lf.row 2 [[Lf.v (Value.bool t.neg),Lf.lr t.digits t.digits.length]]),PV.agg ([PV.f (Lf.dt Sh.dat D)]++(wrapF (tmC t)++[PV.f (Lf.dt Sh.vl l)]))]∧SameL [PV.agg ([PV.f (Lf.dt Sh.dat D)]++(wrapF (tmC t)++[PV.f (Lf.dt Sh.vl l)])),PV.bp 0 1,PV.bp 0 3,PV.agg [bV t.neg,PV.f (Lf.lr t.digits t.digits.length)],PV.f (Lf.row 2 [[Lf.v (Value.bool t.neg),Lf.lr t.digits t.digits.length]]),PV.agg ([PV.f (Lf.dt Sh.dat D)]++(wrapF (tmC t)++[PV.f (Lf.dt Sh.vl l)]))] [PV.agg ([PV.f (Lf.dt Sh.dat D)]++(wrapF (tmC t)++[PV.f (Lf.dt Sh.vl l)])),PV.bp 0 1,PV.bp 0 3,PV.agg [bV t.neg,PV.f (Lf.lr t.digits t.digits.length)],PV.f (Lf.row 2 [[Lf.v (Value.bool t.neg),Lf.lr t.digits t.digits.length]]),PV.agg ([PV.f (Lf.dt Sh.dat D)]++(wrapF (tmC t)++[PV.f (Lf.dt Sh.vl l)]))]∧SameL [PV.agg ([PV.f (Lf.dt Sh.dat D)]++(wrapF (tmC t)++[PV.f (Lf.dt Sh.vl l)])),PV.bp 0 1,PV.bp 0 3,PV.agg [bV t.neg,PV.f (Lf.lr t.digits t.digits.length)],PV.f (Lf.row 2 [[Lf.v (Value.bool t.neg),Lf.lr t.digits t.digits.length]]),PV.agg ([PV.f (Lf.dt Sh.dat D)]++(wrapF (tmC t)++[PV.f (Lf.dt Sh.vl l)]))] [PV.agg ([PV.f (Lf.dt Sh.dat D)]++(wrapF (tmC t)++[PV.f (Lf.dt Sh.vl l)])),PV.bp 0 1,PV.bp 0 3,PV.agg [bV t.neg,PV.f (Lf.lr t.digits t.digits.length)],PV.f (Lf.row 2 [[Lf.v (Value.bool t.neg),Lf.lr t.digits t.digits.length]]),PV.agg ([PV.f (Lf.dt Sh.dat D)]++(wrapF (tmC t)++[PV.f (Lf.dt Sh.vl l)]))]∧true=true∧Sub (PV.tup [PV.agg [PV.f (Lf.v (Value.int IntKind.u8 (numV z1).kind)),bV ((numV z1).neg),PV.f (Lf.lr (numV z1).digits (numV z1).digits.length),bV ((numV z1).truth),sV ((numV z1).name),PV.f (Lf.dt Sh.vl [])],bV (rightZ t.neg t.digits)]) (PV.tup [PV.agg [PV.f (Lf.v (Value.int IntKind.u8 (numV (prodW l (1:Int) * zV t.neg t.digits)).kind)),bV ((numV (prodW l (1:Int) * zV t.neg t.digits)).neg),PV.f (Lf.lr (numV (prodW l (1:Int) * zV t.neg t.digits)).digits (numV (prodW l (1:Int) * zV t.neg t.digits)).digits.length),bV ((numV (prodW l (1:Int) * zV t.neg t.digits)).truth),sV ((numV (prodW l (1:Int) * zV t.neg t.digits)).name),PV.f (Lf.dt Sh.vl [])],bV (allV l (1:Int) && rightZ t.neg t.digits)])) (SameL [PV.agg ([PV.f (Lf.dt Sh.dat D)]++(wrapF (tmC t)++[PV.f (Lf.dt Sh.vl l)])),PV.bp 0 1,PV.bp 0 3,PV.agg [bV t.neg,PV.f (Lf.lr t.digits t.digits.length)],PV.f (Lf.row 2 [[Lf.v (Value.bool t.neg),Lf.lr t.digits t.digits.length]]),PV.agg ([PV.f (Lf.dt Sh.dat D)]++(wrapF (tmC t)++[PV.f (Lf.dt Sh.vl l)]))] [PV.agg ([PV.f (Lf.dt Sh.dat D)]++(wrapF (tmC t)++[PV.f (Lf.dt Sh.vl l)])),PV.bp 0 1,PV.bp 0 3,PV.agg [bV t.neg,PV.f (Lf.lr t.digits t.digits.length)],PV.f (Lf.row 2 [[Lf.v (Value.bool t.neg),Lf.lr t.digits t.digits.length]]),PV.agg ([PV.f (Lf.dt Sh.dat D)]++(wrapF (tmC t)++[PV.f (Lf.dt Sh.vl l)]))]∧SameL [PV.agg ([PV.f (Lf.dt Sh.dat D)]++(wrapF (tmC t)++[PV.f (Lf.dt Sh.vl l)])),PV.bp 0 1,PV.bp 0 3,PV.agg [bV t.neg,PV.f (Lf.lr t.digits t.digits.length)],PV.f (Lf.row 2 [[Lf.v (Value.bool t.neg),Lf.lr t.digits t.digits.length]]),PV.agg ([PV.f (Lf.dt Sh.dat D)]++(wrapF (tmC t)++[PV.f (Lf.dt Sh.vl l)]))] [PV.agg ([PV.f (Lf.dt Sh.dat D)]++(wrapF (tmC t)++[PV.f (Lf.dt Sh.vl l)])),PV.bp 0 1,PV.bp 0 3,PV.agg [bV t.neg,PV.f (Lf.lr t.digits t.digits.length)],PV.f (Lf.row 2 [[Lf.v (Value.bool t.neg),Lf.lr t.digits t.digits.length]]),PV.agg ([PV.f (Lf.dt Sh.dat D)]++(wrapF (tmC t)++[PV.f (Lf.dt Sh.vl l)]))]∧SameL [PV.agg ([PV.f (Lf.dt Sh.dat D)]++(wrapF (tmC t)++[PV.f (Lf.dt Sh.vl l)])),PV.bp 0 1,PV.bp 0 3,PV.agg [bV t.neg,PV.f (Lf.lr t.digits t.digits.length)],PV.f (Lf.row 2 [[Lf.v (Value.bool t.neg),Lf.lr t.digits t.digits.length]]),PV.agg ([PV.f (Lf.dt Sh.dat D)]++(wrapF (tmC t)++[PV.f (Lf.dt Sh.vl l)]))] [PV.agg ([PV.f (Lf.dt Sh.dat D)]++(wrapF (tmC t)++[PV.f (Lf.dt Sh.vl l)])),PV.bp 0 1,PV.bp 0 3,PV.agg [bV t.neg,PV.f (Lf.lr t.digits t.digits.length)],PV.f (Lf.row 2 [[Lf.v (Value.bool t.neg),Lf.lr t.digits t.digits.length]]),PV.agg ([PV.f (Lf.dt Sh.dat D)]++(wrapF (tmC t)++[PV.f (Lf.dt Sh.vl l)]))]∧SameL [PV.agg ([PV.f (Lf.dt Sh.dat D)]++(wrapF (tmC t)++[PV.f (Lf.dt Sh.vl l)])),PV.bp 0 1,PV.bp 0 3,PV.agg [bV t.neg,PV.f (Lf.lr t.digits t.digits.length)],PV.f (Lf.row 2 [[Lf.v (Value.bool t.neg),Lf.lr t.digits t.digits.length]]),PV.agg ([PV.f (Lf.dt Sh.dat D)]++(wrapF (tmC t)++[PV.f (Lf.dt Sh.vl l)]))] [PV.agg ([PV.f (Lf.dt Sh.dat D)]++(wrapF (tmC t)++[PV.f (Lf.dt Sh.vl l)])),PV.bp 0 1,PV.bp 0 3,PV.agg [bV t.neg,PV.f (Lf.lr t.digits t.digits.length)],PV.f (Lf.row 2 [[Lf.v (Value.bool t.neg),Lf.lr t.digits t.digits.length]]),PV.agg ([PV.f (Lf.dt Sh.dat D)]++(wrapF (tmC t)++[PV.f (Lf.dt Sh.vl l)]))]∧SameL [PV.agg ([PV.f (Lf.dt Sh.dat D)]++(wrapF (tmC t)++[PV.f (Lf.dt Sh.vl l)])),PV.bp 0 1,PV.bp 0 3,PV.agg [bV t.neg,PV.f (Lf.lr t.digits t.digits.length)],PV.f (Lf.row 2 [[Lf.v (Value.bool t.neg),Lf.lr t.digits t.digits.length]]),PV.agg ([PV.f (Lf.dt Sh.dat D)]++(wrapF (tmC t)++[PV.f (Lf.dt Sh.vl l)]))] [PV.agg ([PV.f (Lf.dt Sh.dat D)]++(wrapF (tmC t)++[PV.f (Lf.dt Sh.vl l)])),PV.bp 0 1,PV.bp 0 3,PV.agg [bV t.neg,PV.f (Lf.lr t.digits t.digits.length)],PV.f (Lf.row 2 [[Lf.v (Value.bool t.neg),Lf.lr t.digits t.digits.length]]),PV.agg ([PV.f (Lf.dt Sh.dat D)]++(wrapF (tmC t)++[PV.f (Lf.dt Sh.vl l)]))]∧SameL [PV.agg ([PV.f (Lf.dt Sh.dat D)]++(wrapF (tmC t)++[PV.f (Lf.dt Sh.vl l)])),PV.bp 0 1,PV.bp 0 3,PV.agg [bV t.neg,PV.f (Lf.lr t.digits t.digits.length)],PV.f (Lf.row 2 [[Lf.v (Value.bool t.neg),Lf.lr t.digits t.digits.length]]),PV.agg ([PV.f (Lf.dt Sh.dat D)]++(wrapF (tmC t)++[PV.f (Lf.dt Sh.vl l)]))] [PV.agg ([PV.f (Lf.dt Sh.dat D)]++(wrapF (tmC t)++[PV.f (Lf.dt Sh.vl l)])),PV.bp 0 1,PV.bp 0 3,PV.agg [bV t.neg,PV.f (Lf.lr t.digits t.digits.length)],PV.f (Lf.row 2 [[Lf.v (Value.bool t.neg),Lf.lr t.digits t.digits.length]]),PV.agg ([PV.f (Lf.dt Sh.dat D)]++(wrapF (tmC t)++[PV.f (Lf.dt Sh.vl l)]))]∧SameL [PV.agg ([PV.f (Lf.dt Sh.dat D)]++(wrapF (tmC t)++[PV.f (Lf.dt Sh.vl l)])),PV.bp 0 1,PV.bp 0 3,PV.agg [bV t.neg,PV.f (Lf.lr t.digits t.digits.length)],PV.f (Lf.row 2 [[Lf.v (Value.bool t.neg),Lf.lr t.digits t.digits.length]]),PV.agg ([PV.f (Lf.dt Sh.dat D)]++(wrapF (tmC t)++[PV.f (Lf.dt Sh.vl l)]))] [PV.agg ([PV.f (Lf.dt Sh.dat D)]++(wrapF (tmC t)++[PV.f (Lf.dt Sh.vl l)])),PV.bp 0 1,PV.bp 0 3,PV.agg [bV t.neg,PV.f (Lf.lr t.digits t.digits.length)],PV.f (Lf.row 2 [[Lf.v (Value.bool t.neg),Lf.lr t.digits t.digits.length]]),PV.agg ([PV.f (Lf.dt Sh.dat D)]++(wrapF (tmC t)++[PV.f (Lf.dt Sh.vl l)]))]∧true=true∧Sub (PV.tup [PV.agg [PV.f (Lf.v (Value.int IntKind.u8 (numV z1).kind)),bV ((numV z1).neg),PV.f (Lf.lr (numV z1).digits (numV z1).digits.length),bV ((numV z1).truth),sV ((numV z1).name),PV.f (Lf.dt Sh.vl [])],bV false]) (PV.tup [PV.agg [PV.f (Lf.v (Value.int IntKind.u8 (numV (prodW l (1:Int) * zV t.neg t.digits)).kind)),bV ((numV (prodW l (1:Int) * zV t.neg t.digits)).neg),PV.f (Lf.lr (numV (prodW l (1:Int) * zV t.neg t.digits)).digits (numV (prodW l (1:Int) * zV t.neg t.digits)).digits.length),bV ((numV (prodW l (1:Int) * zV t.neg t.digits)).truth),sV ((numV (prodW l (1:Int) * zV t.neg t.digits)).name),PV.f (Lf.dt Sh.vl [])],bV (allV l (1:Int) && rightZ t.neg t.digits)]))) ?kr ?_
     case kr=>kernel_rfl
     refine ⟨⟨rfl⟩,⟨?s0,⟨⟨rfl⟩,⟨?s1,⟨⟨rfl⟩,⟨?s2,fun z1=>fun hz1=>⟨⟨rfl⟩,⟨rfl,⟨⟨rfl⟩,fun z2=>fun hz2=>⟨⟨rfl⟩,⟨⟨rfl⟩,ifB_iff.2 ⟨fun hb0=>⟨⟨rfl⟩,⟨⟨rfl⟩,⟨⟨rfl⟩,⟨?s3,⟨⟨rfl⟩,⟨⟨rfl⟩,⟨⟨rfl⟩,⟨⟨rfl⟩,⟨rfl,?m0⟩⟩⟩⟩⟩⟩⟩⟩⟩,fun hb0=>⟨⟨rfl⟩,⟨⟨rfl⟩,⟨⟨rfl⟩,⟨⟨rfl⟩,⟨⟨rfl⟩,⟨⟨rfl⟩,⟨⟨rfl⟩,⟨rfl,?m1⟩⟩⟩⟩⟩⟩⟩⟩⟩⟩⟩⟩⟩⟩⟩⟩⟩⟩⟩⟩
     case s0=>exact hf.2
     case s1 =>
      have e:(zsRow (l.map vz)).length=l.length:=by simp [zsRow]
      have:=hf.2
      omega
     case s2=>exact rowsFit_snoc hf.1
     case s3=>have:=hf.1; omega
     case m0 =>
      have e:(allV l 1 && rightZ t.neg t.digits)=rightZ t.neg t.digits:=by rw [← hz2,hb0]; rfl
      rw [hz1,prodRow_snoc,e]; exact .refl _
     case m1 =>
      have e:(allV l 1 && rightZ t.neg t.digits)=false:=by rw [← hz2,hb0]; rfl
      rw [hz1,prodRow_snoc,e]; exact .refl _
   · cases hs
 · cases hs
noncomputable def sEqW:Spec
 | [x]=>match wkOf x with
  | some (D,t,l)=>some (some (2≤l.length∧fitVL 40000000 l),.one (.tup [vlP (boolV (sameV (l.getD 0 Sh.vl.nil) (l.getD 1 Sh.vl.nil))),bV (allV l 1 || allV l 3)]))
  | none=>none
 | _=>none
theorem cEqW {E:Env} (hU:Up E):Contract Tryz.prog E 46 sEqW:=by
 refine contract_D [(10,sSameV),(83,sTruth),(85,sAllM)] [] Tryz.ntmps46 Tryz.func46 (by kernel_rfl) (by kernel_rfl) hU ⟨cSameV hU,cTruth hU,cAllM hU,trivial⟩ trivial ?_
 intro xs p r hs hp
 unfold sEqW at hs
 split at hs
 · rename_i x
   split at hs
   · rename_i D t l hv
     cases hs
     have hf:=hp _ rfl
     refine ⟨[wkP D t l],[],.cons (wk_sub hv).sub .nil,rfl,fun _ hsh=>?_⟩
     have h0:=hv
     refine cast_rfl (p:=((0:Int)≤(0:Int)∧(0:Int)<(↑l.length:Int))∧((0:Int)≤(1:Int)∧(1:Int)<(↑l.length:Int))∧(Vw.fitV 40000000 (Vw.mk (Vw.kind (l.getD (Int.toNat (0:Int)) Sh.vl.nil)) (Vw.neg (l.getD (Int.toNat (0:Int)) Sh.vl.nil)) (Vw.digits (l.getD (Int.toNat (0:Int)) Sh.vl.nil)) (Vw.truth (l.getD (Int.toNat (0:Int)) Sh.vl.nil)) (Vw.name (l.getD (Int.toNat (0:Int)) Sh.vl.nil)) (Vw.fields (l.getD (Int.toNat (0:Int)) Sh.vl.nil)))∧Vw.fitV 40000000 (Vw.mk (Vw.kind (l.getD (Int.toNat (1:Int)) Sh.vl.nil)) (Vw.neg (l.getD (Int.toNat (1:Int)) Sh.vl.nil)) (Vw.digits (l.getD (Int.toNat (1:Int)) Sh.vl.nil)) (Vw.truth (l.getD (Int.toNat (1:Int)) Sh.vl.nil)) (Vw.name (l.getD (Int.toNat (1:Int)) Sh.vl.nil)) (Vw.fields (l.getD (Int.toNat (1:Int)) Sh.vl.nil))))∧∀ (z1:Bool),z1=sameV (Vw.mk (Vw.kind (l.getD (Int.toNat (0:Int)) Sh.vl.nil)) (Vw.neg (l.getD (Int.toNat (0:Int)) Sh.vl.nil)) (Vw.digits (l.getD (Int.toNat (0:Int)) Sh.vl.nil)) (Vw.truth (l.getD (Int.toNat (0:Int)) Sh.vl.nil)) (Vw.name (l.getD (Int.toNat (0:Int)) Sh.vl.nil)) (Vw.fields (l.getD (Int.toNat (0:Int)) Sh.vl.nil))) (Vw.mk (Vw.kind (l.getD (Int.toNat (1:Int)) Sh.vl.nil)) (Vw.neg (l.getD (Int.toNat (1:Int)) Sh.vl.nil)) (Vw.digits (l.getD (Int.toNat (1:Int)) Sh.vl.nil)) (Vw.truth (l.getD (Int.toNat (1:Int)) Sh.vl.nil)) (Vw.name (l.getD (Int.toNat (1:Int)) Sh.vl.nil)) (Vw.fields (l.getD (Int.toNat (1:Int)) Sh.vl.nil)))→∀ (z2:Bool),z2=allV l (1:Int)→ifB z2 (true=true∧Sub (PV.tup [PV.agg [PV.f (Lf.v (Value.int IntKind.u8 (boolV z1).kind)),bV ((boolV z1).neg),PV.f (Lf.lr (boolV z1).digits 0),bV ((boolV z1).truth),sV ((boolV z1).name),PV.f (Lf.dt Sh.vl [])],bV true]) (PV.tup [PV.agg [PV.f (Lf.v (Value.int IntKind.u8 (boolV (sameV (l.getD 0 Sh.vl.nil) (l.getD 1 Sh.vl.nil))).kind)),bV ((boolV (sameV (l.getD 0 Sh.vl.nil) (l.getD 1 Sh.vl.nil))).neg),PV.f (Lf.lr (boolV (sameV (l.getD 0 Sh.vl.nil) (l.getD 1 Sh.vl.nil))).digits 0),bV ((boolV (sameV (l.getD 0 Sh.vl.nil) (l.getD 1 Sh.vl.nil))).truth),sV ((boolV (sameV (l.getD 0 Sh.vl.nil) (l.getD 1 Sh.vl.nil))).name),PV.f (Lf.dt Sh.vl [])],bV (allV l (1:Int) || allV l (3:Int))])) (∀ (z3:Bool),z3=allV l (3:Int)→true=true∧Sub (PV.tup [PV.agg [PV.f (Lf.v (Value.int IntKind.u8 (boolV z1).kind)),bV ((boolV z1).neg),PV.f (Lf.lr (boolV z1).digits 0),bV ((boolV z1).truth),sV ((boolV z1).name),PV.f (Lf.dt Sh.vl [])],bV z3]) (PV.tup [PV.agg [PV.f (Lf.v (Value.int IntKind.u8 (boolV (sameV (l.getD 0 Sh.vl.nil) (l.getD 1 Sh.vl.nil))).kind)),bV ((boolV (sameV (l.getD 0 Sh.vl.nil) (l.getD 1 Sh.vl.nil))).neg),PV.f (Lf.lr (boolV (sameV (l.getD 0 Sh.vl.nil) (l.getD 1 Sh.vl.nil))).digits 0),bV ((boolV (sameV (l.getD 0 Sh.vl.nil) (l.getD 1 Sh.vl.nil))).truth),sV ((boolV (sameV (l.getD 0 Sh.vl.nil) (l.getD 1 Sh.vl.nil))).name),PV.f (Lf.dt Sh.vl [])],bV (allV l (1:Int) || allV l (3:Int))]))) ?kr ?_
     case kr=>kernel_rfl
     refine ⟨?s0,⟨?s1,⟨?s2,fun z1=>fun hz1=>fun z2=>fun hz2=>ifB_iff.2 ⟨fun hb0=>⟨rfl,?m0⟩,fun hb0=>fun z3=>fun hz3=>⟨rfl,?m1⟩⟩⟩⟩⟩
     all_goals try simp only [Vw.eta,Int.toNat_zero,one_nat] at *
     all_goals have h1:1<l.length:=by have:=hf.1; omega
     case s0=>omega
     case s1=>omega
     case s2=>exact ⟨fitVL_at _ hf.2 (by omega),fitVL_at _ hf.2 (by omega)⟩
     case m0 =>
      have e:(allV l 1 || allV l 3)=true:=by rw [← hz2,hb0]; rfl
      rw [hz1,e]; exact .refl _
     case m1 =>
      have e:(allV l 1 || allV l 3)=z3:=by rw [← hz2,hb0,hz3]; rfl
      rw [hz1,e]; exact .refl _
   · cases hs
 · cases hs
def sLeW:Spec
 | [x]=>match wkOf x with
  | some (D,t,l)=>some (some (2≤l.length∧∀ v∈l,v.digits.length≤4000000),.one (.tup [vlP (boolV (decide (cmpI (zV (Vw.neg (l.getD 0 Sh.vl.nil)) (Vw.digits (l.getD 0 Sh.vl.nil))) (zV (Vw.neg (l.getD 1 Sh.vl.nil)) (Vw.digits (l.getD 1 Sh.vl.nil)))≤0))),bV (allV l 1)]))
  | none=>none
 | _=>none
theorem cLeW {E:Env} (hU:Up E):Contract Tryz.prog E 47 sLeW:=by
 refine contract_D [(90,sCmp),(83,sTruth),(85,sAllM)] [] Tryz.ntmps47 Tryz.func47 (by kernel_rfl) (by kernel_rfl) hU ⟨cCmp hU,cTruth hU,cAllM hU,trivial⟩ trivial ?_
 intro xs p r hs hp
 unfold sLeW at hs
 split at hs
 · rename_i x
   split at hs
   · rename_i D t l hv
     cases hs
     have hf:=hp _ rfl
     refine ⟨[wkP D t l],[],.cons (wk_sub hv).sub .nil,rfl,fun _ hsh=>?_⟩
     have h0:=hv
     refine cast_rfl (p:=((0:Int)≤(0:Int)∧(0:Int)<(↑l.length:Int))∧((0:Int)≤(1:Int)∧(1:Int)<(↑l.length:Int))∧(Vw.digits (l.getD (Int.toNat (0:Int)) Sh.vl.nil)).length+(Vw.digits (l.getD (Int.toNat (1:Int)) Sh.vl.nil)).length≤9000000∧∀ (z1:Bool),z1=allV l (1:Int)→true=true∧Sub (PV.tup [PV.agg [PV.f (Lf.v (Value.int IntKind.u8 (boolV (decide (cmpI (zV (Vw.neg (l.getD (Int.toNat (0:Int)) Sh.vl.nil)) (Vw.digits (l.getD (Int.toNat (0:Int)) Sh.vl.nil))) (zV (Vw.neg (l.getD (Int.toNat (1:Int)) Sh.vl.nil)) (Vw.digits (l.getD (Int.toNat (1:Int)) Sh.vl.nil)))≤(0:Int)))).kind)),bV ((boolV (decide (cmpI (zV (Vw.neg (l.getD (Int.toNat (0:Int)) Sh.vl.nil)) (Vw.digits (l.getD (Int.toNat (0:Int)) Sh.vl.nil))) (zV (Vw.neg (l.getD (Int.toNat (1:Int)) Sh.vl.nil)) (Vw.digits (l.getD (Int.toNat (1:Int)) Sh.vl.nil)))≤(0:Int)))).neg),PV.f (Lf.lr (boolV (decide (cmpI (zV (Vw.neg (l.getD (Int.toNat (0:Int)) Sh.vl.nil)) (Vw.digits (l.getD (Int.toNat (0:Int)) Sh.vl.nil))) (zV (Vw.neg (l.getD (Int.toNat (1:Int)) Sh.vl.nil)) (Vw.digits (l.getD (Int.toNat (1:Int)) Sh.vl.nil)))≤(0:Int)))).digits 0),bV ((boolV (decide (cmpI (zV (Vw.neg (l.getD (Int.toNat (0:Int)) Sh.vl.nil)) (Vw.digits (l.getD (Int.toNat (0:Int)) Sh.vl.nil))) (zV (Vw.neg (l.getD (Int.toNat (1:Int)) Sh.vl.nil)) (Vw.digits (l.getD (Int.toNat (1:Int)) Sh.vl.nil)))≤(0:Int)))).truth),sV ((boolV (decide (cmpI (zV (Vw.neg (l.getD (Int.toNat (0:Int)) Sh.vl.nil)) (Vw.digits (l.getD (Int.toNat (0:Int)) Sh.vl.nil))) (zV (Vw.neg (l.getD (Int.toNat (1:Int)) Sh.vl.nil)) (Vw.digits (l.getD (Int.toNat (1:Int)) Sh.vl.nil)))≤(0:Int)))).name),PV.f (Lf.dt Sh.vl [])],bV z1]) (PV.tup [PV.agg [PV.f (Lf.v (Value.int IntKind.u8 (boolV (decide (cmpI (zV (l.getD 0 Sh.vl.nil).neg (l.getD 0 Sh.vl.nil).digits) (zV (l.getD 1 Sh.vl.nil).neg (l.getD 1 Sh.vl.nil).digits)≤(0:Int)))).kind)),bV ((boolV (decide (cmpI (zV (l.getD 0 Sh.vl.nil).neg (l.getD 0 Sh.vl.nil).digits) (zV (l.getD 1 Sh.vl.nil).neg (l.getD 1 Sh.vl.nil).digits)≤(0:Int)))).neg),PV.f (Lf.lr (boolV (decide (cmpI (zV (l.getD 0 Sh.vl.nil).neg (l.getD 0 Sh.vl.nil).digits) (zV (l.getD 1 Sh.vl.nil).neg (l.getD 1 Sh.vl.nil).digits)≤(0:Int)))).digits 0),bV ((boolV (decide (cmpI (zV (l.getD 0 Sh.vl.nil).neg (l.getD 0 Sh.vl.nil).digits) (zV (l.getD 1 Sh.vl.nil).neg (l.getD 1 Sh.vl.nil).digits)≤(0:Int)))).truth),sV ((boolV (decide (cmpI (zV (l.getD 0 Sh.vl.nil).neg (l.getD 0 Sh.vl.nil).digits) (zV (l.getD 1 Sh.vl.nil).neg (l.getD 1 Sh.vl.nil).digits)≤(0:Int)))).name),PV.f (Lf.dt Sh.vl [])],bV (allV l (1:Int))])) ?kr ?_
     case kr=>kernel_rfl
     refine ⟨?s0,⟨?s1,⟨?s2,fun z1=>fun hz1=>⟨rfl,?m0⟩⟩⟩⟩
     all_goals try simp only [Int.toNat_zero,one_nat] at *
     all_goals have h1:1<l.length:=by have:=hf.1; omega
     case s0=>omega
     case s1=>omega
     case s2 =>
      have h2:=hf.2 _ (getD_in (l:=l) (i:=0) (by omega))
      have h3:=hf.2 _ (getD_in (l:=l) (i:=1) (by omega))
      omega
     case m0=>rw [hz1]; exact .refl _
   · cases hs
 · cases hs
def sNotW:Spec
 | [x]=>match wkOf x with
  | some (D,t,l)=>some (some (1≤l.length),.one (.tup [vlP (boolV (!Vw.truth (l.getD 0 Sh.vl.nil))),bV (allV l 2)]))
  | none=>none
 | _=>none
theorem cNotW {E:Env} (hU:Up E):Contract Tryz.prog E 48 sNotW:=by
 refine contract_D [(83,sTruth),(85,sAllM)] [] Tryz.ntmps48 Tryz.func48 (by kernel_rfl) (by kernel_rfl) hU ⟨cTruth hU,cAllM hU,trivial⟩ trivial ?_
 intro xs p r hs hp
 unfold sNotW at hs
 split at hs
 · rename_i x
   split at hs
   · rename_i D t l hv
     cases hs
     have hf:=hp _ rfl
     refine ⟨[wkP D t l],[],.cons (wk_sub hv).sub .nil,rfl,fun _ hsh=>?_⟩
     have h0:=hv
     refine cast_rfl (p:=((0:Int)≤(0:Int)∧(0:Int)<(↑l.length:Int))∧∀ (z1:Bool),z1=allV l (2:Int)→true=true∧Sub (PV.tup [PV.agg [PV.f (Lf.v (Value.int IntKind.u8 (boolV !Vw.truth (l.getD (Int.toNat (0:Int)) Sh.vl.nil)).kind)),bV ((boolV !Vw.truth (l.getD (Int.toNat (0:Int)) Sh.vl.nil)).neg),PV.f (Lf.lr (boolV !Vw.truth (l.getD (Int.toNat (0:Int)) Sh.vl.nil)).digits 0),bV ((boolV !Vw.truth (l.getD (Int.toNat (0:Int)) Sh.vl.nil)).truth),sV ((boolV !Vw.truth (l.getD (Int.toNat (0:Int)) Sh.vl.nil)).name),PV.f (Lf.dt Sh.vl [])],bV z1]) (PV.tup [PV.agg [PV.f (Lf.v (Value.int IntKind.u8 (boolV !(l.getD 0 Sh.vl.nil).truth).kind)),bV ((boolV !(l.getD 0 Sh.vl.nil).truth).neg),PV.f (Lf.lr (boolV !(l.getD 0 Sh.vl.nil).truth).digits 0),bV ((boolV !(l.getD 0 Sh.vl.nil).truth).truth),sV ((boolV !(l.getD 0 Sh.vl.nil).truth).name),PV.f (Lf.dt Sh.vl [])],bV (allV l (2:Int))])) ?kr ?_
     case kr=>kernel_rfl
     refine ⟨?s0,fun z1=>fun hz1=>⟨rfl,?m0⟩⟩
     all_goals try simp only [Int.toNat_zero] at *
     case s0=>have:=hf; omega
     case m0=>rw [hz1]; exact .refl _
   · cases hs
 · cases hs
def sIffW:Spec
 | [x]=>match wkOf x with
  | some (D,t,l)=>some (some (2≤l.length),.one (.tup [vlP (boolV (Vw.truth (l.getD 0 Sh.vl.nil)==Vw.truth (l.getD 1 Sh.vl.nil))),bV (allV l 2)]))
  | none=>none
 | _=>none
theorem cIffW {E:Env} (hU:Up E):Contract Tryz.prog E 49 sIffW:=by
 refine contract_D [(83,sTruth),(85,sAllM)] [] Tryz.ntmps49 Tryz.func49 (by kernel_rfl) (by kernel_rfl) hU ⟨cTruth hU,cAllM hU,trivial⟩ trivial ?_
 intro xs p r hs hp
 unfold sIffW at hs
 split at hs
 · rename_i x
   split at hs
   · rename_i D t l hv
     cases hs
     have hf:=hp _ rfl
     refine ⟨[wkP D t l],[],.cons (wk_sub hv).sub .nil,rfl,fun _ hsh=>?_⟩
     have h0:=hv
     refine cast_rfl (p:=((0:Int)≤(0:Int)∧(0:Int)<(↑l.length:Int))∧((0:Int)≤(1:Int)∧(1:Int)<(↑l.length:Int))∧∀ (z1:Bool),z1=allV l (2:Int)→true=true∧Sub (PV.tup [PV.agg [PV.f (Lf.v (Value.int IntKind.u8 (boolV (Vw.truth (l.getD (Int.toNat (0:Int)) Sh.vl.nil)==Vw.truth (l.getD (Int.toNat (1:Int)) Sh.vl.nil))).kind)),bV ((boolV (Vw.truth (l.getD (Int.toNat (0:Int)) Sh.vl.nil)==Vw.truth (l.getD (Int.toNat (1:Int)) Sh.vl.nil))).neg),PV.f (Lf.lr (boolV (Vw.truth (l.getD (Int.toNat (0:Int)) Sh.vl.nil)==Vw.truth (l.getD (Int.toNat (1:Int)) Sh.vl.nil))).digits 0),bV ((boolV (Vw.truth (l.getD (Int.toNat (0:Int)) Sh.vl.nil)==Vw.truth (l.getD (Int.toNat (1:Int)) Sh.vl.nil))).truth),sV ((boolV (Vw.truth (l.getD (Int.toNat (0:Int)) Sh.vl.nil)==Vw.truth (l.getD (Int.toNat (1:Int)) Sh.vl.nil))).name),PV.f (Lf.dt Sh.vl [])],bV z1]) (PV.tup [PV.agg [PV.f (Lf.v (Value.int IntKind.u8 (boolV ((l.getD 0 Sh.vl.nil).truth==(l.getD 1 Sh.vl.nil).truth)).kind)),bV ((boolV ((l.getD 0 Sh.vl.nil).truth==(l.getD 1 Sh.vl.nil).truth)).neg),PV.f (Lf.lr (boolV ((l.getD 0 Sh.vl.nil).truth==(l.getD 1 Sh.vl.nil).truth)).digits 0),bV ((boolV ((l.getD 0 Sh.vl.nil).truth==(l.getD 1 Sh.vl.nil).truth)).truth),sV ((boolV ((l.getD 0 Sh.vl.nil).truth==(l.getD 1 Sh.vl.nil).truth)).name),PV.f (Lf.dt Sh.vl [])],bV (allV l (2:Int))])) ?kr ?_
     case kr=>kernel_rfl
     refine ⟨?s0,⟨?s1,fun z1=>fun hz1=>⟨rfl,?m0⟩⟩⟩
     all_goals try simp only [Int.toNat_zero,one_nat] at *
     all_goals have h1:1<l.length:=by have:=hf; omega
     case s0=>omega
     case s1=>omega
     case m0=>rw [hz1]; exact .refl _
   · cases hs
 · cases hs
def sAndW:Spec
 | [x]=>match wkOf x with
  | some (D,t,l)=>some (none,.one (.tup [vlP (boolV (eachV l true)),bV (allV l 2)]))
  | none=>none
 | _=>none
theorem cAndW {E:Env} (hU:Up E):Contract Tryz.prog E 50 sAndW:=by
 refine contract_D [(91,sEachM),(83,sTruth),(85,sAllM)] [] Tryz.ntmps50 Tryz.func50 (by kernel_rfl) (by kernel_rfl) hU ⟨cEachM hU,cTruth hU,cAllM hU,trivial⟩ trivial ?_
 intro xs p r hs hp
 unfold sAndW at hs
 split at hs
 · rename_i x
   split at hs
   · rename_i D t l hv
     cases hs
     refine ⟨[wkP D t l],[],.cons (wk_sub hv).sub .nil,rfl,fun _ hsh=>?_⟩
     have h0:=hv
     refine cast_rfl (p:=∀ (z1:Bool),z1=eachV l true→∀ (z2:Bool),z2=allV l (2:Int)→true=true∧Sub (PV.tup [PV.agg [PV.f (Lf.v (Value.int IntKind.u8 (boolV z1).kind)),bV ((boolV z1).neg),PV.f (Lf.lr (boolV z1).digits 0),bV ((boolV z1).truth),sV ((boolV z1).name),PV.f (Lf.dt Sh.vl [])],bV z2]) (PV.tup [PV.agg [PV.f (Lf.v (Value.int IntKind.u8 (boolV (eachV l true)).kind)),bV ((boolV (eachV l true)).neg),PV.f (Lf.lr (boolV (eachV l true)).digits 0),bV ((boolV (eachV l true)).truth),sV ((boolV (eachV l true)).name),PV.f (Lf.dt Sh.vl [])],bV (allV l (2:Int))])) ?kr ?_
     case kr=>kernel_rfl
     refine fun z1=>fun hz1=>fun z2=>fun hz2=>⟨rfl,?m0⟩
     case m0=>rw [hz1,hz2]; exact .refl _
   · cases hs
 · cases hs
def sOrW:Spec
 | [x]=>match wkOf x with
  | some (D,t,l)=>some (none,.one (.tup [vlP (boolV (!eachV l false)),bV (allV l 2)]))
  | none=>none
 | _=>none
theorem cOrW {E:Env} (hU:Up E):Contract Tryz.prog E 51 sOrW:=by
 refine contract_D [(91,sEachM),(83,sTruth),(85,sAllM)] [] Tryz.ntmps51 Tryz.func51 (by kernel_rfl) (by kernel_rfl) hU ⟨cEachM hU,cTruth hU,cAllM hU,trivial⟩ trivial ?_
 intro xs p r hs hp
 unfold sOrW at hs
 split at hs
 · rename_i x
   split at hs
   · rename_i D t l hv
     cases hs
     refine ⟨[wkP D t l],[],.cons (wk_sub hv).sub .nil,rfl,fun _ hsh=>?_⟩
     have h0:=hv
     refine cast_rfl (p:=∀ (z1:Bool),z1=eachV l false→∀ (z2:Bool),z2=allV l (2:Int)→true=true∧Sub (PV.tup [PV.agg [PV.f (Lf.v (Value.int IntKind.u8 (boolV !z1).kind)),bV ((boolV !z1).neg),PV.f (Lf.lr (boolV !z1).digits 0),bV ((boolV !z1).truth),sV ((boolV !z1).name),PV.f (Lf.dt Sh.vl [])],bV z2]) (PV.tup [PV.agg [PV.f (Lf.v (Value.int IntKind.u8 (boolV !eachV l false).kind)),bV ((boolV !eachV l false).neg),PV.f (Lf.lr (boolV !eachV l false).digits 0),bV ((boolV !eachV l false).truth),sV ((boolV !eachV l false).name),PV.f (Lf.dt Sh.vl [])],bV (allV l (2:Int))])) ?kr ?_
     case kr=>kernel_rfl
     refine fun z1=>fun hz1=>fun z2=>fun hz2=>⟨rfl,?m0⟩
     case m0=>rw [hz1,hz2]; exact .refl _
   · cases hs
 · cases hs
end Go.Proofs.YtpjjdngoblfleaaGreat
