/- Functions that range over a slice from its end: their contracts, by pure runs. -/
import Derived.Test.YtijfaigpilfpaaaGreatDoorVd
import Derived.RangeFuncOwn
namespace Go.Proofs.YtijfaigpilfpaaaGreatDoor
set_option linter.unusedVariables false
open Go.RowKit
def wpAt (f0:FuncId) (P:Program) (c:Code) (Q:Exit→Act→World→Prop) (a:Act) (w:World):Prop :=
 ∀ (b:Frame) (k:List Item) (cs:List Frame),b.roundOf=none→b.fn=f0→∃ e a' w',Q e a' w'∧ArrivesIn (Machine.fenced P Fence.wide) P (lone (b.atR a (.code c::k)) cs w) b k cs e a' w'
section
variable {P : Program} {f0 : FuncId} {n : Nat} {Q : Exit → Act → World → Prop} {a : Act} {w : World}
theorem Qav {c:Code} (h:c.wp P Q a w):wpAt f0 P c Q a w:=fun b k cs h1 _=>(wpIn_wide (n:=0)).2 h b k cs h1 trivial (room_wide _)
theorem Qmm {c:Code} (h:c.wpIn Fence.wide n P Q a w):wpAt f0 P c Q a w:=fun b k cs h1 _=>h b k cs h1 trivial (room_wide _)
theorem Qas {c:Code} {Q':Exit→Act→World→Prop} (h:wpAt f0 P c Q a w) (hq:∀ e a w,Q e a w→Q' e a w):wpAt f0 P c Q' a w:=fun b k cs h1 h2 =>
 let ⟨e,a',w',q,r⟩:=h b k cs h1 h2; ⟨e,a',w',hq _ _ _ q,r⟩
theorem QkF {x y:Code} (h:wpAt f0 P x (fun e a w=>match e with | .normal=>wpAt f0 P y Q a w | e=>Q e a w) a w):wpAt f0 P (.seq x y) Q a w:=by
 intro b k cs h1 h2
 have s0:StepsIn (Machine.fenced P Fence.wide) P (lone (b.atR a (.code (.seq x y)::k)) cs w) _:=.one (fenced_wide P _) stepR_seq
 obtain ⟨e,a1,w1,hq,harr⟩:=h b (.code y::k) cs h1 h2
 by_cases he:e=.normal
 · subst he
   obtain ⟨e2,a2,w2,hq2,harr2⟩:=hq b k cs h1 h2
   exact ⟨e2,a2,w2,hq2,.of_steps (StepsIn.trans s0 harr) harr2⟩
 · refine ⟨e,a1,w1,?_,.of_steps s0 ?_⟩
   · cases e <;> first | exact absurd rfl he | exact hq
   · cases e <;> first | exact absurd rfl he | exact .pass (x:=.code y) rfl (fun _ _=>.inl (by simp)) harr
theorem Qmn {id:Nat} {c:Code} (h:wpAt f0 P c (Exit.inBlock id Q) a w):wpAt f0 P (.block id c) Q a w:=by
 intro b k cs h1 h2
 have s0:StepsIn (Machine.fenced P Fence.wide) P (lone (b.atR a (.code (.block id c)::k)) cs w) _:=.one (fenced_wide P _) stepR_block
 obtain ⟨e,a1,w1,hq,harr⟩:=h b (.inBlock id::k) cs h1 h2
 cases e with
 | normal=>exact ⟨.normal,a1,w1,hq,StepsIn.trans s0 (StepsIn.trans harr (.one (fenced_wide P _) stepR_inBlock))⟩
 | exit j =>
  by_cases hid:j=id
  · replace hq:Q .normal a1 w1:=by simpa [Exit.inBlock,hid] using hq
    exact ⟨.normal,a1,w1,hq,StepsIn.trans s0 (harr.1 k (by simp [exitTo,hid]))⟩
  · replace hq:Q (.exit j) a1 w1:=by simpa [Exit.inBlock,hid] using hq
    have hx:exitTo j (.inBlock id::k)=exitTo j k:=by
     have:(id==j)=false:=by simp; exact fun h=>hid h.symm
     simp [exitTo,this]
    exact ⟨.exit j,a1,w1,hq,fun k' hk=>StepsIn.trans s0 (harr.1 k' (hx.trans hk)),fun hr' hk=>let ⟨k1,q1,q2⟩:=harr.2 hr' (hx.trans hk); ⟨k1,q1,StepsIn.trans s0 q2⟩⟩
 | goto l =>
  have hx:gotoIn l (.inBlock id::k)=gotoIn l k:=by simp [gotoIn]
  exact ⟨_,a1,w1,hq,fun k' hk=>StepsIn.trans s0 (harr.1 k' (hx.trans hk)),fun hr' hk=>let ⟨k1,q1,q2⟩:=harr.2 hr' (hx.trans hk); ⟨k1,q1,StepsIn.trans s0 q2⟩⟩
 | ret=>exact ⟨_,a1,w1,hq,.of_steps s0 harr⟩
 | panic ch=>exact ⟨_,a1,w1,hq,.of_steps s0 harr⟩
 | outgrown=>exact ⟨_,a1,w1,hq,.of_steps s0 harr⟩
theorem Qml {g:Operand} {ps:Array Tmp} {assign body:Code} {l f:Nat} {mark:List Deferred} {w1 w1' w2:World} {d:Deferred} {args:Array Value} {R:Ending→World→Prop}
  (he:(Instr.enterLoop f0 a.tmps ps assign body none).run P w=.ok (l,mark) w1) (hres:(resolve a.eval (rangeCall g l) 0).run P w1=.ok d w1') (hinv:(invoke d.target d.args).run P w1'=.ok (.enter f args) w2) (hcall:CallsIn Fence.wide n P f args w2 R)
  (hret:∀ v w3,R (.returned v) w3→∃ jump w4,(Instr.endLoop l).run P w3=.ok jump w4∧(match jump with | none=>Q .normal { a with defers:=mark++a.defers } w4 | some c=>wpAt f0 P c Q { a with defers:=mark++a.defers } w4))
  (hpan:∀ ch w3,R (.panicked ch) w3→Q (.panic ch) { a with defers:=mark++a.defers } w3) (hno:∀ w3,¬ R .outgrown w3):wpAt f0 P (.rangeFunc g ps assign body) Q a w:=by
 intro b k cs h1 h2
 rw [← h2,← h1] at he
 have s0:StepsIn (Machine.fenced P Fence.wide) P (lone (b.atR a (.code (.rangeFunc g ps assign body)::k)) cs w) _:=.one (fenced_wide P _) (stepR_rangeFunc he hres hinv)
 obtain ⟨e,w3,fr,hR,hsteps,_,hleave⟩:=hcall.2 (b.atR { a with defers:=mark++a.defers } (.inRangeFunc l::k)::cs) (room_wide _)
 cases e with
 | outgrown=>exact (hno _ hR).elim
 | returned v =>
  obtain ⟨jump,w4,hend,hj⟩:=hret v w3 hR
  have s1:StepsIn (Machine.fenced P Fence.wide) P (lone fr (b.atR { a with defers:=mark++a.defers } (.inRangeFunc l::k)::cs) w3) (lone (b.atR { a with defers:=mark++a.defers } (.endRangeFunc l::k)) cs w3) :=
   .one (fenced_wide P _) (by rw [← finish_atR_inRangeFunc l v]; exact step_leave_returned hleave)
  have s2:StepsIn (Machine.fenced P Fence.wide) P (lone (b.atR { a with defers:=mark++a.defers } (.endRangeFunc l::k)) cs w3) _:=.one (fenced_wide P _) (stepR_endRangeFunc hend)
  have s3:=StepsIn.trans s0 (StepsIn.trans hsteps (StepsIn.trans s1 s2))
  cases jump with
  | none=>exact ⟨.normal,_,w4,hj,s3⟩
  | some c =>
   obtain ⟨e',a'',w5,hq,harr⟩:=hj b k cs h1 h2
   exact ⟨e',a'',w5,hq,.of_steps s3 harr⟩
 | panicked ch =>
  refine ⟨.panic ch,_,w3,hpan ch w3 hR,.inRangeFunc l::k,StepsIn.trans s0 (StepsIn.trans hsteps (.one (fenced_wide P _) ?_))⟩
  rw [← Frame.raise_atR]; exact step_leave_panicked hleave
theorem QhS {fn:Func} {c:Code} {args:Array Value} {R:Ending→World→Prop} (hf:P.funcs[f0]?=some fn) (hb:fn.body=some c)
  (h:wpAt f0 P c (bodyPostM Fence.wide n P fn R) { tmps:=args++Array.replicate (fn.ntmps - args.size) undef,defers:=[] } w):Calls P f0 args w R:=by
 refine (callsIn_wide (n:=n)).1 ⟨trivial,fun cs hr=>?_⟩
 let b:Frame:={ (default:Frame) with fn:=f0,kind:=.normal,roundOf:=none }
 have henter:Frame.enter P f0 args .normal=b.atR { tmps:=args++Array.replicate (fn.ntmps - args.size) undef,defers:=[] } [.code c]:=by
  simp [Frame.enter,Frame.atR,hf,hb,b]
 obtain ⟨e,a',w',hq,harr⟩:=h b [] cs rfl rfl
 rw [← henter] at harr
 have hF:Fence.wide.fn f0:=trivial
 cases e with
 | normal =>
  obtain ⟨e',w2,fr,hR,hs,hfn,hl⟩:=leaves_stepsInM a'.defers .returning w' { b.atR a' [] with mode:=.returning } cs rfl rfl rfl hf rfl hF hr hq
  exact ⟨e',w2,fr,hR,ComesIn.of_steps (StepsIn.trans harr (.one (fenced_wide P _) (stepR_end rfl))) hs,hfn,hl⟩
 | ret =>
  obtain ⟨todo,hs0⟩:=harr.1 rfl
  obtain ⟨e',w2,fr,hR,hs,hfn,hl⟩:=leaves_stepsInM a'.defers .returning w' { b.atR a' todo with mode:=.returning } cs rfl rfl rfl hf rfl hF hr hq
  exact ⟨e',w2,fr,hR,ComesIn.of_steps hs0 hs,hfn,hl⟩
 | panic ch =>
  obtain ⟨todo,hs0⟩:=harr
  obtain ⟨e',w2,fr,hR,hs,hfn,hl⟩:=leaves_stepsInM a'.defers (.panicking ch) w' { b.atR a' todo with mode:=.panicking ch } cs rfl rfl rfl hf rfl hF hr hq
  exact ⟨e',w2,fr,hR,ComesIn.of_steps hs0 hs,hfn,hl⟩
 | exit id=>exact hq.elim
 | goto l=>exact hq.elim
 | outgrown=>exact ⟨.outgrown,w',b,hq,harr.resolve_left (by simp [b]),rfl,trivial⟩
end
structure AnnR:Type 1 where
 α:Type
 e:List (Nat × PV)
 ob:α→List PO
 n0:Nat
 I:Nat→α→Prop
abbrev Backs:=FuncId→Option (TypeId × TypeId)
def Qjo (P:Program) (bk:Backs):Prop:=∀ bf tS tE,bk bf=some (tS,tE)→QcB P bf=true∧∃ tI tB fn id0 id1 id2 id3 o0 o1 o2 o3 ts,BackCode P bf tS tE tI tB fn id0 id1 id2 id3 o0 o1 o2 o3 ts
def QpO (P:Program) (Γ:Specs) (Δ:Specs2) (bk:Backs) (m n0:Nat) (q:PV→PS→Prop) (L:AnnR) (dg p0 p1:Nat) (assign body:Code) (Q:Exit→PS→Prop) (s:PS):Prop :=
 match look s.env dg,look L.e dg with
 | some (.fn bf [] [.bp o 0]),none=>match bk bf,nth s.ob o with
  | some (tS,tE),some (.cells [.f yv])=>match yv.view,szT P tE with
   | some (k,N,get),some k'=>match Nat.beq k k' && (QcR L.e && (QcD L.n0 L.e && (QcM assign && (QcM body && (Nat.blt p0 m && (Nat.blt p1 m && !Nat.beq p0 p1)))))) with
    | true=>N≤9223372036854775807∧(∀ y,(L.ob y).length=L.n0∧nth (L.ob y) o=some (.cells [.f yv]))∧(∃ x,Weak n0 ⟨(dg,.fn bf [] [.bp o 0])::L.e,L.ob x⟩ s∧L.I N x) ∧
     (∀ i,i<N→match Qef P tE (Qae (get i)) 0 with
      | some z=>∀ y,L.I (i+1) y→PW P Γ Δ Qfv m L.n0 noQ assign (fun e s1=>match e with
       | .normal=>PW P Γ Δ Qfv m L.n0 (fun v s2=>q v ⟨L.e,s2.ob⟩) body (fun e s2=>match e with
        | .normal=>∃ y',Weak L.n0 ⟨[],L.ob y'⟩ ⟨[],s2.ob⟩∧L.I i y'
        | e=>Q e ⟨L.e,s2.ob⟩) s1
       | _=>False) ⟨(p1,z)::(p0,.f (.v (.int .i64 i)))::L.e,L.ob y⟩
      | none=>False) ∧
     (∀ y,L.I 0 y→Q .normal ⟨L.e,L.ob y⟩)
    | false=>False
   | _,_=>False
  | _,_=>False
 | _,_=>False
section
variable {P : Program} {w0 : Cx} {H0 : Hp} {m : Nat} {s : PS} {g : Gh} {a : Act} {w : World}
theorem Real.allocObj (h:Real w0 H0 m s g a w) (o:Obj):Real w0 H0 m s g a (w.alloc o):=by
 have hbel:Below w.heap.size w (w.alloc o):=(Below.refl _ _).alloc (Nat.le_refl _) _
 have hE:Ext w g.H (w.alloc o) g.H:=Ext.below h.obs.fro hbel
 exact ⟨h.ext.trans hE,h.obs.ext hE,h.full,h.env,h.sz,h.dfr,h.ptr⟩
theorem Real.putObj (h:Real w0 H0 m s g a w) {l:Nat} (o:Obj) (hK:¬ w0.K l) (hob:∀ o u,g.B o=some u→blk u≠some l) (hno:∀ j,g.H l j=none):Real w0 H0 m s g a (w.putObj l o):=by
 have hgr:w.grownBy (w.putObj l o) (some l):=grownBy_putObj' w l o
 have hfro:Fro g.H (w.putObj l o):=fun b j v hh=>by
  refine hgr.cell (a:=⟨b,j,none⟩) (h.obs.fro b j v hh) (fun hc=>?_)
  cases hc
  rw [hno] at hh; cases hh
 exact ⟨h.ext.grown hgr (fun b hb=>by cases hb; exact hK) h.ext.le hfro h.ext.new,⟨hfro,fun o' u b hu hb=>by rw [World.putObj_size]; exact h.obs.lt o' u b hu hb,fun o' x u hx hu=>PO.other (h.obs.hold o' x u hx hu) (hob o' u hu) (fun k hk=>World.putObj_heap_other hk) World.putObj_size,h.obs.apart,h.obs.dom,h.obs.kept⟩,h.full,h.env,h.sz,h.dfr,h.ptr⟩
structure Tail (P:Program) (E:Env) (w0:Cx) (H0:Hp) (c:Cx) (H1:Hp) (r n1:Nat):Prop where
 D:c.D={ target:=.collected r,args:=#[] }::w0.D
 back:∀ (m:Nat) (s:PS) (g:Gh) (a:Act) (w:World),Real c H1 m s g a w→Real ⟨w0.K,w0.w,w0.B,c.D⟩ H0 m s g a w∧w.heap[r]?=some (.deferred (some []))∧(∀ o u,g.B o=some u→blk u≠some r)∧(∀ j,g.H r j=none)∧¬ w0.K r
 E:E c.K c.w H1
 n1:∀ o u,c.B o=some u→o<n1
theorem QoA {d dg:Nat} {x y:PV} {l:List (Nat × PV)} (hn:look l dg=none) (h:look l d=some x):look ((dg,y)::l) d=some x:=by
 rw [Qag,if_neg (fun hc=>by subst hc; rw [hn] at h; cases h)]; exact h
set_option maxHeartbeats 2000000 in
theorem QjQ {E:Env} {Γ:Specs} {Δ:Specs2} (hΔ:Sound2 P E Δ) (hΓ:Sound P E Γ) (hU:Up E) (hE:E w0.K w0.w H0) {bk:Backs} (hbk:Qjo P bk) {n0:Nat} (hn0:∀ o u,w0.B o=some u→o<n0) {f0:FuncId} {fn0:Func} (hf0:P.funcs[f0]?=some fn0)
  {q:PV→PS→Prop} {L:AnnR} {dg p0 p1:Nat} {assign body:Code} {Q:Exit→PS→Prop} (hR:Real w0 H0 m s g a w) (h:QpO P Γ Δ bk m n0 q L dg p0 p1 assign body Q s) {Post:Exit→Act→World→Prop}
  (hQ:∀ e c H1 r s' g' a' w',Tail P E w0 H0 c H1 r L.n0→Real c H1 m s' g' a' w'→Q e s'→Post e a' w')
  (hq:∀ v y c H1 r s' g' a' w',Tail P E w0 H0 c H1 r L.n0→Real c H1 m s' g' a' w'→PR g'.H g'.B v y→q y s'→Post (.panic [{ v,recovered:=false }]) a' w')
  (hQo:∀ e s',Q e s'→e=.normal∨e=.ret):wpAt f0 P (.rangeFunc (.tmp dg) #[p0,p1] assign body) Post a w:=by
 unfold QpO at h
 split at h
 rotate_left
 · exact h.elim
 rename_i bf o hdg hne
 split at h
 rotate_left
 · exact h.elim
 rename_i tS tE yv hbf hyv
 split at h
 rotate_left
 · exact h.elim
 rename_i k N get k' hview hsz
 split at h
 rotate_left
 · exact h.elim
 rename_i hchk
 simp only [Bool.and_eq_true,Bool.not_eq_true'] at hchk
 obtain ⟨hkk,hkeep,hblw,hpa,hpb,hp0,hp1,hp01⟩:=hchk
 obtain rfl:=Nat.eq_of_beq_eq_true hkk
 have hp01:p0≠p1:=fun hc=>by subst hc; simp at hp01
 have hp0:=Qdn hp0
 have hp1:=Qdn hp1
 obtain ⟨hN,hoby,⟨x,hwx,hIx⟩,hround,hdone⟩:=h
 obtain ⟨hplain,tI,tB,fnb,id0,id1,id2,id3,o0,o1,o2,o3,ts,hB⟩:=hbk bf tS tE hbf
 -- the state, as the rounds see it
 obtain ⟨g0,hRx⟩:=hR.weak hn0 hwx
 have hgv:=hRx.env dg _ (by rw [Qag,if_pos rfl])
 generalize hgval:a.tmps.getD dg undef=gv at hgv
 obtain ⟨b,rfl,hBo⟩:∃ b,gv=.func (.func bf) #[] #[.pointer (some ⟨b,0,none⟩)]∧g0.B o=some (.pointer (some ⟨b,0,none⟩)):=by
  cases hgv with
  | @fn _ us vs _ _ hm1 h1 hn1 h2 =>
   obtain rfl:us=#[]:=Array.eq_empty_of_size_eq_zero hm1
   obtain ⟨v,rfl⟩:∃ v,vs=#[v]:=by
    obtain ⟨l⟩:=vs
    match l,hn1 with
    | [v],_=>exact ⟨v,rfl⟩
   have h3:=h2 0 v _ (by simp) rfl
   cases h3 with
   | @bp _ _ b hb=>exact ⟨b,rfl,hb⟩
 have hRe:Real w0 H0 m ⟨L.e,L.ob x⟩ g0 a w:=⟨hRx.ext,hRx.obs,hRx.full,fun d y hy=>hRx.env d y (QoA hne hy),hRx.sz,hRx.dfr,hRx.ptr⟩
 clear hRx
 -- the record
 obtain ⟨rec,hrec⟩:∃ rec:LoopState→Option Code→Loop,rec=fun st pe=>{ state:=st,pending:=pe,fn:=f0,tmps:=a.tmps,params:=#[p0,p1],assign,body,defers:=w.heap.size }:=⟨_,rfl⟩
 obtain ⟨W1,hW1⟩:∃ W1,(w.alloc (.deferred (some []))).alloc (.loop (rec .ready none))=W1:=⟨_,rfl⟩
 generalize hr:w.heap.size=r at *
 have hsz1:W1.heap.size=r+2:=by rw [← hW1,World.size_alloc,World.size_alloc,hr]
 have hL1:W1.heap[r+1]?=some (.loop (rec .ready none)):=by
  rw [← hW1]; have:=World.alloc_heap_new (w.alloc (.deferred (some []))) (.loop (rec .ready none)); rwa [World.size_alloc,hr] at this
 have hK1:W1.heap[r]?=some (.deferred (some [])):=by
  rw [← hW1]
  have h1:(w.alloc (.deferred (some []))).heap[r]?=some (.deferred (some [])):=by rw [← hr]; exact World.alloc_heap_new w _
  exact (Below.heap_alloc _ _ _ (by rw [World.size_alloc,hr]; omega)).trans h1
 have hR1:Real w0 H0 m ⟨L.e,L.ob x⟩ g0 a W1:=by rw [← hW1]; exact (hRe.allocObj _).allocObj _
 have hobl:∀ o u b,g0.B o=some u→blk u=some b→b<r:=fun o u b hu hb=>by have:=hRe.obs.lt o u b hu hb; omega
 have hHl:∀ b j,r≤b→g0.H b j=none:=fun b j hb=>by
  cases hh:g0.H b j with
  | none=>rfl
  | some v=>have:=hRe.obs.fro.lt hh; omega
 have hKl:∀ b,w0.K b→b<r:=fun b hb=>by have:=hRe.ext.kept b hb; omega
 generalize hmark:({ target:=.collected r,args:=#[] }:Deferred)=mark
 obtain ⟨c,hc⟩:∃ c:Cx,c=⟨fun b=>w0.K b∨b=r,W1,g0.B,mark::w0.D⟩:=⟨_,rfl⟩
 have hcK:∀ b,c.K b↔(w0.K b∨b=r):=fun b=>by rw [hc]
 have hRc:Real c g0.H m ⟨L.e,L.ob x⟩ g0 { a with defers:=mark::a.defers } W1:=by
  rw [hc]
  refine ⟨ExtK.refl hR1.obs.fro (fun b hb=>?_),⟨hR1.obs.fro,hR1.obs.lt,hR1.obs.hold,hR1.obs.apart,hR1.obs.dom,fun o u b hu hb hK=>?_⟩,hR1.full,hR1.env,hR1.sz,?_,fun _ _ h=>h.1⟩
  · show b<W1.heap.size
    rcases hb with hb | hb
    · have:=hKl b hb; omega
    · omega
  · rcases hK with hK | hK
    · exact hR1.obs.kept o u b hu hb hK
    · have:=hobl o u b hu hb; omega
  · show mark::a.defers=mark::w0.D
    rw [hR1.dfr]
 have hX1:XL (r+1) (.loop (rec .ready none)) g0 W1:=⟨hL1,fun o u hu hb=>by have:=hobl o u _ hu hb; omega,fun j=>hHl _ j (by omega)⟩
 have hEc:E c.K c.w g0.H:=by
  rw [hc]
  exact hU.more _ _ _ _ (fun b hb=>.inl hb) (hU.go _ _ _ _ hR1.ext hE)
 have hT:Tail P E w0 H0 c g0.H r L.n0:=by
  refine ⟨by rw [hc,← hmark],fun m' s' g' a' w' h1=>?_,hEc,fun o u hu=>?_⟩
  · have hb:=h1.ext.block r ((hcK r).2 (.inr rfl))
    refine ⟨?_,hb.trans (by rw [hc]; exact hK1),fun o u hu hb=>h1.obs.kept o u r hu hb ((hcK r).2 (.inr rfl)),fun j=>?_,fun hk=>by have:=hKl r hk; omega⟩
    · have e:=h1.ext
      have hw:c.w=W1:=by rw [hc]
      have hBc:c.B=g0.B:=by rw [hc]
      refine ⟨⟨e.os.trans (by rw [hw]; exact hR1.ext.os),e.tape.trans (by rw [hw]; exact hR1.ext.tape),e.output.trans (by rw [hw]; exact hR1.ext.output),Nat.le_trans hR1.ext.size (by have:=e.size; rwa [hw] at this),fun b hb=>(e.block b ((hcK b).2 (.inl hb))).trans (by rw [hw]; exact hR1.ext.block b hb),hR1.ext.lt,Hp.le_trans hR1.ext.le e.le,e.fro,fun b j v q1 q2 hb=>?_⟩,
       ⟨h1.obs.fro,h1.obs.lt,h1.obs.hold,h1.obs.apart,h1.obs.dom,fun o u b hu hb hK=>h1.obs.kept o u b hu hb ((hcK b).2 (.inl hK))⟩,h1.full,h1.env,h1.sz,h1.dfr,fun o p hp=>h1.ptr o p ⟨by rw [hBc]; exact hR1.ptr o p hp,hp.2⟩⟩
      cases hh:g0.H b j with
      | none=>exact e.new b j v q1 hh ((hcK b).2 (.inl hb))
      | some u=>exact hR1.ext.new b j u hh q2 hb
    · cases hh:g'.H r j with
      | none=>rfl
      | some v=>exact (h1.ext.new r j v hh (hHl r j (Nat.le_refl _)) ((hcK r).2 (.inr rfl))).elim
  · have:=hR1.obs.dom o u (by rw [hc] at hu; exact hu)
    rw [← (hoby x).1]; exact this
 have hl0:¬ c.K (r+1):=fun hk=>(hcK _).1 hk |>.elim (fun h1=>by have:=hKl _ h1; omega) (fun h1=>by omega)
 have hpt:c.B o=some (.pointer (some ⟨b,0,none⟩)):=by rw [hc]; exact hBo
 -- what is between rounds; what a round that has stopped leaves; what a panic leaves
 let J:=fun i W=>ItJ c g0.H m L.e { a with defers:=mark::a.defers } L.ob L.I (r+1) (.loop (rec .ready none)) i W
 have hz:∀ i,i<N→∃ z,Qef P tE (Qae (get i)) 0=some z:=fun i hi=>by
  have:=hround i hi
  split at this
  · rename_i z hz; exact ⟨z,hz⟩
  · exact this.elim
 have hres:(resolve a.eval (rangeCall (.tmp dg) (r+1)) 0).run P W1=.ok { target:=.fn (.func bf) #[.pointer (some ⟨b,0,none⟩)],args:=#[.func (.yield (r+1)) #[] #[]] } W1:=by
  have e1:resolve a.eval (rangeCall (.tmp dg) (r+1)) 0=pure { target:=.fn (.func bf) #[.pointer (some ⟨b,0,none⟩)],args:=#[.func (.yield (r+1)) #[] #[]] }:=by
   show Deferred.ofValue (a.tmps.getD dg undef) (#[Operand.const (.func (.yield (r+1)) #[] #[])].map a.eval)=_
   rw [hgval,show (#[Operand.const (.func (.yield (r+1)) #[] #[])].map a.eval)=#[.func (.yield (r+1)) #[] #[]] by simp [Act.eval]]
   rfl
  rw [e1]; rfl
 refine Qml (n:=0) (l:=r+1) (mark:=[mark]) (w1:=W1) (w1':=W1) (w2:=W1) (f:=bf) (args:=#[.func (.yield (r+1)) #[] #[],.pointer (some ⟨b,0,none⟩)])
  (R:=fun e W'=>(∃ v,e=.returned v∧(J 0 W'∨∃ s' g',Real c g0.H m s' g' { a with defers:=mark::a.defers } W'∧XL (r+1) (.loop (rec .done (some .ret))) g' W'∧Q .ret s')) ∨
   ∃ ch,e=.panicked ch∧Post (.panic ch) { a with defers:=mark::a.defers } W') ?_ hres ?_ ?_ ?_ ?_ ?_
 · rw [← hW1,hrec,← hmark,← hr]; exact run_enterLoop_outer _ _ _ _ _
 · exact Qgx hplain
 · refine QtW (n:=0) (nn:=L.n0) hU hEc (r:=.loop (rec .ready none)) (zs:=fun i=>(Qef P tE (Qae (get i)) 0).getD .any) hB hkeep hblw hT.n1 hpt hview hsz hN (fun y=>(hoby y).2) (fun i hi=>by obtain ⟨z,hz⟩:=hz i hi; rw [hz]; rfl) ?_ W1 ⟨x,g0,hIx,hRc,hX1⟩
   intro i W y g1 v hi hIy hRy hXy hpr
   obtain ⟨z,hzz⟩:=hz i hi
   rw [hzz] at hpr
   have hpr:PR g1.H g1.B v z:=hpr
   have hrd:=hround i hi
   rw [hzz] at hrd
   have hrd:=hrd y hIy
   have hy:=run_yield (P:=P) (args:=#[.int .i64 i,v]) hXy.at_ (by rw [hrec]; rfl)
   rw [hrec] at hy
   refine ⟨f0,_,assign,body,hy,?_⟩
   have hta:((#[p0,p1]:Array Tmp).zip #[Value.int .i64 (i:Int),v]).foldl (fun tmps (t,a)=>tmps.setIfInBounds t a) a.tmps=(a.tmps.setIfInBounds p0 (.int .i64 i)).setIfInBounds p1 v:=by
    rw [show ((#[p0,p1]:Array Tmp).zip #[Value.int .i64 (i:Int),v])=#[(p0,.int .i64 i),(p1,v)] from by rw [← Array.toList_inj,Array.toList_zip]; rfl]
    rfl
   show RoundIn _ _ P _ f0 (((#[p0,p1]:Array Tmp).zip #[Value.int .i64 (i:Int),v]).foldl (fun tmps (t,a)=>tmps.setIfInBounds t a) a.tmps) assign body W _
   rw [hta]
   refine QeJ hf0 ?_
   -- the round's own frame
   have hRr:Real (cxL c (r+1) L.n0 W g1) g1.H m ⟨(p1,z)::(p0,.f (.v (.int .i64 i)))::L.e,L.ob y⟩ g1 { tmps:=(a.tmps.setIfInBounds p0 (.int .i64 i)).setIfInBounds p1 v,defers:=[] } W:=by
    refine hRy.innerL hXy (fun d u hu=>?_) (by simp; exact hR.sz) rfl
    dsimp only
    rw [Qag] at hu
    split at hu
    · rename_i hd
      cases hu; subst hd
      rw [Array.getD_eq_getD_getElem?,Array.getElem?_setIfInBounds_self_of_lt (by simp; rw [hR.sz]; exact hp1)]
      exact hpr
    · rename_i hd1
      rw [Array.getD_eq_getD_getElem?,Array.getElem?_setIfInBounds_ne hd1]
      rw [Qag] at hu
      split at hu
      · rename_i hd
        cases hu; subst hd
        rw [Array.getElem?_setIfInBounds_self_of_lt (by rw [hR.sz]; exact hp0)]
        exact .f (.v _ rfl)
      · rename_i hd2
        rw [Array.getElem?_setIfInBounds_ne hd2,← Array.getD_eq_getD_getElem?]
        exact hRy.env d u hu
   have hE2:E (cxL c (r+1) L.n0 W g1).K (cxL c (r+1) L.n0 W g1).w g1.H:=hU.more _ _ _ _ (fun b hb=>.inl hb) (hU.go _ _ _ _ hRy.ext hEc)
   refine wpIn_mono (QaU (n0:=L.n0) (Qgs (r+1)) hΔ (fun o u hu=>by
    replace hu:(if o<L.n0 then g1.B o else none)=some u:=hu
    split at hu
    · assumption
    · cases hu) hΓ hU hE2 assign _ _ hpa hrd g1 _ W hRr) fun e a2 W2 hq2=>?_
   cases e with
   | exit j=>obtain ⟨_,_,_,h⟩:=hq2; exact h.elim
   | goto j=>obtain ⟨_,_,_,h⟩:=hq2; exact h.elim
   | ret=>obtain ⟨_,_,_,h⟩:=hq2; exact h.elim
   | panic ch=>obtain ⟨_,_,_,_,_,_,_,h⟩:=hq2; exact h.elim
   | outgrown=>exact hq2.elim
   | normal =>
   obtain ⟨s1,g2,hR2,hbody⟩:=hq2
   dsimp only at hbody
   have hl2:W2.heap[r+1]?=some (.loop (rec .ready none)):=(hR2.ext.block (r+1) (.inr rfl)).trans hXy.at_
   refine ⟨_,run_beginRound hl2 (by rw [hrec]),?_⟩
   -- the record is busy
   have hout2:=hRy.outerL hXy hkeep hblw hT.n1 hR2
   have hXb:XL (r+1) (.loop { rec .ready none with state:=.busy }) g2 (W2.putObj (r+1) (.loop { rec .ready none with state:=.busy })):=⟨World.putObj_heap_same hout2.2.lt,hout2.2.ob,hout2.2.no⟩
   have hRb:=hout2.1.putObj (.loop { rec .ready none with state:=.busy }) hl0 hout2.2.ob hout2.2.no
   have hR3:Real (cxL c (r+1) L.n0 (W2.putObj (r+1) (.loop { rec .ready none with state:=.busy })) g2) g2.H m s1 g2 a2 (W2.putObj (r+1) (.loop { rec .ready none with state:=.busy })):=by
    have:=hRb.innerL (n:=L.n0) (e':=s1.env) (a':=a2) (m':=m) hXb hR2.env hR2.sz hR2.dfr
    exact this
   have hE3:E (cxL c (r+1) L.n0 (W2.putObj (r+1) (.loop { rec .ready none with state:=.busy })) g2).K (cxL c (r+1) L.n0 (W2.putObj (r+1) (.loop { rec .ready none with state:=.busy })) g2).w g2.H:=hU.more _ _ _ _ (fun b hb=>.inl hb) (hU.go _ _ _ _ hRb.ext hEc)
   refine wpIn_mono (QaU (n0:=L.n0) (Qgs (r+1)) hΔ (fun o u hu=>by
    replace hu:(if o<L.n0 then g2.B o else none)=some u:=hu
    split at hu
    · assumption
    · cases hu) hΓ hU hE3 body _ _ hpb hbody g2 _ _ hR3) fun e a3 W3 hq3=>?_
   have fin:∀ (jump:Option Code) (s3:PS) (g3:Gh),Real (cxL c (r+1) L.n0 (W2.putObj (r+1) (.loop { rec .ready none with state:=.busy })) g2) g2.H m s3 g3 a3 W3 →
     (Instr.endRound (r+1) jump).run P W3=.ok (.bool jump.isNone) (W3.putObj (r+1) (.loop (rec (if jump.isNone then .ready else .done) jump))) ∧
     Real c g0.H m ⟨L.e,s3.ob⟩ g3 { a with defers:=mark::a.defers } (W3.putObj (r+1) (.loop (rec (if jump.isNone then .ready else .done) jump)))∧XL (r+1) (.loop (rec (if jump.isNone then .ready else .done) jump)) g3 (W3.putObj (r+1) (.loop (rec (if jump.isNone then .ready else .done) jump))):=by
    intro jump s3 g3 h3
    obtain ⟨q1,q2⟩:=hRb.outerL hXb hkeep hblw hT.n1 h3
    refine ⟨?_,q1.putObj _ hl0 q2.ob q2.no,⟨World.putObj_heap_same q2.lt,q2.ob,q2.no⟩⟩
    have:=run_endRound (P:=P) jump q2.at_
    rw [hrec] at this ⊢
    exact this
   cases e with
   | normal =>
    obtain ⟨s3,g3,h3,y',hwk,hI'⟩:=hq3
    obtain ⟨g4,h4⟩:=(show Real _ _ m ⟨[],s3.ob⟩ g3 a3 W3 from ⟨h3.ext,h3.obs,h3.full,fun d x hx=>(by cases hx),h3.sz,h3.dfr,h3.ptr⟩).weak (n0:=L.n0) (fun o u hu=>by
     replace hu:(if o<L.n0 then g2.B o else none)=some u:=hu
     split at hu
     · assumption
     · cases hu) hwk
    obtain ⟨q1,q2,q3⟩:=fin none _ g4 h4
    exact ⟨_,_,q1,.inl ⟨rfl,y',g4,hI',q2,q3⟩⟩
   | ret =>
    obtain ⟨s3,g3,h3,hq⟩:=hq3
    obtain ⟨q1,q2,q3⟩:=fin (some .ret) s3 g3 h3
    exact ⟨_,_,q1,.inr (.inl ⟨rfl,_,g3,q2,q3,hq⟩)⟩
   | exit j=>obtain ⟨s3,g3,h3,hq⟩:=hq3; rcases hQo _ _ hq with h | h <;> cases h
   | goto j=>obtain ⟨s3,g3,h3,hq⟩:=hq3; rcases hQo _ _ hq with h | h <;> cases h
   | panic ch =>
    obtain ⟨s3,g3,u,yy,rfl,h3,hu,hqq⟩:=hq3
    obtain ⟨q1,q2⟩:=hRb.outerL hXb hkeep hblw hT.n1 h3
    exact ⟨h3.dfr,.inr (.inr ⟨_,rfl,hq u yy c g0.H r _ g3 _ W3 hT q1 hu hqq⟩)⟩
   | outgrown=>exact hq3.elim
 · rintro v W3 (⟨_,_,(⟨y,g',hI',hR',hX'⟩ | ⟨s',g',hR',hX',hq'⟩)⟩ | ⟨ch,hc',_⟩)
   · have:=run_endLoop (P:=P) hX'.at_ (by rw [hrec]; simp)
     refine ⟨none,_,by rw [this,hrec],?_⟩
     exact hQ .normal c g0.H r _ g' _ _ hT (hR'.putObj _ hl0 hX'.ob hX'.no) (hdone y hI')
   · have:=run_endLoop (P:=P) hX'.at_ (by rw [hrec]; simp)
     refine ⟨some .ret,_,by rw [this,hrec],?_⟩
     exact Qmm (n:=0) (wpIn_ret (hQ .ret c g0.H r _ g' _ _ hT (hR'.putObj _ hl0 hX'.ob hX'.no) hq'))
   · cases hc'
 · rintro ch W3 (⟨_,hc',_⟩ | ⟨ch',hc',hp'⟩)
   · cases hc'
   · cases hc'; exact hp'
 · rintro W3 (⟨_,hc',_⟩ | ⟨ch',hc',_⟩) <;> cases hc'
end
abbrev Rngs:=Nat→Option AnnR
def Qdr:Code→Bool
 | .seq a b=>Qdr a && Qdr b
 | .block _ a=>Qdr a
 | .cond _ a b=>Qdr a && Qdr b
 | .loop a=>Qdr a
 | .rangeFunc ..=>false
 | _=>true
def PWX (P:Program) (Γ:Specs) (Δ:Specs2) (Λ:Loops) (bk:Backs) (Ω:Rngs) (m:Nat) (q:PV→PS→Prop):Code→Nat→(Exit→Nat→PS→Prop)→PS→Prop
 | .seq a b,n0,K,s=>match Qdr (.seq a b) with
  | true=>PW P Γ Δ Λ m n0 q (.seq a b) (fun e s'=>K e n0 s') s
  | false=>match Λ (1000000+Qga b) with
   | some L=>PWX P Γ Δ Λ bk Ω m q a n0 (fun e n s'=>match e with | .normal=>(match Nat.beq n n0 with | true=>∃ y,Weak n0 (L.T y) s'∧L.I y | false=>False) | e=>K e n s') s∧∀ y,L.I y→PWX P Γ Δ Λ bk Ω m q b n0 K (L.T y)
   | none=>PWX P Γ Δ Λ bk Ω m q a n0 (fun e n s'=>match e with | .normal=>PWX P Γ Δ Λ bk Ω m q b n K s' | e=>K e n s') s
 | .block id a,n0,K,s=>PWX P Γ Δ Λ bk Ω m q a n0 (fun e n s'=>match e with
   | .exit i=>match Nat.beq i id with | true=>K .normal n s' | false=>K (.exit i) n s'
   | e=>K e n s') s
 | .cond (.tmp d) a b,n0,K,s=>match look s.env d with
  | some (.f (.v (.bool t)))=>ifB t (PWX P Γ Δ Λ bk Ω m q a n0 K (Qb0 s d true)) (PWX P Γ Δ Λ bk Ω m q b n0 K (Qb0 s d false))
  | _=>False
 | .rangeFunc (.tmp dg) ps assign body,n0,K,s=>match ps.toList,Ω (Qga body) with
  | [p0,p1],some L=>QpO P Γ Δ bk m n0 q L dg p0 p1 assign body (fun e s'=>match e with | .normal=>K .normal L.n0 s' | .ret=>K .ret L.n0 s' | _=>False) s
  | _,_=>False
 | c,n0,K,s=>PW P Γ Δ Λ m n0 q c (fun e s'=>K e n0 s') s
inductive Chain (P:Program) (E:Env) (w0:Cx) (H0:Hp):Cx→Hp→Prop
 | refl (hE:E w0.K w0.w H0):Chain P E w0 H0 w0 H0
 | step {c c':Cx} {H H':Hp} {r n:Nat} (h:Chain P E w0 H0 c H) (ht:Tail P E c H c' H' r n):Chain P E w0 H0 c' H'
theorem Chain.E {P:Program} {E:Env} {w0 c:Cx} {H0 H:Hp} (h:Chain P E w0 H0 c H):E c.K c.w H:=by
 cases h with
 | refl hE=>exact hE
 | step h ht=>exact ht.E
def Qx (P:Program) (E:Env) (w0:Cx) (H0:Hp) (m:Nat) (q:PV→PS→Prop) (K:Exit→Nat→PS→Prop):Exit→Act→World→Prop
 | .panic ch,a,w=>∃ c H s g v y,ch=[{ v,recovered:=false }]∧Chain P E w0 H0 c H∧Real c H m s g a w∧PR g.H g.B v y∧q y s
 | .outgrown,_,_=>False
 | e,a,w=>∃ c H n s g,Chain P E w0 H0 c H∧(∀ o u,c.B o=some u→o<n)∧Real c H m s g a w∧K e n s
section
variable {P : Program} {Γ : Specs} {Δ : Specs2} {Λ : Loops} {bk : Backs} {Ω : Rngs} {m : Nat} {q : PV → PS → Prop} {E : Env} {w0 : Cx} {H0 : Hp} {f0 : FuncId}
theorem Qdg {c:Cx} {H:Hp} {n0:Nat} (hc:Chain P E w0 H0 c H) (hn:∀ o u,c.B o=some u→o<n0) {K:Exit→Nat→PS→Prop}:∀ e a w,Qr c H m q (fun e s'=>K e n0 s') e a w→Qx P E w0 H0 m q K e a w:=by
 intro e a w h
 cases e with
 | panic ch=>obtain ⟨s,g,v,y,h1,h2,h3,h4⟩:=h; exact ⟨c,H,s,g,v,y,h1,hc,h2,h3,h4⟩
 | outgrown=>exact h
 | normal=>obtain ⟨s,g,h1,h2⟩:=h; exact ⟨c,H,n0,s,g,hc,hn,h1,h2⟩
 | ret=>obtain ⟨s,g,h1,h2⟩:=h; exact ⟨c,H,n0,s,g,hc,hn,h1,h2⟩
 | exit i=>obtain ⟨s,g,h1,h2⟩:=h; exact ⟨c,H,n0,s,g,hc,hn,h1,h2⟩
 | goto i=>obtain ⟨s,g,h1,h2⟩:=h; exact ⟨c,H,n0,s,g,hc,hn,h1,h2⟩
theorem Qh9 {d:Nat} {x y:Code} {t:Bool} {Q:Exit→Act→World→Prop} {a:Act} {w:World} (hc:a.eval (.tmp d)=.bool t) (h:wpAt f0 P (if t then x else y) Q a w):wpAt f0 P (.cond (.tmp d) x y) Q a w:=fun b k cs h1 h2 =>
 let ⟨e,a',w',q,r⟩:=h b k cs h1 h2; ⟨e,a',w',q,.of_steps (.one (fenced_wide P _) (stepR_cond hc)) r⟩
theorem Qbw (hΔ:Sound2 P E Δ) (hΓ:Sound P E Γ) (hU:Up E) (hmix:P.follows .mixedOrders=true) (hbk:Qjo P bk) {fn0:Func} (hf0:P.funcs[f0]?=some fn0):∀ (cd:Code) (n0:Nat) (K:Exit→Nat→PS→Prop) (s:PS),PWX P Γ Δ Λ bk Ω m q cd n0 K s →
  ∀ (c:Cx) (H:Hp) (g:Gh) (a:Act) (w:World),Chain P E w0 H0 c H→(∀ o u,c.B o=some u→o<n0)→Real c H m s g a w→wpAt f0 P cd (Qx P E w0 H0 m q K) a w
 | .seq x y,n0,K,s,h,c,H,g,a,w,hc,hn,hR=>by
  unfold PWX at h
  split at h
  · exact Qas (Qav (Qaj hΔ hn hΓ hU hc.E hmix _ _ _ h _ _ _ hR)) (Qdg hc hn)
  split at h
  · rename_i L hL
    refine QkF (Qas (Qbw hΔ hΓ hU hmix hbk hf0 x n0 _ s h.1 c H g a w hc hn hR) fun e a' w' hq=>?_)
    cases e with
    | normal =>
     obtain ⟨c',H',n',s',g',h1,h2,h3,h4⟩:=hq
     dsimp only at h4
     split at h4
     · rename_i hb
       have hb:=Nat.eq_of_beq_eq_true hb
       subst hb
       obtain ⟨z,h5,h6⟩:=h4
       obtain ⟨g'',h7⟩:=h3.weak h2 h5
       exact Qbw hΔ hΓ hU hmix hbk hf0 y _ K _ (h.2 z h6) c' H' g'' a' w' h1 h2 h7
     · exact h4.elim
    | exit i=>exact hq
    | goto i=>exact hq
    | ret=>exact hq
    | panic c=>exact hq
    | outgrown=>exact hq
  refine QkF (Qas (Qbw hΔ hΓ hU hmix hbk hf0 x n0 _ s h c H g a w hc hn hR) fun e a' w' hq=>?_)
  cases e with
  | normal=>obtain ⟨c',H',n',s',g',h1,h2,h3,h4⟩:=hq; exact Qbw hΔ hΓ hU hmix hbk hf0 y n' K s' h4 c' H' g' a' w' h1 h2 h3
  | exit i=>exact hq
  | goto i=>exact hq
  | ret=>exact hq
  | panic c=>exact hq
  | outgrown=>exact hq
 | .block id x,n0,K,s,h,c,H,g,a,w,hc,hn,hR=>by
  refine Qmn (Qas (Qbw hΔ hΓ hU hmix hbk hf0 x n0 _ s h c H g a w hc hn hR) fun e a' w' hq=>?_)
  cases e with
  | normal=>exact hq
  | exit i =>
   obtain ⟨c',H',n',s',g',h1,h2,h3,h4⟩:=hq
   unfold Exit.inBlock
   dsimp only at h4 ⊢
   by_cases hi:i=id
   · rw [if_pos hi]
     rw [show Nat.beq i id=true by rw [hi]; simp] at h4
     exact ⟨c',H',n',s',g',h1,h2,h3,h4⟩
   · rw [if_neg hi]
     rw [show Nat.beq i id=false by cases hb:Nat.beq i id; rfl; exact absurd (Nat.eq_of_beq_eq_true hb) hi] at h4
     exact ⟨c',H',n',s',g',h1,h2,h3,h4⟩
  | goto i=>exact hq
  | ret=>exact hq
  | panic c=>exact hq
  | outgrown=>exact hq
 | .cond (.tmp d) x y,n0,K,s,h,c,H,g,a,w,hc,hn,hR=>by
  unfold PWX at h
  split at h
  · rename_i t ht
    have hv:=Qft hR ht
    rcases QaM h with ⟨rfl,h1⟩ | ⟨rfl,h1⟩
    · exact Qh9 hv (Qbw hΔ hΓ hU hmix hbk hf0 x n0 K _ h1 c H g a w hc hn (hR.look hv))
    · exact Qh9 hv (Qbw hΔ hΓ hU hmix hbk hf0 y n0 K _ h1 c H g a w hc hn (hR.look hv))
  · exact h.elim
 | .rangeFunc (.tmp dg) ps assign body,n0,K,s,h,c,H,g,a,w,hc,hn,hR=>by
  unfold PWX at h
  split at h
  rotate_left
  · exact h.elim
  rename_i p0 p1 L hps hL
  obtain rfl:ps=#[p0,p1]:=by cases ps; simpa using hps
  refine QjQ hΔ hΓ hU hc.E hbk hn hf0 hR h (fun e c' H' r s' g' a' w' ht h1 h2=>?_) (fun v y c' H' r s' g' a' w' ht h1 h2 h3=>⟨c',H',s',g',v,y,rfl,.step hc ht,h1,h2,h3⟩) (fun e s' h=>?_)
  · cases e with
    | normal=>exact ⟨c',H',L.n0,s',g',.step hc ht,ht.n1,h1,h2⟩
    | ret=>exact ⟨c',H',L.n0,s',g',.step hc ht,ht.n1,h1,h2⟩
    | exit i=>exact h2.elim
    | goto i=>exact h2.elim
    | panic i=>exact h2.elim
    | outgrown=>exact h2.elim
  · cases e with
    | normal=>exact .inl rfl
    | ret=>exact .inr rfl
    | exit i=>exact h.elim
    | goto i=>exact h.elim
    | panic i=>exact h.elim
    | outgrown=>exact h.elim
 | .rangeFunc (.const _) ..,_,_,_,h,_,_,_,_,_,hc,hn,hR=>Qas (Qav (Qaj hΔ hn hΓ hU hc.E hmix _ _ _ h _ _ _ hR)) (Qdg hc hn)
 | .rangeFunc (.global _) ..,_,_,_,h,_,_,_,_,_,hc,hn,hR=>Qas (Qav (Qaj hΔ hn hΓ hU hc.E hmix _ _ _ h _ _ _ hR)) (Qdg hc hn)
 | .rangeFunc (.func _) ..,_,_,_,h,_,_,_,_,_,hc,hn,hR=>Qas (Qav (Qaj hΔ hn hΓ hU hc.E hmix _ _ _ h _ _ _ hR)) (Qdg hc hn)
 | .cond (.const _) ..,_,_,_,h,_,_,_,_,_,hc,hn,hR=>Qas (Qav (Qaj hΔ hn hΓ hU hc.E hmix _ _ _ h _ _ _ hR)) (Qdg hc hn)
 | .cond (.global _) ..,_,_,_,h,_,_,_,_,_,hc,hn,hR=>Qas (Qav (Qaj hΔ hn hΓ hU hc.E hmix _ _ _ h _ _ _ hR)) (Qdg hc hn)
 | .cond (.func _) ..,_,_,_,h,_,_,_,_,_,hc,hn,hR=>Qas (Qav (Qaj hΔ hn hΓ hU hc.E hmix _ _ _ h _ _ _ hR)) (Qdg hc hn)
 | .skip,_,_,_,h,_,_,_,_,_,hc,hn,hR=>Qas (Qav (Qaj hΔ hn hΓ hU hc.E hmix _ _ _ h _ _ _ hR)) (Qdg hc hn)
 | .label _,_,_,_,h,_,_,_,_,_,hc,hn,hR=>Qas (Qav (Qaj hΔ hn hΓ hU hc.E hmix _ _ _ h _ _ _ hR)) (Qdg hc hn)
 | .ret,_,_,_,h,_,_,_,_,_,hc,hn,hR=>Qas (Qav (Qaj hΔ hn hΓ hU hc.E hmix _ _ _ h _ _ _ hR)) (Qdg hc hn)
 | .exit _,_,_,_,h,_,_,_,_,_,hc,hn,hR=>Qas (Qav (Qaj hΔ hn hΓ hU hc.E hmix _ _ _ h _ _ _ hR)) (Qdg hc hn)
 | .region ..,_,_,_,h,_,_,_,_,_,hc,hn,hR=>Qas (Qav (Qaj hΔ hn hΓ hU hc.E hmix _ _ _ h _ _ _ hR)) (Qdg hc hn)
 | .loop _,_,_,_,h,_,_,_,_,_,hc,hn,hR=>Qas (Qav (Qaj hΔ hn hΓ hU hc.E hmix _ _ _ h _ _ _ hR)) (Qdg hc hn)
 | .scope _,_,_,_,h,_,_,_,_,_,hc,hn,hR=>Qas (Qav (Qaj hΔ hn hΓ hU hc.E hmix _ _ _ h _ _ _ hR)) (Qdg hc hn)
 | .goto _,_,_,_,h,_,_,_,_,_,hc,hn,hR=>Qas (Qav (Qaj hΔ hn hΓ hU hc.E hmix _ _ _ h _ _ _ hR)) (Qdg hc hn)
 | .refuse _,_,_,_,h,_,_,_,_,_,hc,hn,hR=>Qas (Qav (Qaj hΔ hn hΓ hU hc.E hmix _ _ _ h _ _ _ hR)) (Qdg hc hn)
theorem QfA {fn:Func} {tmps:Array Value} {R:Ending→World→Prop} {u:FrameMode} (hu:u≠.run) {c:Cx} {H:Hp} (hc:Chain P E w0 H0 c H) (hD:w0.D=[]):∀ {s:PS} {g:Gh} {a:Act} {w:World},Real c H m s g a w →
  (∀ a' w',Real w0 H0 m s g a' w'→a'.tmps=a.tmps→LeavesIn Fence.wide 0 P fn tmps R [] u w')→LeavesInM Fence.wide 0 P fn tmps R c.D u w:=by
 induction hc with
 | refl hE =>
  intro s g a w hR hl
  rw [hD]
  exact hl a w hR rfl
 | @step c c' H H' r n h ht ih =>
  intro s g a w hR hl
  rw [ht.D]
  obtain ⟨h1,h2,h3,h4,h5⟩:=ht.back _ _ _ _ _ hR
  refine ⟨hu,.inl ⟨r,w.putObj r (.deferred none),rfl,run_takeDeferred h2,?_⟩⟩
  have h6:=h1.putObj (.deferred none) h5 h3 h4
  have h7:Real c H m s g { a with defers:=c.D } (w.putObj r (.deferred none)):=⟨⟨h6.ext.os,h6.ext.tape,h6.ext.output,h6.ext.size,h6.ext.block,h6.ext.lt,h6.ext.le,h6.ext.fro,h6.ext.new⟩,h6.obs,h6.full,h6.env,h6.sz,rfl,h6.ptr⟩
  exact ih h7 hl
end
def QcT:Nat→List PO→List PO
 | _,[]=>[]
 | 0,.map ..::l=>.gone::QcT 0 l
 | 0,x::l=>x::QcT 0 l
 | n+1,x::l=>x::QcT n l
def drM (n:Nat) (s:PS):PS:=⟨s.env,QcT n s.ob⟩
theorem QdT:∀ (n:Nat) (l:List PO),(QcT n l).length=l.length
 | n,[]=>by cases n <;> rfl
 | 0,x::l=>by cases x <;> simp [QcT,QdT 0 l]
 | n+1,x::l=>by simp [QcT,QdT n l]
theorem QhG:∀ {n:Nat} {l:List PO} {i:Nat} {x:PO},(QcT n l)[i]?=some x→x=.gone∨l[i]?=some x
 | n,[],i,x,h=>by cases n <;> simp [QcT] at h
 | 0,y::l,i,x,h=>by
  cases i with
  | zero =>
   cases y with
   | map=>simp [QcT] at h; exact .inl h.symm
   | _=>exact .inr (by simpa [QcT] using h)
  | succ i =>
   have h2:(QcT 0 l)[i]?=some x:=by cases y <;> simpa [QcT] using h
   rcases QhG h2 with h3 | h3
   · exact .inl h3
   · exact .inr (by simpa using h3)
 | n+1,y::l,i,x,h=>by
  cases i with
  | zero=>exact .inr (by simpa [QcT] using h)
  | succ i =>
   rcases QhG (n:=n) (l:=l) (i:=i) (by simpa [QcT] using h) with h3 | h3
   · exact .inl h3
   · exact .inr (by simpa using h3)
theorem Real.drM {w0:Cx} {H0:Hp} {m:Nat} {s:PS} {g:Gh} {a:Act} {w:World} (h:Real w0 H0 m s g a w) (n:Nat):Real w0 H0 m (drM n s) g a w:=by
 refine ⟨h.ext,⟨h.obs.fro,h.obs.lt,fun o x u hx hu=>?_,h.obs.apart,fun o u hu=>?_,h.obs.kept⟩,fun o ho=>h.full o ?_,h.env,h.sz,h.dfr,h.ptr⟩
 · rcases QhG hx with rfl | hx
   · exact trivial
   · exact h.obs.hold o x u hx hu
 · show o<(QcT n s.ob).length
   rw [QdT]; exact h.obs.dom o u hu
 · have:o<(QcT n s.ob).length:=ho
   rwa [QdT] at this
def EndsX (P:Program) (rs:List ResultVar) (n0:Nat) (o:Bool × PV × List PO):Exit→Nat→PS→Prop
 | .normal,_,s=>endS P rs n0 o (drM n0 (frzAll s s.ob.length))
 | .ret,_,s=>endS P rs n0 o (drM n0 (frzAll s s.ob.length))
 | _,_,_=>False
def rgL:List (Nat × AnnR)→Rngs
 | [],_=>none
 | (i,x)::l,j=>match Nat.beq i j with | true=>some x | false=>rgL l j
def bkL:List (FuncId × TypeId × TypeId)→Backs
 | [],_=>none
 | (f,x)::l,g=>match Nat.beq f g with | true=>some x | false=>bkL l g
def Qin:List PO→Prop
 | []=>True
 | .cells l::t=>QcG l∧Qin t
 | _::t=>Qin t
theorem QbS:∀ {ob:List PO},(∀ (i:Nat) l,ob[i]?=some (.cells l)→QcG l)→Qin ob
 | [],_=>trivial
 | .cells l::t,h=>⟨h 0 l rfl,QbS fun i l hl=>h (i+1) l (by simpa using hl)⟩
 | .own ..::t,h=>QbS (ob:=t) fun i l hl=>h (i+1) l (by simpa using hl)
 | .tail ..::t,h=>QbS (ob:=t) fun i l hl=>h (i+1) l (by simpa using hl)
 | .gone::t,h=>QbS (ob:=t) fun i l hl=>h (i+1) l (by simpa using hl)
 | .map ..::t,h=>QbS (ob:=t) fun i l hl=>h (i+1) l (by simpa using hl)
 | .bld ..::t,h=>QbS (ob:=t) fun i l hl=>h (i+1) l (by simpa using hl)
theorem Obs.short {K:Nat→Prop} {ob:List PO} {g:Gh} {w:World} (hO:Obs K ob g w) (hf:∀ i,i<ob.length→∃ u,g.B i=some u):Qin ob:=by
 refine QbS fun i l hl=>?_
 obtain ⟨u,hu⟩:=hf i (List.getElem?_eq_some_iff.1 hl).1
 obtain ⟨b,vs,rfl,h1,h2,h3,h4,h5⟩:=hO.hold i _ u hl hu
 exact PRs.short (vs:=vs) ⟨h2,h3⟩
theorem Qki {P:Program} {E:Env} {f:FuncId} {fn:Func} {sp:Spec2} {m:Nat} {bk:Backs} (hbk:Qjo P bk) (L:List (FuncId × Spec)) (L2:List (FuncId × Spec2)) (hm:fn.ntmps=m) (hf:P.funcs[f]?=some fn) (hb:fn.body=some (fn.body.getD .skip)) (hmix:P.follows .mixedOrders=true) (hU:Up E) (hL:AllC P E L) (hL2:Qjp P E L2)
  (h:∀ xs ob o,sp xs ob=some o→o.ok→∃ ys l Ω,SubsB xs ys∧Nat.ble ys.length m=true∧(QfE ys→QcG ys→Qin ob→PWX P (spL L) (spL2 L2) (lpL l) bk Ω m (fun y s=>EndU ob.length o.fin false y s.ob) (fn.body.getD .skip) ob.length (EndsX P fn.results.toList ob.length o.fin) ⟨entry 0 ys,ob⟩)):Contract2 P E f sp:=by
 intro xs ob o hsp hok K w g vs hK hO hfull hE hvs
 obtain ⟨ys,l,Ω,h1,h2,h3⟩:=h xs ob o hsp hok
 subst hm
 have hvs:=h1.prs hvs
 have h3:=h3 hvs.good hvs.short (hO.short hfull)
 have hlen:=Nat.le_of_ble_eq_true h2
 have hsize:(vs.toArray++Array.replicate (fn.ntmps - vs.toArray.size) undef).size=fn.ntmps:=by
  simp [hvs.1]; omega
 have hR:Real ⟨K,w,g.B,[]⟩ g.H fn.ntmps ⟨entry 0 ys,ob⟩ g { tmps:=vs.toArray++Array.replicate (fn.ntmps - vs.toArray.size) undef,defers:=[] } w:=by
  refine ⟨ExtK.refl hO.fro hK,hO,hfull,fun d x hx=>?_,hsize,rfl,fun o p hp=>hp.1⟩
  obtain ⟨_,h2⟩:=Qa8 ys 0 d x hx
  rw [Nat.sub_zero] at h2
  obtain ⟨v,h3,h4⟩:=hvs.at h2
  have hd:=(List.getElem?_eq_some_iff.1 h3).1
  have:(vs.toArray++Array.replicate (fn.ntmps - vs.toArray.size) undef).getD d undef=v:=by
   rw [Array.getD_eq_getD_getElem?,Array.getElem?_append_left (by simpa using hd)]
   simp [h3]
  rw [this]; exact h4
 have hn0:∀ o u,(⟨K,w,g.B,[]⟩:Cx).B o=some u→o<ob.length:=fun o u hu=>hO.dom o u hu
 refine QhS (n:=0) hf hb (Qas (Qbw (Qbj hL2) (Qbq hL) hU hmix hbk hf _ _ _ _ h3 _ _ _ _ _ (.refl hE) hn0 hR) fun e a' w' hq=>?_)
 have key:∀ (c:Cx) (H:Hp) s g1,Chain P E ⟨K,w,g.B,[]⟩ g.H c H→Real c H fn.ntmps s g1 a' w'→endS P fn.results.toList ob.length o.fin (drM ob.length (frzAll s s.ob.length)) →
   LeavesInM Fence.wide 0 P fn a'.tmps (fun e w'=>∃ g' v,ExtK ⟨K,w,g.B,[]⟩ g.H w' g'.H∧Obs K o.fin.2.2 g' w'∧(∀ i,i<o.fin.2.2.length→∃ u,g'.B i=some u)∧(∀ i p,FixB g.B i p→g'.B i=some p)∧PR g'.H g'.B v o.fin.2.1 ∧
    e=(match o.fin.1 with | true=>.returned v | false=>.panicked [{ v,recovered:=false }])) a'.defers .returning w':=by
  intro c H s g1 hc hR0 hE
  rw [hR0.dfr]
  refine QfA (by simp) hc rfl hR0 fun a2 w2 hR2 ht=>?_
  obtain ⟨g2,hR1⟩:=hR2.frzAll s.ob.length
  have hR':=hR1.drM ob.length
  unfold endS at hE
  split at hE
  · rename_i x hx
    obtain ⟨v,h1,h2⟩:=QaS (fn:=fn) hR' hx
    obtain ⟨h3,g',h4,h5,h6,h7,h8⟩:=QaZ hR' hn0 h2.flatR hE.out
    rw [ht] at h1
    exact ⟨v,h1,g',v,h4,h5,h6,h7,h8,by rw [h3]⟩
  · exact hE.elim
 cases e with
 | normal=>obtain ⟨c,H,n,s,g1,h1,_,h2,h3⟩:=hq; exact key c H s g1 h1 h2 h3
 | ret=>obtain ⟨c,H,n,s,g1,h1,_,h2,h3⟩:=hq; exact key c H s g1 h1 h2 h3
 | exit i=>obtain ⟨_,_,_,_,_,_,_,_,h⟩:=hq; exact h.elim
 | goto i=>obtain ⟨_,_,_,_,_,_,_,_,h⟩:=hq; exact h.elim
 | panic ch =>
  obtain ⟨c,H,s,g1,v,y,rfl,h1,h2,h3,h4⟩:=hq
  show LeavesInM _ _ _ _ _ _ _ _ _
  rw [h2.dfr]
  refine QfA (by simp) h1 rfl h2 fun a2 w2 hR2 ht=>?_
  obtain ⟨h5,g',h6,h7,h8,h9,h10⟩:=QaZ hR2 hn0 h3 h4.out
  exact ⟨g',v,h6,h7,h8,h9,h10,by rw [h5]⟩
 | outgrown=>exact hq.elim
def regA:Code→Nat→Array Oper
 | .region id ops _,i=>match Nat.beq id i with | true=>ops | false=>#[]
 | .seq a b,i=>match (regA a i).size with | 0=>regA b i | _=>regA a i
 | .block _ a,i=>regA a i
 | .loop a,i=>regA a i
 | .cond _ a b,i=>match (regA a i).size with | 0=>regA b i | _=>regA a i
 | _,_=>#[]
theorem QtX {P:Program} {bf tS tE tI tB:Nat} {fn:Func} {ts:Array TypeId} (hf:P.funcs[bf]?=some fn) (hp:QcB P bf=true)
  (hb:fn.body=some (.seq (.region 0 (regA (fn.body.getD .skip) 0) false) (.block 0 (.loop (.seq (.seq (.region 1 (regA (fn.body.getD .skip) 1) false) (.cond (.tmp 8) .skip (.exit 0))) (.seq (.block 1 (.seq (.region 3 (regA (fn.body.getD .skip) 3) false) (.cond (.tmp 18) .ret .skip))) (.region 2 (regA (fn.body.getD .skip) 2) false)))))))
  (hm:fn.ntmps=19) (hr:fn.results.toList=[])
  (q0:(regA (fn.body.getD .skip) 0).toList.map opK=[(some 4,.load tS (.tmp 1),none),(some 5,.call ⟨.builtin .len,#[.tmp 4],#[tS]⟩,none),(some 6,.binOp .sub tI (.tmp 5) (.const (.int .i64 1)) tI,none),(some 3,.assign (.tmp 6),none)])
  (q1:(regA (fn.body.getD .skip) 1).toList.map opK=[(some 7,.move (.tmp 3),none),(some 8,.binOp .geq tI (.tmp 7) (.const (.int .i64 0)) tI,none)])
  (q2:(regA (fn.body.getD .skip) 2).toList.map opK=[(some 9,.move (.tmp 3),none),(some 10,.binOp .sub tI (.tmp 9) (.const (.int .i64 1)) tI,none),(some 3,.assign (.tmp 10),none)])
  (q3:(regA (fn.body.getD .skip) 3).toList.map opK=[(some 11,.move (.tmp 0),none),(some 12,.move (.tmp 3),none),(some 13,.load tS (.tmp 1),none),(some 14,.move (.tmp 3),none),(some 15,.indexAddr tS (.tmp 13) (.tmp 14),none),(some 16,.load tE (.tmp 15),none),
   (some 17,.call ⟨.value (.tmp 11),#[.tmp 12,.tmp 16],ts⟩,none),(some 18,.unOp .not tB (.tmp 17),none)])
  (a1:aggT P tS=some false) (a2:P.underlying tS=some (.slice tE)):Qjo P (bkL [(bf,tS,tE)]):=by
 intro bf' tS' tE' h
 unfold bkL at h
 split at h
 · rename_i he
   cases h
   have he:=Nat.eq_of_beq_eq_true he
   subst he
   exact ⟨hp,tI,tB,fn,0,1,2,3,_,_,_,_,ts,hf,hb,hm,hr,q0,q1,q2,q3,a1,a2⟩
 · cases h
end Go.Proofs.YtijfaigpilfpaaaGreatDoor
