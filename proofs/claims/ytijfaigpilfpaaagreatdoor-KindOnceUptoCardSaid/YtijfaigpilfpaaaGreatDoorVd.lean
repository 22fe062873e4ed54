/- A range over a function that goes through a slice from its end: the pure run of it. -/
import Derived.Test.YtijfaigpilfpaaaGreatDoorVc
import Derived.RangeFuncRecord
import Derived.TacticsIn
namespace Go.Proofs.YtijfaigpilfpaaaGreatDoor
set_option linter.unusedVariables false
open Go.RowKit
structure Open (F:Fence):Prop where
 fn:∀ f,F.fn f
 depth:F.depth=none
 calls:∀ {n:Nat} {P:Program} {f:FuncId} {args:Array Value} {w:World} {R:Ending→World→Prop},Calls P f args w R→CallsIn F n P f args w R
 rows:∀ {n:Nat} {P:Program} {row:String} {args:Array Value} {w:World} {R:Value→World→Prop},Rows P row args w R→RowsIn F n P row args w R
theorem Qol:Open Fence.wide:=⟨fun _=>trivial,rfl,fun h=>callsIn_wide.2 h,fun h c cs _=>let ⟨v,w',r,s⟩:=h c cs; ⟨v,w',r,stepsIn_wide.2 s⟩⟩
theorem Qgs (l:Nat):Open (Fence.wide.inRound l):=⟨fun _=>trivial,rfl,fun h=>callsIn_wide.2 h,fun h c cs _=>let ⟨v,w',r,s⟩:=h c cs; ⟨v,w',r,stepsIn_wide.2 s⟩⟩
section
variable {P : Program} {F : Fence} {n : Nat}
theorem op_in (hF:Open F) {o:Oper} {a:Act} {w:World} {K K':Act→World→Prop} {Q:Exit→Act→World→Prop} (h:o.wp P a w K Q) (hnd:∀ c,o.op≠.defer c) (hK:∀ a w,K a w→K' a w):o.wpIn F n P a w K' Q:=by
 refine ⟨fun f _=>hF.fn f,?_⟩
 rw [Oper.semAt_eq _ _ _ hnd]
 unfold Oper.wp at h
 generalize (execOp a.eval o).run P w=r at h ⊢
 unfold Oper.upon at h
 unfold Oper.uponIn
 split at h
 · exact hK _ _ h
 · exact hK _ _ h
 · exact hK _ _ h
 · refine ⟨fun hc=>(by rw [hF.depth] at hc; cases hc),hF.calls (h.mono fun e w' hr=>?_)⟩
   cases e with
   | returned v=>exact hK _ _ hr
   | panicked c=>exact hr
   | outgrown=>exact hr
 · exact ⟨fun hc=>(by rw [hF.depth] at hc; cases hc),hF.rows (h.mono fun v w' hr=>hK _ _ hr)⟩
 · exact h
 · exact h.elim
theorem QrI (hF:Open F) {ops:Array Oper} {Q:Exit→Act→World→Prop} (hnd:∀ o∈ops.toList,∀ c,o.op≠.defer c) (hQ:¬ LetsOut Q):∀ (l:List Nat) (a:Act) (w:World),wpOps P ops Q l a w→wpOpsIn F n P ops Q l a w
 | [],_,_,h=>h
 | i::l,a,w,h=>by
  have ih:=QrI hF hnd hQ l
  unfold wpOps at h
  unfold wpOpsIn
  cases ho:ops[i]? with
  | none=>rw [ho] at h; exact ih _ _ h
  | some o =>
   rw [ho] at h
   have hm:o∈ops.toList:=by rw [← Array.getElem?_toList] at ho; exact List.mem_of_getElem? ho
   dsimp only at h ⊢
   split at h
   · rename_i hw
     rw [if_pos hw]
     rcases h with h | h
     · exact op_in hF h (hnd o hm) ih
     · exact (hQ h.2).elim
   · rename_i hw
     rw [if_neg hw]
     exact ⟨fun f _=>hF.fn f,ih _ _ h⟩
theorem QeJ {l:Nat} {f:FuncId} {fn:Func} {tmps:Array Value} {assign body:Code} {w:World} {R:Ending→World→Prop} (hf:P.funcs[f]?=some fn)
  (h:assign.wpIn (Fence.wide.inRound l) n P (Exit.then (fun a₁ w₁=>∃ w₂,(Instr.beginRound l).run P w₁=.ok () w₂∧body.wpIn (Fence.wide.inRound l) n P (fun e a w=>match e with
    | .panic c=>a.defers=[]∧R (.panicked c) w
    | e=>roundPost P l R e a w) a₁ w₂) (fun _ _ _=>False))
   { tmps:=tmps,defers:=[] } w):RoundIn Fence.wide n P l f tmps assign body w R:=by
 have hF:Fence.wide.fn f:=trivial
 refine ⟨hF,fun c cs hr=>?_⟩
 let b:Frame:={ (default:Frame) with fn:=f,kind:=.normal,roundOf:=some l }
 have hb0:Frame.round l f tmps assign body .normal=b.atR { tmps:=tmps,defers:=[] } [.code assign,.beginRound,.code body]:=by
  simp [Frame.round,Frame.atR,b]
 have hr':(Fence.wide.inRound l).room ((c::cs).length+1+n):=hr
 have hF':(Fence.wide.inRound l).fn b.fn:=hF
 obtain ⟨e,a₁,w₁,hq,harr⟩:=h b [.beginRound,.code body] (c::cs) rfl hF' hr'
 rw [← hb0] at harr
 cases e with
 | normal =>
  obtain ⟨w₂,hbr,hbody⟩:=hq
  have s1:StepsIn (Machine.fenced P (Fence.wide.inRound l)) P (lone (b.atR a₁ [.beginRound,.code body]) (c::cs) w₁) (lone (b.atR a₁ [.code body]) (c::cs) w₂) :=
   .one (fenced_calm (fr:=b.atR a₁ [.beginRound,.code body]) hF' hr' rfl) (stepR_beginRound rfl hbr)
  obtain ⟨e₂,a₂,w₃,hq₂,harr₂⟩:=hbody b [] (c::cs) rfl hF' hr'
  cases e₂ with
  | normal =>
   obtain ⟨v,w₄,hend,hR⟩:=hq₂
   exact ⟨.returned v,w₄,hR,(StepsIn.trans harr s1).trans (StepsIn.trans harr₂ (.one (fenced_calm (fr:=b.atR a₂ []) hF' hr' rfl) (stepR_round_end rfl rfl hend)))⟩
  | ret =>
   obtain ⟨v,w₄,hend,hR⟩:=hq₂
   obtain ⟨k₁,hs⟩:=harr₂.2 rfl
   exact ⟨.returned v,w₄,hR,(StepsIn.trans harr s1).trans (StepsIn.trans hs (.one (fenced_calm (fr:=b.atR a₂ (.code .ret::k₁)) hF' hr' rfl) (stepR_round_ret rfl rfl hend)))⟩
  | exit id =>
   obtain ⟨v,w₄,hend,hR⟩:=hq₂
   obtain ⟨k₁,hk,hs⟩:=harr₂.2 rfl rfl
   exact ⟨.returned v,w₄,hR,(StepsIn.trans harr s1).trans (StepsIn.trans hs (.one (fenced_calm (fr:=b.atR a₂ (.code (.exit id)::k₁)) hF' hr' rfl) (stepR_round_exit rfl rfl hk hend)))⟩
  | goto t =>
   obtain ⟨v,w₄,hend,hR⟩:=hq₂
   obtain ⟨k₁,hk,hs⟩:=harr₂.2 rfl rfl
   exact ⟨.returned v,w₄,hR,(StepsIn.trans harr s1).trans (StepsIn.trans hs (.one (fenced_calm (fr:=b.atR a₂ (.code (.goto t)::k₁)) hF' hr' rfl) (stepR_round_goto rfl rfl hk hend)))⟩
  | panic chain =>
   obtain ⟨hd,hR⟩:=hq₂
   obtain ⟨todo,hs⟩:=harr₂
   have hl:({ b.atR a₂ todo with mode:=.panicking chain }:Frame).leaving P w₃ (.panicked chain):=⟨rfl,hd,fn,hf⟩
   exact ⟨.panicked chain,w₃,hR,(StepsIn.trans harr s1).trans (StepsIn.trans hs (.one (fenced_leaving (n:=n) hF' hr' hl) (step_leave_panicked hl)))⟩
  | outgrown=>exact hq₂.elim
 | exit id=>exact hq.elim
 | goto t=>exact hq.elim
 | ret=>exact hq.elim
 | panic chain=>exact hq.elim
 | outgrown=>exact hq.elim
end
def QcM:Code→Bool
 | .skip=>true
 | .label _=>true
 | .ret=>true
 | .exit _=>true
 | .seq a b=>QcM a && QcM b
 | .block _ a=>QcM a
 | .cond (.tmp _) a b=>QcM a && QcM b
 | .region _ ops false=>ops.toList.all fun o=>match o.op with | .defer _=>false | _=>true
 | _=>false
section
variable {P : Program} {Γ : Specs} {Λ : Loops} {m n0 n : Nat} {w0 : Cx} {H0 : Hp} {F : Fence}
theorem QaU (hF:Open F) {E:Env} {Δ:Specs2} (hΔ:Sound2 P E Δ) {q:PV→PS→Prop} (hn0:∀ o u,w0.B o=some u→o<n0) (hΓ:Sound P E Γ) (hU:Up E) (hE:E w0.K w0.w H0):∀ (c:Code) (Q:Exit→PS→Prop) (s:PS),QcM c=true→PW P Γ Δ Λ m n0 q c Q s →
  ∀ (g:Gh) (a:Act) (w:World),Real w0 H0 m s g a w→c.wpIn F n P (Qr w0 H0 m q Q) a w
 | .skip,Q,s,_,h,g,a,w,hR=>wpIn_skip ⟨s,g,hR,h⟩
 | .label _,Q,s,_,h,g,a,w,hR=>wpIn_label ⟨s,g,hR,h⟩
 | .ret,Q,s,_,h,g,a,w,hR=>wpIn_ret ⟨s,g,hR,h⟩
 | .exit id,Q,s,_,h,g,a,w,hR=>wpIn_exit ⟨s,g,hR,h⟩
 | .seq x y,Q,s,hc,h,g,a,w,hR=>by
  simp only [QcM,Bool.and_eq_true] at hc
  unfold PW at h
  split at h
  · rename_i L hL
    refine wpIn_seq (wpIn_mono (QaU hF hΔ hn0 hΓ hU hE x _ s hc.1 h.1 g a w hR) fun e a' w' hq=>?_)
    cases e with
    | normal =>
     obtain ⟨s',g',h1,z,h2,h3⟩:=hq
     obtain ⟨g'',h4⟩:=h1.weak hn0 h2
     exact QaU hF hΔ hn0 hΓ hU hE y Q _ hc.2 (h.2 z h3) g'' a' w' h4
    | exit i=>exact hq
    | goto i=>exact hq
    | ret=>exact hq
    | panic c=>exact hq
    | outgrown=>exact hq
  · refine wpIn_seq (wpIn_mono (QaU hF hΔ hn0 hΓ hU hE x _ s hc.1 h g a w hR) fun e a' w' hq=>?_)
    cases e with
    | normal=>obtain ⟨s',g',h1,h2⟩:=hq; exact QaU hF hΔ hn0 hΓ hU hE y Q s' hc.2 h2 g' a' w' h1
    | exit i=>exact hq
    | goto i=>exact hq
    | ret=>exact hq
    | panic c=>exact hq
    | outgrown=>exact hq
 | .block id x,Q,s,hc,h,g,a,w,hR=>by
  refine wpIn_block (wpIn_mono (QaU hF hΔ hn0 hΓ hU hE x _ s hc h g a w hR) fun e a' w' hq=>?_)
  cases e with
  | normal=>exact hq
  | exit i =>
   obtain ⟨s',g',h1,h2⟩:=hq
   unfold Exit.inBlock
   dsimp only at h2 ⊢
   by_cases hi:i=id
   · rw [if_pos hi]
     rw [show Nat.beq i id=true by rw [hi]; simp] at h2
     exact ⟨s',g',h1,h2⟩
   · rw [if_neg hi]
     rw [show Nat.beq i id=false by cases hb:Nat.beq i id; rfl; exact absurd (Nat.eq_of_beq_eq_true hb) hi] at h2
     exact ⟨s',g',h1,h2⟩
  | goto i=>exact hq
  | ret=>exact hq
  | panic c=>exact hq
  | outgrown=>exact hq
 | .cond (.tmp d) x y,Q,s,hc,h,g,a,w,hR=>by
  simp only [QcM,Bool.and_eq_true] at hc
  unfold PW at h
  split at h
  · rename_i t ht
    have hv:=Qft hR ht
    rcases QaM h with ⟨rfl,h1⟩ | ⟨rfl,h1⟩
    · exact wpIn_cond_true hv (QaU hF hΔ hn0 hΓ hU hE x Q _ hc.1 h1 g a w (hR.look hv))
    · exact wpIn_cond_false hv (QaU hF hΔ hn0 hΓ hU hE y Q _ hc.2 h1 g a w (hR.look hv))
  · exact h.elim
 | .region id ops false,Q,s,hc,h,g,a,w,hR=>by
  unfold PW at h
  have hqp:∀ s g a w v y,Real w0 H0 m s g a w→PR g.H g.B v y→q y s→Qr w0 H0 m q Q (.panic [{ v,recovered:=false }]) a w:=fun s g a w v y h1 h2 h3=>⟨s,g,v,y,rfl,h1,h2,h3⟩
  have hn:∀ s' g' a' w',Real w0 H0 m s' g' a' w'→Q .normal s'→Qr w0 H0 m q Q .normal a' w':=fun s' g' a' w' hr hq=>⟨s',g',hr,hq⟩
  split at h
  · rename_i h1
    rw [List.all_eq_true] at h1
    obtain ⟨g,hR⟩:=Qfq hR ops.toList
    refine wpIn_region (QrI hF (fun o ho c hcd=>?_) (fun hl=>by obtain ⟨_,_,hl⟩:=hl; exact hl) _ _ _ ?_)
    · simp only [QcM,List.all_eq_true] at hc
      have:=hc o ho
      rw [hcd] at this; cases this
    · have:=Qbk hΔ hqp hΓ hU hE rfl h1 ops.toList h1 _ g a w _ hR h hn
      rw [List.range_eq_range',← Array.length_toList,wpOps_eq_wpList ops.toList 0 (by simp)]
      exact this
  · exact h.elim
 | .cond (.const _) ..,_,_,h,_,_,_,_,_=>by cases h
 | .cond (.global _) ..,_,_,h,_,_,_,_,_=>by cases h
 | .cond (.func _) ..,_,_,h,_,_,_,_,_=>by cases h
 | .region _ _ true,_,_,h,_,_,_,_,_=>by cases h
 | .loop _,_,_,h,_,_,_,_,_=>by cases h
 | .rangeFunc ..,_,_,h,_,_,_,_,_=>by cases h
 | .scope _,_,_,h,_,_,_,_,_=>by cases h
 | .goto _,_,_,h,_,_,_,_,_=>by cases h
 | .refuse _,_,_,h,_,_,_,_,_=>by cases h
end
def opK (o:Oper):Option Nat × Op × Option (Nat × Bool):=(o.dst,o.op,o.guard)
structure BackCode (P:Program) (bf:FuncId) (tS tE tI tB:TypeId) (fn:Func) (id0 id1 id2 id3:Nat) (o0 o1 o2 o3:Array Oper) (ts:Array TypeId):Prop where
 hf:P.funcs[bf]?=some fn
 hb:fn.body=some (.seq (.region id0 o0 false) (.block 0 (.loop (.seq (.seq (.region id1 o1 false) (.cond (.tmp 8) .skip (.exit 0))) (.seq (.block 1 (.seq (.region id3 o3 false) (.cond (.tmp 18) .ret .skip))) (.region id2 o2 false))))))
 hm:fn.ntmps=19
 hr:fn.results.toList=[]
 q0:o0.toList.map opK=[(some 4,.load tS (.tmp 1),none),(some 5,.call ⟨.builtin .len,#[.tmp 4],#[tS]⟩,none),(some 6,.binOp .sub tI (.tmp 5) (.const (.int .i64 1)) tI,none),(some 3,.assign (.tmp 6),none)]
 q1:o1.toList.map opK=[(some 7,.move (.tmp 3),none),(some 8,.binOp .geq tI (.tmp 7) (.const (.int .i64 0)) tI,none)]
 q2:o2.toList.map opK=[(some 9,.move (.tmp 3),none),(some 10,.binOp .sub tI (.tmp 9) (.const (.int .i64 1)) tI,none),(some 3,.assign (.tmp 10),none)]
 q3:o3.toList.map opK=[(some 11,.move (.tmp 0),none),(some 12,.move (.tmp 3),none),(some 13,.load tS (.tmp 1),none),(some 14,.move (.tmp 3),none),(some 15,.indexAddr tS (.tmp 13) (.tmp 14),none),(some 16,.load tE (.tmp 15),none),
  (some 17,.call ⟨.value (.tmp 11),#[.tmp 12,.tmp 16],ts⟩,none),(some 18,.unOp .not tB (.tmp 17),none)]
 a1:aggT P tS=some false
 a2:P.underlying tS=some (.slice tE)
section
variable {P : Program} {F : Fence} {n m : Nat} {w0 : Cx} {H0 : Hp}
theorem ops4 {o:Array Oper} {x0 x1 x2 x3:Option Nat × Op × Option (Nat × Bool)} (h:o.toList.map opK=[x0,x1,x2,x3]):∃ a0 a1 a2 a3,o=#[a0,a1,a2,a3]∧opK a0=x0∧opK a1=x1∧opK a2=x2∧opK a3=x3:=by
 obtain ⟨l⟩:=o
 replace h:l.map opK=_:=h
 obtain ⟨a0,l,rfl,e0,h⟩:=List.map_eq_cons_iff.1 h
 obtain ⟨a1,l,rfl,e1,h⟩:=List.map_eq_cons_iff.1 h
 obtain ⟨a2,l,rfl,e2,h⟩:=List.map_eq_cons_iff.1 h
 obtain ⟨a3,l,rfl,e3,h⟩:=List.map_eq_cons_iff.1 h
 obtain rfl:=List.map_eq_nil_iff.1 h
 exact ⟨a0,a1,a2,a3,rfl,e0,e1,e2,e3⟩
theorem ops2 {o:Array Oper} {x0 x1:Option Nat × Op × Option (Nat × Bool)} (h:o.toList.map opK=[x0,x1]):∃ a0 a1,o=#[a0,a1]∧opK a0=x0∧opK a1=x1:=by
 obtain ⟨l⟩:=o
 replace h:l.map opK=_:=h
 obtain ⟨a0,l,rfl,e0,h⟩:=List.map_eq_cons_iff.1 h
 obtain ⟨a1,l,rfl,e1,h⟩:=List.map_eq_cons_iff.1 h
 obtain rfl:=List.map_eq_nil_iff.1 h
 exact ⟨a0,a1,rfl,e0,e1⟩
theorem ops3 {o:Array Oper} {x0 x1 x2:Option Nat × Op × Option (Nat × Bool)} (h:o.toList.map opK=[x0,x1,x2]):∃ a0 a1 a2,o=#[a0,a1,a2]∧opK a0=x0∧opK a1=x1∧opK a2=x2:=by
 obtain ⟨l⟩:=o
 replace h:l.map opK=_:=h
 obtain ⟨a0,l,rfl,e0,h⟩:=List.map_eq_cons_iff.1 h
 obtain ⟨a1,l,rfl,e1,h⟩:=List.map_eq_cons_iff.1 h
 obtain ⟨a2,l,rfl,e2,h⟩:=List.map_eq_cons_iff.1 h
 obtain rfl:=List.map_eq_nil_iff.1 h
 exact ⟨a0,a1,a2,rfl,e0,e1,e2⟩
theorem ops8 {o:Array Oper} {x0 x1 x2 x3 x4 x5 x6 x7:Option Nat × Op × Option (Nat × Bool)} (h:o.toList.map opK=[x0,x1,x2,x3,x4,x5,x6,x7]):∃ a0 a1 a2 a3 a4 a5 a6 a7,o=#[a0,a1,a2,a3,a4,a5,a6,a7]∧opK a0=x0∧opK a1=x1∧opK a2=x2∧opK a3=x3∧opK a4=x4∧opK a5=x5∧opK a6=x6∧opK a7=x7:=by
 obtain ⟨l⟩:=o
 replace h:l.map opK=_:=h
 obtain ⟨a0,l,rfl,e0,h⟩:=List.map_eq_cons_iff.1 h
 obtain ⟨a1,l,rfl,e1,h⟩:=List.map_eq_cons_iff.1 h
 obtain ⟨a2,l,rfl,e2,h⟩:=List.map_eq_cons_iff.1 h
 obtain ⟨a3,l,rfl,e3,h⟩:=List.map_eq_cons_iff.1 h
 obtain ⟨a4,l,rfl,e4,h⟩:=List.map_eq_cons_iff.1 h
 obtain ⟨a5,l,rfl,e5,h⟩:=List.map_eq_cons_iff.1 h
 obtain ⟨a6,l,rfl,e6,h⟩:=List.map_eq_cons_iff.1 h
 obtain ⟨a7,l,rfl,e7,h⟩:=List.map_eq_cons_iff.1 h
 obtain rfl:=List.map_eq_nil_iff.1 h
 exact ⟨a0,a1,a2,a3,a4,a5,a6,a7,rfl,e0,e1,e2,e3,e4,e5,e6,e7⟩
theorem Qsw (hF:Open F) {E:Env} (hU:Up E) (hE:E w0.K w0.w H0) {ops:Array Oper} {Q:Exit→Act→World→Prop} {i d:Nat} {o:Oper} {op:Op} {rest:List Nat} {s:PS} {g:Gh} {a:Act} {w:World} {p:Option Prop} {y:PV} (ho:ops[i]?=some o) (hk:opK o=(some d,op,none)) (hnd:∀ c,op≠.defer c) (hd:d<m)
  (hR:Real w0 H0 m s g a w) (hv:opv P (fun _=>none) s (some d) op=some (p,.one y,none)) (hp:∀ q,p=some q→q) (hK:∀ g' a' w',Real w0 H0 m (s.put (some d) y) g' a' w'→wpOpsIn F n P ops Q rest a' w'):wpOpsIn F n P ops Q (i::rest) a w:=by
 obtain ⟨dst,op',ty,pos,af,gd⟩:=o
 simp only [opK,Prod.mk.injEq] at hk
 obtain ⟨rfl,rfl,rfl⟩:=hk
 unfold wpOpsIn
 rw [ho]
 dsimp only
 rw [if_pos (by simp [Region.wanted])]
 exact op_in hF (Qls (o:=⟨some d,op',ty,pos,af,none⟩) (y:=.one y) (nob:=none) (K:=fun a w=>wpOpsIn F n P ops Q rest a w) (Q:=Q) (fun f sp h=>by cases h) hU hE hR hv hp (by simpa [QbX] using hd) (fun g' a' w' h=>hK g' a' w' h)) hnd (fun _ _ h=>h)
def QcR:List (Nat × PV)→Bool
 | []=>true
 | (_,.bp _ _)::l=>QcR l
 | (_,x)::l=>match Qb7 x with | true=>QcR l | false=>false
theorem QfB:∀ {l:List (Nat × PV)} {d:Nat} {x:PV},QcR l=true→look l d=some x→Qb7 x=true∨∃ o i,x=.bp o i
 | [],d,x,_,h=>by cases h
 | (e,y)::l,d,x,hk,h=>by
  rw [Qag] at h
  by_cases hy:∃ o i,y=.bp o i
  · obtain ⟨o,i,rfl⟩:=hy
    have hk':QcR l=true:=hk
    split at h
    · cases h; exact .inr ⟨o,i,rfl⟩
    · exact QfB hk' h
  · have hk':Qb7 y=true∧QcR l=true:=by
     cases hp:Qb7 y with
     | true=>exact ⟨rfl,by cases y <;> first | exact absurd ⟨_,_,rfl⟩ hy | (simp only [QcR] at hk; rw [hp] at hk; exact hk)⟩
     | false=>exfalso; cases y <;> first | exact absurd ⟨_,_,rfl⟩ hy | (simp only [QcR] at hk; rw [hp] at hk; cases hk)
    split at h
    · cases h; exact .inl hk'.1
    · exact QfB hk'.2 h
structure XL (l:Nat) (r:Obj) (g:Gh) (w:World):Prop where
 at_:w.heap[l]?=some r
 ob:∀ o u,g.B o=some u→blk u≠some l
 no:∀ j,g.H l j=none
theorem XL.lt {l:Nat} {r:Obj} {g:Gh} {w:World} (h:XL l r g w):l<w.heap.size:=(Array.getElem?_eq_some_iff.1 h.at_).1
def cxL (c:Cx) (l n:Nat) (w:World) (g:Gh):Cx:=⟨fun b=>c.K b∨b=l,w,fun o=>if o<n then g.B o else none,[]⟩
theorem Real.innerL {c:Cx} {H:Hp} {m m' l n:Nat} {r:Obj} {s:PS} {g:Gh} {a a':Act} {w:World} {e':List (Nat × PV)} (h:Real c H m s g a w) (hx:XL l r g w) (he:∀ d x,Go.Proofs.YtijfaigpilfpaaaGreatDoor.look e' d=some x→PR g.H g.B (a'.tmps.getD d undef) x) (hs:a'.tmps.size=m') (hd:a'.defers=[]) :
  Real (cxL c l n w g) g.H m' ⟨e',s.ob⟩ g a' w :=
 ⟨ExtK.refl h.obs.fro (fun b hb=>hb.elim (h.ext.kept b) (fun hb=>by subst hb; exact hx.lt)),⟨h.obs.fro,h.obs.lt,h.obs.hold,h.obs.apart,h.obs.dom,fun o u b hu hb hK=>hK.elim (h.obs.kept o u b hu hb) (fun hbl=>by subst hbl; exact hx.ob o u hu hb)⟩,h.full,he,hs,hd,fun o p h=>by
  replace h:(if o<n then g.B o else none)=some p:=h.1
  split at h
  · exact h
  · cases h⟩
theorem Real.outerL {c:Cx} {H:Hp} {m m' l n:Nat} {r:Obj} {s s':PS} {g g':Gh} {a a':Act} {w w':World} (h:Real c H m s g a w) (hx:XL l r g w) (hk:QcR s.env=true) (hbl:QcD n s.env=true) (hcn:∀ o u,c.B o=some u→o<n) (h':Real (cxL c l n w g) g.H m' s' g' a' w'):Real c H m ⟨s.env,s'.ob⟩ g' a w'∧XL l r g' w':=by
 have hb:=h'.ext.block l (.inr rfl)
 refine ⟨⟨⟨h'.ext.os.trans h.ext.os,h'.ext.tape.trans h.ext.tape,h'.ext.output.trans h.ext.output,Nat.le_trans h.ext.size h'.ext.size,fun b hb=>(h'.ext.block b (.inl hb)).trans (h.ext.block b hb),h.ext.lt,Hp.le_trans h.ext.le h'.ext.le,h'.ext.fro,fun b j v h1 h2 hb=>?_⟩,
  ⟨h'.obs.fro,h'.obs.lt,h'.obs.hold,h'.obs.apart,h'.obs.dom,fun o u b hu hb hK=>h'.obs.kept o u b hu hb (.inl hK)⟩,h'.full,fun d x hx=>?_,h.sz,h.dfr,fun o p hp=>h'.ptr o p ⟨(if_pos (hcn o _ hp.1)).trans (h.ptr o p hp),hp.2⟩⟩,⟨hb.trans hx.at_,fun o u hu hb=>h'.obs.kept o u l hu hb (.inr rfl),fun j=>?_⟩⟩
 · cases hh:g.H b j with
   | none=>exact h'.ext.new b j v h1 hh (.inl hb)
   | some u=>exact h.ext.new b j u hh h2 hb
 · have h2:=h.env d x hx
   rcases QfB hk hx with hp | ⟨o,i,rfl⟩
   · exact (h2.pure hp).mono h'.ext.le (B0.le _)
   · generalize a.tmps.getD d undef=v at h2
     have hlt:=Qf5 hbl _ _ hx
     cases h2 with
     | bp hb=>exact .bp (h'.ptr _ _ ⟨(if_pos (Qdn hlt)).trans hb,rfl⟩)
 · cases hh:g'.H l j with
   | none=>rfl
   | some v=>exact (h'.ext.new l j v hh (hx.no j) (.inr rfl)).elim
structure ItSt {α:Type} (c:Cx) (H1:Hp) (m1:Nat) (env:List (Nat × PV)) (av:Act) (obR:α→List PO) (I:Nat→α→Prop) (l nn:Nat) (r:Obj) (i:Nat) (e:List (Nat × PV)) (a:Act) (w:World):Prop where
 out:∃ y g0 W0 g1,I i y∧Real c H1 m1 ⟨env,obR y⟩ g0 av W0∧XL l r g0 W0∧Real (cxL c l nn W0 g0) g0.H 19 ⟨e,obR y⟩ g1 a w
def ItJ {α:Type} (c:Cx) (H1:Hp) (m1:Nat) (env:List (Nat × PV)) (av:Act) (obR:α→List PO) (I:Nat→α→Prop) (l:Nat) (r:Obj) (i:Nat) (w:World):Prop:=∃ y g,I i y∧Real c H1 m1 ⟨env,obR y⟩ g av w∧XL l r g w
theorem ItSt.j {α:Type} {c:Cx} {H1:Hp} {m1:Nat} {env:List (Nat × PV)} {av:Act} {obR:α→List PO} {I:Nat→α→Prop} {l nn:Nat} {r:Obj} {i:Nat} {e:List (Nat × PV)} {a:Act} {w:World} (h:ItSt c H1 m1 env av obR I l nn r i e a w) (hk:QcR env=true) (hbl:QcD nn env=true) (hcn:∀ o u,c.B o=some u→o<nn):ItJ c H1 m1 env av obR I l r i w:=by
 obtain ⟨y,g0,W0,g1,h1,h2,h3,h4⟩:=h.out
 obtain ⟨h5,h6⟩:=h2.outerL h3 hk hbl hcn h4
 exact ⟨y,g1,h1,h5,h6⟩
structure ItA (yl pv:Value) (i:Int) (a:Act):Prop where
 sz:a.tmps.size=19
 dfr:a.defers=[]
 t0:a.tmps.getD 0 undef=yl
 t1:a.tmps.getD 1 undef=pv
 t3:a.tmps.getD 3 undef=.int .i64 i
def itE (yl:Value) (o:Nat) (i:Int):List (Nat × PV):=[(3,.f (.v (.int .i64 i))),(0,.f (.v yl)),(1,.bp o 0)]
theorem ItJ.st {α:Type} {c:Cx} {H1:Hp} {m1:Nat} {env:List (Nat × PV)} {av:Act} {obR:α→List PO} {I:Nat→α→Prop} {l nn:Nat} {r:Obj} {i:Nat} {w:World} (h:ItJ c H1 m1 env av obR I l r i w) {o b:Nat} (hp:c.B o=some (.pointer (some ⟨b,0,none⟩))) {yl:Value} (hyl:yl.oneCell'=true) {j:Int} {a:Act} (ha:ItA yl (.pointer (some ⟨b,0,none⟩)) j a):ItSt c H1 m1 env av obR I l nn r i (itE yl o j) a w:=by
 obtain ⟨y,g,h1,h2,h3⟩:=h
 refine ⟨y,g,w,g,h1,h2,h3,h2.innerL h3 (fun d x hx=>?_) ha.sz ha.dfr⟩
 unfold itE at hx
 rw [Qag] at hx
 split at hx
 · rename_i hd; cases hx; subst hd; rw [ha.t3]; exact .f (.v _ rfl)
 rw [Qag] at hx
 split at hx
 · rename_i hd; cases hx; subst hd; rw [ha.t0]; exact .f (.v _ hyl)
 rw [Qag] at hx
 split at hx
 · rename_i hd; cases hx; subst hd; rw [ha.t1]; exact .bp (h2.ptr _ _ ⟨hp,rfl⟩)
 · cases hx
theorem ItSt.a {α:Type} {c:Cx} {H1:Hp} {m1:Nat} {env:List (Nat × PV)} {av:Act} {obR:α→List PO} {I:Nat→α→Prop} {l nn:Nat} {r:Obj} {i:Nat} {e:List (Nat × PV)} {a:Act} {w:World} (h:ItSt c H1 m1 env av obR I l nn r i e a w) {o b:Nat} (hp:c.B o=some (.pointer (some ⟨b,0,none⟩))) {yl:Value} {j:Int} (hcn:∀ o u,c.B o=some u→o<nn) (h0:look e 0=some (.f (.v yl))) (h1:look e 1=some (.bp o 0)) (h3:look e 3=some (.f (.v (.int .i64 j)))):ItA yl (.pointer (some ⟨b,0,none⟩)) j a:=by
 obtain ⟨y,g0,W0,g1,_,q2,_,q4⟩:=h.out
 refine ⟨q4.sz,q4.dfr,(q4.env 0 _ h0).val,?_,(q4.env 3 _ h3).val⟩
 have h5:=q4.env 1 _ h1
 have h6:=q4.ptr o _ ⟨(if_pos (hcn o _ hp)).trans (q2.ptr o _ ⟨hp,rfl⟩),rfl⟩
 generalize a.tmps.getD 1 undef=v at h5
 cases h5 with
 | bp hb=>rw [h6] at hb; cases hb; rfl
theorem ItSt.step {α:Type} {E:Env} (hU:Up E) {c:Cx} {H1:Hp} (hE:E c.K c.w H1) {m1:Nat} {env:List (Nat × PV)} {av:Act} {obR:α→List PO} {I:Nat→α→Prop} {l nn:Nat} {r:Obj} {i:Nat} {e:List (Nat × PV)} {a:Act} {w:World} (h:ItSt c H1 m1 env av obR I l nn r i e a w)
  {ops:Array Oper} {Q:Exit→Act→World→Prop} {k d:Nat} {o:Oper} {op:Op} {rest:List Nat} {p:Option Prop} {y:PV} (ho:ops[k]?=some o) (hk:opK o=(some d,op,none)) (hnd:∀ c,op≠.defer c) (hd:d<19)
  (hv:∀ x,opv P (fun _=>none) ⟨e,obR x⟩ (some d) op=some (p,.one y,none)) (hp:∀ q,p=some q→q) (hK:∀ a' w',ItSt c H1 m1 env av obR I l nn r i ((d,y)::e) a' w'→wpOpsIn Fence.wide n P ops Q rest a' w'):wpOpsIn Fence.wide n P ops Q (k::rest) a w:=by
 obtain ⟨x,g0,W0,g1,h1,h2,h3,h4⟩:=h.out
 have hE0:E (cxL c l nn W0 g0).K (cxL c l nn W0 g0).w g0.H:=hU.more _ _ _ _ (fun b hb=>.inl hb) (hU.go _ _ _ _ h2.ext hE)
 exact Qsw Qol hU hE0 ho hk hnd hd h4 (hv x) hp fun g' a' w' h5=>hK a' w' ⟨x,g0,W0,g',h1,h2,h3,h5⟩
theorem QmC {y:Lf} {r:Nat × Nat × (Nat→List Lf)} (h:y.view=some r):Qqp (.f y)=.f y:=by cases y <;> first | rfl | cases h
theorem QiD {e:List (Nat × PV)} {ob:List PO} {o d:Nat} {tS:TypeId} {yv:Lf} {r:Nat × Nat × (Nat→List Lf)} (h1:look e 1=some (.bp o 0)) (hv:yv.view=some r) (ho:nth ob o=some (.cells [.f yv])) (ha:aggT P tS=some false):opv P (fun _=>none) ⟨e,ob⟩ (some d) (.load tS (.tmp 1))=some (none,.one (.f yv),none):=by
 have hn:=QmC hv
 simp [opv,PS.fl,PS.ev,h1,flat,Qj0,ho,Qef,ha,nth,hn]
theorem QcO {e:List (Nat × PV)} {ob:List PO} {d x:Nat} {y:PV} (h:look e x=some y):opv P (fun _=>none) ⟨e,ob⟩ (some d) (.move (.tmp x))=some (none,.one y,none):=by
 simp [opv,PS.ev,h]
theorem Qlt {e:List (Nat × PV)} {ob:List PO} {d x:Nat} {y:PV} (h:look e x=some y):opv P (fun _=>none) ⟨e,ob⟩ (some d) (.assign (.tmp x))=some (none,.one y,none):=by
 simp [opv,PS.ev,h]
theorem Qqg {e:List (Nat × PV)} {ob:List PO} {d x k n:Nat} {get:Nat→List Lf} {tS tE:TypeId} {yv:Lf} (h:look e x=some (.f yv)) (hv:yv.view=some (k,n,get)) (hu:P.underlying tS=some (.slice tE)):opv P (fun _=>none) ⟨e,ob⟩ (some d) (.call ⟨.builtin .len,#[.tmp x],#[tS]⟩)=some (none,.one (.f (.v (.int .i64 n))),none):=by
 simp [opv,evs,PS.fl,PS.ev,h,flat,lenP,hu,hv]
theorem Qlr {e:List (Nat × PV)} {ob:List PO} {d x:Nat} {z:Int} {tI:TypeId} (h:look e x=some (.f (.v (.int .i64 z)))):opv P (fun _=>none) ⟨e,ob⟩ (some d) (.binOp .sub tI (.tmp x) (.const (.int .i64 1)) tI)=some (none,.one (.f (.v (.int .i64 (IntKind.i64.wrap (z - 1))))),none):=by
 have h1:(⟨e,ob⟩:PS).fl (.tmp x)=some (.f (.v (.int .i64 z))):=by simp [PS.fl,PS.ev,h,flat]
 have h2:(⟨e,ob⟩:PS).fl (.const (.int .i64 1))=some (.f (.v (.int .i64 1))):=rfl
 unfold opv
 simp only [h1,h2,Lf.val]
 rfl
theorem Qqi {e:List (Nat × PV)} {ob:List PO} {d x:Nat} {z:Int} {tI:TypeId} (h:look e x=some (.f (.v (.int .i64 z)))):opv P (fun _=>none) ⟨e,ob⟩ (some d) (.binOp .geq tI (.tmp x) (.const (.int .i64 0)) tI)=some (none,.one (.f (.v (.bool (decide (z ≥ 0))))),none):=by
 have h1:(⟨e,ob⟩:PS).fl (.tmp x)=some (.f (.v (.int .i64 z))):=by simp [PS.fl,PS.ev,h,flat]
 have h2:(⟨e,ob⟩:PS).fl (.const (.int .i64 0))=some (.f (.v (.int .i64 0))):=rfl
 unfold opv
 simp only [h1,h2,Lf.val]
 rfl
theorem Qqh {e:List (Nat × PV)} {ob:List PO} {d x i k n:Nat} {z:Int} {get:Nat→List Lf} {tS tE:TypeId} {yv:Lf} (hx:look e x=some (.f yv)) (hi:look e i=some (.f (.v (.int .i64 z)))) (hv:yv.view=some (k,n,get)) (hu:P.underlying tS=some (.slice tE)) (hs:szT P tE=some k) :
  opv P (fun _=>none) ⟨e,ob⟩ (some d) (.indexAddr tS (.tmp x) (.tmp i))=some (some (0≤z∧z<n),.one (.ep (get z.toNat)),none):=by
 simp [opv,PS.fl,PS.ev,hx,hi,flat,Qdd,QeK,hu,hs,hv]
theorem Qok {e:List (Nat × PV)} {ob:List PO} {d x:Nat} {L:List Lf} {tE:TypeId} {z:PV} (hx:look e x=some (.ep L)) (hz:Qef P tE (Qae L) 0=some z):opv P (fun _=>none) ⟨e,ob⟩ (some d) (.load tE (.tmp x))=some (none,.one z,none):=by
 simp [opv,PS.fl,PS.ev,hx,flat,Qj0,hz]
theorem wrapV (n:Int) (h1:-9223372036854775808≤n) (h2:n≤9223372036854775807):IntKind.i64.wrap n=n:=by
 simp [IntKind.wrap,IntKind.bits,IntKind.signed]
 omega
theorem ItA.put {yl pv v:Value} {j:Int} {a:Act} {d:Nat} (h:ItA yl pv j a) (h0:d≠0) (h1:d≠1) (h3:d≠3):ItA yl pv j (a.put (some d) v):=by
 refine ⟨by simp [Act.put,h.sz],h.dfr,?_,?_,?_⟩
 · rw [Qar,if_neg (fun hc=>h0 hc.1.symm)]; exact h.t0
 · rw [Qar,if_neg (fun hc=>h1 hc.1.symm)]; exact h.t1
 · rw [Qar,if_neg (fun hc=>h3 hc.1.symm)]; exact h.t3
set_option maxHeartbeats 2000000 in
theorem QtW {α:Type} {E:Env} (hU:Up E) {c:Cx} {H1:Hp} (hE:E c.K c.w H1) {m1:Nat} {env:List (Nat × PV)} {av:Act} {obR:α→List PO} {I:Nat→α→Prop} {l nn:Nat} {r:Obj}
  {bf:FuncId} {tS tE tI tB:TypeId} {fn:Func} {id0 id1 id2 id3:Nat} {o0 o1 o2 o3:Array Oper} {ts:Array TypeId} (hB:BackCode P bf tS tE tI tB fn id0 id1 id2 id3 o0 o1 o2 o3 ts)
  {o b N k:Nat} {yv:Lf} {get:Nat→List Lf} {zs:Nat→PV} (hk:QcR env=true) (hbl:QcD nn env=true) (hcn:∀ o u,c.B o=some u→o<nn) (hp:c.B o=some (.pointer (some ⟨b,0,none⟩))) (hv:yv.view=some (k,N,get)) (hsz:szT P tE=some k) (hNM:N≤9223372036854775807)
  (hob:∀ y,nth (obR y) o=some (.cells [.f yv])) (hz:∀ i,i<N→Qef P tE (Qae (get i)) 0=some (zs i)) {Jx:World→Prop} {Jp:List PanicEntry→World→Prop}
  (hY:∀ (i:Nat) (W:World) (y:α) (g:Gh) (v:Value),i<N→I (i+1) y→Real c H1 m1 ⟨env,obR y⟩ g av W→XL l r g W→PR g.H g.B v (zs i) →
   ∃ f' tmps assign body,(Instr.yield l #[.int .i64 i,v]).run P W=.ok (.round l f' tmps assign body) W∧RoundIn Fence.wide (n - 1) P l f' tmps assign body W (fun e W'=>(e=.returned (.bool true)∧ItJ c H1 m1 env av obR I l r i W')∨(e=.returned (.bool false)∧Jx W')∨∃ ch,e=.panicked ch∧Jp ch W'))
  (W:World) (h0:ItJ c H1 m1 env av obR I l r N W) :
  CallsIn Fence.wide n P bf #[.func (.yield l) #[] #[],.pointer (some ⟨b,0,none⟩)] W fun e W'=>(∃ v,e=.returned v∧(ItJ c H1 m1 env av obR I l r 0 W'∨Jx W'))∨∃ ch,e=.panicked ch∧Jp ch W':=by
 have hres:fn.results=#[]:=by simpa using hB.hr
 refine callsIn_of_wp hB.hf hB.hb trivial ?_ rfl
 rw [hB.hm]
 generalize hyl:Value.func (.yield l) #[] #[]=yl
 generalize hpv:Value.pointer (some ⟨b,0,none⟩)=pv at *
 have hyl1:yl.oneCell'=true:=by rw [← hyl]; rfl
 generalize ha0:({ tmps:=#[yl,pv]++Array.replicate (19 - #[yl,pv].size) undef,defers:=[] }:Act)=a0
 have s0:a0.tmps.size=19:=by rw [← ha0]; rfl
 have d0:a0.defers=[]:=by rw [← ha0]
 have t0:a0.tmps.getD 0 undef=yl:=by rw [← ha0]; rfl
 have t1:a0.tmps.getD 1 undef=pv:=by rw [← ha0]; rfl
 have st0:ItSt c H1 m1 env av obR I l nn r N [(0,.f (.v yl)),(1,.bp o 0)] a0 W:=by
  obtain ⟨y,g,h1,h2,h3⟩:=h0
  refine ⟨y,g,W,g,h1,h2,h3,h2.innerL h3 (fun d x hx=>?_) s0 d0⟩
  rw [Qag] at hx
  split at hx
  · rename_i hd; cases hx; subst hd; rw [t0]; exact .f (.v _ hyl1)
  rw [Qag] at hx
  split at hx
  · rename_i hd; cases hx; subst hd; rw [t1,← hpv]; exact .bp (h2.ptr _ _ ⟨by rw [hpv]; exact hp,rfl⟩)
  · cases hx
 rw [← hpv] at hp
 obtain ⟨p0,p1,p2,p3,rfl,k0,k1,k2,k3⟩:=ops4 hB.q0
 refine wpIn_seq (wpIn_region ?_)
 show wpOpsIn _ _ _ _ _ [0,1,2,3] _ _
 refine st0.step hU hE (o:=p0) rfl k0 (by simp) (by omega) (fun x=>QiD (o:=o) rfl hv (hob x) hB.a1) (by simp) fun a1 w1 st1=>?_
 refine st1.step hU hE (o:=p1) rfl k1 (by simp) (by omega) (fun x=>Qqg rfl hv hB.a2) (by simp) fun a2 w2 st2=>?_
 refine st2.step hU hE (o:=p2) rfl k2 (by simp) (by omega) (fun x=>Qlr rfl) (by simp) fun a3 w3 st3=>?_
 refine st3.step hU hE (o:=p3) rfl k3 (by simp) (by omega) (fun x=>Qlt rfl) (by simp) fun a4 w4 st4=>?_
 have hA4:=st4.a hp hcn (yl:=yl) (j:=(N:Int) - 1) rfl rfl (by rw [wrapV _ (by omega) (by omega)]; rfl)
 have hJ4:=st4.j hk hbl hcn
 show (Code.block 0 _).wpIn _ _ _ _ _ _
 refine wpIn_block (wpIn_loop (fun a W=>∃ i,i≤N∧ItJ c H1 m1 env av obR I l r i W∧ItA yl (.pointer (some ⟨b,0,none⟩)) ((i:Int) - 1) a) (fun a _=>match a.tmps.getD 3 undef with | .int _ z=>(z+1).toNat | _=>0) ⟨N,Nat.le_refl _,hJ4,hA4⟩ ?_)
 rintro a W' ⟨i,hi,hj,hA⟩
 clear st0 st1 st2 st3 st4
 obtain ⟨p4,p5,rfl,k4,k5⟩:=ops2 hB.q1
 refine wpIn_seq (wpIn_seq (wpIn_region ?_))
 show wpOpsIn _ _ _ _ _ [0,1] _ _
 refine (hj.st (nn:=nn) hp hyl1 hA).step hU hE (o:=p4) rfl k4 (by simp) (by omega) (fun x=>QcO rfl) (by simp) fun a5 w5 st5=>?_
 refine st5.step hU hE (o:=p5) rfl k5 (by simp) (by omega) (fun x=>Qqi rfl) (by simp) fun a6 w6 st6=>?_
 have hA6:=st6.a hp hcn (yl:=yl) (j:=(i:Int) - 1) rfl rfl rfl
 have hJ6:=st6.j hk hbl hcn
 have h8:a6.tmps.getD 8 undef=.bool (decide ((i:Int) - 1 ≥ 0)):=by
  obtain ⟨y,g0,W0,g1,_,_,_,q4⟩:=st6.out
  exact (q4.env 8 _ rfl).val
 show (Code.cond _ _ _).wpIn _ _ _ _ _ _
 cases i with
 | zero =>
  refine wpIn_cond_false (h8.trans (by simp)) (wpIn_exit ?_)
  simp only [Exit.then,Exit.inBlock,if_true,bodyPost]
  exact ⟨hA6.dfr,_,results_none hres _ _ _,.inl ⟨_,rfl,.inl hJ6⟩⟩
 | succ j =>
  have ej:((j+1:Nat):Int) - 1=(j:Int):=by omega
  rw [ej] at hA6
  refine wpIn_cond_true (h8.trans (by simp)) (wpIn_skip ?_)
  show (Code.seq _ _).wpIn _ _ _ _ _ _
  refine wpIn_seq (wpIn_block (wpIn_seq ?_))
  obtain ⟨x0,x1,x2,x3,x4,x5,x6,x7,rfl,e0,e1,e2,e3,e4,e5,e6,e7⟩:=ops8 hB.q3
  refine wpIn_region ?_
  show wpOpsIn _ _ _ _ _ [0,1,2,3,4,5,6,7] _ _
  refine (hJ6.st (nn:=nn) hp hyl1 hA6).step hU hE (o:=x0) rfl e0 (by simp) (by omega) (fun x=>QcO rfl) (by simp) fun b0 v0 y0=>?_
  refine y0.step hU hE (o:=x1) rfl e1 (by simp) (by omega) (fun x=>QcO rfl) (by simp) fun b1 v1 y1=>?_
  refine y1.step hU hE (o:=x2) rfl e2 (by simp) (by omega) (fun x=>QiD (o:=o) rfl hv (hob x) hB.a1) (by simp) fun b2 v2 y2=>?_
  refine y2.step hU hE (o:=x3) rfl e3 (by simp) (by omega) (fun x=>QcO rfl) (by simp) fun b3 v3 y3=>?_
  refine y3.step hU hE (o:=x4) rfl e4 (by simp) (by omega) (fun x=>Qqh rfl rfl hv hB.a2 hsz) (fun q hq=>by cases hq; omega) fun b4 v4 y4=>?_
  refine y4.step hU hE (o:=x5) rfl e5 (by simp) (by omega) (fun x=>Qok rfl (hz j (by omega))) (by simp) fun b5 v5 y5=>?_
  have hA5:=y5.a hp hcn (yl:=yl) (j:=(j:Int)) rfl rfl rfl
  obtain ⟨y,g,W5,g1,q1,q2,q3,q4⟩:=y5.out
  have h11:b5.tmps.getD 11 undef=yl:=(q4.env 11 _ rfl).val
  have h12:b5.tmps.getD 12 undef=.int .i64 j:=(q4.env 12 _ rfl).val
  have h16:PR g1.H g1.B (b5.tmps.getD 16 undef) (zs j):=q4.env 16 _ rfl
  obtain ⟨q5,q6⟩:=q2.outerL q3 hk hbl hcn q4
  obtain ⟨f',tmps,assign,body,hy,hround⟩:=hY j v5 y g1 _ (by omega) q1 q5 q6 h16
  have hex:(execOp b5.eval x6).run P v5=.ok (.round l f' tmps assign body) v5:=by
   obtain ⟨dst,op,ty,pos,af,gd⟩:=x6
   simp only [opK,Prod.mk.injEq] at e6
   obtain ⟨rfl,rfl,rfl⟩:=e6
   show (do let d ← resolve b5.eval ⟨.value (.tmp 11),#[.tmp 12,.tmp 16],ts⟩ ty; invoke d.target d.args:Sem Next).run P v5=_
   have e1:resolve b5.eval ⟨.value (.tmp 11),#[.tmp 12,.tmp 16],ts⟩ ty=pure { target:=.fn (.yield l) #[],args:=#[]++#[.int .i64 j,b5.tmps.getD 16 undef] }:=by
    show Deferred.ofValue (b5.eval (.tmp 11)) (#[Operand.tmp 12,.tmp 16].map b5.eval)=_
    rw [show b5.eval (.tmp 11)=.func (.yield l) #[] #[] from h11.trans hyl.symm,show (#[Operand.tmp 12,.tmp 16].map b5.eval)=#[b5.eval (.tmp 12),b5.eval (.tmp 16)] by simp,show b5.eval (.tmp 12)=.int .i64 j from h12]
    rfl
   rw [e1]
   simp only [Sem.run_bind,Sem.run_pure,Result.andThen_ok]
   rw [show (#[]++#[Value.int .i64 (j:Int),b5.tmps.getD 16 undef]:Array Value)=#[.int .i64 j,b5.tmps.getD 16 undef] by simp]
   generalize b5.tmps.getD 16 undef=vv at hy ⊢
   show (invoke (.fn (.yield l) #[]) #[.int .i64 j,vv]).run P v5=_
   rw [show invoke (.fn (.yield l) #[]) #[.int .i64 j,vv]=Instr.yield l #[.int .i64 j,vv] by simp [invoke]]
   exact hy
  have hwant:∀ (x:Oper) (d:Option Nat) (op:Op) ys,opK x=(d,op,none)→Region.wanted x ys=true:=fun x d op ys h=>by
   simp only [opK,Prod.mk.injEq] at h
   simp [Region.wanted,h.2.2]
  have hdst:∀ (x:Oper) (d:Option Nat) (op:Op) gd,opK x=(d,op,gd)→x.dst=d:=fun x d op gd h=>by
   simp only [opK,Prod.mk.injEq] at h
   exact h.1
  unfold wpOpsIn
  show (if Region.wanted x6 _=true then x6.wpIn _ _ _ _ _ _ _ else _)
  rw [if_pos (hwant _ _ _ _ e6)]
  refine ⟨fun _ _=>trivial,?_⟩
  rw [show (Fence.wide.round)=none from rfl,Oper.semAt_none,hex,Oper.uponIn_round,hdst _ _ _ _ e6]
  refine ⟨fun hc=>(by cases hc),hround.mono fun e W' hr=>?_⟩
  -- the operation behind yield
  have hnot:∀ (t:Bool) (W':World) (K:Exit→Act→World→Prop),(K .normal ((b5.put (some 17) (.bool t)).put (some 18) (.bool (!t))) W')→wpOpsIn Fence.wide n P #[x0,x1,x2,x3,x4,x5,x6,x7] K [7] (b5.put (some 17) (.bool t)) W':=by
   intro t W' K hK
   unfold wpOpsIn
   show (if Region.wanted x7 _=true then x7.wpIn _ _ _ _ _ _ _ else _)
   rw [if_pos (hwant _ _ _ _ e7)]
   refine ⟨fun _ _=>trivial,?_⟩
   have h17:(b5.put (some 17) (.bool t)).tmps.getD 17 undef=.bool t:=by rw [Qar,if_pos ⟨rfl,by rw [hA5.sz]; omega⟩]
   have hex7:(execOp (b5.put (some 17) (.bool t)).eval x7).run P W'=.ok (.value (.bool (!t))) W':=by
    obtain ⟨dst,op,ty,pos,af,gd⟩:=x7
    simp only [opK,Prod.mk.injEq] at e7
    obtain ⟨rfl,rfl,rfl⟩:=e7
    show (do pure (Next.value (← Op.unary .not ((b5.put (some 17) (.bool t)).tmps.getD 17 undef))):Sem Next).run P W'=_
    rw [h17]; rfl
   rw [show (Fence.wide.round)=none from rfl,Oper.semAt_none,hex7,Oper.uponIn_value,hdst _ _ _ _ e7]
   unfold wpOpsIn
   exact hK
  have h18:∀ t:Bool,((b5.put (some 17) (.bool t)).put (some 18) (.bool (!t))).tmps.getD 18 undef=.bool (!t):=fun t=>by
   rw [Qar,if_pos ⟨rfl,by simp [Act.put,hA5.sz]⟩]
  rcases hr with ⟨rfl,hj'⟩ | ⟨rfl,hx'⟩ | ⟨ch,rfl,hp'⟩
  · refine hnot true W' _ ?_
    have hA7:ItA yl (.pointer (some ⟨b,0,none⟩)) (j:Int) ((b5.put (some 17) (.bool true)).put (some 18) (.bool false)):=(hA5.put (by omega) (by omega) (by omega)).put (by omega) (by omega) (by omega)
    show (Code.cond _ _ _).wpIn _ _ _ _ _ _
    refine wpIn_cond_false (h18 true) (wpIn_skip ?_)
    show (Code.region _ _ _).wpIn _ _ _ _ _ _
    obtain ⟨p6,p7,p8,rfl,k6,k7,k8⟩:=ops3 hB.q2
    refine wpIn_region ?_
    show wpOpsIn _ _ _ _ _ [0,1,2] _ _
    refine (hj'.st (nn:=nn) hp hyl1 hA7).step hU hE (o:=p6) rfl k6 (by simp) (by omega) (fun x=>QcO rfl) (by simp) fun c0 u0 z0=>?_
    refine z0.step hU hE (o:=p7) rfl k7 (by simp) (by omega) (fun x=>Qlr rfl) (by simp) fun c1 u1 z1=>?_
    refine z1.step hU hE (o:=p8) rfl k8 (by simp) (by omega) (fun x=>Qlt rfl) (by simp) fun c2 u2 z2=>?_
    have hA8:=z2.a hp hcn (yl:=yl) (j:=(j:Int) - 1) rfl rfl (by rw [wrapV _ (by omega) (by omega)]; rfl)
    unfold wpOpsIn
    refine ⟨⟨j,by omega,z2.j hk hbl hcn,hA8⟩,?_⟩
    rw [hA8.t3,hA.t3]
    dsimp only
    omega
  · refine hnot false W' _ ?_
    show (Code.cond _ _ _).wpIn _ _ _ _ _ _
    refine wpIn_cond_true (h18 false) (wpIn_ret ?_)
    simp only [Exit.then,Exit.inBlock,bodyPost]
    exact ⟨hA5.dfr,_,results_none hres _ _ _,.inl ⟨_,rfl,.inr hx'⟩⟩
  · dsimp only
    simp only [Exit.then,Exit.inBlock,bodyPost]
    exact ⟨hA5.dfr,.inr ⟨ch,rfl,hp'⟩⟩
end
end Go.Proofs.YtijfaigpilfpaaaGreatDoor
