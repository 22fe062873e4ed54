/- A run that forgets what it has read of rows of texts that it appended to: they are its own again, and may be written to. -/
import Derived.Test.YtemhncjjiomppaaDoorVr
namespace Go.Proofs.YtemhncjjiomppaaDoor
open Go.RowKit
set_option linter.unusedVariables false
def fgP:PV→Option PV
 | .tl o (.dt .str _)=>some (.wr o)
 | .bp o k=>some (.bp o k)
 | _=>none
def fgL:List PV→Option (List PV)
 | []=>some []
 | x::l=>match fgP x,fgL l with
  | some y,some m=>some (y::m)
  | _,_=>none
def QkI (o:Nat):List PV→Option (List ByteArray)
 | []=>none
 | .tl o' (.dt .str L)::l=>match Nat.beq o o' with | true=>some L | false=>QkI o l
 | _::l=>QkI o l
def QkK (o:Nat):List PO→Option (List ByteArray)
 | []=>none
 | .cells l::t=>match QkI o l with | some L=>some L | none=>QkK o t
 | _::t=>QkK o t
def fgO (ob:List PO) (i:Nat):PO→PO
 | .cells l=>match fgL l with | some m=>.cells m | none=>.gone
 | .tail e k=>match Nat.beq k 1,QkK i ob with
  | true,some L=>.own e (.dt .str L)
  | _,_=>.gone
 | _=>.gone
def fgOb (ob:List PO):Nat→List PO→List PO
 | _,[]=>[]
 | i,x::t=>fgO ob i x::fgOb ob (i+1) t
def fgE:List (Nat × PV)→List (Nat × PV)
 | []=>[]
 | (d,.bp o k)::l=>(d,.bp o k)::fgE l
 | (d,_)::l=>(d,.any)::fgE l
def forget (s:PS):PS:=⟨fgE s.env,fgOb s.ob 0 s.ob⟩
theorem Qgl (ob:List PO):∀ (l:List PO) (i:Nat),(fgOb ob i l).length=l.length
 | [],_=>rfl
 | x::t,i=>by rw [fgOb,List.length_cons,List.length_cons,Qgl ob t]
theorem QlY (ob:List PO):∀ (l:List PO) (i j:Nat),(fgOb ob i l)[j]?=(l[j]?).map (fgO ob (i+j))
 | [],_,_=>by simp [fgOb]
 | x::t,i,0=>by simp [fgOb]
 | x::t,i,j+1=>by
  rw [fgOb,List.getElem?_cons_succ,List.getElem?_cons_succ,QlY ob t]
  rw [show i+1+j=i+(j+1) by omega]
theorem QnX:∀ {l m:List PV},fgL l=some m→m.length=l.length∧∀ (i:Nat) y,m[i]?=some y→∃ x,l[i]?=some x∧fgP x=some y
 | [],m,h=>by cases h; exact ⟨rfl,fun i y hy=>by simp at hy⟩
 | x::l,m,h=>by
  unfold fgL at h
  split at h
  · rename_i y m' h1 h2
    cases h
    obtain ⟨h3,h4⟩:=QnX h2
    refine ⟨by simp [h3],fun i z hz=>?_⟩
    cases i with
    | zero=>cases hz; exact ⟨x,rfl,h1⟩
    | succ i=>exact h4 i z (by simpa using hz)
  · cases h
theorem QfV {o:Nat}:∀ {l:List PV} {L:List ByteArray},QkI o l=some L→∃ i:Nat,l[i]?=some (.tl o (.dt .str L))
 | [],L,h=>by cases h
 | x::l,L,h=>by
  unfold QkI at h
  split at h
  · cases h
  · rename_i o' L' l' heq
    cases heq
    split at h
    · rename_i hb
      cases h
      obtain rfl:=Nat.eq_of_beq_eq_true hb
      exact ⟨0,rfl⟩
    · obtain ⟨i,hi⟩:=QfV h
      exact ⟨i+1,by simpa using hi⟩
  · rename_i heq
    cases heq
    obtain ⟨i,hi⟩:=QfV h
    exact ⟨i+1,by simpa using hi⟩
theorem QfW {o:Nat}:∀ {t:List PO} {L:List ByteArray},QkK o t=some L→∃ (c i:Nat) (l:List PV),t[c]?=some (.cells l)∧l[i]?=some (.tl o (.dt .str L))
 | [],L,h=>by cases h
 | x::t,L,h=>by
  unfold QkK at h
  split at h
  · cases h
  · rename_i l t' heq
    cases heq
    split at h
    · rename_i L' h1
      cases h
      obtain ⟨i,hi⟩:=QfV h1
      exact ⟨0,i,l,rfl,hi⟩
    · obtain ⟨c,i,l,h1,h2⟩:=QfW h
      exact ⟨c+1,i,l,by simpa using h1,h2⟩
  · rename_i heq
    cases heq
    obtain ⟨c,i,l,h1,h2⟩:=QfW h
    exact ⟨c+1,i,l,by simpa using h1,h2⟩
theorem QlZ:∀ {l:List (Nat × PV)} {d:Nat} {x:PV},look (fgE l) d=some x→(x=.any∧∃ y,look l d=some y)∨∃ o k,x=.bp o k∧look l d=some (.bp o k)
 | [],d,x,h=>by cases h
 | (d',y)::l,d,x,h=>by
  cases y with
  | bp o k =>
   unfold fgE at h
   unfold look at h ⊢
   split at h
   · cases h; exact .inr ⟨o,k,rfl,rfl⟩
   · exact QlZ h
  | _ =>
   unfold fgE at h
   unfold look at h ⊢
   split at h
   · cases h; exact .inl ⟨rfl,_,rfl⟩
   · exact QlZ h
section
variable {P : Program} {w0 : Cx} {H0 : Hp} {m : Nat} {s : PS} {g : Gh} {a : Act} {w : World}
theorem fgP_pr {B:Hd} {v:Value} {x y:PV} (h:fgP x=some y) (hv:PR g.H B v x):PR H0 B v y:=by
 unfold fgP at h
 split at h
 · cases h
   cases hv with
   | tl h1 h2=>exact .wr h2 (PR.one (B:=B) (.f h1))
 · cases h
   cases hv with
   | bp h1=>exact .bp h1
 · cases h
theorem Qig (hK:∀ b j v,H0 b j=some v→w0.K b) (h:Real w0 H0 m s g a w):Real w0 H0 m (forget s) ⟨H0,g.B⟩ a w:=by
 have hfro:Fro H0 w:=fun b j v hv=>h.ext.fro b j v (h.ext.le b j v hv)
 have hno:∀ b j,g.H b j=none→H0 b j=none:=fun b j hn=>by
  cases hh:H0 b j with
  | none=>rfl
  | some v=>rw [h.ext.le b j v hh] at hn; cases hn
 refine ⟨⟨h.ext.os,h.ext.tape,h.ext.output,h.ext.size,h.ext.block,h.ext.lt,Hp.le_refl _,hfro,fun b j v h1 h2=>by rw [show H0 b j=some v from h1] at h2; cases h2⟩,⟨hfro,h.obs.lt,fun o x u hx hu=>?_,h.obs.apart,fun o u hu=>?_,h.obs.kept⟩,fun o ho=>?_,fun d x hx=>?_,h.sz,h.dfr,h.ptr⟩
 · unfold forget at hx
   rw [QlY,Nat.zero_add] at hx
   cases hy:s.ob[o]? with
   | none=>rw [hy] at hx; cases hx
   | some y =>
    rw [hy,Option.map_some,Option.some.injEq] at hx
    subst hx
    have hold:=h.obs.hold o y u hy hu
    unfold fgO
    split
    · rename_i l
      split
      · rename_i l' hl
        obtain ⟨hn,hat⟩:=QnX hl
        obtain ⟨b,vs,rfl,hb,hlen,hpr,hlo,hH⟩:=hold
        refine ⟨b,vs,rfl,hb,hlen.trans hn.symm,fun i v x hv hx=>?_,hlo,fun j=>hno _ _ (hH j)⟩
        obtain ⟨z,hz,hzx⟩:=hat i x hx
        exact fgP_pr hzx (hpr i v z hv hz)
      · trivial
    · rename_i e k
      split
      · rename_i L hk hL
        obtain rfl:=Nat.eq_of_beq_eq_true hk
        obtain ⟨c,i,l,hc,hi⟩:=QfW hL
        obtain ⟨uc,huc⟩:=h.full c (List.getElem?_eq_some_iff.1 hc).1
        obtain ⟨b,vs,-,-,hlen,hpr,-,-⟩:=h.obs.hold c _ uc hc huc
        have hil:i<vs.length:=by rw [hlen]; exact (List.getElem?_eq_some_iff.1 hi).1
        have hp:=hpr i vs[i] _ (List.getElem?_eq_getElem hil) hi
        generalize vs[i]=v at hp
        cases hp with
        | tl hrd hbo =>
         rw [show g.B o=some u from hu] at hbo
         cases hbo
         have hKn:∀ b,blk u=some b→∀ j,H0 b j=none:=fun b hb j=>by
          cases hh:H0 b j with
          | none=>rfl
          | some v=>exact absurd (hK b j v hh) (h.obs.kept o u b hu hb)
         cases hrd with
         | @sl _ k1 n1 get1 ao cap hv hg hc' hm h0 b1 o1 val hb1 hcell hk1 hrec =>
          simp only [Lf.view,Option.some.injEq,Prod.mk.injEq] at hv
          obtain ⟨rfl,rfl,rfl⟩:=hv
          have hfull:Lf.full (.dt .str L) L.length=L.length:=rfl
          rw [hfull] at hc' hb1 hcell hk1 hrec
          have hval:∀ i,i<L.length→val i 0=.string (L.getD i Sh.str.nil):=fun i hi=>by
           have:=hrec i hi 0 (.v (.string (L.getD i Sh.str.nil))) rfl
           exact this.val rfl
          refine ⟨1,L.length,_,L.map Value.string,rfl,⟨by simp,?_⟩,fun i hi=>⟨rfl,fun j y hy=>?_⟩,hKn⟩
          · rcases hold with he | ⟨gb,n2,cap2,cur,he,hlo2,hheap,hn2,hcap2,hcur,hH2⟩
            · simp only [Value.slice.injEq] at he
              obtain ⟨rfl,hn0,rfl⟩:=he
              exact .inl ⟨by rw [hn0],hn0⟩
            · simp only [Value.slice.injEq] at he
              obtain ⟨rfl,hn0,rfl⟩:=he
              subst hn0
              refine .inr ⟨gb,cap,cur,rfl,Nat.zero_le _,hheap,hn2,hcap2,hcur,?_⟩
              apply List.ext_getElem?
              intro j
              rw [Nat.mul_one]
              by_cases hj:j<L.length
              · rw [List.getElem?_take_of_lt hj,List.getElem?_map,List.getElem?_eq_getElem hj]
                have h5:=hb1 (by omega)
                simp only [Option.some.injEq,Addr.mk.injEq] at h5
                obtain ⟨rfl,h6,-⟩:=h5
                have h7:=h.ext.fro _ _ _ (hcell j hj 0 (by decide))
                have e7:o1+j * 1+0=j:=by omega
                have e8:(L.getD j Sh.str.nil)=L[j]:=by rw [List.getD_eq_getElem?_getD,List.getElem?_eq_getElem hj]; rfl
                change w.cell? ⟨gb,o1+j * 1+0,none⟩=_ at h7
                rw [e7] at h7
                simp only [World.cell?,hheap] at h7
                simp only [Option.isSome_none,Bool.false_eq_true,if_false] at h7
                rw [Array.getElem?_toList,h7,hval j hj,e8]
                rfl
              · rw [List.getElem?_take_eq_none (by omega),List.getElem?_eq_none (by simp; omega)]
          · match j,hy with
            | 0,hy =>
             cases hy
             refine ⟨.string (L.getD i Sh.str.nil),?_,.v _ rfl⟩
             rw [show i * 1+0=i by omega,List.getElem?_map,List.getElem?_eq_getElem hi,List.getD_eq_getElem?_getD,List.getElem?_eq_getElem hi]
             rfl
            | j+1,hy=>cases hy
      · trivial
    · trivial
 · have:=h.obs.dom o u hu
   unfold forget
   rw [Qgl]
   exact this
 · unfold forget at ho
   rw [Qgl] at ho
   exact h.full o ho
 · rcases QlZ hx with ⟨rfl,-⟩ | ⟨o,k,rfl,h2⟩
   · exact .any
   · have h5:=h.env d _ h2
     generalize a.tmps.getD d undef=u5 at h5 ⊢
     cases h5 with
     | bp h3=>exact .bp h3
end
section
variable {P : Program} {w0 : Cx} {H0 : Hp} {m : Nat} {Γ : Specs} {Λ : Loops}
end
def Qkd:Nat→Code→Code
 | 0,c=>c
 | n+1,.seq _ b=>Qkd n b
 | _,c=>c
def PWh (P:Program) (Γ:Specs) (Δ:Specs2) (Λ:Loops) (m:Nat) (q:PV→PS→Prop) (K:PS→Prop):Nat→Code→(Exit→PS→Prop)→PS→Prop
 | 0,_,_,s=>K s
 | n+1,.seq a b,Q,s=>match Λ (1000000+Qet b) with
  | some L=>PW P Γ Δ Λ m 0 q a (fun e s'=>match e with | .normal=>∃ y,Weak 0 (L.T y) s'∧L.I y | e=>Q e s') s∧∀ y,L.I y→PWh P Γ Δ Λ m q K n b Q (L.T y)
  | none=>PW P Γ Δ Λ m 0 q a (fun e s'=>match e with | .normal=>PWh P Γ Δ Λ m q K n b Q s' | e=>Q e s') s
 | _,_,_,_=>False
section
variable {P : Program} {w0 : Cx} {H0 : Hp} {m : Nat} {Γ : Specs} {Λ : Loops}
theorem Qew {E:Env} {Δ:Specs2} {K:PS→Prop} (hΔ:Sound2 P E Δ) {q:PV→PS→Prop} (hn0:∀ o u,w0.B o=some u→o<0) (hΓ:Sound P E Γ) (hU:Up E) (hE:E w0.K w0.w H0) (hmix:P.follows .mixedOrders=true):∀ (n:Nat) (c:Code) (Q:Exit→PS→Prop) (s:PS),
  (∀ s g a w,K s→Real w0 H0 m s g a w→(Qkd n c).wp P (Qr w0 H0 m q Q) a w)→PWh P Γ Δ Λ m q K n c Q s→∀ (g:Gh) (a:Act) (w:World),Real w0 H0 m s g a w→c.wp P (Qr w0 H0 m q Q) a w
 | 0,c,Q,s,hand,h,g,a,w,hR=>hand s g a w h hR
 | n+1,.seq x y,Q,s,hand,h,g,a,w,hR=>by
  unfold PWh at h
  split at h
  · rename_i L hL
    refine wp_seq (wp_mono (Qal hΔ hn0 hΓ hU hE hmix x _ s h.1 g a w hR) fun e a' w' hq=>?_)
    cases e with
    | normal =>
     obtain ⟨s',g',h1,z,h2,h3⟩:=hq
     obtain ⟨g'',h4⟩:=h1.weak hn0 h2
     exact Qew hΔ hn0 hΓ hU hE hmix n y Q _ hand (h.2 z h3) g'' a' w' h4
    | exit i=>exact hq
    | goto i=>exact hq
    | ret=>exact hq
    | panic c=>exact hq
    | outgrown=>exact hq
  · refine wp_seq (wp_mono (Qal hΔ hn0 hΓ hU hE hmix x _ s h g a w hR) fun e a' w' hq=>?_)
    cases e with
    | normal=>obtain ⟨s',g',h1,h2⟩:=hq; exact Qew hΔ hn0 hΓ hU hE hmix n y Q s' hand h2 g' a' w' h1
    | exit i=>exact hq
    | goto i=>exact hq
    | ret=>exact hq
    | panic c=>exact hq
    | outgrown=>exact hq
 | n+1,.skip,_,_,_,h,_,_,_,_=>h.elim
 | n+1,.label _,_,_,_,h,_,_,_,_=>h.elim
 | n+1,.ret,_,_,_,h,_,_,_,_=>h.elim
 | n+1,.exit _,_,_,_,h,_,_,_,_=>h.elim
 | n+1,.block ..,_,_,_,h,_,_,_,_=>by unfold PWh at h; exact h.elim
 | n+1,.cond ..,_,_,_,h,_,_,_,_=>by unfold PWh at h; exact h.elim
 | n+1,.region ..,_,_,_,h,_,_,_,_=>by unfold PWh at h; exact h.elim
 | n+1,.loop _,_,_,_,h,_,_,_,_=>by unfold PWh at h; exact h.elim
 | n+1,.rangeFunc ..,_,_,_,h,_,_,_,_=>by unfold PWh at h; exact h.elim
 | n+1,.goto _,_,_,_,h,_,_,_,_=>by unfold PWh at h; exact h.elim
end
theorem Qmf {P:Program} {E:Env} {Γ:Specs} {Δ:Specs2} (hΔ:Sound2 P E Δ) {Λ:Loops} {f:FuncId} {fn:Func} {c:Code} (hf:P.funcs[f]?=some fn) (hb:fn.body=some c) (hmix:P.follows .mixedOrders=true) (hU:Up E) (hΓ:Sound P E Γ) {xs:List PV} {r:PV} (hlen:xs.length≤fn.ntmps) (n:Nat) {K:PS→Prop}
  (hand:∀ (w0:Cx) (H0:Hp) s g a w,(∀ b j v,H0 b j=some v→w0.K b)→(∀ o,w0.B o=none)→K s→Real w0 H0 fn.ntmps s g a w→(Qkd n c).wp P (Qr w0 H0 fn.ntmps noQ (Ends P fn.results.toList r)) a w) (hpw:PWh P Γ Δ Λ fn.ntmps noQ K n c (Ends P fn.results.toList r) ⟨entry 0 xs,[]⟩)
  (w:World) (H:Hp) (vs:List Value) (hfro:Fro H w) (hE:E (fun b=>b<w.heap.size) w H) (hvs:PRs H B0 vs xs):Calls P f vs.toArray w fun e w'=>∃ H' v,e=.returned v∧Ext w H w' H'∧PR H' B0 v r:=by
 refine calls_of_wp hf hb ?_
 have hsize:(vs.toArray++Array.replicate (fn.ntmps - vs.toArray.size) undef).size=fn.ntmps:=by
  simp [hvs.1]; omega
 have hR:Real (Cx.of w) H fn.ntmps ⟨entry 0 xs,[]⟩ ⟨H,B0⟩ { tmps:=vs.toArray++Array.replicate (fn.ntmps - vs.toArray.size) undef,defers:=[] } w:=by
  refine ⟨ExtK.refl hfro fun _ h=>h,⟨hfro,fun o u b hu=>(by cases hu),fun o x u hx=>(by simp at hx),fun o o' u u' b _ hu=>(by cases hu),fun o u hu=>(by cases hu),fun o u b hu=>(by cases hu)⟩,fun o ho=>(by simp at ho),fun d x hx=>?_,hsize,rfl,fun o p hp=>by cases hp.1⟩
  obtain ⟨_,h2⟩:=Qa2 xs 0 d x hx
  rw [Nat.sub_zero] at h2
  obtain ⟨v,h3,h4⟩:=hvs.at h2
  have hd:=(List.getElem?_eq_some_iff.1 h3).1
  have:(vs.toArray++Array.replicate (fn.ntmps - vs.toArray.size) undef).getD d undef=v:=by
   rw [Array.getD_eq_getD_getElem?,Array.getElem?_append_left (by simpa using hd)]
   simp [h3]
  rw [this]; exact h4
 have hK:∀ b j v,H b j=some v→(Cx.of w).K b:=fun b j v hv=>by
  have h1:=hfro b j v hv
  show b<w.heap.size
  unfold World.cell? at h1
  cases hh:w.heap[b]? with
  | none=>simp [hh] at h1
  | some o=>exact (Array.getElem?_eq_some_iff.1 hh).1
 refine wp_mono (Qew hΔ (fun o u hu=>by cases hu) hΓ hU hE hmix n c _ _ (fun s g a w=>hand _ _ s g a w hK fun _=>rfl) hpw _ _ _ hR) fun e a' w' hq=>?_
 have key:∀ s g,Real (Cx.of w) H fn.ntmps s g a' w'→(match resP P (frzAll s s.ob.length) fn.results.toList with | some x=>Qbp (flatR x)=true∧Sub (flatR x) r | none=>False) →
   a'.defers=[]∧∃ v,(results fn a'.tmps).run P w'=.ok v w'∧∃ H' v',Ending.returned v=.returned v'∧Ext w H w' H'∧PR H' B0 v' r:=by
  intro s g hR0 hE
  obtain ⟨g,hR'⟩:=hR0.frzAll s.ob.length
  split at hE
  · rename_i x hx
    obtain ⟨v,h1,h2⟩:=Qa1 hR' hx
    exact ⟨hR'.dfr,v,h1,g.H,v,rfl,hR'.ext.ext,hE.2.out _ _ (h2.flatR.pure hE.1)⟩
  · exact hE.elim
 cases e with
 | normal=>obtain ⟨s,g,h1,h2⟩:=hq; exact key s g h1 h2
 | ret=>obtain ⟨s,g,h1,h2⟩:=hq; exact key s g h1 h2
 | exit i=>obtain ⟨s,g,h1,h2⟩:=hq; exact h2.elim
 | goto i=>obtain ⟨s,g,h1,h2⟩:=hq; exact h2.elim
 | panic c=>obtain ⟨_,_,_,_,_,_,_,h⟩:=hq; exact h.elim
 | outgrown=>exact hq.elim
theorem Qki {P:Program} {E:Env} {f:FuncId} {fn:Func} {sp:Spec} {m:Nat} (n:Nat) (L:List (FuncId × Spec)) (L2:List (FuncId × Spec2)) (hm:fn.ntmps=m) (hf:P.funcs[f]?=some fn) (hb:fn.body=some (fn.body.getD .skip)) (hmix:P.follows .mixedOrders=true) (hU:Up E) (hL:AllC P E L) (hL2:Qiw P E L2)
  (h:∀ xs p r,sp xs=some (p,r)→(∀ q,p=some q→q)→∃ (ys:List PV) (l:List (Nat × Ann)) (K:PS→Prop),Subs xs ys∧Nat.ble ys.length m=true ∧
   (∀ (w0:Cx) (H0:Hp) s g a w,(∀ b j v,H0 b j=some v→w0.K b)→(∀ o,w0.B o=none)→K s→Real w0 H0 m s g a w→(Qkd n (fn.body.getD .skip)).wp P (Qr w0 H0 m noQ (Ends P fn.results.toList r.out)) a w) ∧
   (Qfa ys→QcI ys→PWh P (spL L) (spL2 L2) (lpL l) m noQ K n (fn.body.getD .skip) (Ends P fn.results.toList r.out) ⟨entry 0 ys,[]⟩)):Contract P E f sp:=by
 intro xs p r hsp hp w H vs hfro hE hvs
 obtain ⟨ys,l,K,h1,h2,h4,h3⟩:=h xs p r hsp hp
 subst hm
 have hv:=h1.prs hvs
 exact Qmf (Qbf hL2) hf hb hmix hU (Qbl hL) (Nat.le_of_ble_eq_true h2) n h4 (h3 hv.good hv.short) w H vs hfro hE hv
end Go.Proofs.YtemhncjjiomppaaDoor
