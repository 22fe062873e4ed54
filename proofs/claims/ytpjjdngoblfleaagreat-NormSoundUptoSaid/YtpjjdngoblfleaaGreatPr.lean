/- The layer num by the pure run: many numbers put together; a number's text read. -/
import Derived.Test.YtpjjdngoblfleaaGreatPq
namespace Go.Proofs.YtpjjdngoblfleaaGreat
open Go.RowKit
set_option linter.unusedVariables false
set_option maxRecDepth 100000
theorem nP_nil:Sub (.agg [.f (.v (.slice none 0 0)),.f (.v (.bool false))]) (nP 0 0):=⟨fun H v hv=>by
 obtain ⟨vs,rfl,h1⟩:=PRs.of_agg hv
 match vs,h1.1 with
 | [p,q],_ =>
  have a1:=(h1.2 1 _ _ rfl rfl).val
  subst a1
  exact (PRs.cons ((sub_nil0 0).out _ _ (h1.2 0 _ _ rfl rfl)) (.cons (.f (.zn 0)) .nil)).agg⟩
def zsB (l:List ((Bool × List Nat) × Nat × Nat)):List ((Bool × List Nat) × Nat × Nat):=(zsOf l).map fun e=>((e.1,e.2.1),e.2.2,e.2.2+1)
theorem zsB_cons (x:(Bool × List Nat) × Nat × Nat) (l:List ((Bool × List Nat) × Nat × Nat)):zsB (x::l)=((x.1.1,x.1.2),x.2.1,x.2.1+1)::zsB l:=rfl
theorem zsB_sum:∀ (l:List ((Bool × List Nat) × Nat × Nat)) (a:Int),sumR (zsB l) a=sumR l a
 | [],_=>rfl
 | x::l,a=>by rw [zsB_cons,sumR,sumR,zsB_sum l]
theorem zsB_prod:∀ (l:List ((Bool × List Nat) × Nat × Nat)) (a:Int),prodR (zsB l) a=prodR l a
 | [],_=>rfl
 | x::l,a=>by rw [zsB_cons,prodR,prodR,zsB_prod l]
theorem zsB_size:∀ (l:List ((Bool × List Nat) × Nat × Nat)),sizeR (zsB l)=sizeR l
 | []=>rfl
 | x::l=>by rw [zsB_cons,sizeR,sizeR,zsB_size l]
def sTogM:Spec
 | [u,.f (.v (.func (.func g) x y)),.f L]=>match sliceR L,Nat.beq g 120,x.size,y.size with
  | some l,true,0,0=>some (some (Sub u (nP 1 3)∧sizeR l≤2000000),.nm Int (prodR l 1) fun r=>zP r (bndP l 1))
  | _,_,_,_=>none
 | _=>none
section
variable {E : Env} (hU : Up E)
include hU
theorem cTogM:Contract Tryz.prog E 116 sTogM:=by
 refine contract_loopsG [(122,sOfN2),(120,sTimesN),(93,sOutN)] Tryz.ntmps116 Tryz.func116 (by kernel_rfl) (by kernel_rfl) hU ⟨cOfN2 hU,cTimesN hU,cOutN hU,trivial⟩ ?_
 intro xs p r hs hp
 unfold sTogM at hs
 split at hs
 · rename_i u g x y L
   split at hs
   · rename_i l hl hg hx hy
     cases hs
     obtain ⟨hu,hk⟩:=hp _ rfl
     obtain rfl:x=#[]:=Array.eq_empty_of_size_eq_zero hx
     obtain rfl:y=#[]:=Array.eq_empty_of_size_eq_zero hy
     obtain rfl:=Nat.eq_of_beq_eq_true hg
     have hsub:=sub_zs hl
     have hL:(zsOf l).length=l.length:=by simp [zsOf]
     refine ⟨[nP 1 3,.f (.v (.func (.func 120) #[] #[])),.f (.zs (zsOf l))],[(2,.s ⟨Nat × Int,fun x=>⟨[(1,.f (.v (.func (.func 120) #[] #[]))),(3,.bp 0 0),(6,.bp 1 0),(9,.f (.zs (zsOf l))),(10,.f (.v (.int .i64 l.length))),(11,.f (.v (.int .i64 (x.1:Nat))))],[.cells [.f (.zd x.2 (bndP l 1)),.f (.zn x.2)],.cells [.f (.v (.bool false)),.f (.v (.slice none 0 0))]]⟩,
      fun x=>x.1≤l.length∧x.2=prodR (l.take x.1) 1,fun x=>l.length - x.1⟩)],(.cons hu (.cons (.refl _) (.cons hsub .nil))),rfl,fun hgx hg=>?_⟩
     have hgood:=sliceR_good hl hgx.2.2.1.2
     have hbnd:∀ i,ZB (prodR (l.take i) 1) (bndP l 1):=fun i=>(prodR_zb _ 1 1 ZB.one fun x hx=>(hgood x (List.mem_of_mem_take hx)).2.2).mono (bndP_take l 1 i)
     have hbl:=bndP_size l 1 (sliceR_j hl)
     have hll:=sizeR_len l
     refine cast_rfl (p:=∃ (x1:Nat × Int),(((SubB (PV.f (Lf.zd (1:Int) 3)) (PV.f (Lf.zd x1.snd (bndP l 1)))∧SubB (PV.f (Lf.zn (1:Int))) (PV.f (Lf.zn x1.snd))∧True)∧(SubB (PV.f (Lf.v (Value.bool false))) (PV.f (Lf.v (Value.bool false)))∧SubB (PV.f (Lf.v (Value.slice none 0 0))) (PV.f (Lf.v (Value.slice none 0 0)))∧True)∧True)∧SubB (PV.f (Lf.v (Value.func (Fn.func 120) #[] #[]))) (PV.f (Lf.v (Value.func (Fn.func 120) #[] #[])))∧SubB (PV.bp 0 0) (PV.bp 0 0)∧SubB (PV.bp 1 0) (PV.bp 1 0)∧SubB (PV.f (Lf.zs (zsOf l))) (PV.f (Lf.zs (zsOf l)))∧SubB (PV.f (Lf.v (Value.int IntKind.i64 (↑(zsOf l).length:Int)))) (PV.f (Lf.v (Value.int IntKind.i64 (↑l.length:Int))))∧SubB (PV.f (Lf.v (Value.int IntKind.i64 (0:Int)))) (PV.f (Lf.v (Value.int IntKind.i64 (↑x1.fst:Int))))∧True)∧(x1.fst≤l.length∧x1.snd=prodR (List.take x1.fst l) (1:Int))∧True∧∀ (z2:Nat × Int),z2.fst≤l.length∧z2.snd=prodR (List.take z2.fst l) (1:Int)→True→ifB (decide ((↑z2.fst:Int)<(↑l.length:Int))) (((0:Int)≤(↑z2.fst:Int)∧(↑z2.fst:Int)<(↑(zsOf l).length:Int))∧((zsOf l).getD (↑z2.fst:Int).toNat (false,[],0)).snd.snd≤100000000∧∀ (z3:Int),z3=zV ((zsOf l).getD (↑z2.fst:Int).toNat (false,[],0)).fst ((zsOf l).getD (↑z2.fst:Int).toNat (false,[],0)).snd.fst→(z2.snd=z2.snd∧z3=z3∧bndP l 1+(((zsOf l).getD (↑z2.fst:Int).toNat (false,[],0)).snd.snd+1)≤4500000)∧∀ (z4:Int),z4=z2.snd * z3→∃ (x5:Nat × Int),(((SubB (PV.f (Lf.zd z4 (bndP l 1+(((zsOf l).getD (↑z2.fst:Int).toNat (false,[],0)).snd.snd+1)+1))) (PV.f (Lf.zd x5.snd (bndP l 1)))∧SubB (PV.f (Lf.zn z4)) (PV.f (Lf.zn x5.snd))∧True)∧(SubB (PV.f (Lf.v (Value.bool false))) (PV.f (Lf.v (Value.bool false)))∧SubB (PV.f (Lf.v (Value.slice none 0 0))) (PV.f (Lf.v (Value.slice none 0 0)))∧True)∧True)∧SubB (PV.f (Lf.v (Value.func (Fn.func 120) #[] #[]))) (PV.f (Lf.v (Value.func (Fn.func 120) #[] #[])))∧SubB (PV.bp 0 0) (PV.bp 0 0)∧SubB (PV.bp 1 0) (PV.bp 1 0)∧SubB (PV.f (Lf.zs (zsOf l))) (PV.f (Lf.zs (zsOf l)))∧SubB (PV.f (Lf.v (Value.int IntKind.i64 (↑l.length:Int)))) (PV.f (Lf.v (Value.int IntKind.i64 (↑l.length:Int))))∧SubB (PV.f (Lf.v (Value.int IntKind.i64 (IntKind.i64.wrap ((↑z2.fst:Int)+(1:Int)))))) (PV.f (Lf.v (Value.int IntKind.i64 (↑x5.fst:Int))))∧True)∧(x5.fst≤l.length∧x5.snd=prodR (List.take x5.fst l) (1:Int))∧True∧(l.length - x5.fst).succ.le (l.length - z2.fst)) (z2.snd=z2.snd∧true=true∧Sub (PV.agg [PV.f (Lf.zn z2.snd),PV.f (Lf.zd z2.snd (bndP l 1))]) (PV.agg [PV.f (Lf.zn (prodR l (1:Int))),PV.f (Lf.zd (prodR l (1:Int)) (bndP l 1))]))) (by kernel_rfl) ?_
     refine ⟨?x0,⟨⟨⟨⟨?m0,⟨?m1,trivial⟩⟩,⟨⟨.refl _,⟨.refl _,trivial⟩⟩,trivial⟩⟩,⟨.refl _,⟨.refl _,⟨.refl _,⟨.refl _,⟨?m2,⟨?m3,trivial⟩⟩⟩⟩⟩⟩⟩,⟨?s0,⟨trivial,fun z2=>fun hq0=>fun _=>ifB_iff.2 ⟨fun hb1=>⟨?s1,⟨?s2,fun z3=>fun hz3=>⟨?s3,fun z4=>fun hz4=>⟨?x1,⟨⟨⟨⟨?m4,⟨?m5,trivial⟩⟩,⟨⟨.refl _,⟨.refl _,trivial⟩⟩,trivial⟩⟩,⟨.refl _,⟨.refl _,⟨.refl _,⟨.refl _,⟨.refl _,⟨?m6,trivial⟩⟩⟩⟩⟩⟩⟩,⟨?s4,⟨trivial,?m7⟩⟩⟩⟩⟩⟩⟩,fun hb1=>⟨rfl,⟨rfl,?m8⟩⟩⟩⟩⟩⟩⟩
     case x0=>exact (0,1)
     case x1=>exact (z2.1+1,z4)
     case m0=>exact subB_zdB rfl (ZB.one.mono (bndP_ge l 1))
     case m1=>exact .refl _
     case m2=>rw [hL]; exact .refl _
     case m3=>exact .refl _
     case s0=>exact ⟨Nat.zero_le _,rfl⟩
     case m8 =>
      have h1:=of_decide_eq_false hb1
      have h2:z2.1=l.length:=by omega
      have h3:=hq0.2
      rw [h2,List.take_of_length_le (Nat.le_refl _)] at h3
      rw [h3]; exact .refl _
     all_goals have h1:=of_decide_eq_true hb1
     all_goals have hil:z2.1<l.length:=(by omega)
     all_goals have hat:=zsOf_at hil
     all_goals have hmem:=List.getElem_mem hil
     all_goals have hsz:=sizeR_mem _ hmem
     all_goals simp only [Int.toNat_natCast,hat] at *
     case s1=>exact ⟨by omega,by omega⟩
     case s2=>omega
     case s3=>exact ⟨by trivial,by trivial,by omega⟩
     all_goals have hz:z4=prodR (l.take (z2.1+1)) 1:=(by rw [hz4,hz3,prodR_snoc l z2.1 hil,← hq0.2])
     case m4=>exact subB_zdB rfl (by rw [hz]; exact hbnd _)
     case m5=>exact .refl _
     case m6=>exact subB_succ (by omega)
     case s4=>exact ⟨hil,hz⟩
     case m7=>show l.length - (z2.1+1)+1≤l.length - z2.1; omega
   · cases hs
 · cases hs
end
end Go.Proofs.YtpjjdngoblfleaaGreat
