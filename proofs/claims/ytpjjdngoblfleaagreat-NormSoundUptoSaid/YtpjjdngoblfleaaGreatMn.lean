/- Many numbers put together, however much they take in all. -/
import Derived.Test.YtpjjdngoblfleaaGreatMc
namespace Go.Proofs.YtpjjdngoblfleaaGreat
open Go.RowKit
set_option linter.unusedVariables false
set_option maxRecDepth 100000
theorem sumR_abs {b:Nat}:∀ {l:List ((Bool × List Nat) × Nat × Nat)} {a:Int},(∀ x∈l,(zV x.1.1 x.1.2).natAbs≤b)→(sumR l a).natAbs≤a.natAbs+l.length * b
 | [],a,_=>by simp [sumR]
 | x::l,a,h=>by
  have h1:=sumR_abs (l:=l) (a:=a+zV x.1.1 x.1.2) fun y hy=>h y (List.mem_cons_of_mem _ hy)
  have h2:=h x List.mem_cons_self
  have e:(l.length+1) * b=l.length * b+b:=by rw [Nat.add_mul,Nat.one_mul]
  show (sumR l _).natAbs≤a.natAbs+(l.length+1) * b
  rw [e]
  have:=Int.natAbs_add_le a (zV x.1.1 x.1.2)
  omega
theorem sumR_zk {k:Nat} {l:List ((Bool × List Nat) × Nat × Nat)} (h:∀ x∈l,ZB (zV x.1.1 x.1.2) k) (hl:l.length≤100000000):ZB (sumR l 0) (k+1):=by
 unfold ZB at *
 have h1:=sumR_abs (a:=0) fun x hx=>Nat.le_of_lt (h x hx)
 have h0:0<1000000000 ^ k:=Nat.pow_pos (by omega)
 have e:1000000000 ^ (k+1)=1000000000 ^ k * 1000000000:=Nat.pow_succ ..
 generalize 1000000000 ^ k=b at *
 rw [e]
 have h2:l.length * b≤100000000 * b:=Nat.mul_le_mul_right b hl
 simp only [Int.natAbs_zero,Nat.zero_add] at h1
 omega
theorem sumR_zw {l:List ((Bool × List Nat) × Nat × Nat)} (h:∀ x∈l,ZB (zV x.1.1 x.1.2) 2000001) (hl:l.length≤100000000):ZB (sumR l 0) 2000002:=sumR_zk h hl
theorem zsB_all {l:List ((Bool × List Nat) × Nat × Nat)} (h:∀ x∈l,x.2.1≤2000000):∀ x∈zsB l,x.2.1≤2000000:=by
 intro x hx
 unfold zsB zsOf at hx
 simp only [List.map_map,List.mem_map] at hx
 obtain ⟨y,hy,rfl⟩:=hx
 exact h y hy
theorem zsB_len (l:List ((Bool × List Nat) × Nat × Nat)):(zsB l).length=l.length:=by simp [zsB,zsOf]
def sTogW:Spec
 | [u,.f (.v (.func (.func g) x y)),.f L]=>match sliceR L,Nat.beq g 117,x.size,y.size with
  | some l,true,0,0=>some (some (Sub u (nP 0 0)∧(∀ x∈l,x.2.1≤2000000)∧l.length≤100000000),.nm Int (sumR l 0) fun r=>zP r 2000002)
  | _,_,_,_=>none
 | _=>none
def sAddW:Spec
 | [.f y]=>match sliceR y with
  | some l=>some (some ((∀ x∈l,x.2.1≤2000000)∧l.length≤100000000),.nm Int (sumR l 0) fun z=>zP z 2000002)
  | none=>none
 | _=>none
def prodRow (R:List (List Lf)):Int:=match rowsR R with
 | some l=>prodR l 1
 | none=>0
def RowsFit (R:List (List Lf)):Prop:=∃ l,rowsR R=some l∧sizeR l≤2000000
def sMulR:Spec
 | [.f (.row 2 R)]=>some (some (RowsFit R),.nm Int (prodRow R) fun z=>zP z 2000001)
 | _=>none
section
variable {E : Env} (hU : Up E)
include hU
theorem cTogW:Contract Tryz.prog E 116 sTogW:=by
 refine contract_loopsG [(122,sOfN2),(117,sPlusN (fun _ _=>True)),(93,sOutN)] Tryz.ntmps116 Tryz.func116 (by kernel_rfl) (by kernel_rfl) hU ⟨cOfN2 hU,cPlusN hU,cOutN hU,trivial⟩ ?_
 intro xs p r hs hp
 unfold sTogW at hs
 split at hs
 · rename_i u g x y L
   split at hs
   · rename_i l hl hg hx hy
     cases hs
     obtain ⟨hu,hk,hc⟩:=hp _ rfl
     obtain rfl:x=#[]:=Array.eq_empty_of_size_eq_zero hx
     obtain rfl:y=#[]:=Array.eq_empty_of_size_eq_zero hy
     obtain rfl:=Nat.eq_of_beq_eq_true hg
     have hsub:=sub_zs hl
     have hL:(zsOf l).length=l.length:=by simp [zsOf]
     refine ⟨[nP 0 0,.f (.v (.func (.func 117) #[] #[])),.f (.zs (zsOf l))],[(2,.s ⟨Nat × Int,fun x=>⟨[(1,.f (.v (.func (.func 117) #[] #[]))),(3,.bp 0 0),(6,.bp 1 0),(9,.f (.zs (zsOf l))),(10,.f (.v (.int .i64 l.length))),(11,.f (.v (.int .i64 (x.1:Nat))))],[.cells [.f (.zd x.2 2000002),.f (.zn x.2)],.cells [.f (.v (.bool false)),.f (.v (.slice none 0 0))]]⟩,
      fun x=>x.1≤l.length∧x.2=sumR (l.take x.1) 0,fun x=>l.length - x.1⟩)],(.cons hu (.cons (.refl _) (.cons hsub .nil))),rfl,fun hgx hg=>?_⟩
     have hgood:=sliceR_good hl hgx.2.2.1.2
     have hbnd:∀ i,ZB (sumR (l.take i) 0) 2000002:=fun i=>sumR_zw (fun x hx=>(hgood x (List.mem_of_mem_take hx)).2.2.mono (by have h1:=hk x (List.mem_of_mem_take hx); have h2:=sliceR_j hl x (List.mem_of_mem_take hx); omega)) (by rw [List.length_take]; omega)
     refine cast_rfl (p:=∃ (x1:Nat × Int),(((SubB (PV.f (Lf.zd (0:Int) 0)) (PV.f (Lf.zd x1.snd 2000002))∧SubB (PV.f (Lf.zn (0:Int))) (PV.f (Lf.zn x1.snd))∧True)∧(SubB (PV.f (Lf.v (Value.bool false))) (PV.f (Lf.v (Value.bool false)))∧SubB (PV.f (Lf.v (Value.slice none 0 0))) (PV.f (Lf.v (Value.slice none 0 0)))∧True)∧True)∧SubB (PV.f (Lf.v (Value.func (Fn.func 117) #[] #[]))) (PV.f (Lf.v (Value.func (Fn.func 117) #[] #[])))∧SubB (PV.bp 0 0) (PV.bp 0 0)∧SubB (PV.bp 1 0) (PV.bp 1 0)∧SubB (PV.f (Lf.zs (zsOf l))) (PV.f (Lf.zs (zsOf l)))∧SubB (PV.f (Lf.v (Value.int IntKind.i64 (↑(zsOf l).length:Int)))) (PV.f (Lf.v (Value.int IntKind.i64 (↑l.length:Int))))∧SubB (PV.f (Lf.v (Value.int IntKind.i64 (0:Int)))) (PV.f (Lf.v (Value.int IntKind.i64 (↑x1.fst:Int))))∧True)∧(x1.fst≤l.length∧x1.snd=sumR (List.take x1.fst l) (0:Int))∧True∧∀ (z2:Nat × Int),z2.fst≤l.length∧z2.snd=sumR (List.take z2.fst l) (0:Int)→True→ifB (decide ((↑z2.fst:Int)<(↑l.length:Int))) (((0:Int)≤(↑z2.fst:Int)∧(↑z2.fst:Int)<(↑(zsOf l).length:Int))∧((zsOf l).getD (↑z2.fst:Int).toNat (false,[],0)).snd.snd≤100000000∧∀ (z3:Int),z3=zV ((zsOf l).getD (↑z2.fst:Int).toNat (false,[],0)).fst ((zsOf l).getD (↑z2.fst:Int).toNat (false,[],0)).snd.fst→(z2.snd=z2.snd∧z3=z3∧2000002+(((zsOf l).getD (↑z2.fst:Int).toNat (false,[],0)).snd.snd+1)≤4500000∧True)∧∀ (z4:Int),z4=z2.snd+z3→∃ (x5:Nat × Int),(((SubB (PV.f (Lf.zd z4 (2000002+(((zsOf l).getD (↑z2.fst:Int).toNat (false,[],0)).snd.snd+1)+1))) (PV.f (Lf.zd x5.snd 2000002))∧SubB (PV.f (Lf.zn z4)) (PV.f (Lf.zn x5.snd))∧True)∧(SubB (PV.f (Lf.v (Value.bool false))) (PV.f (Lf.v (Value.bool false)))∧SubB (PV.f (Lf.v (Value.slice none 0 0))) (PV.f (Lf.v (Value.slice none 0 0)))∧True)∧True)∧SubB (PV.f (Lf.v (Value.func (Fn.func 117) #[] #[]))) (PV.f (Lf.v (Value.func (Fn.func 117) #[] #[])))∧SubB (PV.bp 0 0) (PV.bp 0 0)∧SubB (PV.bp 1 0) (PV.bp 1 0)∧SubB (PV.f (Lf.zs (zsOf l))) (PV.f (Lf.zs (zsOf l)))∧SubB (PV.f (Lf.v (Value.int IntKind.i64 (↑l.length:Int)))) (PV.f (Lf.v (Value.int IntKind.i64 (↑l.length:Int))))∧SubB (PV.f (Lf.v (Value.int IntKind.i64 (IntKind.i64.wrap ((↑z2.fst:Int)+(1:Int)))))) (PV.f (Lf.v (Value.int IntKind.i64 (↑x5.fst:Int))))∧True)∧(x5.fst≤l.length∧x5.snd=sumR (List.take x5.fst l) (0:Int))∧True∧(l.length - x5.fst).succ.le (l.length - z2.fst)) (z2.snd=z2.snd∧true=true∧Sub (PV.agg [PV.f (Lf.zn z2.snd),PV.f (Lf.zd z2.snd 2000002)]) (PV.agg [PV.f (Lf.zn (sumR l (0:Int))),PV.f (Lf.zd (sumR l (0:Int)) 2000002)]))) ?kr ?_
     case kr=>kernel_rfl
     refine ⟨?x0,⟨⟨⟨⟨?m0,⟨?m1,trivial⟩⟩,⟨⟨.refl _,⟨.refl _,trivial⟩⟩,trivial⟩⟩,⟨.refl _,⟨.refl _,⟨.refl _,⟨.refl _,⟨?m2,⟨?m3,trivial⟩⟩⟩⟩⟩⟩⟩,⟨?s0,⟨trivial,fun z2=>fun hq0=>fun _=>ifB_iff.2 ⟨fun hb1=>⟨?s1,⟨?s2,fun z3=>fun hz3=>⟨?s3,fun z4=>fun hz4=>⟨?x1,⟨⟨⟨⟨?m4,⟨?m5,trivial⟩⟩,⟨⟨.refl _,⟨.refl _,trivial⟩⟩,trivial⟩⟩,⟨.refl _,⟨.refl _,⟨.refl _,⟨.refl _,⟨.refl _,⟨?m6,trivial⟩⟩⟩⟩⟩⟩⟩,⟨?s4,⟨trivial,?m7⟩⟩⟩⟩⟩⟩⟩,fun hb1=>⟨rfl,⟨rfl,?m8⟩⟩⟩⟩⟩⟩⟩
     case x0=>exact (0,0)
     case x1=>exact (z2.1+1,z4)
     case m0=>exact subB_zdB rfl (ZB.zero _)
     case m1=>exact .refl _
     case m2=>rw [hL]; exact .refl _
     case m3=>exact .refl _
     case s0=>exact ⟨Nat.zero_le _,rfl⟩
     case m8 =>
      have h1:=of_decide_eq_false hb1
      have h2:z2.1=l.length:=by omega
      have h3:=hq0.2
      rw [h2,List.take_of_length_le (Nat.le_refl _)] at h3
      rw [h3]; exact .refl _
     all_goals have h1:=of_decide_eq_true hb1
     all_goals have hil:z2.1<l.length:=(by omega)
     all_goals have hat:=zsOf_at hil
     all_goals have hmem:=List.getElem_mem hil
     all_goals have hsz:=hk _ hmem
     all_goals simp only [Int.toNat_natCast,hat] at *
     case s1=>exact ⟨by omega,by omega⟩
     case s2=>omega
     case s3=>exact ⟨by trivial,by trivial,by omega,trivial⟩
     all_goals have hz:z4=sumR (l.take (z2.1+1)) 0:=(by rw [hz4,hz3,sumR_snoc l z2.1 hil,← hq0.2])
     case m4=>exact subB_zdB rfl (by rw [hz]; exact hbnd _)
     case m5=>exact .refl _
     case m6=>exact subB_succ (by omega)
     case s4=>exact ⟨hil,hz⟩
     case m7=>show l.length - (z2.1+1)+1≤l.length - z2.1; omega
   · cases hs
 · cases hs
theorem cAddW:Contract Tryz.prog E 82 sAddW:=by
 refine contract_loopsG [(116,sTogW)] Tryz.ntmps82 Tryz.func82 (by kernel_rfl) (by kernel_rfl) hU ⟨cTogW hU,trivial⟩ ?_
 intro xs p r hs hp
 unfold sAddW at hs
 split at hs
 · rename_i y
   split at hs
   · rename_i l hl
     cases hs
     obtain ⟨hk,hc⟩:=hp _ rfl
     refine ⟨[.f (.zs (zsOf l))],[],.cons (sub_zs hl) .nil,rfl,fun hgx hg=>?_⟩
     have hgood:=sliceR_good hl hgx.1.2
     have hall:ZB (sumR l 0) 2000002:=sumR_zw (fun x hx=>(hgood x hx).2.2.mono (by have h1:=hk x hx; have h2:=sliceR_j hl x hx; omega)) hc
     refine cast_rfl (p:=(Sub (flat (PV.agg [PV.f (Lf.v (Value.slice none 0 0)),PV.f (Lf.v (Value.bool false))])) (nP (0:Int) 0)∧(∀ (x:(Bool × List Nat) × Nat × Nat),x∈List.map (fun (e:Bool × List Nat × Nat)=>((e.fst,e.snd.fst),e.snd.snd,e.snd.snd+1)) (zsOf l)→x.snd.fst≤2000000)∧(List.map (fun (e:Bool × List Nat × Nat)=>((e.fst,e.snd.fst),e.snd.snd,e.snd.snd+1)) (zsOf l)).length≤100000000)∧∀ (z1:Int),z1=sumR (List.map (fun (e:Bool × List Nat × Nat)=>((e.fst,e.snd.fst),e.snd.snd,e.snd.snd+1)) (zsOf l)) (0:Int)→true=true∧Sub (PV.agg [PV.f (Lf.zn z1),PV.f (Lf.zd z1 2000002)]) (PV.agg [PV.f (Lf.zn (sumR l (0:Int))),PV.f (Lf.zd (sumR l (0:Int)) 2000002)])) ?kr ?_
     case kr=>kernel_rfl
     refine ⟨?s0,fun z1=>fun hz1=>⟨rfl,?m0⟩⟩
     case s0=>exact ⟨nP_nil,zsB_all hk,by rw [show List.map _ (zsOf l)=zsB l from rfl,zsB_len]; exact hc⟩
     case m0 =>
      rw [hz1,show List.map _ (zsOf l)=zsB l from rfl,zsB_sum]
      exact sub_zP hall
   · cases hs
 · cases hs
theorem cMulR:Contract Tryz.prog E 86 sMulR:=by
 refine contract_loopsG [(92,sSmall),(116,sTogM)] Tryz.ntmps86 Tryz.func86 (by kernel_rfl) (by kernel_rfl) hU ⟨cSmall hU,cTogM hU,trivial⟩ ?_
 intro xs p r hs hp
 unfold sMulR at hs
 split at hs
 · rename_i R
   cases hs
   obtain ⟨l,hl0,hk⟩:=hp _ rfl
   have hl:sliceR (.row 2 R)=some l:=hl0
   have hpr:prodRow R=prodR l 1:=by unfold prodRow; rw [hl0]
   refine ⟨[.f (.zs (zsOf l))],[],.cons (sub_zs hl) .nil,rfl,fun hgx hg=>?_⟩
   have hgood:=sliceR_good hl hgx.1.2
   have hall:ZB (prodR l 1) 2000001:=(prodR_zb _ 1 1 ZB.one fun x hx=>(hgood x hx).2.2).mono (by have:=bndP_size l 1 (sliceR_j hl); omega)
   refine cast_rfl (p:=((0:Int)≤(1:Int)∧(1:Int)<(18446744073709551616:Int))∧∀ (z1:Int),z1=zOf false (Int.toNat (1:Int))→(Sub (flat (nP z1 3)) (nP (1:Int) 3)∧sizeR (List.map (fun (e:Bool × List Nat × Nat)=>((e.fst,e.snd.fst),e.snd.snd,e.snd.snd+1)) (zsOf l))≤2000000)∧∀ (z2:Int),z2=prodR (List.map (fun (e:Bool × List Nat × Nat)=>((e.fst,e.snd.fst),e.snd.snd,e.snd.snd+1)) (zsOf l)) (1:Int)→true=true∧Sub (PV.agg [PV.f (Lf.zn z2),PV.f (Lf.zd z2 (bndP (List.map (fun (e:Bool × List Nat × Nat)=>((e.fst,e.snd.fst),e.snd.snd,e.snd.snd+1)) (zsOf l)) 1))]) (PV.agg [PV.f (Lf.zn (prodRow R)),PV.f (Lf.zd (prodRow R) 2000001)])) ?kr ?_
   case kr=>kernel_rfl
   refine ⟨?s0,fun z1=>fun hz1=>⟨?s1,fun z2=>fun hz2=>⟨rfl,?m0⟩⟩⟩
   case s0=>exact ⟨by decide,by decide⟩
   case s1 =>
    refine ⟨?_,(zsB_size l).symm ▸ hk⟩
    have e1:z1=1:=hz1
    subst e1
    exact .refl _
   case m0 =>
    rw [hpr,hz2,show List.map _ (zsOf l)=zsB l from rfl,zsB_prod]
    exact sub_zP hall
 · cases hs
end
end Go.Proofs.YtpjjdngoblfleaaGreat
