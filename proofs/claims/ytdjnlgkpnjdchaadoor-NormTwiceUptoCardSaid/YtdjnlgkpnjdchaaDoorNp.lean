/- Is a formula pushed? Is what came in too great? Their contracts. -/
import Derived.Test.YtdjnlgkpnjdchaaDoorNx
import Derived.Test.YtdjnlgkpnjdchaaDoorCn
import Derived.Test.YtdjnlgkpnjdchaaDoorGd
namespace Go.Proofs.YtdjnlgkpnjdchaaDoor
open Go.RowKit
set_option linter.unusedVariables false
set_option maxRecDepth 100000
def u8Of:Lf→Option (List Int)
 | .is .u8 l=>some l
 | .row 1 M=>intsOf .u8 M
 | _=>none
theorem u8Of_sub {x:Lf} {l:List Int} (h:u8Of x=some l):SubB (.f x) (.f (.is .u8 l)):=by
 unfold u8Of at h
 split at h
 · cases h; exact .refl _
 · rename_i M
   obtain ⟨h1,h2⟩:=intsOf_at h
   exact ⟨fun H B v hv=>.f (rd_view (f:=.row 1 M) (f':=.is .u8 l) (k:=1) (n:=M.length) (get:=fun i=>M.getD i []) rfl (by rw [Lf.view,h1]) trivial (Nat.le_refl _) (fun i hi=>(h2 i hi).symm) hv.rd)⟩
 · cases h
def kIx (l:List Int) (k:Int):Int:=anyB l fun x=>decide (x=k)
def sIxK:Spec
 | [.f x,.f (.v (.int .u8 k))]=>match u8Of x with
  | some l=>some (none,.one (iV (kIx l k)))
  | none=>none
 | _=>none
theorem cIxK {E:Env} (hU:Up E):Contract Tryd.prog E 147 sIxK:=by
 refine contract_D [] [] Tryd.ntmps147 Tryd.func147 (by kernel_rfl) (by kernel_rfl) hU trivial trivial ?_
 intro xs p r hs hp
 unfold sIxK at hs
 split at hs
 · rename_i x k
   split at hs
   · rename_i l hx
     cases hs
     refine ⟨[.f (.is .u8 l),.f (.v (.int .u8 k))],[(2,.s ⟨Nat,fun i=>⟨[(0,.f (.is .u8 l)),(1,.f (.v (.int .u8 k))),(7,iV l.length),(8,iV i)],[]⟩,fun i=>i≤l.length∧∀ j,j<i→¬ (l.getD j 0=k),fun i=>l.length - i⟩)],.cons (u8Of_sub hx).sub (.cons (.refl _) .nil),rfl,fun _ hsh=>?_⟩
     have hlen:=short_is hsh.1
     refine cast_rfl (p:=∃ (x1:Nat),(True∧SubB (PV.f (Lf.is IntKind.u8 l)) (PV.f (Lf.is IntKind.u8 l))∧SubB (PV.f (Lf.v (Value.int IntKind.u8 k))) (PV.f (Lf.v (Value.int IntKind.u8 k)))∧SubB (iV (↑l.length:Int)) (iV (↑l.length:Int))∧SubB (iV 0) (iV (↑x1:Int))∧True)∧(x1≤l.length∧∀ (j:Nat),j<x1→¬l.getD j (0:Int)=k)∧True∧∀ (z2:Nat),(z2≤l.length∧∀ (j:Nat),j<z2→¬l.getD j (0:Int)=k)→True→ifB (decide ((↑z2:Int)<(↑l.length:Int))) (((0:Int)≤(↑z2:Int)∧(↑z2:Int)<(↑l.length:Int))∧ifB (k==l.getD (↑z2:Int).toNat (0:Int)) (true=true∧Sub (iV (↑z2:Int)) (iV (kIx l k))) (∃ (x3:Nat),(True∧SubB (PV.f (Lf.is IntKind.u8 l)) (PV.f (Lf.is IntKind.u8 l))∧SubB (PV.f (Lf.v (Value.int IntKind.u8 k))) (PV.f (Lf.v (Value.int IntKind.u8 k)))∧SubB (iV (↑l.length:Int)) (iV (↑l.length:Int))∧SubB (iV (IntKind.i64.wrap ((↑z2:Int)+(1:Int)))) (iV (↑x3:Int))∧True)∧(x3≤l.length∧∀ (j:Nat),j<x3→¬l.getD j (0:Int)=k)∧True∧(l.length - x3).succ.le (l.length - z2))) (true=true∧Sub (iV (-1:Int)) (iV (kIx l k)))) ?kr ?_
     case kr=>kernel_rfl
     refine ⟨?x0,⟨⟨trivial,⟨.refl _,⟨.refl _,⟨.refl _,⟨?m0,trivial⟩⟩⟩⟩⟩,⟨?s0,⟨trivial,fun z2=>fun hq0=>fun _=>ifB_iff.2 ⟨fun hb1=>⟨?s1,ifB_iff.2 ⟨fun hb2=>⟨rfl,?m1⟩,fun hb2=>⟨?x1,⟨⟨trivial,⟨.refl _,⟨.refl _,⟨.refl _,⟨?m2,trivial⟩⟩⟩⟩⟩,⟨?s2,⟨trivial,?m3⟩⟩⟩⟩⟩⟩,fun hb1=>⟨rfl,?m4⟩⟩⟩⟩⟩⟩
     case x0=>exact 0
     case x1=>exact z2+1
     all_goals try simp only [decide_eq_true_eq,decide_eq_false_iff_not,beq_iff_eq,beq_eq_false_iff_ne,ne_eq,Int.toNat_natCast] at *
     case m0=>exact .refl _
     case s0=>exact ⟨Nat.zero_le _,fun k hk=>by omega⟩
     case s1=>omega
     case m1=>exact (subB_i (anyB_hit 0 (by omega) (by simpa using hb2.symm) (fun j hj=>by simpa using hq0.2 j hj)).symm).sub
     case m2=>exact subB_i (by rw [wJ _ (by omega) (by omega)]; omega)
     case s2 =>
      refine ⟨by omega,fun j hj=>?_⟩
      by_cases hjz:j=z2
      · subst hjz; exact fun h=>hb2 h.symm
      · exact hq0.2 j (by omega)
     case m3=>exact (by omega:l.length - (z2+1)<l.length - z2)
     case m4=>exact (subB_i (anyB_miss 0 fun j hj=>by simpa using hq0.2 j (by omega)).symm).sub
   · cases hs
 · cases hs
def sHasK:Spec
 | [.f x,.f (.v (.int .u8 k))]=>match u8Of x with
  | some l=>some (none,.one (bV (decide (0≤kIx l k))))
  | none=>none
 | _=>none
theorem cHasK {E:Env} (hU:Up E):Contract Tryd.prog E 110 sHasK:=by
 refine contract_D [(147,sIxK)] [] Tryd.ntmps110 Tryd.func110 (by kernel_rfl) (by kernel_rfl) hU ⟨cIxK hU,trivial⟩ trivial ?_
 intro xs p r hs hp
 unfold sHasK at hs
 split at hs
 · rename_i x k
   split at hs
   · rename_i l hx
     cases hs
     refine ⟨[.f (.is .u8 l),.f (.v (.int .u8 k))],[],.cons (u8Of_sub hx).sub (.cons (.refl _) .nil),rfl,fun _ hsh=>?_⟩
     refine cast_rfl (p:=true=true∧Sub (bV (decide (kIx l k ≥ (0:Int)))) (bV (decide ((0:Int)≤kIx l k)))) ?kr ?_
     case kr=>kernel_rfl
     refine ⟨rfl,?m0⟩
     case m0=>exact .refl _
   · cases hs
 · cases hs
theorem kIx_iff (k:Int):0≤kIx [1,7,8] k↔(k=1∨k=7∨k=8):=by
 constructor
 · intro h
   obtain ⟨x,hx,hk⟩:=anyB_get h
   obtain rfl:=of_decide_eq_true hk
   simpa using hx
 · intro h
   exact anyB_of (x:=k) (by rcases h with h | h | h <;> subst h <;> decide) (decide_eq_true rfl)
theorem lit_ten {t:Tw} (h:t.kind=10):litT t=(decide (t.kids.length=1) && litH t.kids):=by rw [litT_eq,if_pos h]
theorem lit_not10 {t:Tw} (h:¬ t.kind=10):litT t=((litM t.kind).2 && decide ((t.kids.length:Int)=(litM t.kind).1)):=by rw [litT_eq,if_neg h]
theorem litH_one {l:List Tw} (h:l.length=1):litH l=(decide (0≤kIx [1,7,8] (Tw.kind (l.getD 0 Sh.tm.nil))) && litT (l.getD 0 Sh.tm.nil)):=by
 obtain ⟨a,rfl⟩:=one_kid h
 rw [litH]
 congr 1
 exact decide_eq_decide.2 (kIx_iff _).symm
def sLitN (n:Nat):Spec
 | [z]=>match tmOf z with
  | some t=>some (some (t.size<n),.nm Bool (litT t) bV)
  | none=>none
 | _=>none
theorem cLitN {E:Env} (hU:Up E):∀ n,Contract Tryd.prog E 55 (sLitN n)
 | 0=>by
  intro xs p r hs hp
  unfold sLitN at hs
  split at hs
  · split at hs
    · cases hs
      exact absurd (hp _ rfl) (Nat.not_lt_zero _)
    · cases hs
  · cases hs
 | n+1=>by
  refine contract_D [(110,sHasK),(55,sLitN n)] [] Tryd.ntmps55 Tryd.func55 (by kernel_rfl) (by kernel_rfl) hU ⟨cHasK hU,cLitN hU n,trivial⟩ trivial ?_
  intro xs p r hs hp
  unfold sLitN at hs
  split at hs
  · rename_i x
    split at hs
    · rename_i t ht
      cases hs
      have hn:=hp _ rfl
      refine ⟨[tmP t],[],.cons (tm_sub ht).sub .nil,rfl,fun _ hsh=>?_⟩
      refine cast_rfl (p:=(∀ (z1:(Kt.int IntKind.u8).T),false=false)∧∀ (z1:Int × Bool),z1=lookN (Kt.int IntKind.u8) t.kind (0:Int) [(8:Int),(9:Int),(7:Int),(1:Int),(4:Int),(3:Int)] [(2:Int),(2:Int),(1:Int),(0:Int),(0:Int),(0:Int)]→ifB (t.kind != (10:Int)) (ifB z1.snd (true=true∧Sub (bV ((↑t.kids.length:Int)==z1.fst)) (bV (litT t))) (true=true∧Sub (bV false) (bV (litT t)))) (ifB ((↑t.kids.length:Int)==(1:Int)) (((0:Int)≤(0:Int)∧(0:Int)<(↑t.kids.length:Int))∧ifB (decide ((0:Int)≤kIx [(1:Int),(7:Int),(8:Int)] (Tw.kind (t.kids.getD (Int.toNat (0:Int)) Sh.tm.nil)))) (((0:Int)≤(0:Int)∧(0:Int)<(↑t.kids.length:Int))∧(Tw.mk (Tw.kind (t.kids.getD (Int.toNat (0:Int)) Sh.tm.nil)) (Tw.name (t.kids.getD (Int.toNat (0:Int)) Sh.tm.nil)) (Tw.neg (t.kids.getD (Int.toNat (0:Int)) Sh.tm.nil)) (Tw.digits (t.kids.getD (Int.toNat (0:Int)) Sh.tm.nil)) (Tw.kids (t.kids.getD (Int.toNat (0:Int)) Sh.tm.nil))).size<n∧∀ (z2:Bool),z2=litT (Tw.mk (Tw.kind (t.kids.getD (Int.toNat (0:Int)) Sh.tm.nil)) (Tw.name (t.kids.getD (Int.toNat (0:Int)) Sh.tm.nil)) (Tw.neg (t.kids.getD (Int.toNat (0:Int)) Sh.tm.nil)) (Tw.digits (t.kids.getD (Int.toNat (0:Int)) Sh.tm.nil)) (Tw.kids (t.kids.getD (Int.toNat (0:Int)) Sh.tm.nil)))→true=true∧Sub (bV z2) (bV (litT t))) (true=true∧Sub (bV false) (bV (litT t)))) (true=true∧Sub (bV false) (bV (litT t))))) ?kr ?_
      case kr=>kernel_rfl
      refine ⟨fun z1=>rfl,fun z1=>fun hz1=>ifB_iff.2 ⟨fun hb0=>ifB_iff.2 ⟨fun hb1=>⟨rfl,?m0⟩,fun hb1=>⟨rfl,?m1⟩⟩,fun hb0=>ifB_iff.2 ⟨fun hb2=>⟨?s0,ifB_iff.2 ⟨fun hb3=>⟨?s1,⟨?s2,fun z2=>fun hz2=>⟨rfl,?m2⟩⟩⟩,fun hb3=>⟨rfl,?m3⟩⟩⟩,fun hb2=>⟨rfl,?m4⟩⟩⟩⟩
      all_goals try simp only [Tw.eta,bne_iff_ne,ne_eq,bne_eq_false_iff_eq,beq_iff_eq,beq_eq_false_iff_ne,decide_eq_true_eq,decide_eq_false_iff_not] at *
      all_goals have hz:z1=litM t.kind:=hz1
      case m0=>exact (subB_b (by rw [lit_not10 hb0,← hz,hb1]; rfl)).sub
      case m1=>exact (subB_b (by rw [lit_not10 hb0,← hz,hb1]; rfl)).sub
      case s0=>omega
      case s1=>omega
      case s2 =>
       have h1:=szL_mem (kid_mem (l:=t.kids) (i:=0) (by omega))
       have h2:=t.size_eq
       show (t.kids.getD 0 Sh.tm.nil).size<n
       omega
      case m2 =>
       have hl:t.kids.length=1:=by omega
       have h3:decide (0≤kIx [1,7,8] (Tw.kind (t.kids.getD 0 Sh.tm.nil)))=true:=decide_eq_true hb3
       exact (subB_b (by rw [hz2,lit_ten hb0,litH_one hl,decide_eq_true hl,h3]; rfl)).sub
      case m3 =>
       have hl:t.kids.length=1:=by omega
       have h3:decide (0≤kIx [1,7,8] (Tw.kind (t.kids.getD 0 Sh.tm.nil)))=false:=decide_eq_false hb3
       exact (subB_b (by rw [lit_ten hb0,litH_one hl,decide_eq_true hl,h3]; rfl)).sub
      case m4=>exact (subB_b (by rw [lit_ten hb0,decide_eq_false (by omega)]; rfl)).sub
    · cases hs
  · cases hs
def pIx (l:List Tw):Int:=anyB l fun t=>!pusT t
theorem pusL_ix (l:List Tw):pusL l=!decide (0≤pIx l):=by
 have h:∀ l:List Tw,pusL l=true↔∀ a∈l,pusT a=true:=by
  intro l
  induction l with
  | nil=>simp [pusL]
  | cons a l ih=>simp [pusL,ih]
 cases hp:pusL l with
 | true =>
  have hp:=(h l).1 hp
  have:¬ 0≤pIx l:=fun hi=>by
   obtain ⟨x,hx,h1⟩:=anyB_get hi
   rw [hp x hx] at h1; cases h1
  rw [decide_eq_false this]; rfl
 | false =>
  have:0≤pIx l:=Classical.byContradiction fun hi=>by
   have:pusL l=true:=(h l).2 fun a ha=>Classical.byContradiction fun hn=>hi (anyB_of ha (by simpa using hn))
   rw [hp] at this; cases this
  rw [decide_eq_true this]; rfl
def sPusN (n:Nat):Spec
 | [z]=>match tmOf z with
  | some t=>some (some (t.size<n),.nm Bool (pusT t) bV)
  | none=>none
 | _=>none
def sPusF (n:Nat):Spec
 | [z]=>match tmOf z with
  | some t=>some (some (t.size<n),.nm Bool (!pusT t) bV)
  | none=>none
 | _=>none
def sPusX (n:Nat):Spec
 | [.f (.dt .tm l),.f (.v (.func (.func f) ⟨[]⟩ ⟨[]⟩))]=>match Nat.beq f 57 with
  | true=>some (some (szL l<n),.nm Int (pIx l) iV)
  | false=>none
 | _=>none
def sPusC (n:Nat):Spec
 | [.f (.dt .tm l),.f (.v (.func (.func f) ⟨[]⟩ ⟨[]⟩))]=>match Nat.beq f 57 with
  | true=>some (some (szL l<n),.one (bV (decide (0≤pIx l))))
  | false=>none
 | _=>none
theorem cPusF {E:Env} (hU:Up E) {n:Nat} (h:Contract Tryd.prog E 17 (sPusN n)):Contract Tryd.prog E 57 (sPusF n):=by
 refine contract_D [(17,sPusN n)] [] Tryd.ntmps57 Tryd.func57 (by kernel_rfl) (by kernel_rfl) hU ⟨h,trivial⟩ trivial ?_
 intro xs p r hs hp
 unfold sPusF at hs
 split at hs
 · rename_i x
   split at hs
   · rename_i t ht
     cases hs
     have hn:=hp _ rfl
     refine ⟨[tmP t],[],.cons (tm_sub ht).sub .nil,rfl,fun _ hsh=>?_⟩
     refine cast_rfl (p:=(Tw.mk t.kind t.name t.neg t.digits t.kids).size<n∧∀ (z1:Bool),z1=pusT (Tw.mk t.kind t.name t.neg t.digits t.kids)→true=true∧Sub (bV (!z1)) (bV (!pusT t))) ?kr ?_
     case kr=>kernel_rfl
     refine ⟨?s0,fun z1=>fun hz1=>⟨rfl,?m0⟩⟩
     all_goals try simp only [Tw.eta] at *
     case s0=>exact hn
     case m0=>exact (subB_b (by rw [hz1])).sub
   · cases hs
 · cases hs
theorem cPusX {E:Env} (hU:Up E) {n:Nat} (h:Contract Tryd.prog E 17 (sPusN n)):Contract Tryd.prog E 111 (sPusX n):=by
 refine contract_D [(57,sPusF n)] [] Tryd.ntmps111 Tryd.func111 (by kernel_rfl) (by kernel_rfl) hU ⟨cPusF hU h,trivial⟩ trivial ?_
 intro xs p r hs hp
 unfold sPusX at hs
 split at hs
 · rename_i l f
   split at hs
   · rename_i hfn
     cases hs
     have hfn:=Nat.eq_of_beq_eq_true hfn
     subst hfn
     have hn:=hp _ rfl
     refine ⟨[.f (.dt .tm l),.f (.v (.func (.func 57) ⟨[]⟩ ⟨[]⟩))],[(2,.s ⟨Nat,fun i=>⟨[(0,.f (.dt .tm l)),(1,.f (.v (.func (.func 57) ⟨[]⟩ ⟨[]⟩))),(7,iV l.length),(8,iV i)],[]⟩,fun i=>i≤l.length∧∀ j,j<i→pusT (l.getD j Sh.tm.nil)=true,fun i=>l.length - i⟩)],.cons (.refl _) (.cons (.refl _) .nil),rfl,fun _ hsh=>?_⟩
     have hl:=short_row hsh.1
     refine cast_rfl (p:=∃ (x1:Nat),(True∧SubB (PV.f (Lf.dt Sh.tm l)) (PV.f (Lf.dt Sh.tm l))∧SubB (PV.f (Lf.v (Value.func (Fn.func 57) (Array.mk []) (Array.mk [])))) (PV.f (Lf.v (Value.func (Fn.func 57) (Array.mk []) (Array.mk []))))∧SubB (iV (↑l.length:Int)) (iV (↑l.length:Int))∧SubB (iV 0) (iV (↑x1:Int))∧True)∧(x1≤l.length∧∀ (j:Nat),j<x1→pusT (l.getD j Sh.tm.nil)=true)∧True∧∀ (z2:Nat),(z2≤l.length∧∀ (j:Nat),j<z2→pusT (l.getD j Sh.tm.nil)=true)→True→ifB (decide ((↑z2:Int)<(↑l.length:Int))) (((0:Int)≤(↑z2:Int)∧(↑z2:Int)<(↑l.length:Int))∧(Tw.mk (Tw.kind (l.getD (↑z2:Int).toNat Sh.tm.nil)) (Tw.name (l.getD (↑z2:Int).toNat Sh.tm.nil)) (Tw.neg (l.getD (↑z2:Int).toNat Sh.tm.nil)) (Tw.digits (l.getD (↑z2:Int).toNat Sh.tm.nil)) (Tw.kids (l.getD (↑z2:Int).toNat Sh.tm.nil))).size<n∧∀ (z3:Bool),z3=!pusT (Tw.mk (Tw.kind (l.getD (↑z2:Int).toNat Sh.tm.nil)) (Tw.name (l.getD (↑z2:Int).toNat Sh.tm.nil)) (Tw.neg (l.getD (↑z2:Int).toNat Sh.tm.nil)) (Tw.digits (l.getD (↑z2:Int).toNat Sh.tm.nil)) (Tw.kids (l.getD (↑z2:Int).toNat Sh.tm.nil)))→ifB z3 (true=true∧Sub (iV (↑z2:Int)) (iV (pIx l))) (∃ (x4:Nat),(True∧SubB (PV.f (Lf.dt Sh.tm l)) (PV.f (Lf.dt Sh.tm l))∧SubB (PV.f (Lf.v (Value.func (Fn.func 57) (Array.mk []) (Array.mk [])))) (PV.f (Lf.v (Value.func (Fn.func 57) (Array.mk []) (Array.mk []))))∧SubB (iV (↑l.length:Int)) (iV (↑l.length:Int))∧SubB (iV (IntKind.i64.wrap ((↑z2:Int)+(1:Int)))) (iV (↑x4:Int))∧True)∧(x4≤l.length∧∀ (j:Nat),j<x4→pusT (l.getD j Sh.tm.nil)=true)∧True∧(l.length - x4).succ.le (l.length - z2))) (true=true∧Sub (iV (-1:Int)) (iV (pIx l)))) ?kr ?_
     case kr=>kernel_rfl
     refine ⟨?x0,⟨⟨trivial,⟨.refl _,⟨.refl _,⟨.refl _,⟨?m0,trivial⟩⟩⟩⟩⟩,⟨?s0,⟨trivial,fun z2=>fun hq0=>fun _=>ifB_iff.2 ⟨fun hb1=>⟨?s1,⟨?s2,fun z3=>fun hz3=>ifB_iff.2 ⟨fun hb2=>⟨rfl,?m1⟩,fun hb2=>⟨?x1,⟨⟨trivial,⟨.refl _,⟨.refl _,⟨.refl _,⟨?m2,trivial⟩⟩⟩⟩⟩,⟨?s3,⟨trivial,?m3⟩⟩⟩⟩⟩⟩⟩,fun hb1=>⟨rfl,?m4⟩⟩⟩⟩⟩⟩
     case x0=>exact 0
     case x1=>exact z2+1
     all_goals try simp only [Tw.eta,decide_eq_true_eq,decide_eq_false_iff_not,Int.toNat_natCast] at *
     case m0=>exact .refl _
     case s0=>exact ⟨Nat.zero_le _,fun k hk=>by omega⟩
     case m4=>exact (subB_i (anyB_miss Sh.tm.nil fun j hj=>by simpa using hq0.2 j (by omega)).symm).sub
     case s1=>omega
     case s2=>have:=szL_mem (kid_mem (l:=l) (i:=z2) (by omega)); omega
     all_goals rw [hb2] at hz3
     case m1=>exact (subB_i (anyB_hit Sh.tm.nil (by omega) hz3.symm (fun j hj=>by simpa using hq0.2 j hj)).symm).sub
     case m2=>exact subB_i (by rw [wJ _ (by omega) (by omega)]; omega)
     case s3 =>
      refine ⟨by omega,fun j hj=>?_⟩
      by_cases hjz:j=z2
      · subst hjz; simpa using hz3.symm
      · exact hq0.2 j (by omega)
     case m3=>exact (by omega:l.length - (z2+1)<l.length - z2)
   · cases hs
 · cases hs
theorem cPusC {E:Env} (hU:Up E) {n:Nat} (h:Contract Tryd.prog E 17 (sPusN n)):Contract Tryd.prog E 56 (sPusC n):=by
 refine contract_D [(111,sPusX n)] [] Tryd.ntmps56 Tryd.func56 (by kernel_rfl) (by kernel_rfl) hU ⟨cPusX hU h,trivial⟩ trivial ?_
 intro xs p r hs hp
 unfold sPusC at hs
 split at hs
 · rename_i l f
   split at hs
   · rename_i hfn
     cases hs
     have hfn:=Nat.eq_of_beq_eq_true hfn
     subst hfn
     have hn:=hp _ rfl
     refine ⟨[.f (.dt .tm l),.f (.v (.func (.func 57) ⟨[]⟩ ⟨[]⟩))],[],.cons (.refl _) (.cons (.refl _) .nil),rfl,fun _ hsh=>?_⟩
     refine cast_rfl (p:=szL l<n∧∀ (z1:Int),z1=pIx l→true=true∧Sub (bV (decide (z1 ≥ (0:Int)))) (bV (decide ((0:Int)≤pIx l)))) ?kr ?_
     case kr=>kernel_rfl
     refine ⟨?s0,fun z1=>fun hz1=>⟨rfl,?m0⟩⟩
     case s0=>exact hn
     case m0=>exact (subB_b (by rw [hz1])).sub
   · cases hs
 · cases hs
theorem pus_go {t:Tw} (h:t.kind=11∨t.kind=12):pusT t=!decide (0≤pIx t.kids):=by rw [pusT_eq,if_pos h,pusL_ix]
theorem pus_lit {t:Tw} (h:¬ (t.kind=11∨t.kind=12)):pusT t=litT t:=by rw [pusT_eq,if_neg h]
theorem cPusN {E:Env} (hU:Up E):∀ n,Contract Tryd.prog E 17 (sPusN n)
 | 0=>by
  intro xs p r hs hp
  unfold sPusN at hs
  split at hs
  · split at hs
    · cases hs
      exact absurd (hp _ rfl) (Nat.not_lt_zero _)
    · cases hs
  · cases hs
 | n+1=>by
  refine contract_D [(55,sLitN (n+1)),(56,sPusC n)] [] Tryd.ntmps17 Tryd.func17 (by kernel_rfl) (by kernel_rfl) hU ⟨cLitN hU _,cPusC hU (cPusN hU n),trivial⟩ trivial ?_
  intro xs p r hs hp
  unfold sPusN at hs
  split at hs
  · rename_i x
    split at hs
    · rename_i t ht
      cases hs
      have hn:=hp _ rfl
      refine ⟨[tmP t],[],.cons (tm_sub ht).sub .nil,rfl,fun _ hsh=>?_⟩
      refine cast_rfl (p:=ifB (t.kind != (11:Int)) (ifB (t.kind != (12:Int)) ((Tw.mk t.kind t.name t.neg t.digits t.kids).size<n+1∧∀ (z1:Bool),z1=litT (Tw.mk t.kind t.name t.neg t.digits t.kids)→true=true∧Sub (bV z1) (bV (pusT t))) (szL t.kids<n∧true=true∧Sub (bV (!decide ((0:Int)≤pIx t.kids))) (bV (pusT t)))) (szL t.kids<n∧true=true∧Sub (bV (!decide ((0:Int)≤pIx t.kids))) (bV (pusT t)))) ?kr ?_
      case kr=>kernel_rfl
      refine ifB_iff.2 ⟨fun hb0=>ifB_iff.2 ⟨fun hb1=>⟨?s0,fun z1=>fun hz1=>⟨rfl,?m0⟩⟩,fun hb1=>⟨?s1,⟨rfl,?m1⟩⟩⟩,fun hb0=>⟨?s2,⟨rfl,?m2⟩⟩⟩
      all_goals try simp only [Tw.eta,bne_iff_ne,ne_eq,bne_eq_false_iff_eq] at *
      all_goals have hsz:=t.size_eq
      case s0=>exact hn
      case m0=>exact (subB_b (by rw [hz1,pus_lit (by omega)])).sub
      case s1=>omega
      case s2=>omega
      case m1=>exact (subB_b (pus_go (.inr hb1)).symm).sub
      case m2=>exact (subB_b (pus_go (.inl hb0)).symm).sub
    · cases hs
  · cases hs
def sPus:Spec
 | [z]=>match tmOf z with
  | some t=>some (none,.nm Bool (pusT t) bV)
  | none=>none
 | _=>none
theorem cPus {E:Env} (hU:Up E):Contract Tryd.prog E 17 sPus:=by
 intro xs p r hs hp
 unfold sPus at hs
 split at hs
 · rename_i x
   split at hs
   · rename_i t ht
     cases hs
     exact cPusN hU (t.size+1) [x] _ _ (by simp only [sPusN,ht]; rfl) (fun q hq=>by cases hq; exact Nat.lt_succ_self _)
   · cases hs
 · cases hs
def greatN (D:List Dat) (S:List Srt) (l:List Tw):Bool:=decide ((S.length:Int) > 300) || (decide (capD 300 D > 300) || decide (capTL 300 l > 300))
theorem greatN_no {D:List Dat} {S:List Srt} {l:List Tw} (h:greatN D S l=false):S.length≤300∧cntD D≤300∧cntTL l≤300:=by
 simp only [greatN,Bool.or_eq_false_iff,decide_eq_false_iff_not] at h
 obtain ⟨h1,h2,h3⟩:=h
 have e1:=capD_exact D 300 (by omega)
 have e3:=capTL_exact l 300 (by omega)
 omega
def sGreat7:Spec
 | [.f x,.f y,.f z]=>match dtOf .dat x,dtOf .srt y,dtOf .tm z with
  | some D,some S,some l=>some (some (cntD D≤4000000∧cntTL l≤4000000),.nm Bool (greatN D S l) bV)
  | _,_,_=>none
 | _=>none
theorem cGreat7 {E:Env} (hU:Up E):Contract Tryd.prog E 14 sGreat7:=by
 refine contract_D [(48,sDatasOf),(37,sTermsOfN 9000000)] [] Tryd.ntmps14 Tryd.func14 (by kernel_rfl) (by kernel_rfl) hU ⟨cDatasOf hU,(cCntN hU _).2,trivial⟩ trivial ?_
 intro xs p r hs hp
 unfold sGreat7 at hs
 split at hs
 · rename_i x y z
   split at hs
   · rename_i D S l h1 h2 h3
     cases hs
     obtain ⟨hD,hl⟩:=hp _ rfl
     refine ⟨[.f (.dt .dat D),.f (.dt .srt S),.f (.dt .tm l)],[],.cons (dt_sub h1).sub (.cons (dt_sub h2).sub (.cons (dt_sub h3).sub .nil)),rfl,fun _ hsh=>?_⟩
     refine cast_rfl (p:=ifB (decide ((↑S.length:Int) > (300:Int))) (true=true∧Sub (bV true) (bV (greatN D S l))) ((cntD D≤4000000∧(0:Int)≤(300:Int)∧(300:Int)≤(4000000:Int))∧∀ (z1:Int),z1=capD (300:Int) D→ifB (decide (z1 > (300:Int))) (true=true∧Sub (bV true) (bV (greatN D S l))) ((2 * szL l+1<9000000∧cntTL l≤4000000∧(-1:Int)≤(300:Int)∧(300:Int)≤(4000000:Int))∧∀ (z2:Int),z2=capTL (300:Int) l→true=true∧Sub (bV (decide (z2 > (300:Int)))) (bV (greatN D S l))))) ?kr ?_
     case kr=>kernel_rfl
     refine ifB_iff.2 ⟨fun hb0=>⟨rfl,?m0⟩,fun hb0=>⟨?s0,fun z1=>fun hz1=>ifB_iff.2 ⟨fun hb1=>⟨rfl,?m1⟩,fun hb1=>⟨?s1,fun z2=>fun hz2=>⟨rfl,?m2⟩⟩⟩⟩⟩
     all_goals try simp only [decide_eq_true_eq,decide_eq_false_iff_not] at *
     case m0=>exact (subB_b (by unfold greatN; rw [decide_eq_true hb0]; rfl)).sub
     case s0=>exact ⟨hD,by omega,by omega⟩
     case m1=>exact (subB_b (by unfold greatN; rw [← hz1,decide_eq_false hb0,decide_eq_true hb1]; rfl)).sub
     case s1=>have hsz:=cntTL_size l; exact ⟨by omega,hl,by omega,by omega⟩
     case m2=>exact (subB_b (by unfold greatN; rw [← hz1,← hz2,decide_eq_false hb0,decide_eq_false hb1]; rfl)).sub
   · cases hs
 · cases hs
theorem norm_inv {D:List Dat} {S:List Srt} {t:Tw} {is:Bool} {z:Except Int Tw} (hz:z=normE D S t is) (h:errE z=0):sortT D S t=.ok bBool∧normE D S t is=.ok (pushT D S t is):=by
 subst hz
 unfold normE at h ⊢
 split at h
 · rename_i e he
   exact absurd h (sortT_err he)
 · rename_i s he
   split at h
   · exact absurd h (by decide)
   · rename_i hb
     obtain rfl:s=bBool:=Classical.byContradiction hb
     split at h
     · exact absurd h (by decide)
     · rename_i hg
       rw [if_neg (fun c=>c rfl),if_neg hg]
       exact ⟨he,rfl⟩
end Go.Proofs.YtdjnlgkpnjdchaaDoor
