/- The law NormSound: what a formula is pushed to comes to what it must. -/
import Derived.Test.YtpjjdngoblfleaaGreatNx
import Derived.Test.YtpjjdngoblfleaaGreatMi
import Derived.Test.YtpjjdngoblfleaaGreatCn
import Derived.Test.YtpjjdngoblfleaaGreatGd
namespace Go.Proofs.YtpjjdngoblfleaaGreat
open Go.RowKit
set_option linter.unusedVariables false
set_option maxRecDepth 100000
theorem bigT_conT {k:Int} (h:¬ (k=2∨k=5∨k=6∨k=7)) (l:List Tw):bigT (conT k l)=bigM l:=by
 show (if _ then _ else 0)+bigM l=bigM l
 rw [if_neg h,Nat.zero_add]
theorem bigM_getD (l:List Tw) (i:Nat):bigT (l.getD i Sh.tm.nil)≤bigM l:=by
 by_cases h:i<l.length
 · exact bigM_at _ h
 · rw [List.getD_eq_getElem?_getD,List.getElem?_eq_none (by omega)]
   exact Nat.zero_le _
theorem bigT_above (a b:Tw):bigT (aboveT a b)≤max (bigT a) (bigT b)+3:=by
 have h:bigT oneT=2:=by
  show (if _ then _ else 0)+bigM []=2
  rw [show digs 1000000000 (1:Int).natAbs=[1] from by decide]; rfl
 unfold aboveT
 rw [bigT_conT (by decide)]
 have h5:bigT (conT 5 [a,oneT])=1+bigM [a,oneT]:=rfl
 simp only [bigM,h5,h]
 omega
mutual
theorem push_big {D:List Dat} {S:List Srt}:∀ (t:Tw) (is:Bool),bigT (pushT D S t is)≤bigT t+3
 | .mk k n b d l,is=>by
  have h1:=fun is=>pushL_big (D:=D) (S:=S) l is
  have h2:bigM l≤bigT (.mk k n b d l):=bigM_kids (.mk k n b d l)
  have hg:=fun is i=>bigM_getD (pushL D S l is) i
  rw [pushT]
  split
  · rw [bigT_conT (by split <;> decide)]
    exact Nat.zero_le _
  split
  · have:=hg (!is) 0
    have:=h1 (!is)
    omega
  split
  · have a:=h1 true
    have b:=h1 false
    have a0:=hg true 0
    have a1:=hg true 1
    have b0:=hg false 0
    have b1:=hg false 1
    cases is <;> simp only [iffT,bigT_conT (k:=11) (by decide),bigT_conT (k:=12) (by decide),bigM] <;> omega
  split
  · rw [bigT_conT (by split <;> decide)]
    have:=h1 is
    omega
  split
  · omega
  · unfold deniedT
    have k0:=bigM_getD l 0
    have k1:=bigM_getD l 1
    have e0:kidT (.mk k n b d l) 0=l.getD 0 Sh.tm.nil:=rfl
    have e1:kidT (.mk k n b d l) 1=l.getD 1 Sh.tm.nil:=rfl
    have a1:=bigT_above (l.getD 1 Sh.tm.nil) (l.getD 0 Sh.tm.nil)
    have a2:=bigT_above (l.getD 0 Sh.tm.nil) (l.getD 1 Sh.tm.nil)
    split
    · rw [e0,e1]; omega
    split
    · rw [e0,e1,bigT_conT (by decide)]
      simp only [bigM]
      omega
    · rw [bigT_conT (by decide)]
      simp only [bigM]
      omega
theorem pushL_big {D:List Dat} {S:List Srt}:∀ (l:List Tw) (is:Bool),bigM (pushL D S l is)≤bigM l+3
 | [],is=>by rw [pushL]; exact Nat.zero_le _
 | t::l,is=>by
  have:=push_big (D:=D) (S:=S) t is
  have:=pushL_big (D:=D) (S:=S) l is
  rw [pushL,bigM,bigM]
  omega
end
def u8Of:Lf→Option (List Int)
 | .is .u8 l=>some l
 | .row 1 M=>intsOf .u8 M
 | _=>none
theorem u8Of_sub {x:Lf} {l:List Int} (h:u8Of x=some l):SubB (.f x) (.f (.is .u8 l)):=by
 unfold u8Of at h
 split at h
 · cases h; exact .refl _
 · rename_i M
   obtain ⟨h1,h2⟩:=intsOf_at h
   exact ⟨fun H B v hv=>.f (rd_view (f:=.row 1 M) (f':=.is .u8 l) (k:=1) (n:=M.length) (get:=fun i=>M.getD i []) rfl (by rw [Lf.view,h1]) trivial (Nat.le_refl _) (fun i hi=>(h2 i hi).symm) hv.rd)⟩
 · cases h
def kIx (l:List Int) (k:Int):Int:=anyB l fun x=>decide (x=k)
def sIxK:Spec
 | [.f x,.f (.v (.int .u8 k))]=>match u8Of x with
  | some l=>some (none,.one (iV (kIx l k)))
  | none=>none
 | _=>none
theorem cIxK {E:Env} (hU:Up E):Contract Tryz.prog E 127 sIxK:=by
 refine contract_D [] [] Tryz.ntmps127 Tryz.func127 (by kernel_rfl) (by kernel_rfl) hU trivial trivial ?_
 intro xs p r hs hp
 unfold sIxK at hs
 split at hs
 · rename_i x k
   split at hs
   · rename_i l hx
     cases hs
     refine ⟨[.f (.is .u8 l),.f (.v (.int .u8 k))],[(2,.s ⟨Nat,fun i=>⟨[(0,.f (.is .u8 l)),(1,.f (.v (.int .u8 k))),(7,iV l.length),(8,iV i)],[]⟩,fun i=>i≤l.length∧∀ j,j<i→¬ (l.getD j 0=k),fun i=>l.length - i⟩)],.cons (u8Of_sub hx).sub (.cons (.refl _) .nil),rfl,fun _ hsh=>?_⟩
     have hlen:=short_is hsh.1
     refine cast_rfl (p:=∃ (x1:Nat),(True∧SubB (PV.f (Lf.is IntKind.u8 l)) (PV.f (Lf.is IntKind.u8 l))∧SubB (PV.f (Lf.v (Value.int IntKind.u8 k))) (PV.f (Lf.v (Value.int IntKind.u8 k)))∧SubB (iV (↑l.length:Int)) (iV (↑l.length:Int))∧SubB (iV 0) (iV (↑x1:Int))∧True)∧(x1≤l.length∧∀ (j:Nat),j<x1→¬l.getD j (0:Int)=k)∧True∧∀ (z2:Nat),(z2≤l.length∧∀ (j:Nat),j<z2→¬l.getD j (0:Int)=k)→True→ifB (decide ((↑z2:Int)<(↑l.length:Int))) (((0:Int)≤(↑z2:Int)∧(↑z2:Int)<(↑l.length:Int))∧ifB (k==l.getD (↑z2:Int).toNat (0:Int)) (true=true∧Sub (iV (↑z2:Int)) (iV (kIx l k))) (∃ (x3:Nat),(True∧SubB (PV.f (Lf.is IntKind.u8 l)) (PV.f (Lf.is IntKind.u8 l))∧SubB (PV.f (Lf.v (Value.int IntKind.u8 k))) (PV.f (Lf.v (Value.int IntKind.u8 k)))∧SubB (iV (↑l.length:Int)) (iV (↑l.length:Int))∧SubB (iV (IntKind.i64.wrap ((↑z2:Int)+(1:Int)))) (iV (↑x3:Int))∧True)∧(x3≤l.length∧∀ (j:Nat),j<x3→¬l.getD j (0:Int)=k)∧True∧(l.length - x3).succ.le (l.length - z2))) (true=true∧Sub (iV (-1:Int)) (iV (kIx l k)))) ?kr ?_
     case kr=>kernel_rfl
     refine ⟨?x0,⟨⟨trivial,⟨.refl _,⟨.refl _,⟨.refl _,⟨?m0,trivial⟩⟩⟩⟩⟩,⟨?s0,⟨trivial,fun z2=>fun hq0=>fun _=>ifB_iff.2 ⟨fun hb1=>⟨?s1,ifB_iff.2 ⟨fun hb2=>⟨rfl,?m1⟩,fun hb2=>⟨?x1,⟨⟨trivial,⟨.refl _,⟨.refl _,⟨.refl _,⟨?m2,trivial⟩⟩⟩⟩⟩,⟨?s2,⟨trivial,?m3⟩⟩⟩⟩⟩⟩,fun hb1=>⟨rfl,?m4⟩⟩⟩⟩⟩⟩
     case x0=>exact 0
     case x1=>exact z2+1
     all_goals try simp only [decide_eq_true_eq,decide_eq_false_iff_not,beq_iff_eq,beq_eq_false_iff_ne,ne_eq,Int.toNat_natCast] at *
     case m0=>exact .refl _
     case s0=>exact ⟨Nat.zero_le _,fun k hk=>by omega⟩
     case s1=>omega
     case m1=>exact (subB_i (anyB_hit 0 (by omega) (by simpa using hb2.symm) (fun j hj=>by simpa using hq0.2 j hj)).symm).sub
     case m2=>exact subB_i (by rw [wJ _ (by omega) (by omega)]; omega)
     case s2 =>
      refine ⟨by omega,fun j hj=>?_⟩
      by_cases hjz:j=z2
      · subst hjz; exact fun h=>hb2 h.symm
      · exact hq0.2 j (by omega)
     case m3=>exact (by omega:l.length - (z2+1)<l.length - z2)
     case m4=>exact (subB_i (anyB_miss 0 fun j hj=>by simpa using hq0.2 j (by omega)).symm).sub
   · cases hs
 · cases hs
def sHasK:Spec
 | [.f x,.f (.v (.int .u8 k))]=>match u8Of x with
  | some l=>some (none,.one (bV (decide (0≤kIx l k))))
  | none=>none
 | _=>none
theorem cHasK {E:Env} (hU:Up E):Contract Tryz.prog E 105 sHasK:=by
 refine contract_D [(127,sIxK)] [] Tryz.ntmps105 Tryz.func105 (by kernel_rfl) (by kernel_rfl) hU ⟨cIxK hU,trivial⟩ trivial ?_
 intro xs p r hs hp
 unfold sHasK at hs
 split at hs
 · rename_i x k
   split at hs
   · rename_i l hx
     cases hs
     refine ⟨[.f (.is .u8 l),.f (.v (.int .u8 k))],[],.cons (u8Of_sub hx).sub (.cons (.refl _) .nil),rfl,fun _ hsh=>?_⟩
     refine cast_rfl (p:=true=true∧Sub (bV (decide (kIx l k ≥ (0:Int)))) (bV (decide ((0:Int)≤kIx l k)))) ?kr ?_
     case kr=>kernel_rfl
     refine ⟨rfl,?m0⟩
     case m0=>exact .refl _
   · cases hs
 · cases hs
theorem kIx_iff (k:Int):0≤kIx [1,7,8] k↔(k=1∨k=7∨k=8):=by
 constructor
 · intro h
   obtain ⟨x,hx,hk⟩:=anyB_get h
   obtain rfl:=of_decide_eq_true hk
   simpa using hx
 · intro h
   exact anyB_of (x:=k) (by rcases h with h | h | h <;> subst h <;> decide) (decide_eq_true rfl)
theorem lit_ten {t:Tw} (h:t.kind=10):litT t=(decide (t.kids.length=1) && litH t.kids):=by rw [litT_eq,if_pos h]
theorem lit_not10 {t:Tw} (h:¬ t.kind=10):litT t=((litM t.kind).2 && decide ((t.kids.length:Int)=(litM t.kind).1)):=by rw [litT_eq,if_neg h]
theorem litH_one {l:List Tw} (h:l.length=1):litH l=(decide (0≤kIx [1,7,8] (Tw.kind (l.getD 0 Sh.tm.nil))) && litT (l.getD 0 Sh.tm.nil)):=by
 obtain ⟨a,rfl⟩:=one_kid h
 rw [litH]
 congr 1
 exact decide_eq_decide.2 (kIx_iff _).symm
def sLitN (n:Nat):Spec
 | [z]=>match tmOf z with
  | some t=>some (some (t.size<n),.nm Bool (litT t) bV)
  | none=>none
 | _=>none
theorem cLitN {E:Env} (hU:Up E):∀ n,Contract Tryz.prog E 59 (sLitN n)
 | 0=>by
  intro xs p r hs hp
  unfold sLitN at hs
  split at hs
  · split at hs
    · cases hs
      exact absurd (hp _ rfl) (Nat.not_lt_zero _)
    · cases hs
  · cases hs
 | n+1=>by
  refine contract_D [(105,sHasK),(59,sLitN n)] [] Tryz.ntmps59 Tryz.func59 (by kernel_rfl) (by kernel_rfl) hU ⟨cHasK hU,cLitN hU n,trivial⟩ trivial ?_
  intro xs p r hs hp
  unfold sLitN at hs
  split at hs
  · rename_i x
    split at hs
    · rename_i t ht
      cases hs
      have hn:=hp _ rfl
      refine ⟨[tmP t],[],.cons (tm_sub ht).sub .nil,rfl,fun _ hsh=>?_⟩
      refine cast_rfl (p:=(∀ (z1:(Kt.int IntKind.u8).T),false=false)∧∀ (z1:Int × Bool),z1=lookN (Kt.int IntKind.u8) t.kind (0:Int) [(8:Int),(9:Int),(7:Int),(1:Int),(4:Int),(3:Int)] [(2:Int),(2:Int),(1:Int),(0:Int),(0:Int),(0:Int)]→ifB (t.kind != (10:Int)) (ifB z1.snd (true=true∧Sub (bV ((↑t.kids.length:Int)==z1.fst)) (bV (litT t))) (true=true∧Sub (bV false) (bV (litT t)))) (ifB ((↑t.kids.length:Int)==(1:Int)) (((0:Int)≤(0:Int)∧(0:Int)<(↑t.kids.length:Int))∧ifB (decide ((0:Int)≤kIx [(1:Int),(7:Int),(8:Int)] (Tw.kind (t.kids.getD (Int.toNat (0:Int)) Sh.tm.nil)))) (((0:Int)≤(0:Int)∧(0:Int)<(↑t.kids.length:Int))∧(Tw.mk (Tw.kind (t.kids.getD (Int.toNat (0:Int)) Sh.tm.nil)) (Tw.name (t.kids.getD (Int.toNat (0:Int)) Sh.tm.nil)) (Tw.neg (t.kids.getD (Int.toNat (0:Int)) Sh.tm.nil)) (Tw.digits (t.kids.getD (Int.toNat (0:Int)) Sh.tm.nil)) (Tw.kids (t.kids.getD (Int.toNat (0:Int)) Sh.tm.nil))).size<n∧∀ (z2:Bool),z2=litT (Tw.mk (Tw.kind (t.kids.getD (Int.toNat (0:Int)) Sh.tm.nil)) (Tw.name (t.kids.getD (Int.toNat (0:Int)) Sh.tm.nil)) (Tw.neg (t.kids.getD (Int.toNat (0:Int)) Sh.tm.nil)) (Tw.digits (t.kids.getD (Int.toNat (0:Int)) Sh.tm.nil)) (Tw.kids (t.kids.getD (Int.toNat (0:Int)) Sh.tm.nil)))→true=true∧Sub (bV z2) (bV (litT t))) (true=true∧Sub (bV false) (bV (litT t)))) (true=true∧Sub (bV false) (bV (litT t))))) ?kr ?_
      case kr=>kernel_rfl
      refine ⟨fun z1=>rfl,fun z1=>fun hz1=>ifB_iff.2 ⟨fun hb0=>ifB_iff.2 ⟨fun hb1=>⟨rfl,?m0⟩,fun hb1=>⟨rfl,?m1⟩⟩,fun hb0=>ifB_iff.2 ⟨fun hb2=>⟨?s0,ifB_iff.2 ⟨fun hb3=>⟨?s1,⟨?s2,fun z2=>fun hz2=>⟨rfl,?m2⟩⟩⟩,fun hb3=>⟨rfl,?m3⟩⟩⟩,fun hb2=>⟨rfl,?m4⟩⟩⟩⟩
      all_goals try simp only [Tw.eta,bne_iff_ne,ne_eq,bne_eq_false_iff_eq,beq_iff_eq,beq_eq_false_iff_ne,decide_eq_true_eq,decide_eq_false_iff_not] at *
      all_goals have hz:z1=litM t.kind:=hz1
      case m0=>exact (subB_b (by rw [lit_not10 hb0,← hz,hb1]; rfl)).sub
      case m1=>exact (subB_b (by rw [lit_not10 hb0,← hz,hb1]; rfl)).sub
      case s0=>omega
      case s1=>omega
      case s2 =>
       have h1:=szL_mem (kid_mem (l:=t.kids) (i:=0) (by omega))
       have h2:=t.size_eq
       show (t.kids.getD 0 Sh.tm.nil).size<n
       omega
      case m2 =>
       have hl:t.kids.length=1:=by omega
       have h3:decide (0≤kIx [1,7,8] (Tw.kind (t.kids.getD 0 Sh.tm.nil)))=true:=decide_eq_true hb3
       exact (subB_b (by rw [hz2,lit_ten hb0,litH_one hl,decide_eq_true hl,h3]; rfl)).sub
      case m3 =>
       have hl:t.kids.length=1:=by omega
       have h3:decide (0≤kIx [1,7,8] (Tw.kind (t.kids.getD 0 Sh.tm.nil)))=false:=decide_eq_false hb3
       exact (subB_b (by rw [lit_ten hb0,litH_one hl,decide_eq_true hl,h3]; rfl)).sub
      case m4=>exact (subB_b (by rw [lit_ten hb0,decide_eq_false (by omega)]; rfl)).sub
    · cases hs
  · cases hs
def pIx (l:List Tw):Int:=anyB l fun t=>!pusT t
theorem pusL_ix (l:List Tw):pusL l=!decide (0≤pIx l):=by
 have h:∀ l:List Tw,pusL l=true↔∀ a∈l,pusT a=true:=by
  intro l
  induction l with
  | nil=>simp [pusL]
  | cons a l ih=>simp [pusL,ih]
 cases hp:pusL l with
 | true =>
  have hp:=(h l).1 hp
  have:¬ 0≤pIx l:=fun hi=>by
   obtain ⟨x,hx,h1⟩:=anyB_get hi
   rw [hp x hx] at h1; cases h1
  rw [decide_eq_false this]; rfl
 | false =>
  have:0≤pIx l:=Classical.byContradiction fun hi=>by
   have:pusL l=true:=(h l).2 fun a ha=>Classical.byContradiction fun hn=>hi (anyB_of ha (by simpa using hn))
   rw [hp] at this; cases this
  rw [decide_eq_true this]; rfl
def sPusN (n:Nat):Spec
 | [z]=>match tmOf z with
  | some t=>some (some (t.size<n),.nm Bool (pusT t) bV)
  | none=>none
 | _=>none
def sPusF (n:Nat):Spec
 | [z]=>match tmOf z with
  | some t=>some (some (t.size<n),.nm Bool (!pusT t) bV)
  | none=>none
 | _=>none
def sPusX (n:Nat):Spec
 | [.f (.dt .tm l),.f (.v (.func (.func f) ⟨[]⟩ ⟨[]⟩))]=>match Nat.beq f 61 with
  | true=>some (some (szL l<n),.nm Int (pIx l) iV)
  | false=>none
 | _=>none
def sPusC (n:Nat):Spec
 | [.f (.dt .tm l),.f (.v (.func (.func f) ⟨[]⟩ ⟨[]⟩))]=>match Nat.beq f 61 with
  | true=>some (some (szL l<n),.one (bV (decide (0≤pIx l))))
  | false=>none
 | _=>none
theorem cPusF {E:Env} (hU:Up E) {n:Nat} (h:Contract Tryz.prog E 17 (sPusN n)):Contract Tryz.prog E 61 (sPusF n):=by
 refine contract_D [(17,sPusN n)] [] Tryz.ntmps61 Tryz.func61 (by kernel_rfl) (by kernel_rfl) hU ⟨h,trivial⟩ trivial ?_
 intro xs p r hs hp
 unfold sPusF at hs
 split at hs
 · rename_i x
   split at hs
   · rename_i t ht
     cases hs
     have hn:=hp _ rfl
     refine ⟨[tmP t],[],.cons (tm_sub ht).sub .nil,rfl,fun _ hsh=>?_⟩
     refine cast_rfl (p:=(Tw.mk t.kind t.name t.neg t.digits t.kids).size<n∧∀ (z1:Bool),z1=pusT (Tw.mk t.kind t.name t.neg t.digits t.kids)→true=true∧Sub (bV (!z1)) (bV (!pusT t))) ?kr ?_
     case kr=>kernel_rfl
     refine ⟨?s0,fun z1=>fun hz1=>⟨rfl,?m0⟩⟩
     all_goals try simp only [Tw.eta] at *
     case s0=>exact hn
     case m0=>exact (subB_b (by rw [hz1])).sub
   · cases hs
 · cases hs
theorem cPusX {E:Env} (hU:Up E) {n:Nat} (h:Contract Tryz.prog E 17 (sPusN n)):Contract Tryz.prog E 106 (sPusX n):=by
 refine contract_D [(61,sPusF n)] [] Tryz.ntmps106 Tryz.func106 (by kernel_rfl) (by kernel_rfl) hU ⟨cPusF hU h,trivial⟩ trivial ?_
 intro xs p r hs hp
 unfold sPusX at hs
 split at hs
 · rename_i l f
   split at hs
   · rename_i hfn
     cases hs
     have hfn:=Nat.eq_of_beq_eq_true hfn
     subst hfn
     have hn:=hp _ rfl
     refine ⟨[.f (.dt .tm l),.f (.v (.func (.func 61) ⟨[]⟩ ⟨[]⟩))],[(2,.s ⟨Nat,fun i=>⟨[(0,.f (.dt .tm l)),(1,.f (.v (.func (.func 61) ⟨[]⟩ ⟨[]⟩))),(7,iV l.length),(8,iV i)],[]⟩,fun i=>i≤l.length∧∀ j,j<i→pusT (l.getD j Sh.tm.nil)=true,fun i=>l.length - i⟩)],.cons (.refl _) (.cons (.refl _) .nil),rfl,fun _ hsh=>?_⟩
     have hl:=short_row hsh.1
     refine cast_rfl (p:=∃ (x1:Nat),(True∧SubB (PV.f (Lf.dt Sh.tm l)) (PV.f (Lf.dt Sh.tm l))∧SubB (PV.f (Lf.v (Value.func (Fn.func 61) (Array.mk []) (Array.mk [])))) (PV.f (Lf.v (Value.func (Fn.func 61) (Array.mk []) (Array.mk []))))∧SubB (iV (↑l.length:Int)) (iV (↑l.length:Int))∧SubB (iV 0) (iV (↑x1:Int))∧True)∧(x1≤l.length∧∀ (j:Nat),j<x1→pusT (l.getD j Sh.tm.nil)=true)∧True∧∀ (z2:Nat),(z2≤l.length∧∀ (j:Nat),j<z2→pusT (l.getD j Sh.tm.nil)=true)→True→ifB (decide ((↑z2:Int)<(↑l.length:Int))) (((0:Int)≤(↑z2:Int)∧(↑z2:Int)<(↑l.length:Int))∧(Tw.mk (Tw.kind (l.getD (↑z2:Int).toNat Sh.tm.nil)) (Tw.name (l.getD (↑z2:Int).toNat Sh.tm.nil)) (Tw.neg (l.getD (↑z2:Int).toNat Sh.tm.nil)) (Tw.digits (l.getD (↑z2:Int).toNat Sh.tm.nil)) (Tw.kids (l.getD (↑z2:Int).toNat Sh.tm.nil))).size<n∧∀ (z3:Bool),z3=!pusT (Tw.mk (Tw.kind (l.getD (↑z2:Int).toNat Sh.tm.nil)) (Tw.name (l.getD (↑z2:Int).toNat Sh.tm.nil)) (Tw.neg (l.getD (↑z2:Int).toNat Sh.tm.nil)) (Tw.digits (l.getD (↑z2:Int).toNat Sh.tm.nil)) (Tw.kids (l.getD (↑z2:Int).toNat Sh.tm.nil)))→ifB z3 (true=true∧Sub (iV (↑z2:Int)) (iV (pIx l))) (∃ (x4:Nat),(True∧SubB (PV.f (Lf.dt Sh.tm l)) (PV.f (Lf.dt Sh.tm l))∧SubB (PV.f (Lf.v (Value.func (Fn.func 61) (Array.mk []) (Array.mk [])))) (PV.f (Lf.v (Value.func (Fn.func 61) (Array.mk []) (Array.mk []))))∧SubB (iV (↑l.length:Int)) (iV (↑l.length:Int))∧SubB (iV (IntKind.i64.wrap ((↑z2:Int)+(1:Int)))) (iV (↑x4:Int))∧True)∧(x4≤l.length∧∀ (j:Nat),j<x4→pusT (l.getD j Sh.tm.nil)=true)∧True∧(l.length - x4).succ.le (l.length - z2))) (true=true∧Sub (iV (-1:Int)) (iV (pIx l)))) ?kr ?_
     case kr=>kernel_rfl
     refine ⟨?x0,⟨⟨trivial,⟨.refl _,⟨.refl _,⟨.refl _,⟨?m0,trivial⟩⟩⟩⟩⟩,⟨?s0,⟨trivial,fun z2=>fun hq0=>fun _=>ifB_iff.2 ⟨fun hb1=>⟨?s1,⟨?s2,fun z3=>fun hz3=>ifB_iff.2 ⟨fun hb2=>⟨rfl,?m1⟩,fun hb2=>⟨?x1,⟨⟨trivial,⟨.refl _,⟨.refl _,⟨.refl _,⟨?m2,trivial⟩⟩⟩⟩⟩,⟨?s3,⟨trivial,?m3⟩⟩⟩⟩⟩⟩⟩,fun hb1=>⟨rfl,?m4⟩⟩⟩⟩⟩⟩
     case x0=>exact 0
     case x1=>exact z2+1
     all_goals try simp only [Tw.eta,decide_eq_true_eq,decide_eq_false_iff_not,Int.toNat_natCast] at *
     case m0=>exact .refl _
     case s0=>exact ⟨Nat.zero_le _,fun k hk=>by omega⟩
     case m4=>exact (subB_i (anyB_miss Sh.tm.nil fun j hj=>by simpa using hq0.2 j (by omega)).symm).sub
     case s1=>omega
     case s2=>have:=szL_mem (kid_mem (l:=l) (i:=z2) (by omega)); omega
     all_goals rw [hb2] at hz3
     case m1=>exact (subB_i (anyB_hit Sh.tm.nil (by omega) hz3.symm (fun j hj=>by simpa using hq0.2 j hj)).symm).sub
     case m2=>exact subB_i (by rw [wJ _ (by omega) (by omega)]; omega)
     case s3 =>
      refine ⟨by omega,fun j hj=>?_⟩
      by_cases hjz:j=z2
      · subst hjz; simpa using hz3.symm
      · exact hq0.2 j (by omega)
     case m3=>exact (by omega:l.length - (z2+1)<l.length - z2)
   · cases hs
 · cases hs
theorem cPusC {E:Env} (hU:Up E) {n:Nat} (h:Contract Tryz.prog E 17 (sPusN n)):Contract Tryz.prog E 60 (sPusC n):=by
 refine contract_D [(106,sPusX n)] [] Tryz.ntmps60 Tryz.func60 (by kernel_rfl) (by kernel_rfl) hU ⟨cPusX hU h,trivial⟩ trivial ?_
 intro xs p r hs hp
 unfold sPusC at hs
 split at hs
 · rename_i l f
   split at hs
   · rename_i hfn
     cases hs
     have hfn:=Nat.eq_of_beq_eq_true hfn
     subst hfn
     have hn:=hp _ rfl
     refine ⟨[.f (.dt .tm l),.f (.v (.func (.func 61) ⟨[]⟩ ⟨[]⟩))],[],.cons (.refl _) (.cons (.refl _) .nil),rfl,fun _ hsh=>?_⟩
     refine cast_rfl (p:=szL l<n∧∀ (z1:Int),z1=pIx l→true=true∧Sub (bV (decide (z1 ≥ (0:Int)))) (bV (decide ((0:Int)≤pIx l)))) ?kr ?_
     case kr=>kernel_rfl
     refine ⟨?s0,fun z1=>fun hz1=>⟨rfl,?m0⟩⟩
     case s0=>exact hn
     case m0=>exact (subB_b (by rw [hz1])).sub
   · cases hs
 · cases hs
theorem pus_go {t:Tw} (h:t.kind=11∨t.kind=12):pusT t=!decide (0≤pIx t.kids):=by rw [pusT_eq,if_pos h,pusL_ix]
theorem pus_lit {t:Tw} (h:¬ (t.kind=11∨t.kind=12)):pusT t=litT t:=by rw [pusT_eq,if_neg h]
theorem cPusN {E:Env} (hU:Up E):∀ n,Contract Tryz.prog E 17 (sPusN n)
 | 0=>by
  intro xs p r hs hp
  unfold sPusN at hs
  split at hs
  · split at hs
    · cases hs
      exact absurd (hp _ rfl) (Nat.not_lt_zero _)
    · cases hs
  · cases hs
 | n+1=>by
  refine contract_D [(59,sLitN (n+1)),(60,sPusC n)] [] Tryz.ntmps17 Tryz.func17 (by kernel_rfl) (by kernel_rfl) hU ⟨cLitN hU _,cPusC hU (cPusN hU n),trivial⟩ trivial ?_
  intro xs p r hs hp
  unfold sPusN at hs
  split at hs
  · rename_i x
    split at hs
    · rename_i t ht
      cases hs
      have hn:=hp _ rfl
      refine ⟨[tmP t],[],.cons (tm_sub ht).sub .nil,rfl,fun _ hsh=>?_⟩
      refine cast_rfl (p:=ifB (t.kind != (11:Int)) (ifB (t.kind != (12:Int)) ((Tw.mk t.kind t.name t.neg t.digits t.kids).size<n+1∧∀ (z1:Bool),z1=litT (Tw.mk t.kind t.name t.neg t.digits t.kids)→true=true∧Sub (bV z1) (bV (pusT t))) (szL t.kids<n∧true=true∧Sub (bV (!decide ((0:Int)≤pIx t.kids))) (bV (pusT t)))) (szL t.kids<n∧true=true∧Sub (bV (!decide ((0:Int)≤pIx t.kids))) (bV (pusT t)))) ?kr ?_
      case kr=>kernel_rfl
      refine ifB_iff.2 ⟨fun hb0=>ifB_iff.2 ⟨fun hb1=>⟨?s0,fun z1=>fun hz1=>⟨rfl,?m0⟩⟩,fun hb1=>⟨?s1,⟨rfl,?m1⟩⟩⟩,fun hb0=>⟨?s2,⟨rfl,?m2⟩⟩⟩
      all_goals try simp only [Tw.eta,bne_iff_ne,ne_eq,bne_eq_false_iff_eq] at *
      all_goals have hsz:=t.size_eq
      case s0=>exact hn
      case m0=>exact (subB_b (by rw [hz1,pus_lit (by omega)])).sub
      case s1=>omega
      case s2=>omega
      case m1=>exact (subB_b (pus_go (.inr hb1)).symm).sub
      case m2=>exact (subB_b (pus_go (.inl hb0)).symm).sub
    · cases hs
  · cases hs
def sPus:Spec
 | [z]=>match tmOf z with
  | some t=>some (none,.nm Bool (pusT t) bV)
  | none=>none
 | _=>none
theorem cPus {E:Env} (hU:Up E):Contract Tryz.prog E 17 sPus:=by
 intro xs p r hs hp
 unfold sPus at hs
 split at hs
 · rename_i x
   split at hs
   · rename_i t ht
     cases hs
     exact cPusN hU (t.size+1) [x] _ _ (by simp only [sPusN,ht]; rfl) (fun q hq=>by cases hq; exact Nat.lt_succ_self _)
   · cases hs
 · cases hs
noncomputable def sEvalA:Spec2
 | [.f (.dt .dat D),.f (.dt .bnd B),x],[]=>match tmOf x with
  | some t=>some (.need ((t.fitT∧bigT t≤9000)∧fitB 1100000 B∧fitD D) (.nm (Except Int Vw) (evalT D B t) fun z=>.ret (.tup [vlP (valE z0V z),iV (errE z)]) []))
  | none=>none
 | _,_=>none
theorem cEvalA {E:Env} (hU:Up E):Contract2 Tryz.prog E 13 sEvalA:=by
 intro xs ob o hs hok
 unfold sEvalA at hs
 split at hs
 · rename_i D B x
   split at hs
   · rename_i t ht
     cases hs
     have h1:sEvalN (t.size+1) [.f (.dt .dat D),.f (.dt .bnd B),x] []=some (.need (t.size<t.size+1∧(t.fitT∧bigT t≤9000)∧fitB 1100000 B∧fitD D) (.nm (Except Int Vw) (evalT D B t) fun z=>.ret (.tup [vlP (valE z0V z),iV (errE z)]) [])):=by simp only [sEvalN,ht]
     have h2:=cEvalN hU _ _ _ _ h1 ⟨⟨Nat.lt_succ_self _,hok.1⟩,hok.2⟩
     exact h2
   · cases hs
 · cases hs
theorem cOf7 {E:Env} (hU:Up E):Contract Tryz.prog E 8 sOfM:=by
 refine contract_D [(26,sOfM)] [] Tryz.ntmps8 Tryz.func8 (by kernel_rfl) (by kernel_rfl) hU ⟨cOfM hU,trivial⟩ trivial ?_
 intro xs p r hs hp
 unfold sOfM at hs
 split at hs
 · rename_i D s x
   split at hs
   · rename_i v hv
     cases hs
     have hf:=hp _ rfl
     refine ⟨[.f (.dt .dat D),.f (.v (.string s)),vlP v],[],.cons (.refl _) (.cons (.refl _) (.cons (vl_sub hv).sub .nil)),rfl,fun _ hsh=>?_⟩
     refine cast_rfl (p:=Vw.fitV 40000000 (Vw.mk v.kind v.neg v.digits v.truth v.name v.fields)∧∀ (z1:Bool),z1=ofV D s (Vw.mk v.kind v.neg v.digits v.truth v.name v.fields)→true=true∧Sub (bV z1) (bV (ofV D s v))) ?kr ?_
     case kr=>kernel_rfl
     refine ⟨?s0,fun z1=>fun hz1=>⟨rfl,?m0⟩⟩
     all_goals try simp only [Vw.eta] at *
     case s0=>exact hf
     case m0=>exact (subB_b hz1).sub
   · cases hs
 · cases hs
def greatN (D:List Dat) (S:List Srt) (l:List Tw):Bool:=decide ((S.length:Int) > 300) || (decide (capD 300 D > 300) || decide (capTL 300 l > 300))
theorem greatN_no {D:List Dat} {S:List Srt} {l:List Tw} (h:greatN D S l=false):S.length≤300∧cntD D≤300∧cntTL l≤300:=by
 simp only [greatN,Bool.or_eq_false_iff,decide_eq_false_iff_not] at h
 obtain ⟨h1,h2,h3⟩:=h
 have e1:=capD_exact D 300 (by omega)
 have e3:=capTL_exact l 300 (by omega)
 omega
def sGreat7:Spec
 | [.f x,.f y,.f z]=>match dtOf .dat x,dtOf .srt y,dtOf .tm z with
  | some D,some S,some l=>some (some (cntD D≤4000000∧cntTL l≤4000000),.nm Bool (greatN D S l) bV)
  | _,_,_=>none
 | _=>none
theorem cGreat7 {E:Env} (hU:Up E):Contract Tryz.prog E 15 sGreat7:=by
 refine contract_D [(23,sDatasOf),(25,sTermsOfN 9000000)] [] Tryz.ntmps15 Tryz.func15 (by kernel_rfl) (by kernel_rfl) hU ⟨cDatasOf hU,(cCntN hU _).2,trivial⟩ trivial ?_
 intro xs p r hs hp
 unfold sGreat7 at hs
 split at hs
 · rename_i x y z
   split at hs
   · rename_i D S l h1 h2 h3
     cases hs
     obtain ⟨hD,hl⟩:=hp _ rfl
     refine ⟨[.f (.dt .dat D),.f (.dt .srt S),.f (.dt .tm l)],[],.cons (dt_sub h1).sub (.cons (dt_sub h2).sub (.cons (dt_sub h3).sub .nil)),rfl,fun _ hsh=>?_⟩
     refine cast_rfl (p:=ifB (decide ((↑S.length:Int) > (300:Int))) (true=true∧Sub (bV true) (bV (greatN D S l))) ((cntD D≤4000000∧(0:Int)≤(300:Int)∧(300:Int)≤(4000000:Int))∧∀ (z1:Int),z1=capD (300:Int) D→ifB (decide (z1 > (300:Int))) (true=true∧Sub (bV true) (bV (greatN D S l))) ((2 * szL l+1<9000000∧cntTL l≤4000000∧(-1:Int)≤(300:Int)∧(300:Int)≤(4000000:Int))∧∀ (z2:Int),z2=capTL (300:Int) l→true=true∧Sub (bV (decide (z2 > (300:Int)))) (bV (greatN D S l))))) ?kr ?_
     case kr=>kernel_rfl
     refine ifB_iff.2 ⟨fun hb0=>⟨rfl,?m0⟩,fun hb0=>⟨?s0,fun z1=>fun hz1=>ifB_iff.2 ⟨fun hb1=>⟨rfl,?m1⟩,fun hb1=>⟨?s1,fun z2=>fun hz2=>⟨rfl,?m2⟩⟩⟩⟩⟩
     all_goals try simp only [decide_eq_true_eq,decide_eq_false_iff_not] at *
     case m0=>exact (subB_b (by unfold greatN; rw [decide_eq_true hb0]; rfl)).sub
     case s0=>exact ⟨hD,by omega,by omega⟩
     case m1=>exact (subB_b (by unfold greatN; rw [← hz1,decide_eq_false hb0,decide_eq_true hb1]; rfl)).sub
     case s1=>have hsz:=cntTL_size l; exact ⟨by omega,hl,by omega,by omega⟩
     case m2=>exact (subB_b (by unfold greatN; rw [← hz1,← hz2,decide_eq_false hb0,decide_eq_false hb1]; rfl)).sub
   · cases hs
 · cases hs
theorem datM_cnt {D:List Dat} (h:cntD D≤300):fitD D:=fitD_of (by omega)
theorem norm_inv {D:List Dat} {S:List Srt} {t:Tw} {is:Bool} {z:Except Int Tw} (hz:z=normE D S t is) (h:errE z=0):sortT D S t=.ok bBool∧normE D S t is=.ok (pushT D S t is):=by
 subst hz
 unfold normE at h ⊢
 split at h
 · rename_i e he
   exact absurd h (sortT_err he)
 · rename_i s he
   split at h
   · exact absurd h (by decide)
   · rename_i hb
     obtain rfl:s=bBool:=Classical.byContradiction hb
     split at h
     · exact absurd h (by decide)
     · rename_i hg
       rw [if_neg (fun c=>c rfl),if_neg hg]
       exact ⟨he,rfl⟩
theorem bnd_fit {m:Nat} {S:List Srt} {V:List Vw} (h:fitVL m V):fitB m (bndOf S V):=fun b hb=>by
 obtain ⟨p,hp,rfl⟩:=List.mem_map.1 hb
 exact fitVL_mem h _ (List.of_mem_zip hp).2
noncomputable def sLawT:Spec
 | [.f x,.f y,.f z,u,.f (.v (.bool is))]=>match dtOf .dat x,dtOf .srt y,dtOf .vl z,tmOf u with
  | some D,some S,some V,some t=>some (some (cntD D≤2000000∧cntVL V≤1100000∧cntT t≤2000000),.one (bV true))
  | _,_,_,_=>none
 | _=>none
theorem cLawT {E:Env} (hU:Up E):Contract Tryz.prog E 5 sLawT:=by
 refine contract_D [(14,sTrueL),(15,sGreat7),(16,sNorm),(12,sSort),(17,sPus),(8,sOfM)] [(13,sEvalA)] Tryz.ntmps5 Tryz.func5 (by kernel_rfl) (by kernel_rfl) hU ⟨cAwake7 hU,cGreat7 hU,cNorm hU,cSort hU,cPus hU,cOf7 hU,trivial⟩ ⟨cEvalA hU,trivial⟩ ?_
 intro xs p r hs hp
 unfold sLawT at hs
 split at hs
 · rename_i x y z u is
   split at hs
   · rename_i D S V t h1 h2 h3 h4
     cases hs
     obtain ⟨pD,pV,pt⟩:=hp _ rfl
     refine ⟨[.f (.dt .dat D),.f (.dt .srt S),.f (.dt .vl V),tmP t,bV is],[(14,.s ⟨Nat,fun i=>⟨[(0,.f (.dt .dat D)),(1,.f (.dt .srt S)),(2,.f (.dt .vl V)),(4,bV is),(8,.bp 0 0),(11,.bp 1 0),(17,.tl 2 (.dt .bnd ((bndOf S V).take i))),(18,iV i)],[.cells (wrapF (tmC t)),.cells (wrapF (tmC (valE Sh.tm.nil (normE D S t is)))),.tail 33 7]⟩,fun i=>i≤S.length∧S.length≤300∧V.length=S.length∧∀ j,j<i→ofV D (Srt.sort (S.getD j Sh.srt.nil)) (V.getD j Sh.vl.nil)=true,fun i=>S.length - i⟩)],.cons (dt_sub h1).sub (.cons (dt_sub h2).sub (.cons (dt_sub h3).sub (.cons (tm_sub h4).sub (.cons (.refl _) .nil)))),rfl,fun _ hsh=>?_⟩
     refine cast_rfl (p:=(cntD D≤4000000∧cntTL [Tw.mk t.kind t.name t.neg t.digits t.kids]≤4000000)∧∀ (z1:Bool),z1=greatN D S [Tw.mk t.kind t.name t.neg t.digits t.kids]→ifB z1 (true=true∧Sub (bV true) (bV true)) (ifB ((↑V.length:Int) != (↑S.length:Int)) (true=true∧Sub (bV true) (bV true)) (((Tw.mk t.kind t.name t.neg t.digits t.kids).fitT∧(Tw.mk t.kind t.name t.neg t.digits t.kids).size≤1000000000000)∧∀ (z2:Except Int Tw),z2=normE D S (Tw.mk t.kind t.name t.neg t.digits t.kids) is→(Tw.mk t.kind t.name t.neg t.digits t.kids).fitT∧∀ (z3:Except Int ByteArray),z3=sortT D S (Tw.mk t.kind t.name t.neg t.digits t.kids)→ifB (errE z2 != (0:Int)) (ifB (errE z3 != (0:Int)) (true=true∧Sub (bV true) (bV true)) (ifB (!(valE (ByteArray.mk #[]) z3).toList==(ByteArray.mk #[(98:UInt8),(111:UInt8),(111:UInt8),(108:UInt8)]).toList) (true=true∧Sub (bV true) (bV true)) (true=true∧Sub (bV (errE z2==(34:Int))) (bV true)))) ((Tw.mk (valE Sh.tm.nil z2).kind (valE Sh.tm.nil z2).name (valE Sh.tm.nil z2).neg (valE Sh.tm.nil z2).digits (valE Sh.tm.nil z2).kids).fitT∧∀ (z4:Except Int ByteArray),z4=sortT D S (Tw.mk (valE Sh.tm.nil z2).kind (valE Sh.tm.nil z2).name (valE Sh.tm.nil z2).neg (valE Sh.tm.nil z2).digits (valE Sh.tm.nil z2).kids)→∀ (z5:Bool),z5=pusT (Tw.mk (valE Sh.tm.nil z2).kind (valE Sh.tm.nil z2).name (valE Sh.tm.nil z2).neg (valE Sh.tm.nil z2).digits (valE Sh.tm.nil z2).kids)→ifB (!z5) (true=true∧Sub (bV false) (bV true)) (ifB (errE z4 != (0:Int)) (true=true∧Sub (bV false) (bV true)) (ifB (!(valE (ByteArray.mk #[]) z4).toList==(ByteArray.mk #[(98:UInt8),(111:UInt8),(111:UInt8),(108:UInt8)]).toList) (true=true∧Sub (bV false) (bV true)) (∃ (x6:Nat),(((SubB (PV.f (Lf.v (Value.int IntKind.u8 t.kind))) (PV.f (Lf.v (Value.int IntKind.u8 t.kind)))∧SubB (sV t.name) (sV t.name)∧SubB (bV t.neg) (bV t.neg)∧SubB (PV.f (Lf.lr t.digits t.digits.length)) (PV.f (Lf.lr t.digits t.digits.length))∧SubB (PV.f (Lf.dt Sh.tm t.kids)) (PV.f (Lf.dt Sh.tm t.kids))∧True)∧(SubB (PV.f (Lf.v (Value.int IntKind.u8 (valE Sh.tm.nil z2).kind))) (PV.f (Lf.v (Value.int IntKind.u8 (valE Sh.tm.nil (normE D S t is)).kind)))∧SubB (sV ((valE Sh.tm.nil z2).name)) (sV ((valE Sh.tm.nil (normE D S t is)).name))∧SubB (bV ((valE Sh.tm.nil z2).neg)) (bV ((valE Sh.tm.nil (normE D S t is)).neg))∧SubB (PV.f (Lf.lr (valE Sh.tm.nil z2).digits (valE Sh.tm.nil z2).digits.length)) (PV.f (Lf.lr (valE Sh.tm.nil (normE D S t is)).digits (valE Sh.tm.nil (normE D S t is)).digits.length))∧SubB (PV.f (Lf.dt Sh.tm (valE Sh.tm.nil z2).kids)) (PV.f (Lf.dt Sh.tm (valE Sh.tm.nil (normE D S t is)).kids))∧True)∧True)∧SubB (PV.f (Lf.dt Sh.dat D)) (PV.f (Lf.dt Sh.dat D))∧SubB (PV.f (Lf.dt Sh.srt S)) (PV.f (Lf.dt Sh.srt S))∧SubB (PV.f (Lf.dt Sh.vl V)) (PV.f (Lf.dt Sh.vl V))∧SubB (bV is) (bV is)∧SubB (PV.bp 0 0) (PV.bp 0 0)∧SubB (PV.bp 1 0) (PV.bp 1 0)∧emptyT (PV.tl 2 (Lf.dt Sh.bnd (List.take x6 (bndOf S V))))∧SubB (iV 0) (iV (↑x6:Int))∧True)∧(x6≤S.length∧S.length≤300∧V.length=S.length∧∀ (j:Nat),j<x6→ofV D (S.getD j Sh.srt.nil).sort (V.getD j Sh.vl.nil)=true)∧True∧∀ (z7:Nat),(z7≤S.length∧S.length≤300∧V.length=S.length∧∀ (j:Nat),j<z7→ofV D (S.getD j Sh.srt.nil).sort (V.getD j Sh.vl.nil)=true)→True→ifB (decide ((↑z7:Int)<(↑S.length:Int))) (((0:Int)≤(↑z7:Int)∧(↑z7:Int)<(↑S.length:Int))∧((0:Int)≤(↑z7:Int)∧(↑z7:Int)<(↑V.length:Int))∧((List.take z7 (bndOf S V)).length+1≤9223372036854775807∧((List.take z7 (bndOf S V)).length+1) * 104≤140737488355328)∧((0:Int)≤(↑z7:Int)∧(↑z7:Int)<(↑S.length:Int))∧((0:Int)≤(↑z7:Int)∧(↑z7:Int)<(↑V.length:Int))∧Vw.fitV 40000000 (Vw.mk (Vw.kind (V.getD (↑z7:Int).toNat Sh.vl.nil)) (Vw.neg (V.getD (↑z7:Int).toNat Sh.vl.nil)) (Vw.digits (V.getD (↑z7:Int).toNat Sh.vl.nil)) (Vw.truth (V.getD (↑z7:Int).toNat Sh.vl.nil)) (Vw.name (V.getD (↑z7:Int).toNat Sh.vl.nil)) (Vw.fields (V.getD (↑z7:Int).toNat Sh.vl.nil)))∧∀ (z8:Bool),z8=ofV D (S.getD (↑z7:Int).toNat Sh.srt.nil).sort (Vw.mk (Vw.kind (V.getD (↑z7:Int).toNat Sh.vl.nil)) (Vw.neg (V.getD (↑z7:Int).toNat Sh.vl.nil)) (Vw.digits (V.getD (↑z7:Int).toNat Sh.vl.nil)) (Vw.truth (V.getD (↑z7:Int).toNat Sh.vl.nil)) (Vw.name (V.getD (↑z7:Int).toNat Sh.vl.nil)) (Vw.fields (V.getD (↑z7:Int).toNat Sh.vl.nil)))→ifB (!z8) (true=true∧Sub (bV true) (bV true)) (∃ (x9:Nat),(((SubB (PV.f (Lf.v (Value.int IntKind.u8 t.kind))) (PV.f (Lf.v (Value.int IntKind.u8 t.kind)))∧SubB (sV t.name) (sV t.name)∧SubB (bV t.neg) (bV t.neg)∧SubB (PV.f (Lf.lr t.digits t.digits.length)) (PV.f (Lf.lr t.digits t.digits.length))∧SubB (PV.f (Lf.dt Sh.tm t.kids)) (PV.f (Lf.dt Sh.tm t.kids))∧True)∧(SubB (PV.f (Lf.v (Value.int IntKind.u8 (valE Sh.tm.nil (normE D S t is)).kind))) (PV.f (Lf.v (Value.int IntKind.u8 (valE Sh.tm.nil (normE D S t is)).kind)))∧SubB (sV ((valE Sh.tm.nil (normE D S t is)).name)) (sV ((valE Sh.tm.nil (normE D S t is)).name))∧SubB (bV ((valE Sh.tm.nil (normE D S t is)).neg)) (bV ((valE Sh.tm.nil (normE D S t is)).neg))∧SubB (PV.f (Lf.lr (valE Sh.tm.nil (normE D S t is)).digits (valE Sh.tm.nil (normE D S t is)).digits.length)) (PV.f (Lf.lr (valE Sh.tm.nil (normE D S t is)).digits (valE Sh.tm.nil (normE D S t is)).digits.length))∧SubB (PV.f (Lf.dt Sh.tm (valE Sh.tm.nil (normE D S t is)).kids)) (PV.f (Lf.dt Sh.tm (valE Sh.tm.nil (normE D S t is)).kids))∧True)∧True)∧SubB (PV.f (Lf.dt Sh.dat D)) (PV.f (Lf.dt Sh.dat D))∧SubB (PV.f (Lf.dt Sh.srt S)) (PV.f (Lf.dt Sh.srt S))∧SubB (PV.f (Lf.dt Sh.vl V)) (PV.f (Lf.dt Sh.vl V))∧SubB (bV is) (bV is)∧SubB (PV.bp 0 0) (PV.bp 0 0)∧SubB (PV.bp 1 0) (PV.bp 1 0)∧SubB (PV.tl 2 (Lf.dt Sh.bnd (List.take z7 (bndOf S V)++[Bnd.mk (S.getD (↑z7:Int).toNat Sh.srt.nil).name (Vw.mk (Vw.kind (V.getD (↑z7:Int).toNat Sh.vl.nil)) (Vw.neg (V.getD (↑z7:Int).toNat Sh.vl.nil)) (Vw.digits (V.getD (↑z7:Int).toNat Sh.vl.nil)) (Vw.truth (V.getD (↑z7:Int).toNat Sh.vl.nil)) (Vw.name (V.getD (↑z7:Int).toNat Sh.vl.nil)) (Vw.fields (V.getD (↑z7:Int).toNat Sh.vl.nil)))]))) (PV.tl 2 (Lf.dt Sh.bnd (List.take x9 (bndOf S V))))∧SubB (iV (IntKind.i64.wrap ((↑z7:Int)+(1:Int)))) (iV (↑x9:Int))∧True)∧(x9≤S.length∧S.length≤300∧V.length=S.length∧∀ (j:Nat),j<x9→ofV D (S.getD j Sh.srt.nil).sort (V.getD j Sh.vl.nil)=true)∧True∧(S.length - x9).succ.le (S.length - z7))) ((((Tw.mk t.kind t.name t.neg t.digits t.kids).fitT∧bigT (Tw.mk t.kind t.name t.neg t.digits t.kids)≤9000)∧fitB 1100000 (List.take z7 (bndOf S V))∧fitD D)∧∀ (z8:Except Int Vw),z8=evalT D (List.take z7 (bndOf S V)) (Tw.mk t.kind t.name t.neg t.digits t.kids)→(((Tw.mk (valE Sh.tm.nil (normE D S t is)).kind (valE Sh.tm.nil (normE D S t is)).name (valE Sh.tm.nil (normE D S t is)).neg (valE Sh.tm.nil (normE D S t is)).digits (valE Sh.tm.nil (normE D S t is)).kids).fitT∧bigT (Tw.mk (valE Sh.tm.nil (normE D S t is)).kind (valE Sh.tm.nil (normE D S t is)).name (valE Sh.tm.nil (normE D S t is)).neg (valE Sh.tm.nil (normE D S t is)).digits (valE Sh.tm.nil (normE D S t is)).kids)≤9000)∧fitB 1100000 (List.take z7 (bndOf S V))∧fitD D)∧∀ (z9:Except Int Vw),z9=evalT D (List.take z7 (bndOf S V)) (Tw.mk (valE Sh.tm.nil (normE D S t is)).kind (valE Sh.tm.nil (normE D S t is)).name (valE Sh.tm.nil (normE D S t is)).neg (valE Sh.tm.nil (normE D S t is)).digits (valE Sh.tm.nil (normE D S t is)).kids)→ifB (errE z8 != (0:Int)) (true=true∧Sub (bV true) (bV true)) (ifB (errE z9==(0:Int)) (ifB ((valE z0V z9).kind==(2:Int)) (true=true∧Sub (bV (((valE z0V z9).truth==(valE z0V z8).truth)==is)) (bV true)) (true=true∧Sub (bV false) (bV true))) (true=true∧Sub (bV false) (bV true))))))))))) ?kr ?_
     case kr=>kernel_rfl
     refine ⟨?s0,fun z1=>fun hz1=>ifB_iff.2 ⟨fun hb0=>⟨rfl,?m0⟩,fun hb0=>ifB_iff.2 ⟨fun hb1=>⟨rfl,?m1⟩,fun hb1=>⟨?s1,fun z2=>fun hz2=>⟨?s2,fun z3=>fun hz3=>ifB_iff.2 ⟨fun hb2=>ifB_iff.2 ⟨fun hb3=>⟨rfl,?m2⟩,fun hb3=>ifB_iff.2 ⟨fun hb4=>⟨rfl,?m3⟩,fun hb4=>⟨rfl,?m4⟩⟩⟩,fun hb2=>⟨?s3,fun z4=>fun hz4=>fun z5=>fun hz5=>ifB_iff.2 ⟨fun hb5=>⟨rfl,?m5⟩,fun hb5=>ifB_iff.2 ⟨fun hb6=>⟨rfl,?m6⟩,fun hb6=>ifB_iff.2 ⟨fun hb7=>⟨rfl,?m7⟩,fun hb7=>⟨?x0,⟨?s4,⟨?s5,⟨trivial,fun z7=>fun hq8=>fun _=>ifB_iff.2 ⟨fun hb9=>⟨?s6,⟨?s7,⟨?s8,⟨?s9,⟨?s10,⟨?s11,fun z8=>fun hz8=>ifB_iff.2 ⟨fun hb10=>⟨rfl,?m8⟩,fun hb10=>⟨?x1,⟨⟨⟨⟨.refl _,⟨.refl _,⟨.refl _,⟨.refl _,⟨.refl _,trivial⟩⟩⟩⟩⟩,⟨⟨.refl _,⟨.refl _,⟨.refl _,⟨.refl _,⟨.refl _,trivial⟩⟩⟩⟩⟩,trivial⟩⟩,⟨.refl _,⟨.refl _,⟨.refl _,⟨.refl _,⟨.refl _,⟨.refl _,⟨?m9,⟨?m10,trivial⟩⟩⟩⟩⟩⟩⟩⟩⟩,⟨?s12,⟨trivial,?m11⟩⟩⟩⟩⟩⟩⟩⟩⟩⟩⟩,fun hb9=>⟨?s13,fun z8=>fun hz8=>⟨?s14,fun z9=>fun hz9=>ifB_iff.2 ⟨fun hb11=>⟨rfl,?m12⟩,fun hb11=>ifB_iff.2 ⟨fun hb12=>ifB_iff.2 ⟨fun hb13=>⟨rfl,?m13⟩,fun hb13=>⟨rfl,?m14⟩⟩,fun hb12=>⟨rfl,?m15⟩⟩⟩⟩⟩⟩⟩⟩⟩⟩⟩⟩⟩⟩⟩⟩⟩⟩⟩⟩
     case x0=>exact 0
     case x1=>exact z7+1
     all_goals try simp only [bs_l,Tw.eta,Vw.eta,Int.toNat_natCast,Int.ofNat_lt,Int.natCast_inj,Bool.not_eq_true',Bool.not_eq_false',beq_iff_eq,beq_eq_false_iff_ne,bne_iff_ne,ne_eq,bne_eq_false_iff_eq,decide_eq_true_eq,decide_eq_false_iff_not] at *
     case s0=>exact ⟨by omega,by simp only [cntTL]; omega⟩
     case m0=>exact .refl _
     case m1=>exact .refl _
     case m2=>exact .refl _
     case m3=>exact .refl _
     case m8=>exact .refl _
     case m12=>exact .refl _
     all_goals obtain ⟨gS,gD,gl⟩:=greatN_no (hz1.symm.trans hb0)
     all_goals simp only [cntTL] at gl
     all_goals have hft:t.fitT:=cntT_fit t (by omega)
     case s1=>exact ⟨hft,by have:=cntT_size t; omega⟩
     case s2=>exact hft
     case m4 =>
      obtain ⟨s,rfl⟩:=sort_is hz3 hb3
      obtain rfl:s=bBool:=hb4
      cases hg:grownB (sizT D S t) is with
      | true=>exact (subB_b (by rw [hz2,norm_grown hz3.symm hg]; rfl)).sub
      | false=>exact absurd (by rw [hz2,norm_ok hz3.symm hg]; rfl) hb2
     all_goals obtain ⟨hs,hno⟩:=norm_inv hz2 hb2
     all_goals have e2:z2=.ok (pushT D S t is):=hz2.trans hno
     all_goals subst e2
     case s3=>exact push_fit is hft
     all_goals obtain ⟨p1,p2⟩:=push_st t.size t is (Nat.le_refl _) hs
     case m5=>exact absurd (hz5.trans p1) (by rw [hb5]; decide)
     case m6=>exact absurd (by rw [hz4]; exact (congrArg errE p2)) hb6
     case m7=>exact absurd (by rw [hz4]; exact (congrArg (valE (⟨#[]⟩:ByteArray)) p2)) hb7
     case s4=>rw [hno]; exact ⟨by repeat' first | exact SubB.refl _ | exact trivial | refine And.intro ?_ ?_,by repeat' first | exact SubB.refl _ | exact trivial | exact rfl | refine And.intro ?_ ?_⟩
     case s5=>exact ⟨Nat.zero_le _,gS,hb1,fun j hj=>absurd hj (Nat.not_lt_zero j)⟩
     all_goals have hVS:V.length=S.length:=hb1
     all_goals have hbl:=bndOf_len S V hVS
     all_goals have hfB:fitB 1100000 (bndOf S V):=bnd_fit (cntVL_fit V 1100000 pV (by omega))
     all_goals have hfD:=datM_cnt gD
     case s6=>omega
     case s7=>omega
     case s8=>rw [List.length_take]; exact ⟨by omega,by omega⟩
     case s9=>omega
     case s10=>omega
     case s11 =>
      have hb:=hfB _ (bnd_mem (B:=bndOf S V) (i:=z7) (by omega))
      rw [bndOf_at hVS hb9] at hb
      exact hb.mono (by decide)
     case m9=>rw [bndOf_next hVS hb9]; exact .refl _
     case m10=>exact subB_i (wJ _ (by omega) (by omega))
     case s12 =>
      refine ⟨by omega,gS,hVS,fun j hj=>?_⟩
      by_cases hjz:j=z7
      · subst hjz; exact hz8.symm.trans hb10
      · exact hq8.2.2.2 j (by omega)
     case m11=>exact (by omega:S.length - (z7+1)<S.length - z7)
     all_goals have hz7:z7=(bndOf S V).length:=by omega
     all_goals simp only [hz7,List.take_length,hno] at *
     case s13=>exact ⟨⟨hft,by have:=bigT_cnt t; omega⟩,hfB,hfD⟩
     case s14=>exact ⟨⟨push_fit is hft,by have:=bigT_cnt t; have:=push_big (D:=D) (S:=S) t is; show bigT (pushT D S t is)≤9000; omega⟩,hfB,hfD⟩
     all_goals obtain ⟨-,-,x,hx,hy⟩:=push_ok hVS (fun i hi=>hq8.2.2.2 i (by omega)) t.size t is (Nat.le_refl _) hs
     all_goals have e9:=hz9.trans hy
     all_goals have e8:=hz8.trans hx
     all_goals subst e9 e8
     case m13=>exact (subB_b (by show (((x==is)==x)==is)=true; cases x <;> cases is <;> rfl)).sub
     case m14=>exact absurd rfl hb13
     case m15=>exact absurd rfl hb12
   · cases hs
 · cases hs
end Go.Proofs.YtpjjdngoblfleaaGreat
