/- The layer kind: terms put for names in a type. -/
import Derived.Test.YtijfaigpilfpaaaGreatDoorHr
import Derived.Test.YtijfaigpilfpaaaGreatDoorHf
set_option linter.unusedSimpArgs false
namespace Go.Proofs.YtijfaigpilfpaaaGreatDoor
open Go.RowKit
set_option linter.unusedVariables false
set_option maxRecDepth 100000
def sPtN (n:Nat):Spec
 | [x]=>match tmOf x with
  | some t=>some (some (t.size<n∧t.fitT),.nm Bool (Qaz t) bV)
  | none=>none
 | _=>none
theorem ptL_at {l:List Tw} (h:∀ i,i<l.length→Qaz (l.getD i Sh.tm.nil)=true):QbU l=true:=by
 induction l with
 | nil=>rfl
 | cons t l ih =>
  rw [QbU,Bool.and_eq_true]
  exact ⟨h 0 (Nat.zero_lt_succ _),ih fun i hi=>h (i+1) (Nat.succ_lt_succ hi)⟩
theorem QrH:∀ {l:List Tw},QbU l=true→∀ i,i<l.length→Qaz (l.getD i Sh.tm.nil)=true
 | t::l,h,i,hi=>by
  rw [QbU,Bool.and_eq_true] at h
  match i,hi with
  | 0,_=>exact h.1
  | i+1,hi=>exact QrH h.2 i (Nat.lt_of_succ_lt_succ hi)
theorem QsT (t:Tw):Qaz t=(!(decide (t.kind=1) && (!decide (t.kids.length=0) || (!decide (t.digits.length=0) || t.neg))) && QbU t.kids):=by cases t; rfl
theorem ptL_no {l:List Tw} {i:Nat} (hi:i<l.length) (h:Qaz (l.getD i Sh.tm.nil)=false):QbU l=false:=by
 cases hc:QbU l with
 | false=>rfl
 | true=>rw [QrH hc i hi] at h; cases h
theorem Qoe {t:Tw} (h:t.kind=1) (h':¬ t.kids.length=0∨¬ t.digits.length=0∨t.neg=true):false=Qaz t:=by
 rw [QsT,decide_eq_true h]
 rcases h' with h' | h' | h'
 · rw [decide_eq_false h']; rfl
 · rw [decide_eq_false h']; cases decide (t.kids.length=0) <;> rfl
 · rw [h']; cases decide (t.kids.length=0) <;> cases decide (t.digits.length=0) <;> rfl
theorem QrF {t:Tw} {i:Nat} (hi:i<t.kids.length) (h:Qaz (t.kids.getD i Sh.tm.nil)=false):false=Qaz t:=by
 rw [QsT,ptL_no hi h,Bool.and_false]
theorem QrG {t:Tw} (h:t.kind=1→t.kids.length=0∧t.digits.length=0∧t.neg=false) (h':∀ i,i<t.kids.length→Qaz (t.kids.getD i Sh.tm.nil)=true):true=Qaz t:=by
 rw [QsT,ptL_at h',Bool.and_true]
 by_cases hk:t.kind=1
 · obtain ⟨h1,h2,h3⟩:=h hk
   rw [decide_eq_true h1,decide_eq_true h2,h3,decide_eq_true hk]; rfl
 · rw [decide_eq_false hk]; rfl
theorem cPtN {E:Env} (hU:Up E):∀ n,Contract Tryz.prog E 42 (sPtN n)
 | 0=>by
  intro xs p r hs hp
  unfold sPtN at hs
  split at hs
  · split at hs
    · cases hs
      exact absurd (hp _ rfl).1 (Nat.not_lt_zero _)
    · cases hs
  · cases hs
 | n+1=>by
  refine Qac [(42,sPtN n)] [] Tryz.ntmps42 Tryz.func42 (by kernel_rfl) (by kernel_rfl) hU ⟨cPtN hU n,trivial⟩ trivial ?_
  intro xs p r hs hp
  unfold sPtN at hs
  split at hs
  · rename_i x
    split at hs
    · rename_i t ht
      cases hs
      obtain ⟨hn,hf⟩:=hp _ rfl
      refine ⟨[tmP t],[(4,.s ⟨Nat,fun i=>⟨[(1,.bp 0 0),(3,iV i)],[.cells [.f (.v (.int .u8 t.kind)),.f (.v (.string t.name)),.f (.v (.bool t.neg)),.f (.lr t.digits t.digits.length),.f (.dt .tm t.kids)]]⟩,fun i=>i≤t.kids.length∧∀ j,j<i→Qaz (t.kids.getD j Sh.tm.nil)=true,fun i=>t.kids.length - i⟩)],.cons (QaG ht).sub .nil,rfl,fun _ hsh=>?_⟩
      have e2:=t.size_eq
      have f2:=(Tw.fitT_eq t).1 hf
      refine Qab (p:=ifB (t.kind==(1:Int)) (ifB (decide ((↑t.kids.length:Int) > (0:Int))) (true=true∧Sub (bV false) (bV (Qaz t))) (ifB t.neg (true=true∧Sub (bV false) (bV (Qaz t))) (ifB (decide ((↑t.digits.length:Int) > (0:Int))) (true=true∧Sub (bV false) (bV (Qaz t))) (∃ (x1:Nat),(((rfB (uV t.kind)∧rfB (sV t.name)∧rfB (bV t.neg)∧rfB (PV.f (Lf.lr t.digits t.digits.length))∧rfB (dP Sh.tm t.kids)∧True)∧True)∧rfB (PV.bp 0 0)∧SubB (iV 0) (iV (↑x1:Int))∧True)∧(x1≤t.kids.length∧∀ (j:Nat),j<x1→Qaz (t.kids.getD j Sh.tm.nil)=true)∧True∧∀ (z2:Nat),(z2≤t.kids.length∧∀ (j:Nat),j<z2→Qaz (t.kids.getD j Sh.tm.nil)=true)→True→ifB (decide ((↑z2:Int)<(↑t.kids.length:Int))) (((0:Int)≤(↑z2:Int)∧(↑z2:Int)<(↑t.kids.length:Int))∧((etaT (t.kids.getD (↑z2:Int).toNat Sh.tm.nil)).size<n∧(etaT (t.kids.getD (↑z2:Int).toNat Sh.tm.nil)).fitT)∧∀ (z3:Bool),z3=Qaz (etaT (t.kids.getD (↑z2:Int).toNat Sh.tm.nil))→ifB (!z3) (true=true∧Sub (bV false) (bV (Qaz t))) (∃ (x4:Nat),(((rfB (uV t.kind)∧rfB (sV t.name)∧rfB (bV t.neg)∧rfB (PV.f (Lf.lr t.digits t.digits.length))∧rfB (dP Sh.tm t.kids)∧True)∧True)∧rfB (PV.bp 0 0)∧SubB (iV (IntKind.i64.wrap ((↑z2:Int)+(1:Int)))) (iV (↑x4:Int))∧True)∧(x4≤t.kids.length∧∀ (j:Nat),j<x4→Qaz (t.kids.getD j Sh.tm.nil)=true)∧True∧(t.kids.length - x4).succ.le (t.kids.length - z2))) (true=true∧Sub (bV true) (bV (Qaz t))))))) (∃ (x1:Nat),(((rfB (uV t.kind)∧rfB (sV t.name)∧rfB (bV t.neg)∧rfB (PV.f (Lf.lr t.digits t.digits.length))∧rfB (dP Sh.tm t.kids)∧True)∧True)∧rfB (PV.bp 0 0)∧SubB (iV 0) (iV (↑x1:Int))∧True)∧(x1≤t.kids.length∧∀ (j:Nat),j<x1→Qaz (t.kids.getD j Sh.tm.nil)=true)∧True∧∀ (z2:Nat),(z2≤t.kids.length∧∀ (j:Nat),j<z2→Qaz (t.kids.getD j Sh.tm.nil)=true)→True→ifB (decide ((↑z2:Int)<(↑t.kids.length:Int))) (((0:Int)≤(↑z2:Int)∧(↑z2:Int)<(↑t.kids.length:Int))∧((etaT (t.kids.getD (↑z2:Int).toNat Sh.tm.nil)).size<n∧(etaT (t.kids.getD (↑z2:Int).toNat Sh.tm.nil)).fitT)∧∀ (z3:Bool),z3=Qaz (etaT (t.kids.getD (↑z2:Int).toNat Sh.tm.nil))→ifB (!z3) (true=true∧Sub (bV false) (bV (Qaz t))) (∃ (x4:Nat),(((rfB (uV t.kind)∧rfB (sV t.name)∧rfB (bV t.neg)∧rfB (PV.f (Lf.lr t.digits t.digits.length))∧rfB (dP Sh.tm t.kids)∧True)∧True)∧rfB (PV.bp 0 0)∧SubB (iV (IntKind.i64.wrap ((↑z2:Int)+(1:Int)))) (iV (↑x4:Int))∧True)∧(x4≤t.kids.length∧∀ (j:Nat),j<x4→Qaz (t.kids.getD j Sh.tm.nil)=true)∧True∧(t.kids.length - x4).succ.le (t.kids.length - z2))) (true=true∧Sub (bV true) (bV (Qaz t))))) ?kr ?_
      case kr=>kernel_rfl
      refine Qaa.2 ⟨fun hb0=>Qaa.2 ⟨fun hb1=>⟨rfl,?m0⟩,fun hb1=>Qaa.2 ⟨fun hb2=>⟨rfl,?m1⟩,fun hb2=>Qaa.2 ⟨fun hb3=>⟨rfl,?m2⟩,fun hb3=>⟨?x0,⟨⟨⟨⟨.refl _,⟨.refl _,⟨.refl _,⟨.refl _,⟨.refl _,trivial⟩⟩⟩⟩⟩,trivial⟩,⟨.refl _,⟨?m3,trivial⟩⟩⟩,⟨?s0,⟨trivial,fun z2=>fun hq4=>fun _=>Qaa.2 ⟨fun hb5=>⟨?s1,⟨?s2,fun z3=>fun hz3=>Qaa.2 ⟨fun hb6=>⟨rfl,?m4⟩,fun hb6=>⟨?x1,⟨⟨⟨⟨.refl _,⟨.refl _,⟨.refl _,⟨.refl _,⟨.refl _,trivial⟩⟩⟩⟩⟩,trivial⟩,⟨.refl _,⟨?m5,trivial⟩⟩⟩,⟨?s3,⟨trivial,?m6⟩⟩⟩⟩⟩⟩⟩,fun hb5=>⟨rfl,?m7⟩⟩⟩⟩⟩⟩⟩⟩⟩,fun hb0=>⟨?x2,⟨⟨⟨⟨.refl _,⟨.refl _,⟨.refl _,⟨.refl _,⟨.refl _,trivial⟩⟩⟩⟩⟩,trivial⟩,⟨.refl _,⟨?m8,trivial⟩⟩⟩,⟨?s4,⟨trivial,fun z2=>fun hq7=>fun _=>Qaa.2 ⟨fun hb8=>⟨?s5,⟨?s6,fun z3=>fun hz3=>Qaa.2 ⟨fun hb9=>⟨rfl,?m9⟩,fun hb9=>⟨?x3,⟨⟨⟨⟨.refl _,⟨.refl _,⟨.refl _,⟨.refl _,⟨.refl _,trivial⟩⟩⟩⟩⟩,trivial⟩,⟨.refl _,⟨?m10,trivial⟩⟩⟩,⟨?s7,⟨trivial,?m11⟩⟩⟩⟩⟩⟩⟩,fun hb8=>⟨rfl,?m12⟩⟩⟩⟩⟩⟩⟩
      all_goals try simp only [etaT] at *
      case x0=>exact 0
      case x1=>exact z2+1
      case x2=>exact 0
      case x3=>exact z2+1
      all_goals try simp only [Tw.eta,beq_iff_eq,beq_eq_false_iff_ne,bne_iff_ne,ne_eq,bne_eq_false_iff_eq,Bool.not_eq_true',Bool.not_eq_false',decide_eq_true_eq,decide_eq_false_iff_not,Int.ofNat_lt,Int.toNat_natCast] at *
      case m0=>exact (Qah (Qoe hb0 (.inl (by omega)))).sub
      case m1=>exact (Qah (Qoe hb0 (.inr (.inr hb2)))).sub
      case m2=>exact (Qah (Qoe hb0 (.inr (.inl (by omega))))).sub
      case m3=>exact .refl _
      case s0=>exact ⟨Nat.zero_le _,fun j hj=>absurd hj (Nat.not_lt_zero j)⟩
      case s1=>omega
      case s2=>exact ⟨by have:=QkU hb5; omega,QaR _ f2.2.2.2 hb5⟩
      case m4=>exact (Qah (QrF hb5 (hz3.symm.trans hb6))).sub
      case m5=>exact Qad (by rw [wJ _ (by omega) (by omega)]; rfl)
      case s3 =>
       refine ⟨hb5,fun j hj=>?_⟩
       by_cases hjz:j=z2
       · subst hjz; exact hz3.symm.trans hb6
       · exact hq4.2 j (by omega)
      case m6=>exact (by omega:t.kids.length - (z2+1)<t.kids.length - z2)
      case m7=>exact (Qah (QrG (fun _=>⟨by omega,by omega,hb2⟩) fun j hj=>hq4.2 j (by omega))).sub
      case m8=>exact .refl _
      case s4=>exact ⟨Nat.zero_le _,fun j hj=>absurd hj (Nat.not_lt_zero j)⟩
      case s5=>omega
      case s6=>exact ⟨by have:=QkU hb8; omega,QaR _ f2.2.2.2 hb8⟩
      case m9=>exact (Qah (QrF hb8 (hz3.symm.trans hb9))).sub
      case m10=>exact Qad (by rw [wJ _ (by omega) (by omega)]; rfl)
      case s7 =>
       refine ⟨hb8,fun j hj=>?_⟩
       by_cases hjz:j=z2
       · subst hjz; exact hz3.symm.trans hb9
       · exact hq7.2 j (by omega)
      case m11=>exact (by omega:t.kids.length - (z2+1)<t.kids.length - z2)
      case m12=>exact (Qah (QrG (fun h=>absurd h hb0) fun j hj=>hq7.2 j (by omega))).sub
    · cases hs
  · cases hs
def sPt:Spec
 | [x]=>match tmOf x with
  | some t=>some (some t.fitT,.nm Bool (Qaz t) bV)
  | none=>none
 | _=>none
theorem cPt {E:Env} (hU:Up E):Contract Tryz.prog E 42 sPt:=by
 intro xs p r hs hp
 unfold sPt at hs
 split at hs
 · rename_i x
   split at hs
   · rename_i t ht
     cases hs
     exact cPtN hU (t.size+1) [x] (some (t.size<t.size+1∧t.fitT)) (.nm Bool (Qaz t) bV) (by simp only [sPtN,ht]) (fun q hq=>by cases hq; exact ⟨Nat.lt_succ_self _,hp _ rfl⟩)
   · cases hs
 · cases hs
mutual
def plaY:Yw→Bool
 | .mk _ _ t p r=>plaP p && (plaR r && Qaz t)
def plaQ:ByteArray × Yw→Bool
 | (_,y)=>plaY y
def plaP:List (ByteArray × Yw)→Bool
 | []=>true
 | x::l=>plaQ x && plaP l
def plaR:List Yw→Bool
 | []=>true
 | y::l=>plaY y && plaR l
end
theorem QjR (y:Yw):plaY y=(plaP y.params && (plaR y.result && Qaz y.ref)):=by cases y; rw [plaY]; rfl
theorem QsV (x:ByteArray × Yw):plaQ x=plaY x.2:=by obtain ⟨s,y⟩:=x; rw [plaQ]
theorem Qhl:∀ {l:List (ByteArray × Yw)},plaP l=true↔∀ i,i<l.length→plaY (l.getD i Sh.prm.nil).2=true
 | []=>by rw [plaP]; simp
 | x::l=>by
  rw [plaP,Bool.and_eq_true,Qhl,QsV]
  constructor
  · rintro ⟨h1,h2⟩ i hi
    match i with
    | 0=>exact h1
    | i+1=>exact h2 i (by simpa using hi)
  · intro h
    exact ⟨h 0 (by simp),fun i hi=>h (i+1) (by simpa using hi)⟩
theorem Qhk:∀ {l:List Yw},plaR l=true↔∀ i,i<l.length→plaY (l.getD i Sh.ty.nil)=true
 | []=>by rw [plaR]; simp
 | x::l=>by
  rw [plaR,Bool.and_eq_true,Qhk]
  constructor
  · rintro ⟨h1,h2⟩ i hi
    match i with
    | 0=>exact h1
    | i+1=>exact h2 i (by simpa using hi)
  · intro h
    exact ⟨h 0 (by simp),fun i hi=>h (i+1) (by simpa using hi)⟩
def Qir (n:Nat):Spec
 | [x]=>match tyOf x with
  | some t=>some (some (t.size<n∧t.fit),.nm Bool (plaY t) bV)
  | none=>none
 | _=>none
set_option maxHeartbeats 4000000 in
theorem Qr1 {E:Env} (hU:Up E):∀ n,Contract Tryz.prog E 10 (Qir n)
 | 0=>by
  intro xs p r hs hp
  unfold Qir at hs
  split at hs
  · split at hs
    · cases hs
      exact absurd (hp _ rfl).1 (Nat.not_lt_zero _)
    · cases hs
  · cases hs
 | n+1=>by
  refine Qac [(10,Qir n),(42,sPt)] [] Tryz.ntmps10 Tryz.func10 (by kernel_rfl) (by kernel_rfl) hU ⟨Qr1 hU n,cPt hU,trivial⟩ trivial ?_
  intro xs p r hs hp
  unfold Qir at hs
  split at hs
  · rename_i x
    split at hs
    · rename_i t ht
      cases hs
      obtain ⟨hn,hf⟩:=hp _ rfl
      refine ⟨[tyP t],[(2,.s ⟨Nat,fun i=>⟨[(1,.bp 0 0),(3,iV i)],[.cells (Qae (tyC t))]⟩,fun i=>i≤t.params.length∧∀ j,j<i→plaY (t.params.getD j Sh.prm.nil).2=true,fun i=>t.params.length - i⟩),
       (7,.s ⟨Nat,fun i=>⟨[(1,.bp 0 0),(4,iV i)],[.cells (Qae (tyC t))]⟩,fun i=>i≤t.result.length∧(∀ j,j<i→plaY (t.result.getD j Sh.ty.nil)=true)∧plaP t.params=true,fun i=>t.result.length - i⟩)],.cons (Qbp ht).sub .nil,rfl,fun _ hsh=>?_⟩
      have e2:=t.size_eq
      have f2:=(Yw.fit_eq t).1 hf
      refine Qab (p:=∃ (x1:Nat),(((rfB (bV t.fn)∧rfB (sV t.sort)∧rfB (uV t.ref.kind)∧rfB (sV t.ref.name)∧rfB (bV t.ref.neg)∧rfB (PV.f (Lf.lr t.ref.digits t.ref.digits.length))∧rfB (dP Sh.tm t.ref.kids)∧rfB (dP Sh.prm t.params)∧rfB (dP Sh.ty t.result)∧True)∧True)∧rfB (PV.bp 0 0)∧SubB (iV 0) (iV (↑x1:Int))∧True)∧(x1≤t.params.length∧∀ (j:Nat),j<x1→plaY (t.params.getD j Sh.prm.nil).snd=true)∧True∧∀ (z2:Nat),(z2≤t.params.length∧∀ (j:Nat),j<z2→plaY (t.params.getD j Sh.prm.nil).snd=true)→True→ifB (decide ((↑z2:Int)<(↑t.params.length:Int))) (((0:Int)≤(↑z2:Int)∧(↑z2:Int)<(↑t.params.length:Int))∧((Yw.mk (t.params.getD (↑z2:Int).toNat Sh.prm.nil).snd.fn (t.params.getD (↑z2:Int).toNat Sh.prm.nil).snd.sort (etaT ((t.params.getD (↑z2:Int).toNat Sh.prm.nil).snd.ref)) (t.params.getD (↑z2:Int).toNat Sh.prm.nil).snd.params (t.params.getD (↑z2:Int).toNat Sh.prm.nil).snd.result).size<n∧(Yw.mk (t.params.getD (↑z2:Int).toNat Sh.prm.nil).snd.fn (t.params.getD (↑z2:Int).toNat Sh.prm.nil).snd.sort (etaT ((t.params.getD (↑z2:Int).toNat Sh.prm.nil).snd.ref)) (t.params.getD (↑z2:Int).toNat Sh.prm.nil).snd.params (t.params.getD (↑z2:Int).toNat Sh.prm.nil).snd.result).fit)∧∀ (z3:Bool),z3=plaY (Yw.mk (t.params.getD (↑z2:Int).toNat Sh.prm.nil).snd.fn (t.params.getD (↑z2:Int).toNat Sh.prm.nil).snd.sort (etaT ((t.params.getD (↑z2:Int).toNat Sh.prm.nil).snd.ref)) (t.params.getD (↑z2:Int).toNat Sh.prm.nil).snd.params (t.params.getD (↑z2:Int).toNat Sh.prm.nil).snd.result)→ifB (!z3) (true=true∧Sub (bV false) (bV (plaY t))) (∃ (x4:Nat),(((rfB (bV t.fn)∧rfB (sV t.sort)∧rfB (uV t.ref.kind)∧rfB (sV t.ref.name)∧rfB (bV t.ref.neg)∧rfB (PV.f (Lf.lr t.ref.digits t.ref.digits.length))∧rfB (dP Sh.tm t.ref.kids)∧rfB (dP Sh.prm t.params)∧rfB (dP Sh.ty t.result)∧True)∧True)∧rfB (PV.bp 0 0)∧SubB (iV (IntKind.i64.wrap ((↑z2:Int)+(1:Int)))) (iV (↑x4:Int))∧True)∧(x4≤t.params.length∧∀ (j:Nat),j<x4→plaY (t.params.getD j Sh.prm.nil).snd=true)∧True∧(t.params.length - x4).succ.le (t.params.length - z2))) (∃ (x3:Nat),(((rfB (bV t.fn)∧rfB (sV t.sort)∧rfB (uV t.ref.kind)∧rfB (sV t.ref.name)∧rfB (bV t.ref.neg)∧rfB (PV.f (Lf.lr t.ref.digits t.ref.digits.length))∧rfB (dP Sh.tm t.ref.kids)∧rfB (dP Sh.prm t.params)∧rfB (dP Sh.ty t.result)∧True)∧True)∧rfB (PV.bp 0 0)∧SubB (iV 0) (iV (↑x3:Int))∧True)∧(x3≤t.result.length∧(∀ (j:Nat),j<x3→plaY (t.result.getD j Sh.ty.nil)=true)∧plaP t.params=true)∧True∧∀ (z4:Nat),z4≤t.result.length∧(∀ (j:Nat),j<z4→plaY (t.result.getD j Sh.ty.nil)=true)∧plaP t.params=true→True→ifB (decide ((↑z4:Int)<(↑t.result.length:Int))) (((0:Int)≤(↑z4:Int)∧(↑z4:Int)<(↑t.result.length:Int))∧((Yw.mk (Yw.fn (t.result.getD (↑z4:Int).toNat Sh.ty.nil)) (Yw.sort (t.result.getD (↑z4:Int).toNat Sh.ty.nil)) (etaT (Yw.ref (t.result.getD (↑z4:Int).toNat Sh.ty.nil))) (Yw.params (t.result.getD (↑z4:Int).toNat Sh.ty.nil)) (Yw.result (t.result.getD (↑z4:Int).toNat Sh.ty.nil))).size<n∧(Yw.mk (Yw.fn (t.result.getD (↑z4:Int).toNat Sh.ty.nil)) (Yw.sort (t.result.getD (↑z4:Int).toNat Sh.ty.nil)) (etaT (Yw.ref (t.result.getD (↑z4:Int).toNat Sh.ty.nil))) (Yw.params (t.result.getD (↑z4:Int).toNat Sh.ty.nil)) (Yw.result (t.result.getD (↑z4:Int).toNat Sh.ty.nil))).fit)∧∀ (z5:Bool),z5=plaY (Yw.mk (Yw.fn (t.result.getD (↑z4:Int).toNat Sh.ty.nil)) (Yw.sort (t.result.getD (↑z4:Int).toNat Sh.ty.nil)) (etaT (Yw.ref (t.result.getD (↑z4:Int).toNat Sh.ty.nil))) (Yw.params (t.result.getD (↑z4:Int).toNat Sh.ty.nil)) (Yw.result (t.result.getD (↑z4:Int).toNat Sh.ty.nil)))→ifB (!z5) (true=true∧Sub (bV false) (bV (plaY t))) (∃ (x6:Nat),(((rfB (bV t.fn)∧rfB (sV t.sort)∧rfB (uV t.ref.kind)∧rfB (sV t.ref.name)∧rfB (bV t.ref.neg)∧rfB (PV.f (Lf.lr t.ref.digits t.ref.digits.length))∧rfB (dP Sh.tm t.ref.kids)∧rfB (dP Sh.prm t.params)∧rfB (dP Sh.ty t.result)∧True)∧True)∧rfB (PV.bp 0 0)∧SubB (iV (IntKind.i64.wrap ((↑z4:Int)+(1:Int)))) (iV (↑x6:Int))∧True)∧(x6≤t.result.length∧(∀ (j:Nat),j<x6→plaY (t.result.getD j Sh.ty.nil)=true)∧plaP t.params=true)∧True∧(t.result.length - x6).succ.le (t.result.length - z4))) ((etaT t.ref).fitT∧∀ (z5:Bool),z5=Qaz (etaT t.ref)→true=true∧Sub (bV z5) (bV (plaY t))))) ?kr ?_
      case kr=>kernel_rfl
      refine ⟨?x0,⟨⟨⟨⟨.refl _,⟨.refl _,⟨.refl _,⟨.refl _,⟨.refl _,⟨.refl _,⟨.refl _,⟨.refl _,⟨.refl _,trivial⟩⟩⟩⟩⟩⟩⟩⟩⟩,trivial⟩,⟨.refl _,⟨?m0,trivial⟩⟩⟩,⟨?s0,⟨trivial,fun z2=>fun hq0=>fun _=>Qaa.2 ⟨fun hb1=>⟨?s1,⟨?s2,fun z3=>fun hz3=>Qaa.2 ⟨fun hb2=>⟨rfl,?m1⟩,fun hb2=>⟨?x1,⟨⟨⟨⟨.refl _,⟨.refl _,⟨.refl _,⟨.refl _,⟨.refl _,⟨.refl _,⟨.refl _,⟨.refl _,⟨.refl _,trivial⟩⟩⟩⟩⟩⟩⟩⟩⟩,trivial⟩,⟨.refl _,⟨?m2,trivial⟩⟩⟩,⟨?s3,⟨trivial,?m3⟩⟩⟩⟩⟩⟩⟩,fun hb1=>⟨?x2,⟨⟨⟨⟨.refl _,⟨.refl _,⟨.refl _,⟨.refl _,⟨.refl _,⟨.refl _,⟨.refl _,⟨.refl _,⟨.refl _,trivial⟩⟩⟩⟩⟩⟩⟩⟩⟩,trivial⟩,⟨.refl _,⟨?m4,trivial⟩⟩⟩,⟨?s4,⟨trivial,fun z4=>fun hq3=>fun _=>Qaa.2 ⟨fun hb4=>⟨?s5,⟨?s6,fun z5=>fun hz5=>Qaa.2 ⟨fun hb5=>⟨rfl,?m5⟩,fun hb5=>⟨?x3,⟨⟨⟨⟨.refl _,⟨.refl _,⟨.refl _,⟨.refl _,⟨.refl _,⟨.refl _,⟨.refl _,⟨.refl _,⟨.refl _,trivial⟩⟩⟩⟩⟩⟩⟩⟩⟩,trivial⟩,⟨.refl _,⟨?m6,trivial⟩⟩⟩,⟨?s7,⟨trivial,?m7⟩⟩⟩⟩⟩⟩⟩,fun hb4=>⟨?s8,fun z5=>fun hz5=>⟨rfl,?m8⟩⟩⟩⟩⟩⟩⟩⟩⟩⟩⟩⟩
      all_goals try simp only [etaT] at *
      case x0=>exact 0
      case x1=>exact z2+1
      case x2=>exact 0
      case x3=>exact z4+1
      all_goals try simp only [Tw.eta,Yw.eta,Bool.not_eq_true',Bool.not_eq_false',decide_eq_true_eq,decide_eq_false_iff_not,Int.ofNat_lt,Int.toNat_natCast] at *
      case m0=>exact .refl _
      case s0=>exact ⟨Nat.zero_le _,fun j hj=>absurd hj (Nat.not_lt_zero j)⟩
      case s1=>omega
      case s2 =>
       have h9:=Qfe (gotD Sh.prm.nil hb1)
       exact ⟨by omega,(Qb8 f2.2.2.1 (gotD Sh.prm.nil hb1)).2⟩
      case m1 =>
       refine (Qah (Bool.eq_false_iff.2 fun h=>?_).symm).sub
       rw [QjR,Bool.and_eq_true,Qhl] at h
       rw [hb2,h.1 z2 hb1] at hz3
       cases hz3
      case m2=>exact Qad (by rw [wJ _ (by omega) (by omega)]; rfl)
      case s3 =>
       refine ⟨hb1,fun j hj=>?_⟩
       by_cases hjz:j=z2
       · subst hjz; exact hz3.symm.trans hb2
       · exact hq0.2 j (by omega)
      case m3=>exact (by omega:t.params.length - (z2+1)<t.params.length - z2)
      case m4=>exact .refl _
      case s4=>exact ⟨Nat.zero_le _,fun j hj=>absurd hj (Nat.not_lt_zero j),Qhl.2 fun i hi=>hq0.2 i (by omega)⟩
      case s5=>omega
      case s6 =>
       have h9:=Qdz (gotD Sh.ty.nil hb4)
       exact ⟨by omega,QbC f2.2.2.2 (gotD Sh.ty.nil hb4)⟩
      case m5 =>
       refine (Qah (Bool.eq_false_iff.2 fun h=>?_).symm).sub
       rw [QjR,Bool.and_eq_true,Bool.and_eq_true,Qhk] at h
       rw [hb5,h.2.1 z4 hb4] at hz5
       cases hz5
      case m6=>exact Qad (by rw [wJ _ (by omega) (by omega)]; rfl)
      case s7 =>
       refine ⟨hb4,fun j hj=>?_,hq3.2.2⟩
       by_cases hjz:j=z4
       · subst hjz; exact hz5.symm.trans hb5
       · exact hq3.2.1 j (by omega)
      case m7=>exact (by omega:t.result.length - (z4+1)<t.result.length - z4)
      case s8=>exact f2.1.2.1
      case m8=>exact (Qah (by rw [QjR,hq3.2.2,Qhk.2 fun i hi=>hq3.2.1 i (by omega),hz5]; rfl)).sub
    · cases hs
  · cases hs
end Go.Proofs.YtijfaigpilfpaaaGreatDoor
namespace Go.Proofs.YtijfaigpilfpaaaGreatDoor
open Go.RowKit
set_option linter.unusedVariables false
set_option maxRecDepth 100000
def woZ (s:ByteArray) (Z:List (ByteArray × Tw)):List (ByteArray × Tw):=Z.filter fun x=>!decide (x.1=s)
def woL (Z:List (ByteArray × Tw)) (p:List (ByteArray × Yw)):List (ByteArray × Tw):=p.foldl (fun Z x=>woZ x.1 Z) Z
mutual
def sbY:List (ByteArray × Tw)→Yw→Except Int Yw
 | Z,.mk f s t p r=>match QaC (Z.map (·.1)) (Z.map (·.2)) t with
  | .error e=>.error e
  | .ok u=>match sbP Z p with
   | .error e=>.error e
   | .ok q=>match sbR (woL Z p) r with
    | .error e=>.error e
    | .ok r'=>.ok (.mk f s u q r')
def sbQ:List (ByteArray × Tw)→ByteArray × Yw→Except Int (ByteArray × Yw)
 | Z,(s,y)=>match sbY Z y with
  | .error e=>.error e
  | .ok u=>.ok (s,u)
def sbP:List (ByteArray × Tw)→List (ByteArray × Yw)→Except Int (List (ByteArray × Yw))
 | _,[]=>.ok []
 | Z,x::l=>match sbQ Z x with
  | .error e=>.error e
  | .ok x'=>match sbP (woZ x.1 Z) l with
   | .error e=>.error e
   | .ok l'=>.ok (x'::l')
def sbR:List (ByteArray × Tw)→List Yw→Except Int (List Yw)
 | _,[]=>.ok []
 | Z,y::l=>match sbY Z y with
  | .error e=>.error e
  | .ok y'=>match sbR Z l with
   | .error e=>.error e
   | .ok l'=>.ok (y'::l')
end
def ownZ (Z:List (ByteArray × Tw)):Prop:=∀ x∈Z,x.2=varN x.1
theorem QjS {Z:List (ByteArray × Tw)} (h:ownZ Z) (s:ByteArray):ownZ (woZ s Z):=fun x hx=>h x (List.mem_filter.1 hx).1
theorem Qlo:∀ {p:List (ByteArray × Yw)} {Z:List (ByteArray × Tw)},ownZ Z→ownZ (woL Z p)
 | [],_,h=>h
 | x::p,Z,h=>Qlo (p:=p) (Z:=woZ x.1 Z) (QjS h x.1)
theorem Qlp:∀ {Z:List (ByteArray × Tw)},ownZ Z→Z.map (·.2)=(Z.map (·.1)).map varN
 | [],_=>rfl
 | x::Z,h=>by
  rw [List.map_cons,List.map_cons,List.map_cons,h x (List.mem_cons_self ..),Qlp fun y hy=>h y (List.mem_cons_of_mem _ hy)]
theorem ownE {Z:List (ByteArray × Tw)} (h:ownZ Z) {t u:Tw} (hp:Qaz t=true) (hs:QaC (Z.map (·.1)) (Z.map (·.2)) t=.ok u):u=t:=by
 unfold QaC at hs
 rw [Qlp h,Qih t hp] at hs
 split at hs
 · cases hs; rfl
 · cases hs
mutual
theorem Qjv:∀ (y:Yw) {Z:List (ByteArray × Tw)} {a:Yw},ownZ Z→plaY y=true→sbY Z y=.ok a→a=y
 | .mk f s t p r,Z,a,hz,hp,h=>by
  rw [plaY,Bool.and_eq_true,Bool.and_eq_true] at hp
  rw [sbY] at h
  split at h
  · cases h
  rename_i u hu
  split at h
  · cases h
  rename_i q hq
  split at h
  · cases h
  rename_i r' hr
  cases h
  rw [ownE hz hp.2.2 hu,QnM p hz hp.1 hq,QnL r (Qlo hz) hp.2.1 hr]
theorem Qsz:∀ (x:ByteArray × Yw) {Z:List (ByteArray × Tw)} {a:ByteArray × Yw},ownZ Z→plaQ x=true→sbQ Z x=.ok a→a=x
 | (s,y),Z,a,hz,hp,h=>by
  rw [plaQ] at hp
  rw [sbQ] at h
  split at h
  · cases h
  rename_i u hu
  cases h
  rw [Qjv y hz hp hu]
theorem QnM:∀ (l:List (ByteArray × Yw)) {Z:List (ByteArray × Tw)} {a:List (ByteArray × Yw)},ownZ Z→plaP l=true→sbP Z l=.ok a→a=l
 | [],Z,a,_,_,h=>by rw [sbP] at h; cases h; rfl
 | x::l,Z,a,hz,hp,h=>by
  rw [plaP,Bool.and_eq_true] at hp
  rw [sbP] at h
  split at h
  · cases h
  rename_i x' hx
  split at h
  · cases h
  rename_i l' hl
  cases h
  rw [Qsz x hz hp.1 hx,QnM l (QjS hz x.1) hp.2 hl]
theorem QnL:∀ (l:List Yw) {Z:List (ByteArray × Tw)} {a:List Yw},ownZ Z→plaR l=true→sbR Z l=.ok a→a=l
 | [],Z,a,_,_,h=>by rw [sbR] at h; cases h; rfl
 | y::l,Z,a,hz,hp,h=>by
  rw [plaR,Bool.and_eq_true] at hp
  rw [sbR] at h
  split at h
  · cases h
  rename_i y' hy
  split at h
  · cases h
  rename_i l' hl
  cases h
  rw [Qjv y hz hp.1 hy,QnL l hz hp.2 hl]
end
end Go.Proofs.YtijfaigpilfpaaaGreatDoor
namespace Go.Proofs.YtijfaigpilfpaaaGreatDoor
open Go.RowKit
set_option linter.unusedVariables false
set_option maxRecDepth 100000
def woN (s:ByteArray) (Z:List (ByteArray × Tw)) (i:Nat):List ByteArray:=(woZ s (Z.take i)).map (·.1)
def woT (s:ByteArray) (Z:List (ByteArray × Tw)) (i:Nat):List Tw:=(woZ s (Z.take i)).map (·.2)
theorem Qrt {s:ByteArray} {l:List ByteArray} {ts:List Tw} {i:Nat} (hi:i<l.length) (ht:i<ts.length) (h:¬ l.getD i Sh.str.nil=s):woZ s ((l.zip ts).take (i+1))=woZ s ((l.zip ts).take i)++[(l.getD i Sh.str.nil,ts.getD i Sh.tm.nil)]:=by
 have hz:i<(l.zip ts).length:=by rw [List.length_zip]; omega
 have e:(l.zip ts)[i]?=some (l.getD i Sh.str.nil,ts.getD i Sh.tm.nil):=by
  rw [List.getElem?_eq_getElem hz,List.getElem_zip,List.getD_eq_getElem?_getD,List.getD_eq_getElem?_getD,List.getElem?_eq_getElem hi,List.getElem?_eq_getElem ht]; rfl
 rw [List.take_add_one,e,woZ,List.filter_append]
 congr 1
 show List.filter _ [_]=_
 rw [List.filter_cons_of_pos (by rw [decide_eq_false h]; rfl)]; rfl
theorem QgS {s:ByteArray} {l:List ByteArray} {ts:List Tw} {i:Nat} (h:l.getD i Sh.str.nil=s∨¬ i<ts.length) (hi:i<l.length):woZ s ((l.zip ts).take (i+1))=woZ s ((l.zip ts).take i):=by
 by_cases ht:i<ts.length
 · have hz:i<(l.zip ts).length:=by rw [List.length_zip]; omega
   have e:(l.zip ts)[i]?=some (l.getD i Sh.str.nil,ts.getD i Sh.tm.nil):=by
    rw [List.getElem?_eq_getElem hz,List.getElem_zip,List.getD_eq_getElem?_getD,List.getD_eq_getElem?_getD,List.getElem?_eq_getElem hi,List.getElem?_eq_getElem ht]; rfl
   rw [List.take_add_one,e,woZ,List.filter_append]
   have h0:l.getD i Sh.str.nil=s:=h.resolve_right fun hc=>hc ht
   show _++List.filter _ [_]=_
   rw [List.filter_cons_of_neg (by rw [decide_eq_true h0]; decide)]
   exact List.append_nil _
 · rw [List.take_of_length_le (by rw [List.length_zip]; omega),List.take_of_length_le (by rw [List.length_zip]; omega)]
theorem Qt2 {l m:List PV} (h:SubsB l m):SubB (.agg l) (.agg m):=⟨fun H B v hv=>by
 obtain ⟨vs,rfl,h3⟩:=PRs.of_agg hv
 exact PRs.agg (h.prs h3)⟩
theorem woN_0 (s:ByteArray) (Z:List (ByteArray × Tw)):woN s Z 0=[]:=by unfold woN; rw [List.take_zero]; rfl
theorem woT_0 (s:ByteArray) (Z:List (ByteArray × Tw)):woT s Z 0=[]:=by unfold woT; rw [List.take_zero]; rfl
theorem Qsf {s:ByteArray} {Z:List (ByteArray × Tw)} {i:Nat}:(woN s Z i).length≤i:=by
 unfold woN woZ
 rw [List.length_map]
 exact Nat.le_trans (List.length_filter_le ..) (by rw [List.length_take]; omega)
theorem Qsd {s:ByteArray} {Z:List (ByteArray × Tw)} {i:Nat}:(woT s Z i).length≤i:=by
 unfold woT woZ
 rw [List.length_map]
 exact Nat.le_trans (List.length_filter_le ..) (by rw [List.length_take]; omega)
def QeT:Spec
 | [.agg [.f a,.f b],.f (.v (.string s))]=>match dtOf .str a,dtOf .tm b with
  | some l,some ts=>some (some (l.length≤100000000∧ts.length≤100000000),.one (.agg [.f (.dt .str (woN s (l.zip ts) l.length)),.f (.dt .tm (woT s (l.zip ts) l.length))]))
  | _,_=>none
 | _=>none
set_option maxHeartbeats 4000000 in
theorem Ql8 {E:Env} (hU:Up E):Contract Tryz.prog E 36 QeT:=by
 refine Qac [] [] Tryz.ntmps36 Tryz.func36 (by kernel_rfl) (by kernel_rfl) hU trivial trivial ?_
 intro xs p r hs hp
 unfold QeT at hs
 split at hs
 · rename_i a b s
   split at hs
   · rename_i l ts ha hb
     cases hs
     obtain ⟨l1,l2⟩:=hp _ rfl
     refine ⟨[.agg [.f (.dt .str l),.f (.dt .tm ts)],.f (.v (.string s))],[(3,.s ⟨Nat,fun i=>⟨[(1,sV s),(2,.bp 0 0),(4,.bp 1 0),(5,.bp 2 0),(9,.f (.dt .str l)),(10,iV l.length),(11,iV i)],[.cells [.f (.dt .str l),.f (.dt .tm ts)],.cells [.f (.v (.slice none 0 0)),.f (.v (.slice none 0 0))],.cells [.tl 3 (.dt .str (woN s (l.zip ts) i)),.tl 4 (.dt .tm (woT s (l.zip ts) i))],.tail 9 1,.tail 28 5]⟩,fun i=>i≤l.length,fun i=>l.length - i⟩)],.cons ?h0 (.cons (.refl _) .nil),rfl,fun _ hsh=>?_⟩
     case h0=>exact (Qt2 (.cons (Qa9 ha) (.cons (Qa9 hb) .nil))).sub
     have h0:=l1
     refine Qab (p:=let A0:=fun (z2:Nat)=>(ts.getD (↑z2:Int).toNat Sh.tm.nil); let A7:=fun (z2:Nat)=>(Value.int IntKind.u8 (Tw.kind (A0 z2))); let A8:=fun (z2:Nat)=>(l.getD (↑z2:Int).toNat Sh.str.nil); let A9:=fun (z2:Nat)=>((0:Int)≤(↑z2:Int)∧(↑z2:Int)<(↑ts.length:Int)); let A10:=fun (z2:Nat)=>(Value.string (Tw.name (A0 z2))); let A11:=fun (z2:Nat)=>(Tw.digits (A0 z2)); let A12:=fun (z2:Nat)=>(Value.bool (Tw.neg (A0 z2))); let A13:=fun (z2:Nat)=>((woN s (l.zip ts) z2).length+1≤9223372036854775807∧((woN s (l.zip ts) z2).length+1) * 16≤140737488355328); let A14:=fun (z2:Nat)=>((woT s (l.zip ts) z2).length+1≤9223372036854775807∧((woT s (l.zip ts) z2).length+1) * 80≤140737488355328); let A15:=fun (z2:Nat)=>(Qae (tmC (A0 z2))); let A16:=fun (z2:Nat)=>(Tw.kids (A0 z2)); let A17:=rfB (dP Sh.str l)∧rfB (dP Sh.tm ts)∧True; let A1:=fun (z2:Nat)=>((A9 z2)∧SameL [PV.any,sV (A8 z2),PV.any,PV.any,PV.bp 0 1,dP Sh.tm ts,iV (↑z2:Int),PV.ep [Lf.v (A7 z2),Lf.v (A10 z2),Lf.v (A12 z2),Lf.lr (A11 z2) (A11 z2).length,Lf.dt Sh.tm (A16 z2)],PV.agg (A15 z2),dP Sh.tm [etaT (A0 z2)],PV.bp 2 0,PV.bp 2 1] [PV.any,sV (A8 z2),PV.any,PV.any,PV.bp 0 1,dP Sh.tm ts,iV (↑z2:Int),PV.ep [Lf.v (A7 z2),Lf.v (A10 z2),Lf.v (A12 z2),Lf.lr (A11 z2) (A11 z2).length,Lf.dt Sh.tm (A16 z2)],PV.agg (A15 z2),dP Sh.tm [etaT (A0 z2)],PV.bp 2 0,PV.bp 2 1]); let A2:=fun (z2:Nat)=>((A9 z2)∧SameL [PV.any,sV (A8 z2),PV.any,PV.any,PV.bp 0 1,dP Sh.tm ts,iV (↑z2:Int),PV.ep [Lf.v (A7 z2),Lf.v (A10 z2),Lf.v (A12 z2),Lf.lr (A11 z2) (A11 z2).length,Lf.dt Sh.tm (A16 z2)],PV.agg (A15 z2),PV.any,PV.bp 2 0,PV.bp 2 1] [PV.any,sV (A8 z2),PV.any,PV.any,PV.bp 0 1,dP Sh.tm ts,iV (↑z2:Int),PV.ep [Lf.v (A7 z2),Lf.v (A10 z2),Lf.v (A12 z2),Lf.lr (A11 z2) (A11 z2).length,Lf.dt Sh.tm (A16 z2)],PV.agg (A15 z2),PV.any,PV.bp 2 0,PV.bp 2 1]); let A3:=fun (z2:Nat)=>((A9 z2)∧SameL [PV.any,PV.any,PV.any,PV.any,PV.bp 0 1,dP Sh.tm ts,iV (↑z2:Int),PV.ep [Lf.v (A7 z2),Lf.v (A10 z2),Lf.v (A12 z2),Lf.lr (A11 z2) (A11 z2).length,Lf.dt Sh.tm (A16 z2)],PV.agg (A15 z2),PV.any,PV.any,PV.bp 2 1] [PV.any,PV.any,PV.any,PV.any,PV.bp 0 1,dP Sh.tm ts,iV (↑z2:Int),PV.ep [Lf.v (A7 z2),Lf.v (A10 z2),Lf.v (A12 z2),Lf.lr (A11 z2) (A11 z2).length,Lf.dt Sh.tm (A16 z2)],PV.agg (A15 z2),PV.any,PV.any,PV.bp 2 1]); let A4:=fun (z2:Nat) (x3:Nat)=>((A17∧(rfB (nlP)∧rfB (nlP)∧True)∧(SubB (PV.tl 3 (Lf.dt Sh.str (woN s (l.zip ts) z2++[l.getD (↑z2:Int).toNat Sh.str.nil]))) (PV.tl 3 (Lf.dt Sh.str (woN s (l.zip ts) x3)))∧SubB (PV.tl 4 (Lf.dt Sh.tm (woT s (l.zip ts) z2++[etaT (A0 z2)]))) (PV.tl 4 (Lf.dt Sh.tm (woT s (l.zip ts) x3)))∧True)∧True)∧rfB (sV s)∧rfB (PV.bp 0 0)∧rfB (PV.bp 1 0)∧rfB (PV.bp 2 0)∧rfB (dP Sh.str l)∧rfB (iV (↑l.length:Int))∧SubB (iV (IntKind.i64.wrap ((↑z2:Int)+(1:Int)))) (iV (↑x3:Int))∧True); let A5:=fun (z2:Nat)=>((A9 z2)∧SameL [PV.any,sV (A8 z2),dP Sh.str [l.getD (↑z2:Int).toNat Sh.str.nil],PV.any,PV.bp 0 1,dP Sh.tm ts,iV (↑z2:Int),PV.ep [Lf.v (A7 z2),Lf.v (A10 z2),Lf.v (A12 z2),Lf.lr (A11 z2) (A11 z2).length,Lf.dt Sh.tm (A16 z2)],PV.agg (A15 z2),dP Sh.tm [etaT (A0 z2)],PV.bp 2 0,PV.bp 2 1] [PV.any,sV (A8 z2),dP Sh.str [l.getD (↑z2:Int).toNat Sh.str.nil],PV.any,PV.bp 0 1,dP Sh.tm ts,iV (↑z2:Int),PV.ep [Lf.v (A7 z2),Lf.v (A10 z2),Lf.v (A12 z2),Lf.lr (A11 z2) (A11 z2).length,Lf.dt Sh.tm (A16 z2)],PV.agg (A15 z2),dP Sh.tm [etaT (A0 z2)],PV.bp 2 0,PV.bp 2 1]); let A6:=fun (z2:Nat)=>(∃ (x3:Nat),((A17∧(rfB (nlP)∧rfB (nlP)∧True)∧(SubB (PV.tl 3 (Lf.dt Sh.str (woN s (l.zip ts) z2))) (PV.tl 3 (Lf.dt Sh.str (woN s (l.zip ts) x3)))∧SubB (PV.tl 4 (Lf.dt Sh.tm (woT s (l.zip ts) z2))) (PV.tl 4 (Lf.dt Sh.tm (woT s (l.zip ts) x3)))∧True)∧True)∧rfB (sV s)∧rfB (PV.bp 0 0)∧rfB (PV.bp 1 0)∧rfB (PV.bp 2 0)∧rfB (dP Sh.str l)∧rfB (iV (↑l.length:Int))∧SubB (iV (IntKind.i64.wrap ((↑z2:Int)+(1:Int)))) (iV (↑x3:Int))∧True)∧x3≤l.length∧True∧(l.length - x3).succ.le (l.length - z2)); ∃ (x1:Nat),((A17∧(rfB (nlP)∧rfB (nlP)∧True)∧(Qbg (PV.tl 3 (Lf.dt Sh.str (woN s (l.zip ts) x1)))∧Qbg (PV.tl 4 (Lf.dt Sh.tm (woT s (l.zip ts) x1)))∧True)∧True)∧rfB (sV s)∧rfB (PV.bp 0 0)∧rfB (PV.bp 1 0)∧rfB (PV.bp 2 0)∧rfB (dP Sh.str l)∧rfB (iV (↑l.length:Int))∧SubB (iV 0) (iV (↑x1:Int))∧True)∧x1≤l.length∧True∧∀ (z2:Nat),z2≤l.length→True→ifB (decide ((↑z2:Int)<(↑l.length:Int))) (((0:Int)≤(↑z2:Int)∧(↑z2:Int)<(↑l.length:Int))∧ifB (!ByteArray.toList (A8 z2)==s.toList) (ifB (decide ((↑z2:Int)<(↑ts.length:Int))) (((A9 z2)∧SameL [PV.bp 2 0,sV (A8 z2),dP Sh.str [l.getD (↑z2:Int).toNat Sh.str.nil],PV.bp 2 1,PV.bp 0 1,dP Sh.tm ts,iV (↑z2:Int),PV.ep [Lf.v (A7 z2),Lf.v (A10 z2),Lf.v (A12 z2),Lf.lr (A11 z2) (A11 z2).length,Lf.dt Sh.tm (A16 z2)],PV.agg (A15 z2),dP Sh.tm [etaT (A0 z2)],PV.bp 2 0,PV.bp 2 1] [PV.bp 2 0,sV (A8 z2),dP Sh.str [l.getD (↑z2:Int).toNat Sh.str.nil],PV.bp 2 1,PV.bp 0 1,dP Sh.tm ts,iV (↑z2:Int),PV.ep [Lf.v (A7 z2),Lf.v (A10 z2),Lf.v (A12 z2),Lf.lr (A11 z2) (A11 z2).length,Lf.dt Sh.tm (A16 z2)],PV.agg (A15 z2),dP Sh.tm [etaT (A0 z2)],PV.bp 2 0,PV.bp 2 1])∧(((A9 z2)∧SameL [PV.any,sV (A8 z2),dP Sh.str [l.getD (↑z2:Int).toNat Sh.str.nil],PV.bp 2 1,PV.bp 0 1,dP Sh.tm ts,iV (↑z2:Int),PV.ep [Lf.v (A7 z2),Lf.v (A10 z2),Lf.v (A12 z2),Lf.lr (A11 z2) (A11 z2).length,Lf.dt Sh.tm (A16 z2)],PV.agg (A15 z2),dP Sh.tm [etaT (A0 z2)],PV.bp 2 0,PV.bp 2 1] [PV.any,sV (A8 z2),dP Sh.str [l.getD (↑z2:Int).toNat Sh.str.nil],PV.bp 2 1,PV.bp 0 1,dP Sh.tm ts,iV (↑z2:Int),PV.ep [Lf.v (A7 z2),Lf.v (A10 z2),Lf.v (A12 z2),Lf.lr (A11 z2) (A11 z2).length,Lf.dt Sh.tm (A16 z2)],PV.agg (A15 z2),dP Sh.tm [etaT (A0 z2)],PV.bp 2 0,PV.bp 2 1])∧((A13 z2)∧((A9 z2)∧SameL [PV.any,sV (A8 z2),PV.any,PV.bp 2 1,PV.bp 0 1,dP Sh.tm ts,iV (↑z2:Int),PV.ep [Lf.v (A7 z2),Lf.v (A10 z2),Lf.v (A12 z2),Lf.lr (A11 z2) (A11 z2).length,Lf.dt Sh.tm (A16 z2)],PV.agg (A15 z2),dP Sh.tm [etaT (A0 z2)],PV.bp 2 0,PV.bp 2 1] [PV.any,sV (A8 z2),PV.any,PV.bp 2 1,PV.bp 0 1,dP Sh.tm ts,iV (↑z2:Int),PV.ep [Lf.v (A7 z2),Lf.v (A10 z2),Lf.v (A12 z2),Lf.lr (A11 z2) (A11 z2).length,Lf.dt Sh.tm (A16 z2)],PV.agg (A15 z2),dP Sh.tm [etaT (A0 z2)],PV.bp 2 0,PV.bp 2 1])∧(A1 z2)∧(A14 z2)∧(A2 z2)∧(A3 z2)∧SameL [PV.any,PV.any,PV.any,PV.any,PV.any,PV.any,PV.any,PV.any,PV.any,PV.any,PV.any,PV.any] [PV.any,PV.any,PV.any,PV.any,PV.any,PV.any,PV.any,PV.any,PV.any,PV.any,PV.any,PV.any]∧∃ (x3:Nat),(A4 z2 x3)∧x3≤l.length∧True∧(l.length - x3).succ.le (l.length - z2))∧(A5 z2)∧(A13 z2)∧(A1 z2)∧(A14 z2)∧(A2 z2)∧(A3 z2)∧SameL [PV.any,PV.any,PV.any,PV.any,PV.any,PV.any,PV.any,PV.any,PV.any,PV.any,PV.any,PV.any] [PV.any,PV.any,PV.any,PV.any,PV.any,PV.any,PV.any,PV.any,PV.any,PV.any,PV.any,PV.any]∧∃ (x3:Nat),(A4 z2 x3)∧x3≤l.length∧True∧(l.length - x3).succ.le (l.length - z2))∧((A9 z2)∧SameL [PV.bp 2 0,sV (A8 z2),dP Sh.str [l.getD (↑z2:Int).toNat Sh.str.nil],PV.any,PV.bp 0 1,dP Sh.tm ts,iV (↑z2:Int),PV.ep [Lf.v (A7 z2),Lf.v (A10 z2),Lf.v (A12 z2),Lf.lr (A11 z2) (A11 z2).length,Lf.dt Sh.tm (A16 z2)],PV.agg (A15 z2),dP Sh.tm [etaT (A0 z2)],PV.bp 2 0,PV.bp 2 1] [PV.bp 2 0,sV (A8 z2),dP Sh.str [l.getD (↑z2:Int).toNat Sh.str.nil],PV.any,PV.bp 0 1,dP Sh.tm ts,iV (↑z2:Int),PV.ep [Lf.v (A7 z2),Lf.v (A10 z2),Lf.v (A12 z2),Lf.lr (A11 z2) (A11 z2).length,Lf.dt Sh.tm (A16 z2)],PV.agg (A15 z2),dP Sh.tm [etaT (A0 z2)],PV.bp 2 0,PV.bp 2 1])∧(A5 z2)∧(A13 z2)∧(A1 z2)∧(A14 z2)∧(A2 z2)∧(A3 z2)∧SameL [PV.any,PV.any,PV.any,PV.any,PV.any,PV.any,PV.any,PV.any,PV.any,PV.any,PV.any,PV.any] [PV.any,PV.any,PV.any,PV.any,PV.any,PV.any,PV.any,PV.any,PV.any,PV.any,PV.any,PV.any]∧∃ (x3:Nat),(A4 z2 x3)∧x3≤l.length∧True∧(l.length - x3).succ.le (l.length - z2)) (A6 z2)) (A6 z2)) (true=true∧Sub (PV.agg [dP Sh.str (woN s (l.zip ts) z2),dP Sh.tm (woT s (l.zip ts) z2)]) (PV.agg [dP Sh.str (woN s (l.zip ts) l.length),dP Sh.tm (woT s (l.zip ts) l.length)]))) ?kr ?_
     case kr=>kernel_rfl
     conv=>zeta
     refine ⟨?x0,⟨?s0,⟨?s1,⟨trivial,fun z2=>fun hq0=>fun _=>Qaa.2 ⟨fun hb1=>⟨?s2,Qaa.2 ⟨fun hb2=>Qaa.2 ⟨fun hb3=>⟨⟨?s3,⟨rfl⟩⟩,⟨⟨⟨?s4,⟨rfl⟩⟩,⟨⟨?s5,⟨⟨?s6,⟨rfl⟩⟩,⟨⟨?s7,⟨rfl⟩⟩,⟨?s8,⟨⟨?s9,⟨rfl⟩⟩,⟨⟨?s10,⟨rfl⟩⟩,⟨⟨rfl⟩,⟨?x1,⟨⟨⟨⟨.refl _,⟨.refl _,trivial⟩⟩,⟨⟨.refl _,⟨.refl _,trivial⟩⟩,⟨⟨?m0,⟨?m1,trivial⟩⟩,trivial⟩⟩⟩,⟨.refl _,⟨.refl _,⟨.refl _,⟨.refl _,⟨.refl _,⟨.refl _,⟨?m2,trivial⟩⟩⟩⟩⟩⟩⟩⟩,⟨?s11,⟨trivial,?m3⟩⟩⟩⟩⟩⟩⟩⟩⟩⟩⟩,⟨⟨?s12,⟨rfl⟩⟩,⟨?s13,⟨⟨?s14,⟨rfl⟩⟩,⟨?s15,⟨⟨?s16,⟨rfl⟩⟩,⟨⟨?s17,⟨rfl⟩⟩,⟨⟨rfl⟩,⟨?x2,⟨⟨⟨⟨.refl _,⟨.refl _,trivial⟩⟩,⟨⟨.refl _,⟨.refl _,trivial⟩⟩,⟨⟨?m4,⟨?m5,trivial⟩⟩,trivial⟩⟩⟩,⟨.refl _,⟨.refl _,⟨.refl _,⟨.refl _,⟨.refl _,⟨.refl _,⟨?m6,trivial⟩⟩⟩⟩⟩⟩⟩⟩,⟨?s18,⟨trivial,?m7⟩⟩⟩⟩⟩⟩⟩⟩⟩⟩⟩⟩⟩,⟨⟨?s19,⟨rfl⟩⟩,⟨⟨?s20,⟨rfl⟩⟩,⟨?s21,⟨⟨?s22,⟨rfl⟩⟩,⟨?s23,⟨⟨?s24,⟨rfl⟩⟩,⟨⟨?s25,⟨rfl⟩⟩,⟨⟨rfl⟩,⟨?x3,⟨⟨⟨⟨.refl _,⟨.refl _,trivial⟩⟩,⟨⟨.refl _,⟨.refl _,trivial⟩⟩,⟨⟨?m8,⟨?m9,trivial⟩⟩,trivial⟩⟩⟩,⟨.refl _,⟨.refl _,⟨.refl _,⟨.refl _,⟨.refl _,⟨.refl _,⟨?m10,trivial⟩⟩⟩⟩⟩⟩⟩⟩,⟨?s26,⟨trivial,?m11⟩⟩⟩⟩⟩⟩⟩⟩⟩⟩⟩⟩⟩⟩,fun hb3=>⟨?x4,⟨⟨⟨⟨.refl _,⟨.refl _,trivial⟩⟩,⟨⟨.refl _,⟨.refl _,trivial⟩⟩,⟨⟨?m12,⟨?m13,trivial⟩⟩,trivial⟩⟩⟩,⟨.refl _,⟨.refl _,⟨.refl _,⟨.refl _,⟨.refl _,⟨.refl _,⟨?m14,trivial⟩⟩⟩⟩⟩⟩⟩⟩,⟨?s27,⟨trivial,?m15⟩⟩⟩⟩⟩,fun hb2=>⟨?x5,⟨⟨⟨⟨.refl _,⟨.refl _,trivial⟩⟩,⟨⟨.refl _,⟨.refl _,trivial⟩⟩,⟨⟨?m16,⟨?m17,trivial⟩⟩,trivial⟩⟩⟩,⟨.refl _,⟨.refl _,⟨.refl _,⟨.refl _,⟨.refl _,⟨.refl _,⟨?m18,trivial⟩⟩⟩⟩⟩⟩⟩⟩,⟨?s28,⟨trivial,?m19⟩⟩⟩⟩⟩⟩,fun hb1=>⟨rfl,?m20⟩⟩⟩⟩⟩⟩
     all_goals try simp only [etaT] at *
     case x0=>exact 0
     case x1=>exact z2+1
     case x2=>exact z2+1
     case x3=>exact z2+1
     case x4=>exact z2+1
     case x5=>exact z2+1
     all_goals try simp only [Tw.eta,bs_l,Bool.not_eq_true',Bool.not_eq_false',decide_eq_true_eq,decide_eq_false_iff_not,Int.toNat_natCast,Int.ofNat_lt,beq_iff_eq,ne_eq] at *
     case s0=>rw [woN_0,woT_0]; repeat' first | exact SubB.refl _ | exact trivial | exact rfl | refine And.intro ?_ ?_
     case s1=>exact Nat.zero_le _
     case m20=>(obtain rfl:z2=l.length:=by omega); exact .refl _
     all_goals have hzl:z2<l.length:=by omega
     all_goals have hwn:=Qsf (s:=s) (Z:=l.zip ts) (i:=z2)
     all_goals have hwt:=Qsd (s:=s) (Z:=l.zip ts) (i:=z2)
     all_goals first
      | omega
      | exact Qad (by rw [wJ _ (by omega) (by omega)]; rfl)
      | exact (by omega:l.length - (z2+1)<l.length - z2)
      | exact Qa4 (by unfold woN; rw [Qrt hzl (by omega) hb2,List.map_append]; rfl)
      | exact Qa4 (by unfold woT; rw [Qrt hzl (by omega) hb2,List.map_append]; rfl)
      | exact Qa4 (by unfold woN; rw [QgS (.inl hb2) hzl])
      | exact Qa4 (by unfold woT; rw [QgS (.inl hb2) hzl])
      | exact Qa4 (by unfold woN; rw [QgS (.inr (by omega)) hzl])
      | exact Qa4 (by unfold woT; rw [QgS (.inr (by omega)) hzl])
      | skip
   · cases hs
 · cases hs
end Go.Proofs.YtijfaigpilfpaaaGreatDoor
namespace Go.Proofs.YtijfaigpilfpaaaGreatDoor
open Go.RowKit
set_option linter.unusedVariables false
set_option maxRecDepth 100000
def QsG:Spec
 | [x]=>match tyOf x with
  | some t=>some (some t.fit,.nm Bool (plaY t) bV)
  | none=>none
 | _=>none
theorem cPlaY {E:Env} (hU:Up E):Contract Tryz.prog E 10 QsG:=by
 intro xs p r hs hp
 unfold QsG at hs
 split at hs
 · rename_i x
   split at hs
   · rename_i t ht
     cases hs
     exact Qr1 hU (t.size+1) [x] _ _ (by simp only [Qir,ht]; rfl) (fun q hq=>by cases hq; exact ⟨Nat.lt_succ_self _,hp _ rfl⟩)
   · cases hs
 · cases hs
def Qg9:Spec
 | [x,.f a,.f b]=>match tyOf x,dtOf .str a,dtOf .tm b with
  | some t,some l,some ts=>some (some (t.fit∧(∀ u∈ts,u.fitT)∧l.length≤100000000∧ts.length≤100000000),.nm (Except Int Yw) (sbY (woZ nV (l.zip ts)) t) fun z=>.tup [tyP (valE Sh.ty.nil z),iV (errE z)])
  | _,_,_=>none
 | _=>none
def okWt (t:Yw) (m:Tw):Prop:=t.fit∧(m.fitT∧QaQ m)∧(t.ref.size≤10000000∧m.size≤10000000)∧(keyB t.ref).length≤140737488355328∧(keyB m).length≤140737488355328
theorem Qc4 (y:Yw):sameY y y=true:=QaL.2 rfl
theorem Qia (t:Yw) (m:Tw):Yw.mk (QaB t m).fn (QaB t m).sort t.ref (QaB t m).params (QaB t m).result=t:=by
 obtain ⟨h1,h2,h3,h4⟩:=Qnq t m
 rw [h1,h2,h3,h4]
 exact Yw.eta t
theorem Qik {l:List ByteArray} {ts:List Tw} {t:Tw} {e:Int} (h:QaC l ts t=.error e):e≠0:=by
 unfold QaC at h
 split at h
 · cases h
 · cases h; decide
mutual
theorem Qio:∀ (y:Yw) {Z:List (ByteArray × Tw)} {e:Int},sbY Z y=.error e→e≠0
 | .mk f s t p r,Z,e,h=>by
  rw [sbY] at h
  split at h
  · rename_i e' he; cases h; exact Qik he
  split at h
  · rename_i e' he; cases h; exact QrA p he
  split at h
  · rename_i e' he; cases h; exact Qry r he
  · cases h
theorem sbQ_ne:∀ (x:ByteArray × Yw) {Z:List (ByteArray × Tw)} {e:Int},sbQ Z x=.error e→e≠0
 | (s,y),Z,e,h=>by
  rw [sbQ] at h
  split at h
  · rename_i e' he; cases h; exact Qio y he
  · cases h
theorem QrA:∀ (l:List (ByteArray × Yw)) {Z:List (ByteArray × Tw)} {e:Int},sbP Z l=.error e→e≠0
 | [],Z,e,h=>by rw [sbP] at h; cases h
 | x::l,Z,e,h=>by
  rw [sbP] at h
  split at h
  · rename_i e' he; cases h; exact sbQ_ne x he
  split at h
  · rename_i e' he; cases h; exact QrA l he
  · cases h
theorem Qry:∀ (l:List Yw) {Z:List (ByteArray × Tw)} {e:Int},sbR Z l=.error e→e≠0
 | [],Z,e,h=>by rw [sbR] at h; cases h
 | y::l,Z,e,h=>by
  rw [sbR] at h
  split at h
  · rename_i e' he; cases h; exact Qio y he
  split at h
  · rename_i e' he; cases h; exact Qry l he
  · cases h
end
theorem Qln:∀ (N:List ByteArray),ownZ (N.zip (N.map varN))
 | [],x,h=>by cases h
 | n::N,x,h=>by
  rcases List.mem_cons.1 (show x∈(n,varN n)::N.zip (N.map varN) from h) with rfl | h
  · rfl
  · exact Qln N x h
theorem Qoj {N:List ByteArray} {t:Yw} (hp:plaY t=true) (he:errE (sbY (woZ nV (N.zip (N.map varN))) t)=0):valE Sh.ty.nil (sbY (woZ nV (N.zip (N.map varN))) t)=t :=
 Qjv t (QjS (Qln N) nV) hp (QhE Sh.ty.nil (fun e=>Qio t) he)
noncomputable def sOnce:Spec
 | [x,y,.f a]=>match tyOf x,tmOf y,dtOf .str a with
  | some t,some m,some N=>some (some ((okWt t m∧okWt (QaB t m) m)∧cntY t≤4000000∧cntT m≤4000000∧N.length≤100000000∧∀ n∈N,n.size≤4611686018427387904),.one (bV true))
  | _,_,_=>none
 | _=>none
set_option maxHeartbeats 8000000 in
theorem cOnce {E:Env} (hU:Up E) (hT:∀ K w H,E K w H→Tab w) (hS:Contract Tryz.prog E 8 Qg9):Contract Tryz.prog E 3 sOnce:=by
 refine Qac [(6,QjA),(7,Qhd),(8,Qg9),(9,Qk2),(11,sSameY),(10,QsG),(12,sSameY),(13,sAlike)] [] Tryz.ntmps3 Tryz.func3 (by kernel_rfl) (by kernel_rfl) hU ⟨Qrh hU hT,Qrf hU,hS,QrV hU hT,QrZ hU,cPlaY hU,cKitY hU,Qr6 hU,trivial⟩ trivial ?_
 intro xs pp r hs hp
 unfold sOnce at hs
 split at hs
 · rename_i x y a
   split at hs
   · rename_i t m N hx hy ha
     cases hs
     obtain ⟨⟨w1,w2⟩,c1,c2,c3,c4⟩:=hp _ rfl
     refine ⟨[tyP t,tmP m,.f (.dt .str N)],[
      (7,.s ⟨Nat,fun i=>⟨[(2,.f (.dt .str N)),(3,.bp 0 0),(4,.bp 1 0),(7,.tl 2 (.dt .tm ((N.take i).map varN))),(8,iV i)],[.cells (Qae (tyC t)),.cells (Qae (tmC m)),.tail 28 5]⟩,fun i=>i≤N.length,fun i=>N.length - i⟩)],.cons (Qbp hx).sub (.cons (QaG hy).sub (.cons (Qa9 ha).sub .nil)),rfl,fun _ hsh=>?_⟩
     have h0:=c1
     refine Qab (p:=let A0:=Yw.mk t.fn t.sort (etaT t.ref) t.params t.result; let A1:=fun (z5:Yw)=>(Yw.mk z5.fn z5.sort (etaT z5.ref) z5.params z5.result); let A2:=true=true∧Sub (bV false) (bV true); let A3:=(rfB (bV t.fn)∧rfB (sV t.sort)∧rfB (uV t.ref.kind)∧rfB (sV t.ref.name)∧rfB (bV t.ref.neg)∧rfB (PV.f (Lf.lr t.ref.digits t.ref.digits.length))∧rfB (dP Sh.tm t.ref.kids)∧rfB (dP Sh.prm t.params)∧rfB (dP Sh.ty t.result)∧True)∧(rfB (uV m.kind)∧rfB (sV m.name)∧rfB (bV m.neg)∧rfB (PV.f (Lf.lr m.digits m.digits.length))∧rfB (dP Sh.tm m.kids)∧True)∧True; let A4:=fun (z5:Yw)=>((A1 z5).fit∧((etaT m).fitT∧QaQ (etaT m))∧((A1 z5).ref.size≤10000000∧(etaT m).size≤10000000)∧(keyB (A1 z5).ref).length≤140737488355328∧(keyB (etaT m)).length≤140737488355328); let A5:=fun (z5:Yw)=>(Yw.mk z5.fn z5.sort (etaT t.ref) z5.params z5.result); let A6:=fun (z4:Except Int Yw)=>(Yw.mk (valE Sh.ty.nil z4).fn (valE Sh.ty.nil z4).sort (etaT ((valE Sh.ty.nil z4).ref)) (valE Sh.ty.nil z4).params (valE Sh.ty.nil z4).result); let A7:=A0.fit∧A0.fit; (0≤4000000∧0≤4000000∧QaI [Yw.mk t.fn t.sort (etaT t.ref) t.params t.result]≤4000000∧Qat [etaT m]≤4000000)∧∀ (z1:Bool),z1=gt14 [] [] [] [Yw.mk t.fn t.sort (etaT t.ref) t.params t.result] [etaT m]→ifB z1 (true=true∧rfS (bV true)) (ifB (decide ((↑N.length:Int) > (300:Int))) (true=true∧rfS (bV true)) (∃ (x2:Nat),(A3∧rfB (dP Sh.str N)∧rfB (PV.bp 0 0)∧rfB (PV.bp 1 0)∧Qbg (PV.tl 2 (Lf.dt Sh.tm (List.map varN (List.take x2 N))))∧SubB (iV 0) (iV (↑x2:Int))∧True)∧x2≤N.length∧True∧∀ (z3:Nat),z3≤N.length→True→ifB (decide ((↑z3:Int)<(↑N.length:Int))) (((0:Int)≤(↑z3:Int)∧(↑z3:Int)<(↑N.length:Int))∧((List.map varN (List.take z3 N)).length+1≤9223372036854775807∧((List.map varN (List.take z3 N)).length+1) * 80≤140737488355328)∧∃ (x4:Nat),(A3∧rfB (dP Sh.str N)∧rfB (PV.bp 0 0)∧rfB (PV.bp 1 0)∧SubB (PV.tl 2 (Lf.dt Sh.tm (List.map varN (List.take z3 N)++[Tw.mk (1:Int) (N.getD (↑z3:Int).toNat Sh.str.nil) false [] []]))) (PV.tl 2 (Lf.dt Sh.tm (List.map varN (List.take x4 N))))∧SubB (iV (IntKind.i64.wrap ((↑z3:Int)+(1:Int)))) (iV (↑x4:Int))∧True)∧x4≤N.length∧True∧(N.length - x4).succ.le (N.length - z3)) ((A0.fit∧(∀ (u:Sh.tm.T),u∈List.map varN (List.take z3 N)→Tw.fitT u)∧N.length≤100000000∧(List.map varN (List.take z3 N)).length≤100000000)∧∀ (z4:Except Int Yw),z4=sbY (woZ nV (N.zip (List.map varN (List.take z3 N)))) A0→(A0.fit∧((etaT m).fitT∧QaQ (etaT m))∧(A0.ref.size≤10000000∧(etaT m).size≤10000000)∧(keyB A0.ref).length≤140737488355328∧(keyB (etaT m)).length≤140737488355328)∧∀ (z5:Yw),z5=QaB A0 (etaT m)→ifB (errE z4==(0:Int)) (A0.fit∧∀ (z6:Bool),z6=plaY A0→ifB z6 (((A6 z4).fit∧A0.fit)∧∀ (z7:Bool),z7=sameY (A6 z4) A0→ifB (!z7) A2 ((A4 z5)∧∀ (z8:Yw),z8=QaB (A1 z5) (etaT m)→((Yw.mk z8.fn z8.sort (etaT z8.ref) z8.params z8.result).fit∧(A1 z5).fit)∧∀ (z9:Bool),z9=sameY (Yw.mk z8.fn z8.sort (etaT z8.ref) z8.params z8.result) (A1 z5)→ifB (!z9) A2 (ifB (!z5.sort.toList==t.sort.toList) A2 (ifB (!z5.fn==t.fn) A2 (A7∧∀ (z10:Bool),z10=sameY A0 A0→ifB (!z10) A2 (((A5 z5).fit∧A0.fit)∧∀ (z11:Bool),z11=sameY (A5 z5) A0→ifB z11 (((A1 z5).fit∧A0.fit)∧∀ (z12:Bool),z12=alikeY (A1 z5) A0→A7∧∀ (z13:Bool),z13=alikeY A0 A0→ifB (z12==z13) ((A0.fit∧(A1 z5).fit)∧∀ (z14:Bool),z14=alikeY A0 (A1 z5)→((A1 z5).fit∧A0.fit)∧∀ (z15:Bool),z15=alikeY (A1 z5) A0→true=true∧Sub (bV (z14==z15)) (bV true)) A2) A2)))))) ((A4 z5)∧∀ (z7:Yw),z7=QaB (A1 z5) (etaT m)→((Yw.mk z7.fn z7.sort (etaT z7.ref) z7.params z7.result).fit∧(A1 z5).fit)∧∀ (z8:Bool),z8=sameY (Yw.mk z7.fn z7.sort (etaT z7.ref) z7.params z7.result) (A1 z5)→ifB (!z8) A2 (ifB (!z5.sort.toList==t.sort.toList) A2 (ifB (!z5.fn==t.fn) A2 (A7∧∀ (z9:Bool),z9=sameY A0 A0→ifB (!z9) A2 (((A5 z5).fit∧A0.fit)∧∀ (z10:Bool),z10=sameY (A5 z5) A0→ifB z10 (((A1 z5).fit∧A0.fit)∧∀ (z11:Bool),z11=alikeY (A1 z5) A0→A7∧∀ (z12:Bool),z12=alikeY A0 A0→ifB (z11==z12) ((A0.fit∧(A1 z5).fit)∧∀ (z13:Bool),z13=alikeY A0 (A1 z5)→((A1 z5).fit∧A0.fit)∧∀ (z14:Bool),z14=alikeY (A1 z5) A0→true=true∧Sub (bV (z13==z14)) (bV true)) A2) A2)))))) ((A4 z5)∧∀ (z6:Yw),z6=QaB (A1 z5) (etaT m)→((Yw.mk z6.fn z6.sort (etaT z6.ref) z6.params z6.result).fit∧(A1 z5).fit)∧∀ (z7:Bool),z7=sameY (Yw.mk z6.fn z6.sort (etaT z6.ref) z6.params z6.result) (A1 z5)→ifB (!z7) A2 (ifB (!z5.sort.toList==t.sort.toList) A2 (ifB (!z5.fn==t.fn) A2 (A7∧∀ (z8:Bool),z8=sameY A0 A0→ifB (!z8) A2 (((A5 z5).fit∧A0.fit)∧∀ (z9:Bool),z9=sameY (A5 z5) A0→ifB z9 (((A1 z5).fit∧A0.fit)∧∀ (z10:Bool),z10=alikeY (A1 z5) A0→A7∧∀ (z11:Bool),z11=alikeY A0 A0→ifB (z10==z11) ((A0.fit∧(A1 z5).fit)∧∀ (z12:Bool),z12=alikeY A0 (A1 z5)→((A1 z5).fit∧A0.fit)∧∀ (z13:Bool),z13=alikeY (A1 z5) A0→true=true∧Sub (bV (z12==z13)) (bV true)) A2) A2))))))))) ?kr ?_
     case kr=>kernel_rfl
     conv=>zeta
     refine ⟨?s0,fun z1=>fun hz1=>Qaa.2 ⟨fun hb0=>⟨rfl,?m0⟩,fun hb0=>Qaa.2 ⟨fun hb1=>⟨rfl,?m1⟩,fun hb1=>⟨?x0,⟨?s1,⟨?s2,⟨trivial,fun z3=>fun hq2=>fun _=>Qaa.2 ⟨fun hb3=>⟨?s3,⟨?s4,⟨?x1,⟨⟨⟨⟨.refl _,⟨.refl _,⟨.refl _,⟨.refl _,⟨.refl _,⟨.refl _,⟨.refl _,⟨.refl _,⟨.refl _,trivial⟩⟩⟩⟩⟩⟩⟩⟩⟩,⟨⟨.refl _,⟨.refl _,⟨.refl _,⟨.refl _,⟨.refl _,trivial⟩⟩⟩⟩⟩,trivial⟩⟩,⟨.refl _,⟨.refl _,⟨.refl _,⟨?m2,⟨?m3,trivial⟩⟩⟩⟩⟩⟩,⟨?s5,⟨trivial,?m4⟩⟩⟩⟩⟩⟩,fun hb3=>⟨?s6,fun z4=>fun hz4=>⟨?s7,fun z5=>fun hz5=>Qaa.2 ⟨fun hb4=>⟨?s8,fun z6=>fun hz6=>Qaa.2 ⟨fun hb5=>⟨?s9,fun z7=>fun hz7=>Qaa.2 ⟨fun hb6=>⟨rfl,?m5⟩,fun hb6=>⟨?s10,fun z8=>fun hz8=>⟨?s11,fun z9=>fun hz9=>Qaa.2 ⟨fun hb7=>⟨rfl,?m6⟩,fun hb7=>Qaa.2 ⟨fun hb8=>⟨rfl,?m7⟩,fun hb8=>Qaa.2 ⟨fun hb9=>⟨rfl,?m8⟩,fun hb9=>⟨?s12,fun z10=>fun hz10=>Qaa.2 ⟨fun hb10=>⟨rfl,?m9⟩,fun hb10=>⟨?s13,fun z11=>fun hz11=>Qaa.2 ⟨fun hb11=>⟨?s14,fun z12=>fun hz12=>⟨?s15,fun z13=>fun hz13=>Qaa.2 ⟨fun hb12=>⟨?s16,fun z14=>fun hz14=>⟨?s17,fun z15=>fun hz15=>⟨rfl,?m10⟩⟩⟩,fun hb12=>⟨rfl,?m11⟩⟩⟩⟩,fun hb11=>⟨rfl,?m12⟩⟩⟩⟩⟩⟩⟩⟩⟩⟩⟩⟩,fun hb5=>⟨?s18,fun z7=>fun hz7=>⟨?s19,fun z8=>fun hz8=>Qaa.2 ⟨fun hb13=>⟨rfl,?m13⟩,fun hb13=>Qaa.2 ⟨fun hb14=>⟨rfl,?m14⟩,fun hb14=>Qaa.2 ⟨fun hb15=>⟨rfl,?m15⟩,fun hb15=>⟨?s20,fun z9=>fun hz9=>Qaa.2 ⟨fun hb16=>⟨rfl,?m16⟩,fun hb16=>⟨?s21,fun z10=>fun hz10=>Qaa.2 ⟨fun hb17=>⟨?s22,fun z11=>fun hz11=>⟨?s23,fun z12=>fun hz12=>Qaa.2 ⟨fun hb18=>⟨?s24,fun z13=>fun hz13=>⟨?s25,fun z14=>fun hz14=>⟨rfl,?m17⟩⟩⟩,fun hb18=>⟨rfl,?m18⟩⟩⟩⟩,fun hb17=>⟨rfl,?m19⟩⟩⟩⟩⟩⟩⟩⟩⟩⟩⟩⟩,fun hb4=>⟨?s26,fun z6=>fun hz6=>⟨?s27,fun z7=>fun hz7=>Qaa.2 ⟨fun hb19=>⟨rfl,?m20⟩,fun hb19=>Qaa.2 ⟨fun hb20=>⟨rfl,?m21⟩,fun hb20=>Qaa.2 ⟨fun hb21=>⟨rfl,?m22⟩,fun hb21=>⟨?s28,fun z8=>fun hz8=>Qaa.2 ⟨fun hb22=>⟨rfl,?m23⟩,fun hb22=>⟨?s29,fun z9=>fun hz9=>Qaa.2 ⟨fun hb23=>⟨?s30,fun z10=>fun hz10=>⟨?s31,fun z11=>fun hz11=>Qaa.2 ⟨fun hb24=>⟨?s32,fun z12=>fun hz12=>⟨?s33,fun z13=>fun hz13=>⟨rfl,?m24⟩⟩⟩,fun hb24=>⟨rfl,?m25⟩⟩⟩⟩,fun hb23=>⟨rfl,?m26⟩⟩⟩⟩⟩⟩⟩⟩⟩⟩⟩⟩⟩⟩⟩⟩⟩⟩⟩⟩⟩
     all_goals try simp only [etaT] at *
     case x0=>exact 0
     case x1=>exact z3+1
     all_goals try simp only [Tw.eta,Yw.eta,bs_l,Bool.not_eq_true',Bool.not_eq_false',decide_eq_true_eq,decide_eq_false_iff_not,Int.toNat_natCast,Int.ofNat_lt,beq_iff_eq,beq_eq_false_iff_ne,ne_eq] at *
     case s0=>exact ⟨by omega,by omega,by rw [QaI,QaI]; omega,by rw [Qat,Qat]; omega⟩
     case m0=>exact .refl _
     case m1=>exact .refl _
     case s1=>repeat' first | exact SubB.refl _ | exact trivial | exact rfl | refine And.intro ?_ ?_
     case s2=>exact Nat.zero_le _
     case s3=>omega
     case s4=>rw [List.length_map,List.length_take]; omega
     case m2=>exact Qa4 (by rw [Qnw (by omega),List.map_append]; rfl)
     case m3=>exact Qad (by rw [wJ _ (by omega) (by omega)]; rfl)
     case s5=>omega
     case m4=>exact (by omega:N.length - (z3+1)<N.length - z3)
     all_goals (obtain rfl:z3=N.length:=by omega)
     all_goals try rw [List.take_length] at *
     case s6=>exact ⟨w1.1,(fun u hu=>by obtain ⟨n,hn,rfl⟩:=List.mem_map.1 hu; exact ⟨c4 n hn,by decide,by decide,trivial⟩),c3,by rw [List.length_map]; exact c3⟩
     case s7=>exact w1
     all_goals subst hz5
     all_goals have F1:=Qnq t m
     all_goals have F3:=Qnf t m
     all_goals try simp only [Qd8,Qia,Qc4,F1.1,F1.2.1,F1.2.2.1,F1.2.2.2,F3.1,F3.2] at *
     all_goals subst hz4
     case s9=>exact ⟨by rw [Qoj (hz6.symm.trans hb5) hb4]; exact w1.1,w1.1⟩
     case m5 =>
      rw [Qoj (hz6.symm.trans hb5) hb4,Qc4,hb6] at hz7
      cases hz7
     all_goals try subst hz6
     all_goals try subst hz7
     all_goals try subst hz8
     all_goals try subst hz9
     all_goals try subst hz10
     all_goals try subst hz11
     all_goals try subst hz12
     all_goals try subst hz13
     all_goals try subst hz14
     all_goals try subst hz15
     all_goals try subst hz16
     all_goals try subst hz17
     all_goals try subst hz18
     all_goals try simp only [Qd8,Qia,Qc4,F1.1,F1.2.1,F1.2.2.1,F1.2.2.2,F3.1,F3.2,not_true_eq_false,beq_self_eq_true,Bool.true_eq_false] at *
     all_goals try simp only [Yw.eta,Qc4,beq_self_eq_true,Bool.true_eq_false] at *
     all_goals clear F1 F3
     all_goals first
      | contradiction
      | exact w1.1
      | exact w2
      | exact ⟨w1.1,w1.1⟩
      | exact ⟨w2.1,w2.1⟩
      | exact ⟨w1.1,w2.1⟩
      | exact ⟨w2.1,w1.1⟩
      | exact .refl _
      | skip
   · cases hs
 · cases hs
end Go.Proofs.YtijfaigpilfpaaaGreatDoor
namespace Go.Proofs.YtijfaigpilfpaaaGreatDoor
open Go.RowKit
set_option linter.unusedVariables false
set_option linter.unusedSimpArgs false
set_option maxRecDepth 100000
def fst0 (a b:Int):Int:=if a=0 then b else a
theorem QlJ (a:Int):fst0 a 0=a:=by unfold fst0; split <;> omega
theorem QeD (b:Int):fst0 0 b=b:=if_pos rfl
theorem Qdv {a:Int} (h:¬ a=0) (b:Int):fst0 a b=a:=if_neg h
theorem QbL (a b c:Int):fst0 (fst0 a b) c=fst0 a (fst0 b c):=by
 unfold fst0; repeat' split <;> omega
noncomputable def rowP:List (ByteArray × Tw)→List (ByteArray × Yw)→List (ByteArray × Yw)
 | _,[]=>[]
 | Z,x::l=>(x.1,valE Sh.ty.nil (sbY Z x.2))::rowP (woZ x.1 Z) l
noncomputable def fstP:List (ByteArray × Tw)→List (ByteArray × Yw)→Int
 | _,[]=>0
 | Z,x::l=>fst0 (errE (sbY Z x.2)) (fstP (woZ x.1 Z) l)
noncomputable def rowR (Z:List (ByteArray × Tw)) (l:List Yw):List Yw:=l.map fun y=>valE Sh.ty.nil (sbY Z y)
noncomputable def fstR (Z:List (ByteArray × Tw)):List Yw→Int
 | []=>0
 | y::l=>fst0 (errE (sbY Z y)) (fstR Z l)
theorem sbQ_eq (Z:List (ByteArray × Tw)) (x:ByteArray × Yw):sbQ Z x=match sbY Z x.2 with | .error e=>.error e | .ok u=>.ok (x.1,u):=by
 obtain ⟨s,y⟩:=x; rw [sbQ]; try rfl
theorem QrB:∀ (l:List (ByteArray × Yw)) (Z:List (ByteArray × Tw)),sbP Z l=if fstP Z l=0 then .ok (rowP Z l) else .error (fstP Z l)
 | [],Z=>by rw [sbP,fstP,if_pos rfl,rowP]
 | x::l,Z=>by
  rw [sbP,sbQ_eq,fstP,rowP]
  cases h:sbY Z x.2 with
  | error e =>
   have hne:=Qio _ h
   show Except.error e=if fst0 e _=0 then _ else Except.error (fst0 e _)
   rw [Qdv hne,if_neg hne]
  | ok u =>
   show (match sbP (woZ x.1 Z) l with | .error e=>_ | .ok l'=>_)=if fst0 0 _=0 then _ else _
   rw [QeD,QrB l (woZ x.1 Z)]
   by_cases h0:fstP (woZ x.1 Z) l=0
   · rw [if_pos h0,if_pos h0]; rfl
   · rw [if_neg h0,if_neg h0]; rfl
theorem Qrz (Z:List (ByteArray × Tw)):∀ (l:List Yw),sbR Z l=if fstR Z l=0 then .ok (rowR Z l) else .error (fstR Z l)
 | []=>by rw [sbR,fstR,if_pos rfl,rowR]; rfl
 | y::l=>by
  rw [sbR,fstR]
  cases h:sbY Z y with
  | error e =>
   have hne:=Qio _ h
   show Except.error e=if fst0 e _=0 then _ else Except.error (fst0 e _)
   rw [Qdv hne,if_neg hne]
  | ok u =>
   have e1:rowR Z (y::l)=u::rowR Z l:=by unfold rowR; rw [List.map_cons,h]; rfl
   show (match sbR Z l with | .error e=>_ | .ok l'=>_)=if fst0 0 _=0 then _ else _
   rw [QeD,Qrz Z l,e1]
   by_cases h0:fstR Z l=0
   · rw [if_pos h0,if_pos h0]
   · rw [if_neg h0,if_neg h0]; rfl
noncomputable def fstY (Z:List (ByteArray × Tw)) (t:Yw):Int:=fst0 (fst0 (errE (QaC (Z.map (·.1)) (Z.map (·.2)) t.ref)) (fstP Z t.params)) (fstR (woL Z t.params) t.result)
theorem Qrx (Z:List (ByteArray × Tw)) (t:Yw):sbY Z t=if fstY Z t=0 then .ok (.mk t.fn t.sort (valE Sh.tm.nil (QaC (Z.map (·.1)) (Z.map (·.2)) t.ref)) (rowP Z t.params) (rowR (woL Z t.params) t.result)) else .error (fstY Z t):=by
 obtain ⟨f,s,r,p,q⟩:=t
 rw [sbY,QrB,Qrz]
 show _=if fstY Z (.mk f s r p q)=0 then Except.ok (Yw.mk f s (valE Sh.tm.nil (QaC (Z.map (·.1)) (Z.map (·.2)) r)) (rowP Z p) (rowR (woL Z p) q)) else Except.error (fstY Z (.mk f s r p q))
 have hf:fstY Z (.mk f s r p q)=fst0 (fst0 (errE (QaC (Z.map (·.1)) (Z.map (·.2)) r)) (fstP Z p)) (fstR (woL Z p) q):=rfl
 rw [hf]
 cases h:QaC (Z.map (·.1)) (Z.map (·.2)) r with
 | error e =>
  have hne:=Qik h
  show Except.error e=if fst0 (fst0 e _) _=0 then _ else Except.error (fst0 (fst0 e _) _)
  rw [Qdv hne,Qdv hne,if_neg hne]
 | ok u =>
  show (match (if fstP Z p=0 then Except.ok (rowP Z p) else Except.error (fstP Z p)) with | .error e=>_ | .ok q'=>_)=if fst0 (fst0 0 _) _=0 then _ else Except.error (fst0 (fst0 0 _) _)
  rw [QeD]
  by_cases h0:fstP Z p=0
  · rw [if_pos h0,h0,QeD]
    dsimp only
    by_cases h1:fstR (woL Z p) q=0
    · rw [if_pos h1,if_pos h1]; rfl
    · rw [if_neg h1,if_neg h1]
  · rw [if_neg h0,Qdv h0,if_neg h0]
theorem QgT {Z:List (ByteArray × Tw)} {p:List (ByteArray × Yw)} {i:Nat} (h:i<p.length):woL Z (p.take (i+1))=woZ (p.getD i Sh.prm.nil).1 (woL Z (p.take i)):=by
 rw [List.take_add_one,List.getElem?_eq_getElem h,List.getD_eq_getElem?_getD,List.getElem?_eq_getElem h]
 unfold woL
 rw [List.foldl_append]; rfl
theorem Qla:∀ (a:List (ByteArray × Yw)) {b:List (ByteArray × Yw)} {Z:List (ByteArray × Tw)},rowP Z (a++b)=rowP Z a++rowP (woL Z a) b
 | [],b,Z=>rfl
 | x::a,b,Z=>by rw [List.cons_append,rowP,rowP,Qla a]; rfl
theorem QlH:∀ (a:List (ByteArray × Yw)) {b:List (ByteArray × Yw)} {Z:List (ByteArray × Tw)},fstP Z (a++b)=fst0 (fstP Z a) (fstP (woL Z a) b)
 | [],b,Z=>(QeD _).symm
 | x::a,b,Z=>by rw [List.cons_append,fstP,fstP,QlH a,QbL]; rfl
theorem Qlb {Z:List (ByteArray × Tw)} {p:List (ByteArray × Yw)} {i:Nat} (h:i<p.length):rowP Z (p.take (i+1))=rowP Z (p.take i)++[((p.getD i Sh.prm.nil).1,valE Sh.ty.nil (sbY (woL Z (p.take i)) (p.getD i Sh.prm.nil).2))]:=by
 rw [List.take_add_one,List.getElem?_eq_getElem h,List.getD_eq_getElem?_getD,List.getElem?_eq_getElem h,Qla]; rfl
theorem QlI {Z:List (ByteArray × Tw)} {p:List (ByteArray × Yw)} {i:Nat} (h:i<p.length):fstP Z (p.take (i+1))=fst0 (fstP Z (p.take i)) (errE (sbY (woL Z (p.take i)) (p.getD i Sh.prm.nil).2)):=by
 rw [List.take_add_one,List.getElem?_eq_getElem h,List.getD_eq_getElem?_getD,List.getElem?_eq_getElem h,QlH]
 show fst0 _ (fst0 _ 0)=_
 rw [QlJ]; rfl
theorem Qk9 {Z:List (ByteArray × Tw)} {p:List Yw} {i:Nat} (h:i<p.length):rowR Z (p.take (i+1))=rowR Z (p.take i)++[valE Sh.ty.nil (sbY Z (p.getD i Sh.ty.nil))]:=by
 unfold rowR
 rw [List.take_add_one,List.getElem?_eq_getElem h,List.getD_eq_getElem?_getD,List.getElem?_eq_getElem h,List.map_append]; rfl
theorem QlF (Z:List (ByteArray × Tw)):∀ (a:List Yw) {b:List Yw},fstR Z (a++b)=fst0 (fstR Z a) (fstR Z b)
 | [],b=>(QeD _).symm
 | x::a,b=>by rw [List.cons_append,fstR,fstR,QlF Z a,QbL]
theorem QlG {Z:List (ByteArray × Tw)} {p:List Yw} {i:Nat} (h:i<p.length):fstR Z (p.take (i+1))=fst0 (fstR Z (p.take i)) (errE (sbY Z (p.getD i Sh.ty.nil))):=by
 rw [List.take_add_one,List.getElem?_eq_getElem h,List.getD_eq_getElem?_getD,List.getElem?_eq_getElem h,QlF]
 show fst0 _ (fst0 _ 0)=_
 rw [QlJ]; rfl
theorem Qhg:∀ (l:List (ByteArray × Yw)) {Z:List (ByteArray × Tw)},(rowP Z l).length=l.length
 | [],Z=>rfl
 | x::l,Z=>by rw [rowP,List.length_cons,List.length_cons,Qhg l]
theorem Qk8 (l:List Yw) {Z:List (ByteArray × Tw)}:(rowR Z l).length=l.length:=List.length_map ..
theorem Qru {s:ByteArray} {Z:List (ByteArray × Tw)} {x:ByteArray × Tw} (h:x∈woZ s Z):x∈Z:=(List.mem_filter.1 h).1
theorem Qno (s:ByteArray) (Z:List (ByteArray × Tw)):(woZ s Z).length≤Z.length:=List.length_filter_le ..
theorem Qnp:∀ (p:List (ByteArray × Yw)) {Z:List (ByteArray × Tw)} {x:ByteArray × Tw},x∈woL Z p→x∈Z
 | [],Z,x,h=>h
 | q::p,Z,x,h=>Qru (Qnp p (Z:=woZ q.1 Z) h)
theorem Qjq:∀ (p:List (ByteArray × Yw)) (Z:List (ByteArray × Tw)),(woL Z p).length≤Z.length
 | [],Z=>Nat.le_refl _
 | q::p,Z=>Nat.le_trans (Qjq p (woZ q.1 Z)) (Qno _ _)
theorem QkC (Z:List (ByteArray × Tw)):(Z.map (·.1)).zip (Z.map (·.2))=Z:=by
 induction Z with
 | nil=>rfl
 | cons x Z ih=>rw [List.map_cons,List.map_cons,List.zip_cons_cons,ih]
theorem zip_ex {l:List ByteArray} {ts:List Tw} (h:l.length=ts.length):∃ Z:List (ByteArray × Tw),l=Z.map (·.1)∧ts=Z.map (·.2) :=
 ⟨l.zip ts,(List.map_fst_zip (by omega)).symm,(List.map_snd_zip (by omega)).symm⟩
theorem Qsg (s:ByteArray) (Z:List (ByteArray × Tw)):woN s Z Z.length=(woZ s Z).map (·.1):=by unfold woN; rw [List.take_length]
theorem Qse (s:ByteArray) (Z:List (ByteArray × Tw)):woT s Z Z.length=(woZ s Z).map (·.2):=by unfold woT; rw [List.take_length]
theorem QpT {s:ByteArray} {Z:List (ByteArray × Tw)} {n:Nat} (h:Z.length≤n):woN s Z n=(woZ s Z).map (·.1):=by unfold woN; rw [List.take_of_length_le h]
theorem QpS {s:ByteArray} {Z:List (ByteArray × Tw)} {n:Nat} (h:Z.length≤n):woT s Z n=(woZ s Z).map (·.2):=by unfold woT; rw [List.take_of_length_le h]
def zpO (Z:List (ByteArray × Tw)):PO:=.cells [.f (.dt .str (Z.map (·.1))),.f (.dt .tm (Z.map (·.2)))]
noncomputable def outO (Z:List (ByteArray × Tw)) (t:Yw) (x y:PV):PO:=.cells ([bV t.fn,sV t.sort]++Qae (tmC (valE Sh.tm.nil (QaC (Z.map (·.1)) (Z.map (·.2)) t.ref)))++[x,y])
theorem Qg4 (s:Sh):SubB (.f (.v (.slice none 0 0))) (.f (.dt s [])):=⟨fun H B v h=>by
 have:=h.val
 subst this
 exact .f (Qor rfl trivial)⟩
theorem Qp4:SubB (.f (.v (.slice none 0 0))) (.f (.lr [] 0)):=⟨fun H B v h=>by
 have:=h.val
 subst this
 exact .f (Qor (k:=1) rfl ⟨Nat.le_refl _,fun x hx=>by cases hx⟩)⟩
theorem Qni:SubB (.agg Qnj) (tyP Sh.ty.nil) :=
 Qt2 (.cons (.refl _) (.cons (.refl _) (.cons (.refl _) (.cons (.refl _) (.cons (.refl _) (.cons Qp4 (.cons (Qg4 .tm) (.cons (Qg4 .prm) (.cons (Qg4 .ty) .nil)))))))))
def Qis (N:Nat):Spec
 | [.agg [.f a,.f b],x]=>match dtOf .str a,dtOf .tm b,tyOf x with
  | some l,some ts,some t=>some (some (t.size<N∧t.fit∧(∀ u∈ts,u.fitT)∧l.length=ts.length∧l.length≤100000000),.nm (Except Int Yw) (sbY (l.zip ts) t) fun z=>.tup [tyP (valE Sh.ty.nil z),iV (errE z)])
  | _,_,_=>none
 | _=>none
set_option maxHeartbeats 4000000 in
theorem Qr2 {E:Env} (hU:Up E):∀ n,Contract Tryz.prog E 37 (Qis n)
 | 0=>by
  intro xs p r hs hp
  unfold Qis at hs
  split at hs
  · split at hs
    · cases hs
      exact absurd (hp _ rfl).1 (Nat.not_lt_zero _)
    · cases hs
  · cases hs
 | n+1=>by
  refine Qac [(98,QnS),(37,Qis n),(36,QeT)] [] Tryz.ntmps37 Tryz.func37 (by kernel_rfl) (by kernel_rfl) hU ⟨cSubst hU,Qr2 hU n,Ql8 hU,trivial⟩ trivial ?_
  intro xs p r hs hp
  unfold Qis at hs
  split at hs
  · rename_i a b x
    split at hs
    · rename_i l ts t ha hb ht
      cases hs
      obtain ⟨hn,hf,hts,hlen,hl⟩:=hp _ rfl
      obtain ⟨Z,rfl,rfl⟩:=zip_ex hlen
      have f2:=(Yw.fit_eq t).1 hf
      refine ⟨[.agg [.f (.dt .str (Z.map (·.1))),.f (.dt .tm (Z.map (·.2)))],tyP t],[
       (4,.s ⟨Nat,fun i=>⟨[(2,.bp 0 0),(3,.bp 1 0),(4,.bp 2 0),(7,iV (fst0 (errE (QaC (Z.map (·.1)) (Z.map (·.2)) t.ref)) (fstP Z (t.params.take i)))),(8,.bp 4 0),(34,.f (.dt .prm t.params)),(35,iV t.params.length),(36,iV i)],[zpO (woL Z (t.params.take i)),.cells (Qae (tyC t)),.cells Qnj,.cells (Qae (tmC (valE Sh.tm.nil (QaC (Z.map (·.1)) (Z.map (·.2)) t.ref)))),outO Z t (.tl 5 (.dt .prm (rowP Z (t.params.take i)))) (.f (.v (.slice none 0 0))),.tail 47 10]⟩,fun i=>i≤t.params.length,fun i=>t.params.length - i⟩),
       (13,.s ⟨Nat,fun i=>⟨[(2,.bp 0 0),(3,.bp 1 0),(4,.bp 2 0),(7,iV (fst0 (fst0 (errE (QaC (Z.map (·.1)) (Z.map (·.2)) t.ref)) (fstP Z t.params)) (fstR (woL Z t.params) (t.result.take i)))),(8,.bp 4 0),(65,.f (.dt .ty t.result)),(66,iV t.result.length),(67,iV i)],[zpO (woL Z t.params),.cells (Qae (tyC t)),.cells Qnj,.cells (Qae (tmC (valE Sh.tm.nil (QaC (Z.map (·.1)) (Z.map (·.2)) t.ref)))),outO Z t (.tl 5 (.dt .prm (rowP Z t.params))) (.tl 6 (.dt .ty (rowR (woL Z t.params) (t.result.take i)))),.tail 47 10,.tail 32 9]⟩,fun i=>i≤t.result.length,fun i=>t.result.length - i⟩)],.cons (Qt2 (.cons (Qa9 ha) (.cons (Qa9 hb) .nil))).sub (.cons (Qbp ht).sub .nil),rfl,fun _ hsh=>?_⟩
      have h0:=hn
      refine Qab (p:=let A5:=fun (x:ByteArray × Tw)=>x.fst; let A6:=rfB (bV t.fn)∧rfB (sV t.sort)∧rfB (uV t.ref.kind)∧rfB (sV t.ref.name)∧rfB (bV t.ref.neg)∧rfB (PV.f (Lf.lr t.ref.digits t.ref.digits.length))∧rfB (dP Sh.tm t.ref.kids)∧rfB (dP Sh.prm t.params)∧rfB (dP Sh.ty t.result)∧True; let A7:=fun (x:ByteArray × Tw)=>x.snd; let A8:=fun (z3:Nat)=>(t.params.getD (↑z3:Int).toNat Sh.prm.nil); let A10:=rfB (bV false)∧rfB (sV (ByteArray.mk #[]))∧rfB (uV 0)∧rfB (sV (ByteArray.mk #[]))∧rfB (bV false)∧rfB (nlP)∧rfB (nlP)∧rfB (nlP)∧rfB (nlP)∧True; let A12:=woL Z t.params; let A17:=fun (z3:Nat)=>(Yw.mk (A8 z3).snd.fn (A8 z3).snd.sort (etaT ((A8 z3).snd.ref)) (A8 z3).snd.params (A8 z3).snd.result); let A18:=fun (z5:Nat)=>(t.result.getD (↑z5:Int).toNat Sh.ty.nil); let A22:=(↑t.params.length:Int); let A23:=(↑t.result.length:Int); let A24:=fun (z1:Except Int Tw)=>(valE Sh.tm.nil z1); let A25:=fun (z3:Nat)=>(List.take z3 t.params); let A26:=fun (z5:Nat)=>(List.take z5 t.result); let A0:=QaC (List.map A5 Z) (List.map A7 Z) t.ref; let A1:=valE Sh.ty.nil (sbY ((List.map A5 Z).zip (List.map A7 Z)) t); let A4:=valE Sh.tm.nil A0; let A9:=fun (z5:Nat)=>(Yw.mk (Yw.fn (A18 z5)) (Yw.sort (A18 z5)) (etaT (Yw.ref (A18 z5))) (Yw.params (A18 z5)) (Yw.result (A18 z5))); let A11:=fun (z3:Nat)=>(woL Z (A25 z3)); let A14:=PV.tup [PV.agg [bV (A1.fn),sV (A1.sort),uV (A1.ref.kind),sV (A1.ref.name),bV (A1.ref.neg),PV.f (Lf.lr A1.ref.digits A1.ref.digits.length),dP Sh.tm A1.ref.kids,dP Sh.prm A1.params,dP Sh.ty A1.result],iV (errE (sbY ((List.map A5 Z).zip (List.map A7 Z)) t))]; let A15:=PV.f (Lf.lr A4.digits A4.digits.length); let A16:=fst0 (errE A0) (fstP Z t.params); let A19:=fun (z5:Nat)=>((rowR A12 (A26 z5)).length+1≤9223372036854775807∧((rowR A12 (A26 z5)).length+1) * 152≤140737488355328); let A20:=fun (z3:Nat)=>((rowP Z (A25 z3)).length+1≤9223372036854775807∧((rowP Z (A25 z3)).length+1) * 168≤140737488355328); let A21:=fun (z3:Nat)=>(List.map A5 (A11 z3)); let A27:=dP Sh.tm A4.kids; let A13:=rfB (uV (A4.kind))∧rfB (sV (A4.name))∧rfB (bV (A4.neg))∧rfB A15∧rfB A27∧True; let A2:=fun (z3:Nat) (x5:Nat) (z4:Except Int Yw)=>((SubB (dP Sh.str (woN (A8 z3).fst ((A21 z3).zip (List.map A7 (A11 z3))) (A21 z3).length)) (dP Sh.str (List.map A5 (woL Z (List.take x5 t.params))))∧SubB (dP Sh.tm (woT (A8 z3).fst ((A21 z3).zip (List.map A7 (A11 z3))) (A21 z3).length)) (dP Sh.tm (List.map A7 (woL Z (List.take x5 t.params))))∧True)∧A6∧A10∧A13∧(rfB (bV t.fn)∧rfB (sV t.sort)∧rfB (uV (A4.kind))∧rfB (sV (A4.name))∧rfB (bV (A4.neg))∧rfB A15∧rfB A27∧SubB (PV.tl 5 (Lf.dt Sh.prm (rowP Z (A25 z3)++[((A8 z3).fst,Yw.mk (valE Sh.ty.nil z4).fn (valE Sh.ty.nil z4).sort (etaT ((valE Sh.ty.nil z4).ref)) (valE Sh.ty.nil z4).params (valE Sh.ty.nil z4).result)]))) (PV.tl 5 (Lf.dt Sh.prm (rowP Z (List.take x5 t.params))))∧rfB (nlP)∧True)∧True); let A3:=fun (z5:Nat) (z6:Except Int Yw) (x7:Nat)=>((rfB (dP Sh.str (List.map A5 A12))∧rfB (dP Sh.tm (List.map A7 A12))∧True)∧A6∧A10∧A13∧(rfB (bV t.fn)∧rfB (sV t.sort)∧rfB (uV (A4.kind))∧rfB (sV (A4.name))∧rfB (bV (A4.neg))∧rfB A15∧rfB A27∧rfB (PV.tl 5 (Lf.dt Sh.prm (rowP Z t.params)))∧SubB (PV.tl 6 (Lf.dt Sh.ty (rowR A12 (A26 z5)++[Yw.mk (valE Sh.ty.nil z6).fn (valE Sh.ty.nil z6).sort (etaT ((valE Sh.ty.nil z6).ref)) (valE Sh.ty.nil z6).params (valE Sh.ty.nil z6).result]))) (PV.tl 6 (Lf.dt Sh.ty (rowR A12 (List.take x7 t.result))))∧True)∧True); (((etaT t.ref).fitT∧∀ (u:Sh.tm.T),u∈List.map A7 Z→Tw.fitT u)∧(List.map A5 Z).length≤100000000∧(List.map A7 Z).length≤100000000)∧∀ (z1:Except Int Tw),z1=QaC (List.map A5 Z) (List.map A7 Z) (etaT t.ref)→∃ (x2:Nat),(((SubB (dP Sh.str (List.map A5 Z)) (dP Sh.str (List.map A5 (woL Z (List.take x2 t.params))))∧SubB (dP Sh.tm (List.map A7 Z)) (dP Sh.tm (List.map A7 (woL Z (List.take x2 t.params))))∧True)∧A6∧A10∧(SubB (uV ((A24 z1).kind)) (uV (A4.kind))∧SubB (sV ((A24 z1).name)) (sV (A4.name))∧SubB (bV ((A24 z1).neg)) (bV (A4.neg))∧SubB (PV.f (Lf.lr (A24 z1).digits (A24 z1).digits.length)) A15∧SubB (dP Sh.tm (A24 z1).kids) A27∧True)∧(rfB (bV t.fn)∧rfB (sV t.sort)∧SubB (uV ((A24 z1).kind)) (uV (A4.kind))∧SubB (sV ((A24 z1).name)) (sV (A4.name))∧SubB (bV ((A24 z1).neg)) (bV (A4.neg))∧SubB (PV.f (Lf.lr (A24 z1).digits (A24 z1).digits.length)) A15∧SubB (dP Sh.tm (A24 z1).kids) A27∧Qbg (PV.tl 5 (Lf.dt Sh.prm (rowP Z (List.take x2 t.params))))∧rfB (nlP)∧True)∧True)∧rfB (PV.bp 0 0)∧rfB (PV.bp 1 0)∧rfB (PV.bp 2 0)∧SubB (iV (errE z1)) (iV (fst0 (errE A0) (fstP Z (List.take x2 t.params))))∧rfB (PV.bp 4 0)∧rfB (dP Sh.prm t.params)∧rfB (iV A22)∧SubB (iV 0) (iV (↑x2:Int))∧True)∧x2≤t.params.length∧True∧∀ (z3:Nat),z3≤t.params.length→True→ifB (decide ((↑z3:Int)<A22)) (((0:Int)≤(↑z3:Int)∧(↑z3:Int)<A22)∧((A17 z3).size<n∧(A17 z3).fit∧(∀ (u:Sh.tm.T),u∈List.map A7 (A11 z3)→Tw.fitT u)∧(A21 z3).length=(List.map A7 (A11 z3)).length∧(A21 z3).length≤100000000)∧∀ (z4:Except Int Yw),z4=sbY ((A21 z3).zip (List.map A7 (A11 z3))) (A17 z3)→ifB (fst0 (errE A0) (fstP Z (A25 z3))==(0:Int)) ((A20 z3)∧((A21 z3).length≤100000000∧(List.map A7 (A11 z3)).length≤100000000)∧∃ (x5:Nat),((A2 z3 x5 z4)∧rfB (PV.bp 0 0)∧rfB (PV.bp 1 0)∧rfB (PV.bp 2 0)∧SubB (iV (errE z4)) (iV (fst0 (errE A0) (fstP Z (List.take x5 t.params))))∧rfB (PV.bp 4 0)∧rfB (dP Sh.prm t.params)∧rfB (iV A22)∧SubB (iV (IntKind.i64.wrap ((↑z3:Int)+(1:Int)))) (iV (↑x5:Int))∧True)∧x5≤t.params.length∧True∧(t.params.length - x5).succ.le (t.params.length - z3)) ((A20 z3)∧((A21 z3).length≤100000000∧(List.map A7 (A11 z3)).length≤100000000)∧∃ (x5:Nat),((A2 z3 x5 z4)∧rfB (PV.bp 0 0)∧rfB (PV.bp 1 0)∧rfB (PV.bp 2 0)∧SubB (iV (fst0 (errE A0) (fstP Z (A25 z3)))) (iV (fst0 (errE A0) (fstP Z (List.take x5 t.params))))∧rfB (PV.bp 4 0)∧rfB (dP Sh.prm t.params)∧rfB (iV A22)∧SubB (iV (IntKind.i64.wrap ((↑z3:Int)+(1:Int)))) (iV (↑x5:Int))∧True)∧x5≤t.params.length∧True∧(t.params.length - x5).succ.le (t.params.length - z3))) (∃ (x4:Nat),(((SubB (dP Sh.str (A21 z3)) (dP Sh.str (List.map A5 A12))∧SubB (dP Sh.tm (List.map A7 (A11 z3))) (dP Sh.tm (List.map A7 A12))∧True)∧A6∧A10∧A13∧(rfB (bV t.fn)∧rfB (sV t.sort)∧rfB (uV (A4.kind))∧rfB (sV (A4.name))∧rfB (bV (A4.neg))∧rfB A15∧rfB A27∧SubB (PV.tl 5 (Lf.dt Sh.prm (rowP Z (A25 z3)))) (PV.tl 5 (Lf.dt Sh.prm (rowP Z t.params)))∧Qbg (PV.tl 6 (Lf.dt Sh.ty (rowR A12 (List.take x4 t.result))))∧True)∧True)∧rfB (PV.bp 0 0)∧rfB (PV.bp 1 0)∧rfB (PV.bp 2 0)∧SubB (iV (fst0 (errE A0) (fstP Z (A25 z3)))) (iV (fst0 A16 (fstR A12 (List.take x4 t.result))))∧rfB (PV.bp 4 0)∧rfB (dP Sh.ty t.result)∧rfB (iV A23)∧SubB (iV 0) (iV (↑x4:Int))∧True)∧x4≤t.result.length∧True∧∀ (z5:Nat),z5≤t.result.length→True→ifB (decide ((↑z5:Int)<A23)) (((0:Int)≤(↑z5:Int)∧(↑z5:Int)<A23)∧((A9 z5).size<n∧(A9 z5).fit∧(∀ (u:Sh.tm.T),u∈List.map A7 A12→Tw.fitT u)∧(List.map A5 A12).length=(List.map A7 A12).length∧(List.map A5 A12).length≤100000000)∧∀ (z6:Except Int Yw),z6=sbY ((List.map A5 A12).zip (List.map A7 A12)) (A9 z5)→ifB (fst0 A16 (fstR A12 (A26 z5))==(0:Int)) ((A19 z5)∧∃ (x7:Nat),((A3 z5 z6 x7)∧rfB (PV.bp 0 0)∧rfB (PV.bp 1 0)∧rfB (PV.bp 2 0)∧SubB (iV (errE z6)) (iV (fst0 A16 (fstR A12 (List.take x7 t.result))))∧rfB (PV.bp 4 0)∧rfB (dP Sh.ty t.result)∧rfB (iV A23)∧SubB (iV (IntKind.i64.wrap ((↑z5:Int)+(1:Int)))) (iV (↑x7:Int))∧True)∧x7≤t.result.length∧True∧(t.result.length - x7).succ.le (t.result.length - z5)) ((A19 z5)∧∃ (x7:Nat),((A3 z5 z6 x7)∧rfB (PV.bp 0 0)∧rfB (PV.bp 1 0)∧rfB (PV.bp 2 0)∧SubB (iV (fst0 A16 (fstR A12 (A26 z5)))) (iV (fst0 A16 (fstR A12 (List.take x7 t.result))))∧rfB (PV.bp 4 0)∧rfB (dP Sh.ty t.result)∧rfB (iV A23)∧SubB (iV (IntKind.i64.wrap ((↑z5:Int)+(1:Int)))) (iV (↑x7:Int))∧True)∧x7≤t.result.length∧True∧(t.result.length - x7).succ.le (t.result.length - z5))) (ifB (fst0 A16 (fstR A12 (A26 z5)) != (0:Int)) (true=true∧Sub (PV.tup [PV.agg [bV false,sV (ByteArray.mk #[]),uV 0,sV (ByteArray.mk #[]),bV false,nlP,nlP,nlP,nlP],iV (fst0 A16 (fstR A12 (A26 z5)))]) A14) (true=true∧Sub (PV.tup [PV.agg ([bV t.fn,sV t.sort]++(Qae (tmC A4)++[dP Sh.prm (rowP Z t.params),dP Sh.ty (rowR A12 (A26 z5))])),iV 0]) A14)))) ?kr ?_
      case kr=>kernel_rfl
      conv=>zeta
      refine ⟨?s0,fun z1=>fun hz1=>⟨?x0,⟨?s1,⟨?s2,⟨trivial,fun z3=>fun hq0=>fun _=>Qaa.2 ⟨fun hb1=>⟨?s3,⟨?s4,fun z4=>fun hz4=>Qaa.2 ⟨fun hb2=>⟨?s5,⟨?s6,⟨?x1,⟨⟨⟨⟨?m0,⟨?m1,trivial⟩⟩,⟨⟨.refl _,⟨.refl _,⟨.refl _,⟨.refl _,⟨.refl _,⟨.refl _,⟨.refl _,⟨.refl _,⟨.refl _,trivial⟩⟩⟩⟩⟩⟩⟩⟩⟩,⟨⟨.refl _,⟨.refl _,⟨.refl _,⟨.refl _,⟨.refl _,⟨.refl _,⟨.refl _,⟨.refl _,⟨.refl _,trivial⟩⟩⟩⟩⟩⟩⟩⟩⟩,⟨⟨.refl _,⟨.refl _,⟨.refl _,⟨.refl _,⟨.refl _,trivial⟩⟩⟩⟩⟩,⟨⟨.refl _,⟨.refl _,⟨.refl _,⟨.refl _,⟨.refl _,⟨.refl _,⟨.refl _,⟨?m2,⟨.refl _,trivial⟩⟩⟩⟩⟩⟩⟩⟩⟩,trivial⟩⟩⟩⟩⟩,⟨.refl _,⟨.refl _,⟨.refl _,⟨?m3,⟨.refl _,⟨.refl _,⟨.refl _,⟨?m4,trivial⟩⟩⟩⟩⟩⟩⟩⟩⟩,⟨?s7,⟨trivial,?m5⟩⟩⟩⟩⟩⟩,fun hb2=>⟨?s8,⟨?s9,⟨?x2,⟨⟨⟨⟨?m6,⟨?m7,trivial⟩⟩,⟨⟨.refl _,⟨.refl _,⟨.refl _,⟨.refl _,⟨.refl _,⟨.refl _,⟨.refl _,⟨.refl _,⟨.refl _,trivial⟩⟩⟩⟩⟩⟩⟩⟩⟩,⟨⟨.refl _,⟨.refl _,⟨.refl _,⟨.refl _,⟨.refl _,⟨.refl _,⟨.refl _,⟨.refl _,⟨.refl _,trivial⟩⟩⟩⟩⟩⟩⟩⟩⟩,⟨⟨.refl _,⟨.refl _,⟨.refl _,⟨.refl _,⟨.refl _,trivial⟩⟩⟩⟩⟩,⟨⟨.refl _,⟨.refl _,⟨.refl _,⟨.refl _,⟨.refl _,⟨.refl _,⟨.refl _,⟨?m8,⟨.refl _,trivial⟩⟩⟩⟩⟩⟩⟩⟩⟩,trivial⟩⟩⟩⟩⟩,⟨.refl _,⟨.refl _,⟨.refl _,⟨?m9,⟨.refl _,⟨.refl _,⟨.refl _,⟨?m10,trivial⟩⟩⟩⟩⟩⟩⟩⟩⟩,⟨?s10,⟨trivial,?m11⟩⟩⟩⟩⟩⟩⟩⟩⟩,fun hb1=>⟨?x3,⟨?s11,⟨?s12,⟨trivial,fun z5=>fun hq3=>fun _=>Qaa.2 ⟨fun hb4=>⟨?s13,⟨?s14,fun z6=>fun hz6=>Qaa.2 ⟨fun hb5=>⟨?s15,⟨?x4,⟨⟨⟨⟨.refl _,⟨.refl _,trivial⟩⟩,⟨⟨.refl _,⟨.refl _,⟨.refl _,⟨.refl _,⟨.refl _,⟨.refl _,⟨.refl _,⟨.refl _,⟨.refl _,trivial⟩⟩⟩⟩⟩⟩⟩⟩⟩,⟨⟨.refl _,⟨.refl _,⟨.refl _,⟨.refl _,⟨.refl _,⟨.refl _,⟨.refl _,⟨.refl _,⟨.refl _,trivial⟩⟩⟩⟩⟩⟩⟩⟩⟩,⟨⟨.refl _,⟨.refl _,⟨.refl _,⟨.refl _,⟨.refl _,trivial⟩⟩⟩⟩⟩,⟨⟨.refl _,⟨.refl _,⟨.refl _,⟨.refl _,⟨.refl _,⟨.refl _,⟨.refl _,⟨.refl _,⟨?m12,trivial⟩⟩⟩⟩⟩⟩⟩⟩⟩,trivial⟩⟩⟩⟩⟩,⟨.refl _,⟨.refl _,⟨.refl _,⟨?m13,⟨.refl _,⟨.refl _,⟨.refl _,⟨?m14,trivial⟩⟩⟩⟩⟩⟩⟩⟩⟩,⟨?s16,⟨trivial,?m15⟩⟩⟩⟩⟩,fun hb5=>⟨?s17,⟨?x5,⟨⟨⟨⟨.refl _,⟨.refl _,trivial⟩⟩,⟨⟨.refl _,⟨.refl _,⟨.refl _,⟨.refl _,⟨.refl _,⟨.refl _,⟨.refl _,⟨.refl _,⟨.refl _,trivial⟩⟩⟩⟩⟩⟩⟩⟩⟩,⟨⟨.refl _,⟨.refl _,⟨.refl _,⟨.refl _,⟨.refl _,⟨.refl _,⟨.refl _,⟨.refl _,⟨.refl _,trivial⟩⟩⟩⟩⟩⟩⟩⟩⟩,⟨⟨.refl _,⟨.refl _,⟨.refl _,⟨.refl _,⟨.refl _,trivial⟩⟩⟩⟩⟩,⟨⟨.refl _,⟨.refl _,⟨.refl _,⟨.refl _,⟨.refl _,⟨.refl _,⟨.refl _,⟨.refl _,⟨?m16,trivial⟩⟩⟩⟩⟩⟩⟩⟩⟩,trivial⟩⟩⟩⟩⟩,⟨.refl _,⟨.refl _,⟨.refl _,⟨?m17,⟨.refl _,⟨.refl _,⟨.refl _,⟨?m18,trivial⟩⟩⟩⟩⟩⟩⟩⟩⟩,⟨?s18,⟨trivial,?m19⟩⟩⟩⟩⟩⟩⟩⟩,fun hb4=>Qaa.2 ⟨fun hb6=>⟨rfl,?m20⟩,fun hb6=>⟨rfl,?m21⟩⟩⟩⟩⟩⟩⟩⟩⟩⟩⟩⟩⟩
      all_goals try simp only [etaT] at *
      case x0=>exact 0
      case x1=>exact z3+1
      case x2=>exact z3+1
      case x3=>exact 0
      case x4=>exact z5+1
      case x5=>exact z5+1
      all_goals have e2:=t.size_eq
      all_goals try simp only [Tw.eta,Yw.eta,QkC,List.length_map,Qsg,Qse,Bool.not_eq_true',Bool.not_eq_false',decide_eq_true_eq,decide_eq_false_iff_not,Int.toNat_natCast,Int.ofNat_lt,beq_iff_eq,beq_eq_false_iff_ne,bne_iff_ne,bne_eq_false_iff_eq,ne_eq] at *
      case s0=>exact ⟨⟨f2.1.2.1,hts⟩,hl,hl⟩
      case s1=>subst hz1; simp only [List.take_zero,rowP,fstP,QlJ]; repeat' first | exact SubB.refl _ | exact trivial | exact rfl | refine And.intro ?_ ?_
      case s2=>exact Nat.zero_le _
      case s12=>exact Nat.zero_le _
      case s11 =>
       (obtain rfl:z3=t.params.length:=by omega)
       simp only [List.take_length,List.take_zero,rowR,fstR,QlJ,List.map_nil]; repeat' first | exact SubB.refl _ | exact trivial | exact rfl | refine And.intro ?_ ?_
      case m20 =>
       (obtain rfl:z5=t.result.length:=by omega)
       rw [List.take_length] at hb6
       have hx:sbY Z t=.error (fstY Z t):=by rw [Qrx,if_neg (show ¬ fstY Z t=0 from hb6)]
       rw [hx,List.take_length]
       exact (Qsi (.cons Qni (.cons (.refl _) .nil))).sub
      case m21 =>
       (obtain rfl:z5=t.result.length:=by omega)
       rw [List.take_length] at hb6
       have hx:=Qrx Z t
       rw [if_pos (show fstY Z t=0 from hb6)] at hx
       rw [hx,List.take_length]
       exact .refl _
      case s13=>omega
      case s14 =>
       have hlt:z5<t.result.length:=by omega
       have h9:=Qdz (gotD Sh.ty.nil hlt)
       have hwl:=Qjq t.params Z
       refine ⟨by omega,QbC f2.2.2.2 (gotD Sh.ty.nil hlt),fun u hu=>?_,?_,by omega⟩
       · obtain ⟨x,hx,rfl⟩:=List.mem_map.1 hu
         exact hts _ (List.mem_map.2 ⟨x,Qnp _ hx,rfl⟩)
       · first | trivial | rfl
      case s15=>rw [Qk8,List.length_take]; omega
      case s17=>rw [Qk8,List.length_take]; omega
      case m12=>exact Qa4 (by rw [Qk9 (by omega),hz6])
      case m16=>exact Qa4 (by rw [Qk9 (by omega),hz6])
      case m13=>exact Qad (by rw [QlG (by omega),← QbL,hb5,QeD,hz6])
      case m17=>exact Qad (by rw [QlG (by omega),← QbL,Qdv hb5])
      case m14=>exact Qad (by rw [wJ _ (by omega) (by omega)]; rfl)
      case m18=>exact Qad (by rw [wJ _ (by omega) (by omega)]; rfl)
      case s16=>omega
      case s18=>omega
      case m15=>exact (by omega:t.result.length - (z5+1)<t.result.length - z5)
      case m19=>exact (by omega:t.result.length - (z5+1)<t.result.length - z5)
      all_goals have hlt:z3<t.params.length:=by omega
      all_goals have hwl:=Qjq (t.params.take z3) Z
      case s3=>omega
      case s4 =>
       have h9:=Qfe (gotD Sh.prm.nil hlt)
       refine ⟨by omega,(Qb8 f2.2.2.1 (gotD Sh.prm.nil hlt)).2,fun u hu=>?_,?_,by omega⟩
       · obtain ⟨x,hx,rfl⟩:=List.mem_map.1 hu
         exact hts _ (List.mem_map.2 ⟨x,Qnp _ hx,rfl⟩)
       · first | trivial | rfl
      case s5=>rw [Qhg,List.length_take]; omega
      case s8=>rw [Qhg,List.length_take]; omega
      case s6=>exact ⟨by omega,by omega⟩
      case s9=>exact ⟨by omega,by omega⟩
      case m0=>rw [QgT hlt]; exact .refl _
      case m6=>rw [QgT hlt]; exact .refl _
      case m1=>rw [QgT hlt]; exact .refl _
      case m7=>rw [QgT hlt]; exact .refl _
      case m2=>exact Qa4 (by rw [Qlb hlt,hz4])
      case m8=>exact Qa4 (by rw [Qlb hlt,hz4])
      case m3=>exact Qad (by rw [QlI hlt,← QbL,hb2,QeD,hz4])
      case m9=>exact Qad (by rw [QlI hlt,← QbL,Qdv hb2])
      case m4=>exact Qad (by rw [wJ _ (by omega) (by omega)]; rfl)
      case m10=>exact Qad (by rw [wJ _ (by omega) (by omega)]; rfl)
      case s7=>omega
      case s10=>omega
      case m5=>exact (by omega:t.params.length - (z3+1)<t.params.length - z3)
      case m11=>exact (by omega:t.params.length - (z3+1)<t.params.length - z3)
    · cases hs
  · cases hs
def QsO:Spec
 | [.agg [.f a,.f b],x]=>match dtOf .str a,dtOf .tm b,tyOf x with
  | some l,some ts,some t=>some (some (t.fit∧(∀ u∈ts,u.fitT)∧l.length=ts.length∧l.length≤100000000),.nm (Except Int Yw) (sbY (l.zip ts) t) fun z=>.tup [tyP (valE Sh.ty.nil z),iV (errE z)])
  | _,_,_=>none
 | _=>none
theorem cInto {E:Env} (hU:Up E):Contract Tryz.prog E 37 QsO:=by
 intro xs p r hs hp
 unfold QsO at hs
 split at hs
 · rename_i a b x
   split at hs
   · rename_i l ts t ha hb ht
     cases hs
     exact Qr2 hU (t.size+1) [.agg [.f a,.f b],x] _ _ (by simp only [Qis,ha,hb,ht]; rfl) (fun q hq=>by cases hq; exact ⟨Nat.lt_succ_self _,hp _ rfl⟩)
   · cases hs
 · cases hs
set_option maxHeartbeats 4000000 in
theorem QtI {E:Env} (hU:Up E):Contract Tryz.prog E 8 Qg9:=by
 refine Qac [(36,QeT),(37,QsO)] [] Tryz.ntmps8 Tryz.func8 (by kernel_rfl) (by kernel_rfl) hU ⟨Ql8 hU,cInto hU,trivial⟩ trivial ?_
 intro xs p r hs hp
 unfold Qg9 at hs
 split at hs
 · rename_i x a b
   split at hs
   · rename_i t l ts ht ha hb
     cases hs
     obtain ⟨hf,hts,hl,htl⟩:=hp _ rfl
     refine ⟨[tyP t,.f (.dt .str l),.f (.dt .tm ts)],[],.cons (Qbp ht).sub (.cons (Qa9 ha).sub (.cons (Qa9 hb).sub .nil)),rfl,fun _ hsh=>?_⟩
     have h0:=hf
     have hz:(l.zip ts).length≤l.length:=by rw [List.length_zip]; omega
     refine Qab (p:=let A0:=valE Sh.ty.nil (sbY (woZ nV (l.zip ts)) t); let A1:=ByteArray.mk #[(118:UInt8)]; let A2:=fun (z1:Except Int Yw)=>(valE Sh.ty.nil z1); (l.length≤100000000∧ts.length≤100000000)∧((Yw.mk t.fn t.sort (etaT t.ref) t.params t.result).fit∧(∀ (u:Sh.tm.T),u∈woT A1 (l.zip ts) l.length→Tw.fitT u)∧(woN A1 (l.zip ts) l.length).length=(woT A1 (l.zip ts) l.length).length∧(woN A1 (l.zip ts) l.length).length≤100000000)∧∀ (z1:Except Int Yw),z1=sbY ((woN A1 (l.zip ts) l.length).zip (woT A1 (l.zip ts) l.length)) (Yw.mk t.fn t.sort (etaT t.ref) t.params t.result)→true=true∧Sub (PV.tup [PV.agg [bV ((A2 z1).fn),sV ((A2 z1).sort),uV ((A2 z1).ref.kind),sV ((A2 z1).ref.name),bV ((A2 z1).ref.neg),PV.f (Lf.lr (A2 z1).ref.digits (A2 z1).ref.digits.length),dP Sh.tm (A2 z1).ref.kids,dP Sh.prm (A2 z1).params,dP Sh.ty (A2 z1).result],iV (errE z1)]) (PV.tup [PV.agg [bV (A0.fn),sV (A0.sort),uV (A0.ref.kind),sV (A0.ref.name),bV (A0.ref.neg),PV.f (Lf.lr A0.ref.digits A0.ref.digits.length),dP Sh.tm A0.ref.kids,dP Sh.prm A0.params,dP Sh.ty A0.result],iV (errE (sbY (woZ nV (l.zip ts)) t))])) ?kr ?_
     case kr=>kernel_rfl
     conv=>zeta
     refine ⟨?s0,⟨?s1,fun z1=>fun hz1=>⟨rfl,?m0⟩⟩⟩
     all_goals try simp only [etaT] at *
     all_goals try simp only [Tw.eta,Yw.eta,QpT hz,QpS hz,QkC,List.length_map] at *
     case s0=>exact ⟨hl,htl⟩
     case s1 =>
      refine ⟨hf,fun u hu=>?_,?_,?_⟩
      · obtain ⟨x,hx,rfl⟩:=List.mem_map.1 hu
        exact hts _ (List.of_mem_zip (show (x.1,x.2)∈_ from Qru hx)).2
      · first | trivial | rfl
      · have:=Qno (ByteArray.mk #[(118:UInt8)]) (l.zip ts)
        omega
     case m0=>subst hz1; exact .refl _
   · cases hs
 · cases hs
end Go.Proofs.YtijfaigpilfpaaaGreatDoor
