/- The layer term: sizes; the kit's sameness of terms. -/
import Derived.Test.YtijfaigpilfpaaaGreatDoorTe
set_option linter.unusedSimpArgs false
namespace Go.Proofs.YtijfaigpilfpaaaGreatDoor
open Go.RowKit
set_option linter.unusedVariables false
set_option maxRecDepth 100000
theorem Qsq {l:List Tw} {i:Nat} (h:i<l.length) (d:Tw):szL (l.getD i d).kids<szL l:=by
 have h1:=QkS h
 rw [QdM h default d] at h1
 have h2:=(l.getD i d).size_eq
 omega
theorem QkQ {l:List Tw}:∀ i,szL (l.take i)≤szL l:=fun i=>by
 have:=Qg2 (l.take i) (l.drop i)
 rw [List.take_append_drop] at this
 omega
theorem Qp3 {l:List Tw} {i:Nat} (h:i<l.length) (d:Tw):szL (l.take (i+1))=szL (l.take i)+szL (l.getD i d).kids+1:=by
 have h1:=QkR l h
 rw [QdM h default d] at h1
 have h2:=(l.getD i d).size_eq
 omega
def Qk3 (n:Nat):Spec
 | [.f (.dt .tm l)]=>some (some (szL l<n∧szL l≤4611686018427387904),.one (iV (szL l)))
 | _=>none
def QsC:Spec
 | [.f (.dt .tm l)]=>some (some (szL l≤4611686018427387904),.one (iV (szL l)))
 | _=>none
theorem QrY {E:Env} (hU:Up E):∀ n,Contract Tryz.prog E 176 (Qk3 n)
 | 0=>by
  intro xs p r hs hp
  unfold Qk3 at hs
  split at hs
  · cases hs
    exact absurd (hp _ rfl).1 (Nat.not_lt_zero _)
  · cases hs
 | n+1=>by
  refine Qac [(176,Qk3 n)] [] Tryz.ntmps176 Tryz.func176 (by kernel_rfl) (by kernel_rfl) hU ⟨QrY hU n,trivial⟩ trivial ?_
  intro xs p r hs hp
  unfold Qk3 at hs
  split at hs
  · rename_i l
    cases hs
    obtain ⟨hn,hb⟩:=hp _ rfl
    refine ⟨[.f (.dt .tm l)],[(3,.s ⟨Nat,fun i=>⟨[(3,iV (l.length - i+szL (l.take i):Int)),(8,.f (.dt .tm l)),(9,iV l.length),(10,iV i)],[]⟩,fun i=>i≤l.length,fun i=>l.length - i⟩)],.cons (.refl _) .nil,rfl,fun _ hsh=>?_⟩
    have hl:=Qap hsh.1
    refine Qab (p:=∃ (x1:Nat),(True∧SubB (iV (↑l.length:Int)) (iV ((↑l.length:Int) - (↑x1:Int)+(↑(szL (List.take x1 l)):Int)))∧rfB (dP Sh.tm l)∧rfB (iV (↑l.length:Int))∧SubB (iV 0) (iV (↑x1:Int))∧True)∧x1≤l.length∧True∧∀ (z2:Nat),z2≤l.length→True→ifB (decide ((↑z2:Int)<(↑l.length:Int))) (((0:Int)≤(↑z2:Int)∧(↑z2:Int)<(↑l.length:Int))∧(szL (Tw.kids (l.getD (↑z2:Int).toNat Sh.tm.nil))<n∧szL (Tw.kids (l.getD (↑z2:Int).toNat Sh.tm.nil))≤4611686018427387904)∧∃ (x3:Nat),(True∧SubB (iV (IntKind.i64.wrap ((↑l.length:Int) - (↑z2:Int)+(↑(szL (List.take z2 l)):Int)+(↑(szL (Tw.kids (l.getD (↑z2:Int).toNat Sh.tm.nil))):Int)))) (iV ((↑l.length:Int) - (↑x3:Int)+(↑(szL (List.take x3 l)):Int)))∧rfB (dP Sh.tm l)∧rfB (iV (↑l.length:Int))∧SubB (iV (IntKind.i64.wrap ((↑z2:Int)+(1:Int)))) (iV (↑x3:Int))∧True)∧x3≤l.length∧True∧(l.length - x3).succ.le (l.length - z2)) (true=true∧Sub (iV ((↑l.length:Int) - (↑z2:Int)+(↑(szL (List.take z2 l)):Int))) (iV (↑(szL l):Int)))) ?kr ?_
    case kr=>kernel_rfl
    refine ⟨?x0,⟨⟨trivial,⟨?m0,⟨.refl _,⟨.refl _,⟨?m1,trivial⟩⟩⟩⟩⟩,⟨?s0,⟨trivial,fun z2=>fun hq0=>fun _=>Qaa.2 ⟨fun hb1=>⟨?s1,⟨?s2,⟨?x1,⟨⟨trivial,⟨?m2,⟨.refl _,⟨.refl _,⟨?m3,trivial⟩⟩⟩⟩⟩,⟨?s3,⟨trivial,?m4⟩⟩⟩⟩⟩⟩,fun hb1=>⟨rfl,?m5⟩⟩⟩⟩⟩⟩
    case x0=>exact 0
    case x1=>exact z2+1
    all_goals try simp only [decide_eq_true_eq,decide_eq_false_iff_not,Int.toNat_natCast] at *
    case m0=>exact Qad (by simp [szL])
    case m1=>exact .refl _
    case s0=>exact Nat.zero_le _
    case m5 =>
     have hz:z2=l.length:=by omega
     subst hz
     rw [List.take_length]
     exact (Qad (by omega)).sub
    all_goals have hz:z2<l.length:=by omega
    all_goals have h1:=Qsq hz Sh.tm.nil
    all_goals have h2:=Qp3 hz Sh.tm.nil
    all_goals have h3:=QkQ (l:=l) (z2+1)
    all_goals have h4:=QkQ (l:=l) z2
    case s1=>omega
    case s2=>exact ⟨by omega,by omega⟩
    case m2 =>
     have h5:=Qg1 (l.take z2)
     have h6:=Qg1 l
     have h7:=Qg1 (l.drop (z2+1))
     have h8:=Qg2 (l.take (z2+1)) (l.drop (z2+1))
     rw [List.take_append_drop] at h8
     rw [List.length_drop] at h7
     exact Qad (by rw [wJ _ (by omega) (by omega)]; omega)
    case m3=>exact Qad (by rw [wJ _ (by omega) (by omega)]; omega)
    case s3=>omega
    case m4 =>
     have:l.length - (z2+1)<l.length - z2:=by omega
     exact this
  · cases hs
theorem cSize {E:Env} (hU:Up E):Contract Tryz.prog E 176 QsC:=by
 intro xs p r hs hp
 unfold QsC at hs
 split at hs
 · rename_i l
   cases hs
   exact QrY hU (szL l+1) [.f (.dt .tm l)] _ _ rfl (fun q hq=>by cases hq; exact ⟨Nat.lt_succ_self _,hp _ rfl⟩)
 · cases hs
noncomputable def sameT (t u:Tw):Bool:=@decide (t=u) (Classical.propDecidable _)
noncomputable def sameL (l m:List Tw):Bool:=@decide (l=m) (Classical.propDecidable _)
theorem Tw.ext {t u:Tw} (h1:t.kind=u.kind) (h2:t.name=u.name) (h3:t.neg=u.neg) (h4:t.digits=u.digits) (h5:t.kids=u.kids):t=u:=by
 rw [← t.eta,← u.eta,h1,h2,h3,h4,h5]
theorem Qnc {a b:Bool} (h:a=true↔b=true):a=b:=by cases a <;> cases b <;> simp_all
theorem QbQ {α:Type} {l m:List α} {i:Nat} (d:α) (hl:i<l.length) (hm:i<m.length) (h:l.take i=m.take i) (hd:l.getD i d=m.getD i d):l.take (i+1)=m.take (i+1):=by
 rw [List.getD_eq_getElem?_getD,List.getD_eq_getElem?_getD,List.getElem?_eq_getElem hl,List.getElem?_eq_getElem hm] at hd
 simp only [Option.getD_some] at hd
 rw [List.take_add_one,List.take_add_one,h,List.getElem?_eq_getElem hl,List.getElem?_eq_getElem hm,hd]
theorem QaH {t u:Tw}:sameT t u=true↔t=u:=by simp [sameT]
theorem Qbu {l m:List Tw}:sameL l m=true↔l=m:=by simp [sameL]
noncomputable def sSameTN (n:Nat):Spec
 | [x,y]=>match tmOf x,tmOf y with
  | some t,some u=>some (some (2 * t.size<n∧t.fitT∧u.fitT),.nm Bool (sameT t u) bV)
  | _,_=>none
 | _=>none
noncomputable def sSameLN (n:Nat):Spec
 | [.f (.dt .tm l),.f (.dt .tm m)]=>some (some (2 * szL l+1<n∧QbW l∧QbW m),.nm Bool (sameL l m) bV)
 | _=>none
noncomputable def sSameT:Spec
 | [x,y]=>match tmOf x,tmOf y with
  | some t,some u=>some (some (t.fitT∧u.fitT),.nm Bool (sameT t u) bV)
  | _,_=>none
 | _=>none
theorem Qks {E:Env} (hU:Up E):∀ n,Contract Tryz.prog E 47 (sSameTN n)∧Contract Tryz.prog E 103 (sSameLN n)
 | 0=>by
  refine ⟨?_,?_⟩
  · intro xs p r hs hp
    unfold sSameTN at hs
    split at hs
    · split at hs
      · cases hs
        exact absurd (hp _ rfl).1 (Nat.not_lt_zero _)
      · cases hs
    · cases hs
  · intro xs p r hs hp
    unfold sSameLN at hs
    split at hs
    · cases hs
      exact absurd (hp _ rfl).1 (Nat.not_lt_zero _)
    · cases hs
 | n+1=>by
  refine ⟨?_,?_⟩
  · refine Qac [(89,QsD),(103,sSameLN n)] [] Tryz.ntmps47 Tryz.func47 (by kernel_rfl) (by kernel_rfl) hU ⟨cSame,(Qks hU n).2,trivial⟩ trivial ?_
    intro xs p r hs hp
    unfold sSameTN at hs
    split at hs
    · rename_i x y
      split at hs
      · rename_i t u ht hu
        cases hs
        obtain ⟨hn,hf,hg⟩:=hp _ rfl
        refine ⟨[tmP t,tmP u],[],.cons (QaG ht).sub (.cons (QaG hu).sub .nil),rfl,fun _ hsh=>?_⟩
        have e2:=t.size_eq
        have f2:=(Tw.fitT_eq t).1 hf
        have g2:=(Tw.fitT_eq u).1 hg
        refine Qab (p:=ifB (t.kind==u.kind) (ifB (t.name.toList==u.name.toList) (t.digits.length+u.digits.length≤90000000∧ifB (t.neg==u.neg && eqB t.digits u.digits) ((2 * szL t.kids+1<n∧QbW t.kids∧QbW u.kids)∧∀ (z1:Bool),z1=sameL t.kids u.kids→true=true∧Sub (bV z1) (bV (sameT t u))) (true=true∧Sub (bV false) (bV (sameT t u)))) (true=true∧Sub (bV false) (bV (sameT t u)))) (true=true∧Sub (bV false) (bV (sameT t u)))) ?kr ?_
        case kr=>kernel_rfl
        refine Qaa.2 ⟨fun hb0=>Qaa.2 ⟨fun hb1=>⟨?s0,Qaa.2 ⟨fun hb2=>⟨?s1,fun z1=>fun hz1=>⟨rfl,?m0⟩⟩,fun hb2=>⟨rfl,?m1⟩⟩⟩,fun hb1=>⟨rfl,?m2⟩⟩,fun hb0=>⟨rfl,?m3⟩⟩
        all_goals try simp only [bs_l,decide_eq_true_eq,decide_eq_false_iff_not,beq_iff_eq,beq_eq_false_iff_ne,ne_eq] at *
        case s0=>omega
        case s1=>exact ⟨by omega,f2.2.2.2,g2.2.2.2⟩
        case m0 =>
         rw [Bool.and_eq_true,beq_iff_eq] at hb2
         refine (Qah ?_).sub
         rw [hz1]
         exact Qnc (by rw [Qbu,QaH]; exact ⟨fun h=>Tw.ext hb0 hb1 hb2.1 (by simpa [eqB] using hb2.2) h,fun h=>by rw [h]⟩)
        case m1 =>
         refine (Qah ?_).sub
         refine (Bool.eq_false_iff.2 fun h=>?_).symm
         rw [QaH] at h
         subst h
         rw [QlW] at hb2
         simp at hb2
        case m2 =>
         refine (Qah ?_).sub
         refine (Bool.eq_false_iff.2 fun h=>?_).symm
         rw [QaH] at h
         exact hb1 (by rw [h])
        case m3 =>
         refine (Qah ?_).sub
         refine (Bool.eq_false_iff.2 fun h=>?_).symm
         rw [QaH] at h
         exact hb0 (by rw [h])
      · cases hs
    · cases hs
  · refine Qac [(47,sSameTN n)] [] Tryz.ntmps103 Tryz.func103 (by kernel_rfl) (by kernel_rfl) hU ⟨(Qks hU n).1,trivial⟩ trivial ?_
    intro xs p r hs hp
    unfold sSameLN at hs
    split at hs
    · rename_i l m
      cases hs
      obtain ⟨hn,hf,hg⟩:=hp _ rfl
      refine ⟨[.f (.dt .tm l),.f (.dt .tm m)],[(4,.s ⟨Nat,fun i=>⟨[(0,.f (.dt .tm l)),(1,.f (.dt .tm m)),(5,iV i)],[]⟩,fun i=>i≤l.length∧l.length=m.length∧l.take i=m.take i,fun i=>l.length - i⟩)],.cons (.refl _) (.cons (.refl _) .nil),rfl,fun _ hsh=>?_⟩
      have hl:=Qap hsh.1
      refine Qab (p:=ifB ((↑l.length:Int) != (↑m.length:Int)) (true=true∧Sub (bV false) (bV (sameL l m))) (∃ (x1:Nat),(True∧rfB (dP Sh.tm l)∧rfB (dP Sh.tm m)∧SubB (iV 0) (iV (↑x1:Int))∧True)∧(x1≤l.length∧l.length=m.length∧List.take x1 l=List.take x1 m)∧True∧∀ (z2:Nat),z2≤l.length∧l.length=m.length∧List.take z2 l=List.take z2 m→True→ifB (decide ((↑z2:Int)<(↑l.length:Int))) (((0:Int)≤(↑z2:Int)∧(↑z2:Int)<(↑l.length:Int))∧((0:Int)≤(↑z2:Int)∧(↑z2:Int)<(↑m.length:Int))∧(2 * (etaT (l.getD (↑z2:Int).toNat Sh.tm.nil)).size<n∧(etaT (l.getD (↑z2:Int).toNat Sh.tm.nil)).fitT∧(etaT (m.getD (↑z2:Int).toNat Sh.tm.nil)).fitT)∧∀ (z3:Bool),z3=sameT (etaT (l.getD (↑z2:Int).toNat Sh.tm.nil)) (etaT (m.getD (↑z2:Int).toNat Sh.tm.nil))→ifB (!z3) (true=true∧Sub (bV false) (bV (sameL l m))) (∃ (x4:Nat),(True∧rfB (dP Sh.tm l)∧rfB (dP Sh.tm m)∧SubB (iV (IntKind.i64.wrap ((↑z2:Int)+(1:Int)))) (iV (↑x4:Int))∧True)∧(x4≤l.length∧l.length=m.length∧List.take x4 l=List.take x4 m)∧True∧(l.length - x4).succ.le (l.length - z2))) (true=true∧Sub (bV true) (bV (sameL l m))))) ?kr ?_
      case kr=>kernel_rfl
      refine Qaa.2 ⟨fun hb0=>⟨rfl,?m0⟩,fun hb0=>⟨?x0,⟨⟨trivial,⟨.refl _,⟨.refl _,⟨?m1,trivial⟩⟩⟩⟩,⟨?s0,⟨trivial,fun z2=>fun hq1=>fun _=>Qaa.2 ⟨fun hb2=>⟨?s1,⟨?s2,⟨?s3,fun z3=>fun hz3=>Qaa.2 ⟨fun hb3=>⟨rfl,?m2⟩,fun hb3=>⟨?x1,⟨⟨trivial,⟨.refl _,⟨.refl _,⟨?m3,trivial⟩⟩⟩⟩,⟨?s4,⟨trivial,?m4⟩⟩⟩⟩⟩⟩⟩⟩,fun hb2=>⟨rfl,?m5⟩⟩⟩⟩⟩⟩⟩
      all_goals try simp only [etaT] at *
      case x0=>exact 0
      case x1=>exact z2+1
      all_goals try simp only [decide_eq_true_eq,decide_eq_false_iff_not,Int.toNat_natCast,bne_iff_ne,ne_eq,bne_eq_false_iff_eq,Bool.not_eq_true',Bool.not_eq_false'] at *
      all_goals try simp only [Tw.eta] at *
      case m5 =>
       refine (Qah (Eq.symm ?_)).sub
       rw [Qbu]
       have h:=hq1.2.2
       rwa [List.take_of_length_le (by omega),List.take_of_length_le (by omega)] at h
      case s0=>exact ⟨Nat.zero_le _,by omega,rfl⟩
      case m0 =>
       refine (Qah (Eq.symm (Bool.eq_false_iff.2 fun h=>?_))).sub
       rw [Qbu] at h
       exact hb0 (by rw [h])
      case m1=>exact .refl _
      all_goals have hz:z2<l.length:=by omega
      all_goals have hm:z2<m.length:=by omega
      case s1=>omega
      case s2=>omega
      case s3 =>
       have h1:=QkS hz
       rw [QdM hz default Sh.tm.nil] at h1
       have:2 * (l.getD z2 Sh.tm.nil).size<n:=by omega
       exact ⟨this,QaR _ hf hz,QaR _ hg hm⟩
      case m2 =>
       refine (Qah (Eq.symm (Bool.eq_false_iff.2 fun h=>?_))).sub
       rw [Qbu] at h
       subst h
       rw [hb3] at hz3
       have:=QaH.2 (Eq.refl (l.getD z2 Sh.tm.nil))
       rw [← hz3] at this
       cases this
      case m3=>exact Qad (by rw [wJ _ (by omega) (by omega)]; rfl)
      case s4 =>
       rw [hb3] at hz3
       exact ⟨hz,hq1.2.1,QbQ Sh.tm.nil hz hm hq1.2.2 (QaH.1 hz3.symm)⟩
      case m4 =>
       have:l.length - (z2+1)<l.length - z2:=by omega
       exact this
    · cases hs
theorem cSameT {E:Env} (hU:Up E):Contract Tryz.prog E 47 sSameT:=by
 intro xs p r hs hp
 unfold sSameT at hs
 split at hs
 · rename_i x y
   split at hs
   · rename_i t u ht hu
     cases hs
     exact (Qks hU (2 * t.size+1)).1 [x,y] _ _ (by simp only [sSameTN,ht,hu]; rfl) (fun q hq=>by cases hq; exact ⟨Nat.lt_succ_self _,hp _ rfl⟩)
   · cases hs
 · cases hs
end Go.Proofs.YtijfaigpilfpaaaGreatDoor
