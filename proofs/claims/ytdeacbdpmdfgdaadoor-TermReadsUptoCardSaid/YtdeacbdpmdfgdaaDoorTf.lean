/- The layer term: sizes; the kit's sameness of terms. -/
import Derived.Test.YtdeacbdpmdfgdaaDoorTe
set_option linter.unusedSimpArgs false
namespace Go.Proofs.YtdeacbdpmdfgdaaDoor
open Go.RowKit
set_option linter.unusedVariables false
set_option maxRecDepth 100000
theorem szL_kid {l:List Tw} {i:Nat} (h:i<l.length) (d:Tw):szL (l.getD i d).kids<szL l:=by
 have h1:=szL_le h
 rw [getD_any h default d] at h1
 have h2:=(l.getD i d).size_eq
 omega
theorem szL_take {l:List Tw}:∀ i,szL (l.take i)≤szL l:=fun i=>by
 have:=szL_app (l.take i) (l.drop i)
 rw [List.take_append_drop] at this
 omega
theorem szL_next {l:List Tw} {i:Nat} (h:i<l.length) (d:Tw):szL (l.take (i+1))=szL (l.take i)+szL (l.getD i d).kids+1:=by
 have h1:=szL_snoc l h
 rw [getD_any h default d] at h1
 have h2:=(l.getD i d).size_eq
 omega
def sSizeN (n:Nat):Spec
 | [.f (.dt .tm l)]=>some (some (szL l<n∧szL l≤4611686018427387904),.one (iV (szL l)))
 | _=>none
def sSize:Spec
 | [.f (.dt .tm l)]=>some (some (szL l≤4611686018427387904),.one (iV (szL l)))
 | _=>none
theorem cSizeN {E:Env} (hU:Up E):∀ n,Contract Tryd.prog E 40 (sSizeN n)
 | 0=>by
  intro xs p r hs hp
  unfold sSizeN at hs
  split at hs
  · cases hs
    exact absurd (hp _ rfl).1 (Nat.not_lt_zero _)
  · cases hs
 | n+1=>by
  refine contract_D [(40,sSizeN n)] [] Tryd.ntmps40 Tryd.func40 (by kernel_rfl) (by kernel_rfl) hU ⟨cSizeN hU n,trivial⟩ trivial ?_
  intro xs p r hs hp
  unfold sSizeN at hs
  split at hs
  · rename_i l
    cases hs
    obtain ⟨hn,hb⟩:=hp _ rfl
    refine ⟨[.f (.dt .tm l)],[(3,.s ⟨Nat,fun i=>⟨[(3,iV (l.length - i+szL (l.take i):Int)),(8,.f (.dt .tm l)),(9,iV l.length),(10,iV i)],[]⟩,fun i=>i≤l.length,fun i=>l.length - i⟩)],.cons (.refl _) .nil,rfl,fun _ hsh=>?_⟩
    have hl:=short_row hsh.1
    refine cast_rfl (p:=∃ (x1:Nat),(True∧SubB (iV (↑l.length:Int)) (iV ((↑l.length:Int) - (↑x1:Int)+(↑(szL (List.take x1 l)):Int)))∧SubB (PV.f (Lf.dt Sh.tm l)) (PV.f (Lf.dt Sh.tm l))∧SubB (iV (↑l.length:Int)) (iV (↑l.length:Int))∧SubB (iV 0) (iV (↑x1:Int))∧True)∧x1≤l.length∧True∧∀ (z2:Nat),z2≤l.length→True→ifB (decide ((↑z2:Int)<(↑l.length:Int))) (((0:Int)≤(↑z2:Int)∧(↑z2:Int)<(↑l.length:Int))∧(szL (Tw.kids (l.getD (↑z2:Int).toNat Sh.tm.nil))<n∧szL (Tw.kids (l.getD (↑z2:Int).toNat Sh.tm.nil))≤4611686018427387904)∧∃ (x3:Nat),(True∧SubB (iV (IntKind.i64.wrap ((↑l.length:Int) - (↑z2:Int)+(↑(szL (List.take z2 l)):Int)+(↑(szL (Tw.kids (l.getD (↑z2:Int).toNat Sh.tm.nil))):Int)))) (iV ((↑l.length:Int) - (↑x3:Int)+(↑(szL (List.take x3 l)):Int)))∧SubB (PV.f (Lf.dt Sh.tm l)) (PV.f (Lf.dt Sh.tm l))∧SubB (iV (↑l.length:Int)) (iV (↑l.length:Int))∧SubB (iV (IntKind.i64.wrap ((↑z2:Int)+(1:Int)))) (iV (↑x3:Int))∧True)∧x3≤l.length∧True∧(l.length - x3).succ.le (l.length - z2)) (true=true∧Sub (iV ((↑l.length:Int) - (↑z2:Int)+(↑(szL (List.take z2 l)):Int))) (iV (↑(szL l):Int)))) ?kr ?_
    case kr=>kernel_rfl
    refine ⟨?x0,⟨⟨trivial,⟨?m0,⟨.refl _,⟨.refl _,⟨?m1,trivial⟩⟩⟩⟩⟩,⟨?s0,⟨trivial,fun z2=>fun hq0=>fun _=>ifB_iff.2 ⟨fun hb1=>⟨?s1,⟨?s2,⟨?x1,⟨⟨trivial,⟨?m2,⟨.refl _,⟨.refl _,⟨?m3,trivial⟩⟩⟩⟩⟩,⟨?s3,⟨trivial,?m4⟩⟩⟩⟩⟩⟩,fun hb1=>⟨rfl,?m5⟩⟩⟩⟩⟩⟩
    case x0=>exact 0
    case x1=>exact z2+1
    all_goals try simp only [decide_eq_true_eq,decide_eq_false_iff_not,Int.toNat_natCast] at *
    case m0=>exact subB_i (by simp [szL])
    case m1=>exact .refl _
    case s0=>exact Nat.zero_le _
    case m5 =>
     have hz:z2=l.length:=by omega
     subst hz
     rw [List.take_length]
     exact (subB_i (by omega)).sub
    all_goals have hz:z2<l.length:=by omega
    all_goals have h1:=szL_kid hz Sh.tm.nil
    all_goals have h2:=szL_next hz Sh.tm.nil
    all_goals have h3:=szL_take (l:=l) (z2+1)
    all_goals have h4:=szL_take (l:=l) z2
    case s1=>omega
    case s2=>exact ⟨by omega,by omega⟩
    case m2 =>
     have h5:=szL_len (l.take z2)
     have h6:=szL_len l
     have h7:=szL_len (l.drop (z2+1))
     have h8:=szL_app (l.take (z2+1)) (l.drop (z2+1))
     rw [List.take_append_drop] at h8
     rw [List.length_drop] at h7
     exact subB_i (by rw [wJ _ (by omega) (by omega)]; omega)
    case m3=>exact subB_i (by rw [wJ _ (by omega) (by omega)]; omega)
    case s3=>omega
    case m4 =>
     have:l.length - (z2+1)<l.length - z2:=by omega
     exact this
  · cases hs
theorem cSize {E:Env} (hU:Up E):Contract Tryd.prog E 40 sSize:=by
 intro xs p r hs hp
 unfold sSize at hs
 split at hs
 · rename_i l
   cases hs
   exact cSizeN hU (szL l+1) [.f (.dt .tm l)] _ _ rfl (fun q hq=>by cases hq; exact ⟨Nat.lt_succ_self _,hp _ rfl⟩)
 · cases hs
noncomputable def sameT (t u:Tw):Bool:=@decide (t=u) (Classical.propDecidable _)
noncomputable def sameL (l m:List Tw):Bool:=@decide (l=m) (Classical.propDecidable _)
theorem Tw.ext {t u:Tw} (h1:t.kind=u.kind) (h2:t.name=u.name) (h3:t.neg=u.neg) (h4:t.digits=u.digits) (h5:t.kids=u.kids):t=u:=by
 rw [← t.eta,← u.eta,h1,h2,h3,h4,h5]
theorem b_iff {a b:Bool} (h:a=true↔b=true):a=b:=by cases a <;> cases b <;> simp_all
theorem take_next {α:Type} {l m:List α} {i:Nat} (d:α) (hl:i<l.length) (hm:i<m.length) (h:l.take i=m.take i) (hd:l.getD i d=m.getD i d):l.take (i+1)=m.take (i+1):=by
 rw [List.getD_eq_getElem?_getD,List.getD_eq_getElem?_getD,List.getElem?_eq_getElem hl,List.getElem?_eq_getElem hm] at hd
 simp only [Option.getD_some] at hd
 rw [List.take_add_one,List.take_add_one,h,List.getElem?_eq_getElem hl,List.getElem?_eq_getElem hm,hd]
theorem sameT_iff {t u:Tw}:sameT t u=true↔t=u:=by simp [sameT]
theorem sameL_iff {l m:List Tw}:sameL l m=true↔l=m:=by simp [sameL]
noncomputable def sSameTN (n:Nat):Spec
 | [x,y]=>match tmOf x,tmOf y with
  | some t,some u=>some (some (2 * t.size<n∧t.fitT∧u.fitT),.nm Bool (sameT t u) bV)
  | _,_=>none
 | _=>none
noncomputable def sSameLN (n:Nat):Spec
 | [.f (.dt .tm l),.f (.dt .tm m)]=>some (some (2 * szL l+1<n∧fitTL l∧fitTL m),.nm Bool (sameL l m) bV)
 | _=>none
noncomputable def sSameT:Spec
 | [x,y]=>match tmOf x,tmOf y with
  | some t,some u=>some (some (t.fitT∧u.fitT),.nm Bool (sameT t u) bV)
  | _,_=>none
 | _=>none
theorem cSameTN {E:Env} (hU:Up E):∀ n,Contract Tryd.prog E 15 (sSameTN n)∧Contract Tryd.prog E 48 (sSameLN n)
 | 0=>by
  refine ⟨?_,?_⟩
  · intro xs p r hs hp
    unfold sSameTN at hs
    split at hs
    · split at hs
      · cases hs
        exact absurd (hp _ rfl).1 (Nat.not_lt_zero _)
      · cases hs
    · cases hs
  · intro xs p r hs hp
    unfold sSameLN at hs
    split at hs
    · cases hs
      exact absurd (hp _ rfl).1 (Nat.not_lt_zero _)
    · cases hs
 | n+1=>by
  refine ⟨?_,?_⟩
  · refine contract_D [(47,sSame),(48,sSameLN n)] [] Tryd.ntmps15 Tryd.func15 (by kernel_rfl) (by kernel_rfl) hU ⟨cSame,(cSameTN hU n).2,trivial⟩ trivial ?_
    intro xs p r hs hp
    unfold sSameTN at hs
    split at hs
    · rename_i x y
      split at hs
      · rename_i t u ht hu
        cases hs
        obtain ⟨hn,hf,hg⟩:=hp _ rfl
        refine ⟨[tmP t,tmP u],[],.cons (tm_sub ht).sub (.cons (tm_sub hu).sub .nil),rfl,fun _ hsh=>?_⟩
        have e2:=t.size_eq
        have f2:=(Tw.fitT_eq t).1 hf
        have g2:=(Tw.fitT_eq u).1 hg
        refine cast_rfl (p:=ifB (t.kind==u.kind) (ifB (t.name.toList==u.name.toList) (t.digits.length+u.digits.length≤90000000∧ifB (t.neg==u.neg && eqB t.digits u.digits) ((2 * szL t.kids+1<n∧fitTL t.kids∧fitTL u.kids)∧∀ (z1:Bool),z1=sameL t.kids u.kids→true=true∧Sub (bV z1) (bV (sameT t u))) (true=true∧Sub (bV false) (bV (sameT t u)))) (true=true∧Sub (bV false) (bV (sameT t u)))) (true=true∧Sub (bV false) (bV (sameT t u)))) ?kr ?_
        case kr=>kernel_rfl
        refine ifB_iff.2 ⟨fun hb0=>ifB_iff.2 ⟨fun hb1=>⟨?s0,ifB_iff.2 ⟨fun hb2=>⟨?s1,fun z1=>fun hz1=>⟨rfl,?m0⟩⟩,fun hb2=>⟨rfl,?m1⟩⟩⟩,fun hb1=>⟨rfl,?m2⟩⟩,fun hb0=>⟨rfl,?m3⟩⟩
        all_goals try simp only [bs_l,decide_eq_true_eq,decide_eq_false_iff_not,beq_iff_eq,beq_eq_false_iff_ne,ne_eq] at *
        case s0=>omega
        case s1=>exact ⟨by omega,f2.2.2.2,g2.2.2.2⟩
        case m0 =>
         rw [Bool.and_eq_true,beq_iff_eq] at hb2
         refine (subB_b ?_).sub
         rw [hz1]
         exact b_iff (by rw [sameL_iff,sameT_iff]; exact ⟨fun h=>Tw.ext hb0 hb1 hb2.1 (by simpa [eqB] using hb2.2) h,fun h=>by rw [h]⟩)
        case m1 =>
         refine (subB_b ?_).sub
         refine (Bool.eq_false_iff.2 fun h=>?_).symm
         rw [sameT_iff] at h
         subst h
         rw [eqB_self] at hb2
         simp at hb2
        case m2 =>
         refine (subB_b ?_).sub
         refine (Bool.eq_false_iff.2 fun h=>?_).symm
         rw [sameT_iff] at h
         exact hb1 (by rw [h])
        case m3 =>
         refine (subB_b ?_).sub
         refine (Bool.eq_false_iff.2 fun h=>?_).symm
         rw [sameT_iff] at h
         exact hb0 (by rw [h])
      · cases hs
    · cases hs
  · refine contract_D [(15,sSameTN n)] [] Tryd.ntmps48 Tryd.func48 (by kernel_rfl) (by kernel_rfl) hU ⟨(cSameTN hU n).1,trivial⟩ trivial ?_
    intro xs p r hs hp
    unfold sSameLN at hs
    split at hs
    · rename_i l m
      cases hs
      obtain ⟨hn,hf,hg⟩:=hp _ rfl
      refine ⟨[.f (.dt .tm l),.f (.dt .tm m)],[(4,.s ⟨Nat,fun i=>⟨[(0,.f (.dt .tm l)),(1,.f (.dt .tm m)),(5,iV i)],[]⟩,fun i=>i≤l.length∧l.length=m.length∧l.take i=m.take i,fun i=>l.length - i⟩)],.cons (.refl _) (.cons (.refl _) .nil),rfl,fun _ hsh=>?_⟩
      have hl:=short_row hsh.1
      refine cast_rfl (p:=ifB ((↑l.length:Int) != (↑m.length:Int)) (true=true∧Sub (bV false) (bV (sameL l m))) (∃ (x1:Nat),(True∧SubB (PV.f (Lf.dt Sh.tm l)) (PV.f (Lf.dt Sh.tm l))∧SubB (PV.f (Lf.dt Sh.tm m)) (PV.f (Lf.dt Sh.tm m))∧SubB (iV 0) (iV (↑x1:Int))∧True)∧(x1≤l.length∧l.length=m.length∧List.take x1 l=List.take x1 m)∧True∧∀ (z2:Nat),z2≤l.length∧l.length=m.length∧List.take z2 l=List.take z2 m→True→ifB (decide ((↑z2:Int)<(↑l.length:Int))) (((0:Int)≤(↑z2:Int)∧(↑z2:Int)<(↑l.length:Int))∧((0:Int)≤(↑z2:Int)∧(↑z2:Int)<(↑m.length:Int))∧(2 * (Tw.mk (Tw.kind (l.getD (↑z2:Int).toNat Sh.tm.nil)) (Tw.name (l.getD (↑z2:Int).toNat Sh.tm.nil)) (Tw.neg (l.getD (↑z2:Int).toNat Sh.tm.nil)) (Tw.digits (l.getD (↑z2:Int).toNat Sh.tm.nil)) (Tw.kids (l.getD (↑z2:Int).toNat Sh.tm.nil))).size<n∧(Tw.mk (Tw.kind (l.getD (↑z2:Int).toNat Sh.tm.nil)) (Tw.name (l.getD (↑z2:Int).toNat Sh.tm.nil)) (Tw.neg (l.getD (↑z2:Int).toNat Sh.tm.nil)) (Tw.digits (l.getD (↑z2:Int).toNat Sh.tm.nil)) (Tw.kids (l.getD (↑z2:Int).toNat Sh.tm.nil))).fitT∧(Tw.mk (Tw.kind (m.getD (↑z2:Int).toNat Sh.tm.nil)) (Tw.name (m.getD (↑z2:Int).toNat Sh.tm.nil)) (Tw.neg (m.getD (↑z2:Int).toNat Sh.tm.nil)) (Tw.digits (m.getD (↑z2:Int).toNat Sh.tm.nil)) (Tw.kids (m.getD (↑z2:Int).toNat Sh.tm.nil))).fitT)∧∀ (z3:Bool),z3=sameT (Tw.mk (Tw.kind (l.getD (↑z2:Int).toNat Sh.tm.nil)) (Tw.name (l.getD (↑z2:Int).toNat Sh.tm.nil)) (Tw.neg (l.getD (↑z2:Int).toNat Sh.tm.nil)) (Tw.digits (l.getD (↑z2:Int).toNat Sh.tm.nil)) (Tw.kids (l.getD (↑z2:Int).toNat Sh.tm.nil))) (Tw.mk (Tw.kind (m.getD (↑z2:Int).toNat Sh.tm.nil)) (Tw.name (m.getD (↑z2:Int).toNat Sh.tm.nil)) (Tw.neg (m.getD (↑z2:Int).toNat Sh.tm.nil)) (Tw.digits (m.getD (↑z2:Int).toNat Sh.tm.nil)) (Tw.kids (m.getD (↑z2:Int).toNat Sh.tm.nil)))→ifB (!z3) (true=true∧Sub (bV false) (bV (sameL l m))) (∃ (x4:Nat),(True∧SubB (PV.f (Lf.dt Sh.tm l)) (PV.f (Lf.dt Sh.tm l))∧SubB (PV.f (Lf.dt Sh.tm m)) (PV.f (Lf.dt Sh.tm m))∧SubB (iV (IntKind.i64.wrap ((↑z2:Int)+(1:Int)))) (iV (↑x4:Int))∧True)∧(x4≤l.length∧l.length=m.length∧List.take x4 l=List.take x4 m)∧True∧(l.length - x4).succ.le (l.length - z2))) (true=true∧Sub (bV true) (bV (sameL l m))))) ?kr ?_
      case kr=>kernel_rfl
      refine ifB_iff.2 ⟨fun hb0=>⟨rfl,?m0⟩,fun hb0=>⟨?x0,⟨⟨trivial,⟨.refl _,⟨.refl _,⟨?m1,trivial⟩⟩⟩⟩,⟨?s0,⟨trivial,fun z2=>fun hq1=>fun _=>ifB_iff.2 ⟨fun hb2=>⟨?s1,⟨?s2,⟨?s3,fun z3=>fun hz3=>ifB_iff.2 ⟨fun hb3=>⟨rfl,?m2⟩,fun hb3=>⟨?x1,⟨⟨trivial,⟨.refl _,⟨.refl _,⟨?m3,trivial⟩⟩⟩⟩,⟨?s4,⟨trivial,?m4⟩⟩⟩⟩⟩⟩⟩⟩,fun hb2=>⟨rfl,?m5⟩⟩⟩⟩⟩⟩⟩
      case x0=>exact 0
      case x1=>exact z2+1
      all_goals try simp only [decide_eq_true_eq,decide_eq_false_iff_not,Int.toNat_natCast,bne_iff_ne,ne_eq,bne_eq_false_iff_eq,Bool.not_eq_true',Bool.not_eq_false'] at *
      all_goals try simp only [Tw.eta] at *
      case m5 =>
       refine (subB_b (Eq.symm ?_)).sub
       rw [sameL_iff]
       have h:=hq1.2.2
       rwa [List.take_of_length_le (by omega),List.take_of_length_le (by omega)] at h
      case s0=>exact ⟨Nat.zero_le _,by omega,rfl⟩
      case m0 =>
       refine (subB_b (Eq.symm (Bool.eq_false_iff.2 fun h=>?_))).sub
       rw [sameL_iff] at h
       exact hb0 (by rw [h])
      case m1=>exact .refl _
      all_goals have hz:z2<l.length:=by omega
      all_goals have hm:z2<m.length:=by omega
      case s1=>omega
      case s2=>omega
      case s3 =>
       have h1:=szL_le hz
       rw [getD_any hz default Sh.tm.nil] at h1
       have:2 * (l.getD z2 Sh.tm.nil).size<n:=by omega
       exact ⟨this,fitTL_at _ hf hz,fitTL_at _ hg hm⟩
      case m2 =>
       refine (subB_b (Eq.symm (Bool.eq_false_iff.2 fun h=>?_))).sub
       rw [sameL_iff] at h
       subst h
       rw [hb3] at hz3
       have:=sameT_iff.2 (Eq.refl (l.getD z2 Sh.tm.nil))
       rw [← hz3] at this
       cases this
      case m3=>exact subB_i (by rw [wJ _ (by omega) (by omega)]; rfl)
      case s4 =>
       rw [hb3] at hz3
       exact ⟨hz,hq1.2.1,take_next Sh.tm.nil hz hm hq1.2.2 (sameT_iff.1 hz3.symm)⟩
      case m4 =>
       have:l.length - (z2+1)<l.length - z2:=by omega
       exact this
    · cases hs
theorem cSameT {E:Env} (hU:Up E):Contract Tryd.prog E 15 sSameT:=by
 intro xs p r hs hp
 unfold sSameT at hs
 split at hs
 · rename_i x y
   split at hs
   · rename_i t u ht hu
     cases hs
     exact (cSameTN hU (2 * t.size+1)).1 [x,y] _ _ (by simp only [sSameTN,ht,hu]; rfl) (fun q hq=>by cases hq; exact ⟨Nat.lt_succ_self _,hp _ rfl⟩)
   · cases hs
 · cases hs
end Go.Proofs.YtdeacbdpmdfgdaaDoor
