/- The kit: are two types the same? -/
import Derived.Test.YtijfaigpilfpaaaGreatDoorHe
set_option linter.unusedSimpArgs false
namespace Go.Proofs.YtijfaigpilfpaaaGreatDoor
open Go.RowKit
set_option linter.unusedVariables false
set_option maxRecDepth 100000
noncomputable def sKitYN (n:Nat):Spec
 | [x,y]=>match tyOf x,tyOf y with
  | some t,some u=>some (some (3 * t.size<n∧t.fit∧u.fit),.nm Bool (sameY t u) bV)
  | _,_=>none
 | _=>none
noncomputable def sKitQN (n:Nat):Spec
 | [x,y]=>match prOf x,prOf y with
  | some t,some u=>some (some (3 * t.2.size+1<n∧t.2.fit∧u.2.fit),.nm Bool (sameQ t u) bV)
  | _,_=>none
 | _=>none
noncomputable def sKitPN (n:Nat):Spec
 | [.f (.dt .prm l),.f (.dt .prm m)]=>some (some (3 * szP l+2<n∧fitP l∧fitP m),.nm Bool (sameP l m) bV)
 | _=>none
noncomputable def sKitRN (n:Nat):Spec
 | [.f (.dt .ty l),.f (.dt .ty m)]=>some (some (3 * szY l+1<n∧fitY l∧fitY m),.nm Bool (sameR l m) bV)
 | _=>none
theorem QgM {E:Env} (hU:Up E):∀ n,Contract Tryz.prog E 12 (sKitYN n)∧Contract Tryz.prog E 104 (sKitQN n)∧Contract Tryz.prog E 48 (sKitPN n)∧Contract Tryz.prog E 49 (sKitRN n)
 | 0=>by
  refine ⟨?_,?_,?_,?_⟩
  · intro xs p r hs hp
    unfold sKitYN at hs
    split at hs
    · split at hs
      · cases hs
        exact absurd (hp _ rfl).1 (Nat.not_lt_zero _)
      · cases hs
    · cases hs
  · intro xs p r hs hp
    unfold sKitQN at hs
    split at hs
    · split at hs
      · cases hs
        exact absurd (hp _ rfl).1 (Nat.not_lt_zero _)
      · cases hs
    · cases hs
  · intro xs p r hs hp
    unfold sKitPN at hs
    split at hs
    · cases hs
      exact absurd (hp _ rfl).1 (Nat.not_lt_zero _)
    · cases hs
  · intro xs p r hs hp
    unfold sKitRN at hs
    split at hs
    · cases hs
      exact absurd (hp _ rfl).1 (Nat.not_lt_zero _)
    · cases hs
 | n+1=>by
  refine ⟨?_,?_,?_,?_⟩
  · refine Qac [(47,sSameT),(48,sKitPN n),(49,sKitRN n)] [] Tryz.ntmps12 Tryz.func12 (by kernel_rfl) (by kernel_rfl) hU ⟨cSameT hU,(QgM hU n).2.2.1,(QgM hU n).2.2.2,trivial⟩ trivial ?_
    intro xs p r hs hp
    unfold sKitYN at hs
    split at hs
    · rename_i x y
      split at hs
      · rename_i t u ht hu
        cases hs
        obtain ⟨hn,hf,hg⟩:=hp _ rfl
        refine ⟨[tyP t,tyP u],[],.cons (Qbp ht).sub (.cons (Qbp hu).sub .nil),rfl,fun _ hsh=>?_⟩
        have e2:=t.size_eq
        have f2:=(Yw.fit_eq t).1 hf
        have g2:=(Yw.fit_eq u).1 hg
        refine Qab (p:=ifB (t.fn==u.fn) (ifB (t.sort.toList==u.sort.toList) (((etaT t.ref).fitT∧(etaT u.ref).fitT)∧∀ (z1:Bool),z1=sameT (etaT t.ref) (etaT u.ref)→ifB z1 ((3 * szP t.params+2<n∧fitP t.params∧fitP u.params)∧∀ (z2:Bool),z2=sameP t.params u.params→ifB z2 ((3 * szY t.result+1<n∧fitY t.result∧fitY u.result)∧∀ (z3:Bool),z3=sameR t.result u.result→true=true∧Sub (bV z3) (bV (sameY t u))) (true=true∧Sub (bV false) (bV (sameY t u)))) (true=true∧Sub (bV false) (bV (sameY t u)))) (true=true∧Sub (bV false) (bV (sameY t u)))) (true=true∧Sub (bV false) (bV (sameY t u)))) ?kr ?_
        case kr=>kernel_rfl
        refine Qaa.2 ⟨fun hb0=>Qaa.2 ⟨fun hb1=>⟨?s0,fun z1=>fun hz1=>Qaa.2 ⟨fun hb2=>⟨?s1,fun z2=>fun hz2=>Qaa.2 ⟨fun hb3=>⟨?s2,fun z3=>fun hz3=>⟨rfl,?m0⟩⟩,fun hb3=>⟨rfl,?m1⟩⟩⟩,fun hb2=>⟨rfl,?m2⟩⟩⟩,fun hb1=>⟨rfl,?m3⟩⟩,fun hb0=>⟨rfl,?m4⟩⟩
        all_goals try simp only [etaT] at *
        all_goals try simp only [bs_l,Tw.eta,decide_eq_true_eq,decide_eq_false_iff_not,beq_iff_eq,beq_eq_false_iff_ne,ne_eq] at *
        case s0=>exact ⟨f2.1.2.1,g2.1.2.1⟩
        case s1=>exact ⟨by omega,f2.2.2.1,g2.2.2.1⟩
        case s2=>exact ⟨by omega,f2.2.2.2,g2.2.2.2⟩
        case m0 =>
         rw [hb2] at hz1
         rw [hb3] at hz2
         refine (Qah ?_).sub
         rw [hz3]
         exact Qnc (by rw [Qbs,QaL]; exact ⟨fun h=>Yw.ext hb0 hb1 (QaH.1 hz1.symm) (QaY.1 hz2.symm) h,fun h=>by rw [h]⟩)
        all_goals refine (Qah ?_).sub
        all_goals refine (Bool.eq_false_iff.2 fun h=>?_).symm
        all_goals rw [QaL] at h
        all_goals subst h
        case m1=>rw [hb3] at hz2; exact Bool.noConfusion (hz2.trans (QaY.2 rfl))
        case m2=>rw [hb2] at hz1; exact Bool.noConfusion (hz1.trans (QaH.2 rfl))
        case m3=>exact hb1 rfl
        case m4=>exact hb0 rfl
      · cases hs
    · cases hs
  · refine Qac [(12,sKitYN n)] [] Tryz.ntmps104 Tryz.func104 (by kernel_rfl) (by kernel_rfl) hU ⟨(QgM hU n).1,trivial⟩ trivial ?_
    intro xs p r hs hp
    unfold sKitQN at hs
    split at hs
    · rename_i x y
      split at hs
      · rename_i t u ht hu
        cases hs
        obtain ⟨hn,hf,hg⟩:=hp _ rfl
        refine ⟨[prP t,prP u],[],.cons (Qgr ht).sub (.cons (Qgr hu).sub .nil),rfl,fun _ hsh=>?_⟩
        have h0:=hn
        refine Qab (p:=ifB (t.fst.toList==u.fst.toList) ((3 * (Yw.mk t.snd.fn t.snd.sort (etaT t.snd.ref) t.snd.params t.snd.result).size<n∧(Yw.mk t.snd.fn t.snd.sort (etaT t.snd.ref) t.snd.params t.snd.result).fit∧(Yw.mk u.snd.fn u.snd.sort (etaT u.snd.ref) u.snd.params u.snd.result).fit)∧∀ (z1:Bool),z1=sameY (Yw.mk t.snd.fn t.snd.sort (etaT t.snd.ref) t.snd.params t.snd.result) (Yw.mk u.snd.fn u.snd.sort (etaT u.snd.ref) u.snd.params u.snd.result)→true=true∧Sub (bV z1) (bV (sameQ t u))) (true=true∧Sub (bV false) (bV (sameQ t u)))) ?kr ?_
        case kr=>kernel_rfl
        refine Qaa.2 ⟨fun hb0=>⟨?s0,fun z1=>fun hz1=>⟨rfl,?m0⟩⟩,fun hb0=>⟨rfl,?m1⟩⟩
        all_goals try simp only [etaT] at *
        all_goals try simp only [bs_l,Yw.eta,Tw.eta,decide_eq_true_eq,decide_eq_false_iff_not] at *
        case s0=>exact ⟨by omega,hf,hg⟩
        case m0 =>
         refine (Qah ?_).sub
         rw [hz1]
         exact Qnc (by rw [QaL,Qbt]; exact ⟨fun h=>Prod.ext hb0 h,fun h=>by rw [h]⟩)
        case m1 =>
         refine (Qah ?_).sub
         refine (Bool.eq_false_iff.2 fun h=>?_).symm
         rw [Qbt] at h
         exact hb0 (by rw [h])
      · cases hs
    · cases hs
  · refine Qac [(104,sKitQN n)] [] Tryz.ntmps48 Tryz.func48 (by kernel_rfl) (by kernel_rfl) hU ⟨(QgM hU n).2.1,trivial⟩ trivial ?_
    intro xs p r hs hp
    unfold sKitPN at hs
    split at hs
    · rename_i l m
      cases hs
      obtain ⟨hn,hf,hg⟩:=hp _ rfl
      refine ⟨[.f (.dt .prm l),.f (.dt .prm m)],[(4,.s ⟨Nat,fun i=>⟨[(0,.f (.dt .prm l)),(1,.f (.dt .prm m)),(5,iV i)],[]⟩,fun i=>i≤l.length∧l.length=m.length∧l.take i=m.take i,fun i=>l.length - i⟩)],.cons (.refl _) (.cons (.refl _) .nil),rfl,fun _ hsh=>?_⟩
      have hl:=Qap hsh.1
      refine Qab (p:=ifB ((↑l.length:Int) != (↑m.length:Int)) (true=true∧Sub (bV false) (bV (sameP l m))) (∃ (x1:Nat),(True∧rfB (dP Sh.prm l)∧rfB (dP Sh.prm m)∧SubB (iV 0) (iV (↑x1:Int))∧True)∧(x1≤l.length∧l.length=m.length∧List.take x1 l=List.take x1 m)∧True∧∀ (z2:Nat),z2≤l.length∧l.length=m.length∧List.take z2 l=List.take z2 m→True→ifB (decide ((↑z2:Int)<(↑l.length:Int))) (((0:Int)≤(↑z2:Int)∧(↑z2:Int)<(↑l.length:Int))∧((0:Int)≤(↑z2:Int)∧(↑z2:Int)<(↑m.length:Int))∧(3 * (Yw.mk (l.getD (↑z2:Int).toNat Sh.prm.nil).snd.fn (l.getD (↑z2:Int).toNat Sh.prm.nil).snd.sort (etaT ((l.getD (↑z2:Int).toNat Sh.prm.nil).snd.ref)) (l.getD (↑z2:Int).toNat Sh.prm.nil).snd.params (l.getD (↑z2:Int).toNat Sh.prm.nil).snd.result).size+1<n∧(Yw.mk (l.getD (↑z2:Int).toNat Sh.prm.nil).snd.fn (l.getD (↑z2:Int).toNat Sh.prm.nil).snd.sort (etaT ((l.getD (↑z2:Int).toNat Sh.prm.nil).snd.ref)) (l.getD (↑z2:Int).toNat Sh.prm.nil).snd.params (l.getD (↑z2:Int).toNat Sh.prm.nil).snd.result).fit∧(Yw.mk (m.getD (↑z2:Int).toNat Sh.prm.nil).snd.fn (m.getD (↑z2:Int).toNat Sh.prm.nil).snd.sort (etaT ((m.getD (↑z2:Int).toNat Sh.prm.nil).snd.ref)) (m.getD (↑z2:Int).toNat Sh.prm.nil).snd.params (m.getD (↑z2:Int).toNat Sh.prm.nil).snd.result).fit)∧∀ (z3:Bool),z3=sameQ ((l.getD (↑z2:Int).toNat Sh.prm.nil).fst,Yw.mk (l.getD (↑z2:Int).toNat Sh.prm.nil).snd.fn (l.getD (↑z2:Int).toNat Sh.prm.nil).snd.sort (etaT ((l.getD (↑z2:Int).toNat Sh.prm.nil).snd.ref)) (l.getD (↑z2:Int).toNat Sh.prm.nil).snd.params (l.getD (↑z2:Int).toNat Sh.prm.nil).snd.result) ((m.getD (↑z2:Int).toNat Sh.prm.nil).fst,Yw.mk (m.getD (↑z2:Int).toNat Sh.prm.nil).snd.fn (m.getD (↑z2:Int).toNat Sh.prm.nil).snd.sort (etaT ((m.getD (↑z2:Int).toNat Sh.prm.nil).snd.ref)) (m.getD (↑z2:Int).toNat Sh.prm.nil).snd.params (m.getD (↑z2:Int).toNat Sh.prm.nil).snd.result)→ifB (!z3) (true=true∧Sub (bV false) (bV (sameP l m))) (∃ (x4:Nat),(True∧rfB (dP Sh.prm l)∧rfB (dP Sh.prm m)∧SubB (iV (IntKind.i64.wrap ((↑z2:Int)+(1:Int)))) (iV (↑x4:Int))∧True)∧(x4≤l.length∧l.length=m.length∧List.take x4 l=List.take x4 m)∧True∧(l.length - x4).succ.le (l.length - z2))) (true=true∧Sub (bV true) (bV (sameP l m))))) ?kr ?_
      case kr=>kernel_rfl
      refine Qaa.2 ⟨fun hb0=>⟨rfl,?m0⟩,fun hb0=>⟨?x0,⟨⟨trivial,⟨.refl _,⟨.refl _,⟨?m1,trivial⟩⟩⟩⟩,⟨?s0,⟨trivial,fun z2=>fun hq1=>fun _=>Qaa.2 ⟨fun hb2=>⟨?s1,⟨?s2,⟨?s3,fun z3=>fun hz3=>Qaa.2 ⟨fun hb3=>⟨rfl,?m2⟩,fun hb3=>⟨?x1,⟨⟨trivial,⟨.refl _,⟨.refl _,⟨?m3,trivial⟩⟩⟩⟩,⟨?s4,⟨trivial,?m4⟩⟩⟩⟩⟩⟩⟩⟩,fun hb2=>⟨rfl,?m5⟩⟩⟩⟩⟩⟩⟩
      all_goals try simp only [etaT] at *
      case x0=>exact 0
      case x1=>exact z2+1
      all_goals try simp only [Tw.eta,Yw.eta,bne_iff_ne,ne_eq,bne_eq_false_iff_eq,decide_eq_true_eq,decide_eq_false_iff_not,Int.toNat_natCast,Int.natCast_inj,Bool.not_eq_true',Bool.not_eq_false'] at *
      case m0=>exact (Qah (Bool.eq_false_iff.2 fun h=>hb0 (by rw [QaY.1 h])).symm).sub
      case m1=>exact .refl _
      case s0=>exact ⟨Nat.zero_le _,by omega,rfl⟩
      case m5 =>
       refine (Qah (QaY.2 ?_).symm).sub
       have h:=hq1.2.2
       rwa [List.take_of_length_le (by omega),List.take_of_length_le (by omega)] at h
      all_goals have hz:z2<l.length:=by omega
      all_goals have hm:z2<m.length:=by have:=hq1.2.1; omega
      case s1=>omega
      case s2=>omega
      case s3=>exact ⟨by have:=Qfe (gotD Sh.prm.nil hz); omega,(Qb8 hf (gotD Sh.prm.nil hz)).2,(Qb8 hg (gotD Sh.prm.nil hm)).2⟩
      case m2 =>
       refine (Qah (Bool.eq_false_iff.2 fun h=>?_).symm).sub
       rw [QaY] at h
       subst h
       rw [hb3] at hz3
       exact absurd (Qbt.2 rfl) (Bool.eq_false_iff.1 hz3.symm)
      case m3=>exact Qad (by rw [wJ _ (by omega) (by omega)]; rfl)
      case s4 =>
       rw [hb3] at hz3
       exact ⟨by omega,hq1.2.1,QbQ Sh.prm.nil hz hm hq1.2.2 (Qbt.1 hz3.symm)⟩
      case m4=>exact (by omega:l.length - (z2+1)<l.length - z2)
    · cases hs
  · refine Qac [(12,sKitYN n)] [] Tryz.ntmps49 Tryz.func49 (by kernel_rfl) (by kernel_rfl) hU ⟨(QgM hU n).1,trivial⟩ trivial ?_
    intro xs p r hs hp
    unfold sKitRN at hs
    split at hs
    · rename_i l m
      cases hs
      obtain ⟨hn,hf,hg⟩:=hp _ rfl
      refine ⟨[.f (.dt .ty l),.f (.dt .ty m)],[(4,.s ⟨Nat,fun i=>⟨[(0,.f (.dt .ty l)),(1,.f (.dt .ty m)),(5,iV i)],[]⟩,fun i=>i≤l.length∧l.length=m.length∧l.take i=m.take i,fun i=>l.length - i⟩)],.cons (.refl _) (.cons (.refl _) .nil),rfl,fun _ hsh=>?_⟩
      have hl:=Qap hsh.1
      refine Qab (p:=ifB ((↑l.length:Int) != (↑m.length:Int)) (true=true∧Sub (bV false) (bV (sameR l m))) (∃ (x1:Nat),(True∧rfB (dP Sh.ty l)∧rfB (dP Sh.ty m)∧SubB (iV 0) (iV (↑x1:Int))∧True)∧(x1≤l.length∧l.length=m.length∧List.take x1 l=List.take x1 m)∧True∧∀ (z2:Nat),z2≤l.length∧l.length=m.length∧List.take z2 l=List.take z2 m→True→ifB (decide ((↑z2:Int)<(↑l.length:Int))) (((0:Int)≤(↑z2:Int)∧(↑z2:Int)<(↑l.length:Int))∧((0:Int)≤(↑z2:Int)∧(↑z2:Int)<(↑m.length:Int))∧(3 * (Yw.mk (Yw.fn (l.getD (↑z2:Int).toNat Sh.ty.nil)) (Yw.sort (l.getD (↑z2:Int).toNat Sh.ty.nil)) (etaT (Yw.ref (l.getD (↑z2:Int).toNat Sh.ty.nil))) (Yw.params (l.getD (↑z2:Int).toNat Sh.ty.nil)) (Yw.result (l.getD (↑z2:Int).toNat Sh.ty.nil))).size<n∧(Yw.mk (Yw.fn (l.getD (↑z2:Int).toNat Sh.ty.nil)) (Yw.sort (l.getD (↑z2:Int).toNat Sh.ty.nil)) (etaT (Yw.ref (l.getD (↑z2:Int).toNat Sh.ty.nil))) (Yw.params (l.getD (↑z2:Int).toNat Sh.ty.nil)) (Yw.result (l.getD (↑z2:Int).toNat Sh.ty.nil))).fit∧(Yw.mk (Yw.fn (m.getD (↑z2:Int).toNat Sh.ty.nil)) (Yw.sort (m.getD (↑z2:Int).toNat Sh.ty.nil)) (etaT (Yw.ref (m.getD (↑z2:Int).toNat Sh.ty.nil))) (Yw.params (m.getD (↑z2:Int).toNat Sh.ty.nil)) (Yw.result (m.getD (↑z2:Int).toNat Sh.ty.nil))).fit)∧∀ (z3:Bool),z3=sameY (Yw.mk (Yw.fn (l.getD (↑z2:Int).toNat Sh.ty.nil)) (Yw.sort (l.getD (↑z2:Int).toNat Sh.ty.nil)) (etaT (Yw.ref (l.getD (↑z2:Int).toNat Sh.ty.nil))) (Yw.params (l.getD (↑z2:Int).toNat Sh.ty.nil)) (Yw.result (l.getD (↑z2:Int).toNat Sh.ty.nil))) (Yw.mk (Yw.fn (m.getD (↑z2:Int).toNat Sh.ty.nil)) (Yw.sort (m.getD (↑z2:Int).toNat Sh.ty.nil)) (etaT (Yw.ref (m.getD (↑z2:Int).toNat Sh.ty.nil))) (Yw.params (m.getD (↑z2:Int).toNat Sh.ty.nil)) (Yw.result (m.getD (↑z2:Int).toNat Sh.ty.nil)))→ifB (!z3) (true=true∧Sub (bV false) (bV (sameR l m))) (∃ (x4:Nat),(True∧rfB (dP Sh.ty l)∧rfB (dP Sh.ty m)∧SubB (iV (IntKind.i64.wrap ((↑z2:Int)+(1:Int)))) (iV (↑x4:Int))∧True)∧(x4≤l.length∧l.length=m.length∧List.take x4 l=List.take x4 m)∧True∧(l.length - x4).succ.le (l.length - z2))) (true=true∧Sub (bV true) (bV (sameR l m))))) ?kr ?_
      case kr=>kernel_rfl
      refine Qaa.2 ⟨fun hb0=>⟨rfl,?m0⟩,fun hb0=>⟨?x0,⟨⟨trivial,⟨.refl _,⟨.refl _,⟨?m1,trivial⟩⟩⟩⟩,⟨?s0,⟨trivial,fun z2=>fun hq1=>fun _=>Qaa.2 ⟨fun hb2=>⟨?s1,⟨?s2,⟨?s3,fun z3=>fun hz3=>Qaa.2 ⟨fun hb3=>⟨rfl,?m2⟩,fun hb3=>⟨?x1,⟨⟨trivial,⟨.refl _,⟨.refl _,⟨?m3,trivial⟩⟩⟩⟩,⟨?s4,⟨trivial,?m4⟩⟩⟩⟩⟩⟩⟩⟩,fun hb2=>⟨rfl,?m5⟩⟩⟩⟩⟩⟩⟩
      all_goals try simp only [etaT] at *
      case x0=>exact 0
      case x1=>exact z2+1
      all_goals try simp only [Tw.eta,Yw.eta,bne_iff_ne,ne_eq,bne_eq_false_iff_eq,decide_eq_true_eq,decide_eq_false_iff_not,Int.toNat_natCast,Int.natCast_inj,Bool.not_eq_true',Bool.not_eq_false'] at *
      case m0=>exact (Qah (Bool.eq_false_iff.2 fun h=>hb0 (by rw [Qbs.1 h])).symm).sub
      case m1=>exact .refl _
      case s0=>exact ⟨Nat.zero_le _,by omega,rfl⟩
      case m5 =>
       refine (Qah (Qbs.2 ?_).symm).sub
       have h:=hq1.2.2
       rwa [List.take_of_length_le (by omega),List.take_of_length_le (by omega)] at h
      all_goals have hz:z2<l.length:=by omega
      all_goals have hm:z2<m.length:=by have:=hq1.2.1; omega
      case s1=>omega
      case s2=>omega
      case s3=>exact ⟨by have:=Qdz (gotD Sh.ty.nil hz); omega,QbC hf (gotD Sh.ty.nil hz),QbC hg (gotD Sh.ty.nil hm)⟩
      case m2 =>
       refine (Qah (Bool.eq_false_iff.2 fun h=>?_).symm).sub
       rw [Qbs] at h
       subst h
       rw [hb3] at hz3
       exact absurd (QaL.2 rfl) (Bool.eq_false_iff.1 hz3.symm)
      case m3=>exact Qad (by rw [wJ _ (by omega) (by omega)]; rfl)
      case s4 =>
       rw [hb3] at hz3
       exact ⟨by omega,hq1.2.1,QbQ Sh.ty.nil hz hm hq1.2.2 (QaL.1 hz3.symm)⟩
      case m4=>exact (by omega:l.length - (z2+1)<l.length - z2)
    · cases hs
end Go.Proofs.YtijfaigpilfpaaaGreatDoor
