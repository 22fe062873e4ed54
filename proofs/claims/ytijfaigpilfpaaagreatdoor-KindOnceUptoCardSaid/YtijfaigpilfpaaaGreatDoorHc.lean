/- The layer kind: are two terms the same? -/
import Derived.Test.YtijfaigpilfpaaaGreatDoorHb
import Derived.Test.YtijfaigpilfpaaaGreatDoorCn
import Derived.Test.YtijfaigpilfpaaaGreatDoorKd
set_option linter.unusedSimpArgs false
namespace Go.Proofs.YtijfaigpilfpaaaGreatDoor
open Go.RowKit
set_option linter.unusedVariables false
set_option maxRecDepth 100000
noncomputable def sSameKN (n:Nat):Spec
 | [x,y]=>match tmOf x,tmOf y with
  | some t,some u=>some (some (2 * t.size<n∧t.fitT∧u.fitT),.nm Bool (sameT t u) bV)
  | _,_=>none
 | _=>none
noncomputable def sEqTN (n:Nat):Spec
 | [.f (.dt .tm l),.f (.dt .tm m),.f (.v (.func (.func f) ⟨[]⟩ ⟨[]⟩))]=>match Nat.beq f 43 with
  | true=>some (some (2 * szL l+1<n∧QbW l∧QbW m),.nm Bool (sameL l m) bV)
  | false=>none
 | _=>none
noncomputable def sSameK:Spec
 | [x,y]=>match tmOf x,tmOf y with
  | some t,some u=>some (some (t.fitT∧u.fitT),.nm Bool (sameT t u) bV)
  | _,_=>none
 | _=>none
theorem Qkt {E:Env} (hU:Up E):∀ n,Contract Tryz.prog E 43 (sSameKN n)∧Contract Tryz.prog E 102 (sEqTN n)
 | 0=>by
  refine ⟨?_,?_⟩
  · intro xs p r hs hp
    unfold sSameKN at hs
    split at hs
    · split at hs
      · cases hs
        exact absurd (hp _ rfl).1 (Nat.not_lt_zero _)
      · cases hs
    · cases hs
  · intro xs p r hs hp
    unfold sEqTN at hs
    split at hs
    · split at hs
      · cases hs
        exact absurd (hp _ rfl).1 (Nat.not_lt_zero _)
      · cases hs
    · cases hs
 | n+1=>by
  refine ⟨?_,?_⟩
  · refine Qac [(101,sEqD),(102,sEqTN n)] [] Tryz.ntmps43 Tryz.func43 (by kernel_rfl) (by kernel_rfl) hU ⟨cEqD hU,(Qkt hU n).2,trivial⟩ trivial ?_
    intro xs p r hs hp
    unfold sSameKN at hs
    split at hs
    · rename_i x y
      split at hs
      · rename_i t u ht hu
        cases hs
        obtain ⟨hn,hf,hg⟩:=hp _ rfl
        refine ⟨[tmP t,tmP u],[],.cons (QaG ht).sub (.cons (QaG hu).sub .nil),rfl,fun _ hsh=>?_⟩
        have e2:=t.size_eq
        have f2:=(Tw.fitT_eq t).1 hf
        have g2:=(Tw.fitT_eq u).1 hg
        refine Qab (p:=ifB (t.kind==u.kind) (ifB (t.name.toList==u.name.toList) (ifB (t.neg==u.neg) (t.digits.length≤40000000∧∀ (z1:Bool),z1=decide (t.digits=u.digits)→ifB z1 ((2 * szL t.kids+1<n∧QbW t.kids∧QbW u.kids)∧∀ (z2:Bool),z2=sameL t.kids u.kids→true=true∧Sub (bV z2) (bV (sameT t u))) (true=true∧Sub (bV false) (bV (sameT t u)))) (true=true∧Sub (bV false) (bV (sameT t u)))) (true=true∧Sub (bV false) (bV (sameT t u)))) (true=true∧Sub (bV false) (bV (sameT t u)))) ?kr ?_
        case kr=>kernel_rfl
        refine Qaa.2 ⟨fun hb0=>Qaa.2 ⟨fun hb1=>Qaa.2 ⟨fun hb2=>⟨?s0,fun z1=>fun hz1=>Qaa.2 ⟨fun hb3=>⟨?s1,fun z2=>fun hz2=>⟨rfl,?m0⟩⟩,fun hb3=>⟨rfl,?m1⟩⟩⟩,fun hb2=>⟨rfl,?m2⟩⟩,fun hb1=>⟨rfl,?m3⟩⟩,fun hb0=>⟨rfl,?m4⟩⟩
        all_goals try simp only [bs_l,decide_eq_true_eq,decide_eq_false_iff_not,beq_iff_eq,beq_eq_false_iff_ne,ne_eq] at *
        case s0=>exact f2.2.1
        case s1=>exact ⟨by omega,f2.2.2.2,g2.2.2.2⟩
        case m0 =>
         rw [hb3] at hz1
         refine (Qah ?_).sub
         rw [hz2]
         exact Qnc (by rw [Qbu,QaH]; exact ⟨fun h=>Tw.ext hb0 hb1 hb2 (of_decide_eq_true hz1.symm) h,fun h=>by rw [h]⟩)
        all_goals refine (Qah ?_).sub
        all_goals refine (Bool.eq_false_iff.2 fun h=>?_).symm
        all_goals rw [QaH] at h
        all_goals subst h
        case m1=>rw [hb3] at hz1; simp at hz1
        case m2=>exact hb2 rfl
        case m3=>exact hb1 rfl
        case m4=>exact hb0 rfl
      · cases hs
    · cases hs
  · refine Qac [(43,sSameKN n)] [] Tryz.ntmps102 Tryz.func102 (by kernel_rfl) (by kernel_rfl) hU ⟨(Qkt hU n).1,trivial⟩ trivial ?_
    intro xs p r hs hp
    unfold sEqTN at hs
    split at hs
    · rename_i l m f
      split at hs
      · rename_i hfn
        cases hs
        have hfn:=Nat.eq_of_beq_eq_true hfn
        subst hfn
        obtain ⟨hn,hf,hg⟩:=hp _ rfl
        refine ⟨[.f (.dt .tm l),.f (.dt .tm m),.f (.v (.func (.func 43) ⟨[]⟩ ⟨[]⟩))],[(4,.s ⟨Nat,fun i=>⟨[(0,.f (.dt .tm l)),(1,.f (.dt .tm m)),(2,.f (.v (.func (.func 43) ⟨[]⟩ ⟨[]⟩))),(15,.f (.dt .tm l)),(16,iV l.length),(17,iV i)],[]⟩,fun i=>i≤l.length∧l.length=m.length∧l.take i=m.take i,fun i=>l.length - i⟩)],.cons (.refl _) (.cons (.refl _) (.cons (.refl _) .nil)),rfl,fun _ hsh=>?_⟩
        have hl:=Qap hsh.1
        refine Qab (p:=ifB ((↑l.length:Int) != (↑m.length:Int)) (true=true∧Sub (bV false) (bV (sameL l m))) (∃ (x1:Nat),(True∧rfB (dP Sh.tm l)∧rfB (dP Sh.tm m)∧rfB (PV.f (Lf.v (Value.func (Fn.func 43) (Array.mk []) (Array.mk []))))∧rfB (dP Sh.tm l)∧rfB (iV (↑l.length:Int))∧SubB (iV 0) (iV (↑x1:Int))∧True)∧(x1≤l.length∧l.length=m.length∧List.take x1 l=List.take x1 m)∧True∧∀ (z2:Nat),z2≤l.length∧l.length=m.length∧List.take z2 l=List.take z2 m→True→ifB (decide ((↑z2:Int)<(↑l.length:Int))) (((0:Int)≤(↑z2:Int)∧(↑z2:Int)<(↑l.length:Int))∧((0:Int)≤(↑z2:Int)∧(↑z2:Int)<(↑m.length:Int))∧(2 * (etaT (l.getD (↑z2:Int).toNat Sh.tm.nil)).size<n∧(etaT (l.getD (↑z2:Int).toNat Sh.tm.nil)).fitT∧(etaT (m.getD (↑z2:Int).toNat Sh.tm.nil)).fitT)∧∀ (z3:Bool),z3=sameT (etaT (l.getD (↑z2:Int).toNat Sh.tm.nil)) (etaT (m.getD (↑z2:Int).toNat Sh.tm.nil))→ifB (!z3) (true=true∧Sub (bV false) (bV (sameL l m))) (∃ (x4:Nat),(True∧rfB (dP Sh.tm l)∧rfB (dP Sh.tm m)∧rfB (PV.f (Lf.v (Value.func (Fn.func 43) (Array.mk []) (Array.mk []))))∧rfB (dP Sh.tm l)∧rfB (iV (↑l.length:Int))∧SubB (iV (IntKind.i64.wrap ((↑z2:Int)+(1:Int)))) (iV (↑x4:Int))∧True)∧(x4≤l.length∧l.length=m.length∧List.take x4 l=List.take x4 m)∧True∧(l.length - x4).succ.le (l.length - z2))) (true=true∧Sub (bV true) (bV (sameL l m))))) ?kr ?_
        case kr=>kernel_rfl
        refine Qaa.2 ⟨fun hb0=>⟨rfl,?m0⟩,fun hb0=>⟨?x0,⟨⟨trivial,⟨.refl _,⟨.refl _,⟨.refl _,⟨.refl _,⟨.refl _,⟨?m1,trivial⟩⟩⟩⟩⟩⟩⟩,⟨?s0,⟨trivial,fun z2=>fun hq1=>fun _=>Qaa.2 ⟨fun hb2=>⟨?s1,⟨?s2,⟨?s3,fun z3=>fun hz3=>Qaa.2 ⟨fun hb3=>⟨rfl,?m2⟩,fun hb3=>⟨?x1,⟨⟨trivial,⟨.refl _,⟨.refl _,⟨.refl _,⟨.refl _,⟨.refl _,⟨?m3,trivial⟩⟩⟩⟩⟩⟩⟩,⟨?s4,⟨trivial,?m4⟩⟩⟩⟩⟩⟩⟩⟩,fun hb2=>⟨rfl,?m5⟩⟩⟩⟩⟩⟩⟩
        all_goals try simp only [etaT] at *
        case x0=>exact 0
        case x1=>exact z2+1
        all_goals try simp only [Tw.eta,bne_iff_ne,ne_eq,bne_eq_false_iff_eq,decide_eq_true_eq,decide_eq_false_iff_not,Int.toNat_natCast,Int.natCast_inj,Bool.not_eq_true',Bool.not_eq_false'] at *
        case m0=>exact (Qah (Bool.eq_false_iff.2 fun h=>hb0 (by rw [Qbu.1 h])).symm).sub
        case m1=>exact .refl _
        case s0=>exact ⟨Nat.zero_le _,hb0,rfl⟩
        case m5 =>
         refine (Qah (Qbu.2 ?_).symm).sub
         have h:=hq1.2.2
         rwa [List.take_of_length_le (by omega),List.take_of_length_le (by omega)] at h
        all_goals have hz:z2<l.length:=by omega
        all_goals have hm:z2<m.length:=by have:=hq1.2.1; omega
        case s1=>omega
        case s2=>omega
        case s3=>exact ⟨by have:=QkT (gotD Sh.tm.nil hz); omega,QaR _ hf hz,QaR _ hg hm⟩
        case m2 =>
         refine (Qah (Bool.eq_false_iff.2 fun h=>?_).symm).sub
         rw [Qbu] at h
         subst h
         rw [hb3] at hz3
         exact absurd (QaH.2 rfl) (Bool.eq_false_iff.1 hz3.symm)
        case m3=>exact Qad (by rw [wJ _ (by omega) (by omega)]; rfl)
        case s4 =>
         rw [hb3] at hz3
         exact ⟨by omega,hq1.2.1,QbQ Sh.tm.nil hz hm hq1.2.2 (QaH.1 hz3.symm)⟩
        case m4=>exact (by omega:l.length - (z2+1)<l.length - z2)
      · cases hs
    · cases hs
theorem Qr0 {E:Env} (hU:Up E):Contract Tryz.prog E 43 sSameK:=by
 intro xs p r hs hp
 unfold sSameK at hs
 split at hs
 · rename_i x y
   split at hs
   · rename_i t u ht hu
     cases hs
     exact (Qkt hU (2 * t.size+1)).1 [x,y] _ _ (by simp only [sSameKN,ht,hu]; rfl) (fun q hq=>by cases hq; exact ⟨Nat.lt_succ_self _,hp _ rfl⟩)
   · cases hs
 · cases hs
end Go.Proofs.YtijfaigpilfpaaaGreatDoor
