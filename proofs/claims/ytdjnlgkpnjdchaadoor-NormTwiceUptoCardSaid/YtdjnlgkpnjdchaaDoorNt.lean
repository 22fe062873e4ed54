/- The law NormTwice: what is pushed is pushed to itself; denied twice it is pushed too. -/
import Derived.Test.YtdjnlgkpnjdchaaDoorKy
import Derived.Test.YtdjnlgkpnjdchaaDoorNp
import Derived.Test.YtdjnlgkpnjdchaaDoorKd
namespace Go.Proofs.YtdjnlgkpnjdchaaDoor
open Go.RowKit
set_option linter.unusedVariables false
set_option maxRecDepth 100000
mutual
theorem nodW_cnt:∀ t:Tw,nodW t≤11 * cntT t
 | .mk k n b d l=>by
  have:=nodWL_cnt l
  rw [nodW,cntT]
  omega
theorem nodWL_cnt:∀ l:List Tw,nodWL l≤11 * cntTL l
 | []=>by rw [nodWL]; omega
 | t::l=>by
  have h1:=nodW_cnt t
  have h2:=nodWL_cnt l
  rw [nodWL,cntTL]
  omega
end
theorem sort_ten {D:List Dat} {S:List Srt} {t:Tw} (h:sortT D S t=.ok bBool):sortT D S (conT 10 [t])=.ok bBool:=by
 rw [sort_kid (t:=conT 10 [t]) ⟨by show kidsN 10≠-2; decide,.inr rfl,fun hc=>absurd hc.1 (by show ¬ ((10:Int)=2∨(10:Int)=6); decide)⟩,if_neg (by show ¬ (10:Int)=1; decide)]
 show (match sortL D S [t] with | .ok l=>partS D 10 ⟨#[]⟩ l | .error e=>.error e)=_
 simp only [sortL,h]
 rfl
theorem siz_ten2 {D:List Dat} {S:List Srt} (t:Tw) (is:Bool):pickS (!is) (sizT D S (conT 10 [t]))=pickS is (sizT D S t):=by
 unfold conT
 rw [sizT,if_neg (by decide),if_neg (by decide),if_pos rfl,sizL]
 cases is <;> rfl
theorem grown_pick {p:Int × Int} {is:Bool}:grownB p is=decide (pickS is p > 20000):=by cases is <;> rfl
theorem norm_small {D:List Dat} {S:List Srt} {t:Tw} {is:Bool} (h:sortT D S t=.ok bBool) (hn:normE D S t is=.ok (pushT D S t is)):grownB (sizT D S t) is=false:=by
 cases hg:grownB (sizT D S t) is with
 | false=>rfl
 | true=>rw [norm_grown h hg] at hn; cases hn
theorem norm_again {D:List Dat} {S:List Srt} {t:Tw} {is:Bool} (hso:sortT D S t=.ok bBool) (hgp:pickS is (sizT D S t)≤20000):normE D S (pushT D S t is) true=.ok (pushT D S t is):=by
 have h1:=push_siz (D:=D) (S:=S) t.size t is (Nat.le_refl _) hso
 rw [norm_ok (push_st t.size t is (Nat.le_refl _) hso).2 (by rw [grown_pick]; exact decide_eq_false (by show ¬ (sizT D S (pushT D S t is)).1 > 20000; omega)),push_idem t.size t is (Nat.le_refl _) hso]
theorem norm_ten {D:List Dat} {S:List Srt} {t:Tw} {is:Bool} (hso:sortT D S t=.ok bBool) (hgp:pickS is (sizT D S t)≤20000):normE D S (conT 10 [t]) (!is)=.ok (pushT D S t is):=by
 rw [norm_ok (sort_ten hso) (by rw [grown_pick,siz_ten2]; exact decide_eq_false (by omega)),push_ten]
 cases is <;> rfl
theorem valE_o {α:Type} (d x:α):valE d (.ok x:Except Int α)=x:=rfl
theorem errE_o {α:Type} (x:α):errE (.ok x:Except Int α)=0:=rfl
noncomputable def sLawW:Spec
 | [.f x,.f y,u,.f (.v (.bool is))]=>match dtOf .dat x,dtOf .srt y,tmOf u with
  | some D,some S,some t=>some (some (cntD D≤2000000∧cntT t≤2000000∧kindR t),.one (bV true))
  | _,_,_=>none
 | _=>none
theorem cLawW:Contract Tryd.prog EZ 4 sLawW:=by
 refine contract_D [(13,sTrueL),(14,sGreat7),(15,sNorm),(16,sKey),(17,sPus)] [] Tryd.ntmps4 Tryd.func4 (by kernel_rfl) (by kernel_rfl) EZ.up ⟨cAwake7 EZ.up,cGreat7 EZ.up,cNorm EZ.up,cKey EZ.up EZ.tab,cPus EZ.up,trivial⟩ trivial ?_
 intro xs p r hs hp
 unfold sLawW at hs
 split at hs
 · rename_i x y u is
   split at hs
   · rename_i D S t h1 h2 h3
     cases hs
     obtain ⟨pD,pt,pk⟩:=hp _ rfl
     refine ⟨[.f (.dt .dat D),.f (.dt .srt S),tmP t,bV is],[],.cons (dt_sub h1).sub (.cons (dt_sub h2).sub (.cons (tm_sub h3).sub (.cons (.refl _) .nil))),rfl,fun _ hsh=>?_⟩
     refine cast_rfl (p:=(cntD D≤4000000∧cntTL [Tw.mk t.kind t.name t.neg t.digits t.kids]≤4000000)∧∀ (z1:Bool),z1=greatN D S [Tw.mk t.kind t.name t.neg t.digits t.kids]→ifB z1 (true=true∧Sub (bV true) (bV true)) (((Tw.mk t.kind t.name t.neg t.digits t.kids).fitT∧(Tw.mk t.kind t.name t.neg t.digits t.kids).size≤1000000000000)∧∀ (z2:Except Int Tw),z2=normE D S (Tw.mk t.kind t.name t.neg t.digits t.kids) is→ifB (errE z2 != (0:Int)) (true=true∧Sub (bV true) (bV true)) (((Tw.mk (valE Sh.tm.nil z2).kind (valE Sh.tm.nil z2).name (valE Sh.tm.nil z2).neg (valE Sh.tm.nil z2).digits (valE Sh.tm.nil z2).kids).fitT∧(Tw.mk (valE Sh.tm.nil z2).kind (valE Sh.tm.nil z2).name (valE Sh.tm.nil z2).neg (valE Sh.tm.nil z2).digits (valE Sh.tm.nil z2).kids).size≤1000000000000)∧∀ (z3:Except Int Tw),z3=normE D S (Tw.mk (valE Sh.tm.nil z2).kind (valE Sh.tm.nil z2).name (valE Sh.tm.nil z2).neg (valE Sh.tm.nil z2).digits (valE Sh.tm.nil z2).kids) true→((Tw.mk (10:Int) (ByteArray.mk #[]) false [] [Tw.mk t.kind t.name t.neg t.digits t.kids]).fitT∧(Tw.mk (10:Int) (ByteArray.mk #[]) false [] [Tw.mk t.kind t.name t.neg t.digits t.kids]).size≤1000000000000)∧∀ (z4:Except Int Tw),z4=normE D S (Tw.mk (10:Int) (ByteArray.mk #[]) false [] [Tw.mk t.kind t.name t.neg t.digits t.kids]) !is→ifB (errE z3 != (0:Int)) (true=true∧Sub (bV false) (bV true)) (ifB (errE z4 != (0:Int)) (true=true∧Sub (bV false) (bV true)) ((kindR (Tw.mk (valE Sh.tm.nil z3).kind (valE Sh.tm.nil z3).name (valE Sh.tm.nil z3).neg (valE Sh.tm.nil z3).digits (valE Sh.tm.nil z3).kids)∧(Tw.mk (valE Sh.tm.nil z3).kind (valE Sh.tm.nil z3).name (valE Sh.tm.nil z3).neg (valE Sh.tm.nil z3).digits (valE Sh.tm.nil z3).kids).fitT∧(keyB (Tw.mk (valE Sh.tm.nil z3).kind (valE Sh.tm.nil z3).name (valE Sh.tm.nil z3).neg (valE Sh.tm.nil z3).digits (valE Sh.tm.nil z3).kids)).length≤140737488355328)∧(kindR (Tw.mk (valE Sh.tm.nil z2).kind (valE Sh.tm.nil z2).name (valE Sh.tm.nil z2).neg (valE Sh.tm.nil z2).digits (valE Sh.tm.nil z2).kids)∧(Tw.mk (valE Sh.tm.nil z2).kind (valE Sh.tm.nil z2).name (valE Sh.tm.nil z2).neg (valE Sh.tm.nil z2).digits (valE Sh.tm.nil z2).kids).fitT∧(keyB (Tw.mk (valE Sh.tm.nil z2).kind (valE Sh.tm.nil z2).name (valE Sh.tm.nil z2).neg (valE Sh.tm.nil z2).digits (valE Sh.tm.nil z2).kids)).length≤140737488355328)∧ifB (!(keyS (Tw.mk (valE Sh.tm.nil z3).kind (valE Sh.tm.nil z3).name (valE Sh.tm.nil z3).neg (valE Sh.tm.nil z3).digits (valE Sh.tm.nil z3).kids)).toList==(keyS (Tw.mk (valE Sh.tm.nil z2).kind (valE Sh.tm.nil z2).name (valE Sh.tm.nil z2).neg (valE Sh.tm.nil z2).digits (valE Sh.tm.nil z2).kids)).toList) (true=true∧Sub (bV false) (bV true)) ((kindR (Tw.mk (valE Sh.tm.nil z4).kind (valE Sh.tm.nil z4).name (valE Sh.tm.nil z4).neg (valE Sh.tm.nil z4).digits (valE Sh.tm.nil z4).kids)∧(Tw.mk (valE Sh.tm.nil z4).kind (valE Sh.tm.nil z4).name (valE Sh.tm.nil z4).neg (valE Sh.tm.nil z4).digits (valE Sh.tm.nil z4).kids).fitT∧(keyB (Tw.mk (valE Sh.tm.nil z4).kind (valE Sh.tm.nil z4).name (valE Sh.tm.nil z4).neg (valE Sh.tm.nil z4).digits (valE Sh.tm.nil z4).kids)).length≤140737488355328)∧(kindR (Tw.mk (valE Sh.tm.nil z2).kind (valE Sh.tm.nil z2).name (valE Sh.tm.nil z2).neg (valE Sh.tm.nil z2).digits (valE Sh.tm.nil z2).kids)∧(Tw.mk (valE Sh.tm.nil z2).kind (valE Sh.tm.nil z2).name (valE Sh.tm.nil z2).neg (valE Sh.tm.nil z2).digits (valE Sh.tm.nil z2).kids).fitT∧(keyB (Tw.mk (valE Sh.tm.nil z2).kind (valE Sh.tm.nil z2).name (valE Sh.tm.nil z2).neg (valE Sh.tm.nil z2).digits (valE Sh.tm.nil z2).kids)).length≤140737488355328)∧ifB (!(keyS (Tw.mk (valE Sh.tm.nil z4).kind (valE Sh.tm.nil z4).name (valE Sh.tm.nil z4).neg (valE Sh.tm.nil z4).digits (valE Sh.tm.nil z4).kids)).toList==(keyS (Tw.mk (valE Sh.tm.nil z2).kind (valE Sh.tm.nil z2).name (valE Sh.tm.nil z2).neg (valE Sh.tm.nil z2).digits (valE Sh.tm.nil z2).kids)).toList) (true=true∧Sub (bV false) (bV true)) (((Tw.mk (valE Sh.tm.nil z2).kind (valE Sh.tm.nil z2).name (valE Sh.tm.nil z2).neg (valE Sh.tm.nil z2).digits (valE Sh.tm.nil z2).kids).fitT∧(Tw.mk (valE Sh.tm.nil z2).kind (valE Sh.tm.nil z2).name (valE Sh.tm.nil z2).neg (valE Sh.tm.nil z2).digits (valE Sh.tm.nil z2).kids).size≤1000000000000)∧∀ (z5:Except Int Tw),z5=normE D S (Tw.mk (valE Sh.tm.nil z2).kind (valE Sh.tm.nil z2).name (valE Sh.tm.nil z2).neg (valE Sh.tm.nil z2).digits (valE Sh.tm.nil z2).kids) false→ifB (errE z5==(34:Int)) (true=true∧Sub (bV true) (bV true)) (ifB (errE z5==(0:Int)) (∀ (z6:Bool),z6=pusT (Tw.mk (valE Sh.tm.nil z5).kind (valE Sh.tm.nil z5).name (valE Sh.tm.nil z5).neg (valE Sh.tm.nil z5).digits (valE Sh.tm.nil z5).kids)→true=true∧Sub (bV z6) (bV true)) (true=true∧Sub (bV false) (bV true)))))))))) ?kr ?_
     case kr=>kernel_rfl
     refine ⟨?s0,fun z1=>fun hz1=>ifB_iff.2 ⟨fun hb0=>⟨rfl,?m0⟩,fun hb0=>⟨?s1,fun z2=>fun hz2=>ifB_iff.2 ⟨fun hb1=>⟨rfl,?m1⟩,fun hb1=>⟨?s2,fun z3=>fun hz3=>⟨?s3,fun z4=>fun hz4=>ifB_iff.2 ⟨fun hb2=>⟨rfl,?m2⟩,fun hb2=>ifB_iff.2 ⟨fun hb3=>⟨rfl,?m3⟩,fun hb3=>⟨?s4,⟨?s5,ifB_iff.2 ⟨fun hb4=>⟨rfl,?m4⟩,fun hb4=>⟨?s6,⟨?s7,ifB_iff.2 ⟨fun hb5=>⟨rfl,?m5⟩,fun hb5=>⟨?s8,fun z5=>fun hz5=>ifB_iff.2 ⟨fun hb6=>⟨rfl,?m6⟩,fun hb6=>ifB_iff.2 ⟨fun hb7=>fun z6=>fun hz6=>⟨rfl,?m7⟩,fun hb7=>⟨rfl,?m8⟩⟩⟩⟩⟩⟩⟩⟩⟩⟩⟩⟩⟩⟩⟩⟩⟩⟩
     all_goals try simp only [Tw.eta,bne_iff_ne,ne_eq,bne_eq_false_iff_eq,beq_iff_eq,beq_eq_false_iff_ne,Bool.not_eq_true',Bool.not_eq_false'] at *
     case s0=>exact ⟨by omega,by simp only [cntTL]; omega⟩
     case m0=>exact .refl _
     all_goals obtain ⟨gS,gD,gl⟩:=greatN_no (hz1.symm.trans hb0)
     all_goals simp only [cntTL] at gl
     all_goals have hft:t.fitT:=cntT_fit t (by omega)
     case s1=>exact ⟨hft,by have:=cntT_size t; omega⟩
     case m1=>exact .refl _
     all_goals obtain ⟨hso,hno⟩:=norm_inv hz2 hb1
     all_goals have e2:z2=.ok (pushT D S t is):=hz2.trans hno
     all_goals subst e2
     all_goals try simp only [valE_o,errE_o] at *
     all_goals have hg:grownB (sizT D S t) is=false:=norm_small hso hno
     all_goals have hgp:pickS is (sizT D S t)≤20000:=by rw [grown_pick] at hg; simpa using hg
     all_goals obtain ⟨k1,k2,k3⟩:=push_key (D:=D) (S:=S) (is:=is) (m:=3300) hso pk hft (by have:=nodW_cnt t; omega) (by decide) (by decide) hgp
     all_goals have hus:(pushT D S t is).size≤20000:=by have:=push_size (D:=D) (S:=S) t.size t is (Nat.le_refl _) hso hgp; omega
     case s2=>exact ⟨k2,Nat.le_trans hus (by decide)⟩
     case s8=>exact ⟨k2,Nat.le_trans hus (by decide)⟩
     case s3=>exact ⟨⟨by decide,by decide,(by decide:(1:Nat)≤_),hft,trivial⟩,by show t.size+0+1≤_; have:=cntT_size t; omega⟩
     case s5=>exact ⟨k1,k2,k3⟩
     case s7=>exact ⟨k1,k2,k3⟩
     all_goals obtain ⟨p1,p2⟩:=push_st t.size t is (Nat.le_refl _) hso
     all_goals have q3:=norm_again (D:=D) (S:=S) hso hgp
     case m6=>exact .refl _
     all_goals have e3:z3=.ok (pushT D S t is):=hz3.trans q3
     all_goals subst e3
     case m2=>exact absurd rfl hb2
     all_goals have q4:=norm_ten (D:=D) (S:=S) hso hgp
     all_goals have e4:z4=.ok (pushT D S t is):=hz4.trans q4
     all_goals subst e4
     case m3=>exact absurd rfl hb3
     all_goals try simp only [valE_o,errE_o] at *
     case s4=>exact ⟨k1,k2,k3⟩
     case s6=>exact ⟨k1,k2,k3⟩
     case m4=>exact absurd trivial hb4
     case m5=>exact absurd trivial hb5
     case m7 =>
      obtain ⟨-,h7⟩:=norm_inv hz5 hb7
      have e5:=hz5.trans h7
      subst e5
      obtain ⟨p3,-⟩:=push_st (pushT D S t is).size (pushT D S t is) false (Nat.le_refl _) p2
      exact (subB_b (hz6.trans p3)).sub
     case m8 =>
      cases hg5:grownB (sizT D S (pushT D S t is)) false with
      | true=>exact absurd (by rw [hz5,norm_grown p2 hg5]; rfl) hb6
      | false=>exact absurd (by rw [hz5,norm_ok p2 hg5]; rfl) hb7
   · cases hs
 · cases hs
end Go.Proofs.YtdjnlgkpnjdchaaDoor
