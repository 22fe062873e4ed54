/- The law TermKeys: two terms have one Key just if they are the same; a term is read back of its Key. -/
import Derived.Test.YtemhncjjiomppaaGreatDoorKj
import Derived.Test.YtemhncjjiomppaaGreatDoorKo
import Derived.Test.YtemhncjjiomppaaGreatDoorCf
import Derived.Test.YtemhncjjiomppaaGreatDoorCc
import Derived.Test.YtemhncjjiomppaaGreatDoorCn
import Derived.Test.YtemhncjjiomppaaGreatDoorTf
import Derived.Test.YtemhncjjiomppaaGreatDoorNw
import Derived.Test.YtemhncjjiomppaaGreatDoorFr
import Derived.Test.YtemhncjjiomppaaGreatDoorKk
set_option linter.unusedSimpArgs false
namespace Go.Proofs.YtemhncjjiomppaaGreatDoor
open Go.RowKit
set_option linter.unusedVariables false
set_option maxRecDepth 100000
mutual
theorem Qda:∀ t:Tw,cntT t≤200000000→QaD t
 | .mk k n b d l=>fun h=>by
  rw [cntT] at h
  have h1:=Qeh l
  exact ⟨⟨by omega,by omega⟩,Qeg l (by omega)⟩
theorem Qeg:∀ l:List Tw,Qax l≤200000000→QdM l
 | [],_=>trivial
 | t::l,h=>by
  rw [Qax] at h
  exact ⟨Qda t (by omega),Qeg l (by omega)⟩
end
theorem Qns {t:Tw} (k:Qau t) (h:cntT t≤5000):(keyB t).length<4294967281:=by
 have f:=QcN t (by omega)
 have h1:=QdY t
 have h2:=Qb4 t
 exact Nat.lt_of_le_of_lt (Nat.le_trans (Qfx t k f) (Nat.mul_le_mul (Nat.le_trans h2 h) (Nat.add_le_add_right (Nat.le_trans h1 (Nat.mul_le_mul_left 11 h)) 60))) (by decide)
theorem Qkv (t:Tw):keyS t=bA (keyB t):=rfl
theorem Qly {t:Tw} (k:Qau t) (s:QaD t):(Qac (keyS t)).1=t:=by
 have h:=Qds (r:=[]) k s
 rw [List.append_nil] at h
 rw [Qkv,h]
theorem QlR {a b:Tw} (ka:Qau a) (kb:Qau b):((keyS a).toList==(keyS b).toList)=sameT a b:=by
 rw [keyS,keyS,ByteArray.toList_mk,ByteArray.toList_mk,Bool.eq_iff_iff,beq_iff_eq,QaJ]
 exact QlU (Qfw a ka) (Qfw b kb)
def sKeys:Spec
 | [u,v]=>match tmOf u,tmOf v with
  | some a,some b=>some (some ((cntT a≤1200000∧cntT b≤1200000)∧Qau a∧Qau b),.one (bV true))
  | _,_=>none
 | _=>none
set_option maxHeartbeats 4000000 in
theorem cKeys:Contract Tryz.prog EM 3 sKeys:=by
 refine Qak [(5,QjK),(6,QgY),(7,sSameT),(8,sKey),(9,sOfK),(10,QjQ),(11,Qlt),(13,Qnc),(12,QgT)] [] Tryz.ntmps3 Tryz.func3 (by kernel_rfl) (by kernel_rfl) EM.up ⟨QnX EM.up EM.tab,QnV EM.up,QmP EM.up,cKey EM.up EM.tab,cOfK EM.up EM.tab EM.max,cCopyK EM.up,cSize EM.up,cFree EM.up,QnQ EM.up,trivial⟩ trivial ?_
 intro xs p r hs hp
 unfold sKeys at hs
 split at hs
 · rename_i x y
   split at hs
   · rename_i a b h1 h2
     cases hs
     obtain ⟨⟨na,nb⟩,ka,kb⟩:=hp _ rfl
     refine ⟨[tmP a,tmP b],[],.cons (QaN h1).sub (.cons (QaN h2).sub .nil),rfl,fun _ hsh=>?_⟩
     have h0:=na
     refine Qah (p:=(0≤4000000∧Qax [Tw.mk a.kind a.name a.neg a.digits a.kids,Tw.mk b.kind b.name b.neg b.digits b.kids]≤4000000)∧∀ (z1:Bool),z1=great4 [] [Tw.mk a.kind a.name a.neg a.digits a.kids,Tw.mk b.kind b.name b.neg b.digits b.kids]→ifB z1 (true=true∧Sub (bV true) (bV true)) (((Tw.mk a.kind a.name a.neg a.digits a.kids).fitT∧(Tw.mk b.kind b.name b.neg b.digits b.kids).fitT)∧∀ (z2:Bool),z2=sameT (Tw.mk a.kind a.name a.neg a.digits a.kids) (Tw.mk b.kind b.name b.neg b.digits b.kids)→(Qau (Tw.mk a.kind a.name a.neg a.digits a.kids)∧(Tw.mk a.kind a.name a.neg a.digits a.kids).fitT∧(keyB (Tw.mk a.kind a.name a.neg a.digits a.kids)).length≤140737488355328)∧(Qau (Tw.mk b.kind b.name b.neg b.digits b.kids)∧(Tw.mk b.kind b.name b.neg b.digits b.kids).fitT∧(keyB (Tw.mk b.kind b.name b.neg b.digits b.kids)).length≤140737488355328)∧ifB (!((keyS (Tw.mk a.kind a.name a.neg a.digits a.kids)).toList==(keyS (Tw.mk b.kind b.name b.neg b.digits b.kids)).toList)==z2) (true=true∧Sub (bV false) (bV true)) ((Qau (Tw.mk a.kind a.name a.neg a.digits a.kids)∧(Tw.mk a.kind a.name a.neg a.digits a.kids).fitT∧(keyB (Tw.mk a.kind a.name a.neg a.digits a.kids)).length≤140737488355328)∧(∃ (x3:Tw),keyS (Tw.mk a.kind a.name a.neg a.digits a.kids)=bA (keyB x3)∧Qau x3∧QaD x3∧x3.fitT∧(keyS (Tw.mk a.kind a.name a.neg a.digits a.kids)).size.succ.le 4294967281)∧((Tw.mk (Qac (keyS (Tw.mk a.kind a.name a.neg a.digits a.kids))).fst.kind (Qac (keyS (Tw.mk a.kind a.name a.neg a.digits a.kids))).fst.name (Qac (keyS (Tw.mk a.kind a.name a.neg a.digits a.kids))).fst.neg (Qac (keyS (Tw.mk a.kind a.name a.neg a.digits a.kids))).fst.digits (Qac (keyS (Tw.mk a.kind a.name a.neg a.digits a.kids))).fst.kids).fitT∧(Tw.mk a.kind a.name a.neg a.digits a.kids).fitT)∧∀ (z3:Bool),z3=sameT (Tw.mk (Qac (keyS (Tw.mk a.kind a.name a.neg a.digits a.kids))).fst.kind (Qac (keyS (Tw.mk a.kind a.name a.neg a.digits a.kids))).fst.name (Qac (keyS (Tw.mk a.kind a.name a.neg a.digits a.kids))).fst.neg (Qac (keyS (Tw.mk a.kind a.name a.neg a.digits a.kids))).fst.digits (Qac (keyS (Tw.mk a.kind a.name a.neg a.digits a.kids))).fst.kids) (Tw.mk a.kind a.name a.neg a.digits a.kids)→ifB z3 ((Qau (Tw.mk a.kind a.name a.neg a.digits a.kids)∧(Tw.mk a.kind a.name a.neg a.digits a.kids).fitT∧(keyB (Tw.mk a.kind a.name a.neg a.digits a.kids)).length≤140737488355328)∧(Tw.mk a.kind a.name a.neg a.digits a.kids).fitT∧(Qau (Tw.mk (Tw.mk a.kind a.name a.neg a.digits a.kids).kind (Tw.mk a.kind a.name a.neg a.digits a.kids).name (Tw.mk a.kind a.name a.neg a.digits a.kids).neg (Tw.mk a.kind a.name a.neg a.digits a.kids).digits (Tw.mk a.kind a.name a.neg a.digits a.kids).kids)∧(Tw.mk (Tw.mk a.kind a.name a.neg a.digits a.kids).kind (Tw.mk a.kind a.name a.neg a.digits a.kids).name (Tw.mk a.kind a.name a.neg a.digits a.kids).neg (Tw.mk a.kind a.name a.neg a.digits a.kids).digits (Tw.mk a.kind a.name a.neg a.digits a.kids).kids).fitT∧(keyB (Tw.mk (Tw.mk a.kind a.name a.neg a.digits a.kids).kind (Tw.mk a.kind a.name a.neg a.digits a.kids).name (Tw.mk a.kind a.name a.neg a.digits a.kids).neg (Tw.mk a.kind a.name a.neg a.digits a.kids).digits (Tw.mk a.kind a.name a.neg a.digits a.kids).kids)).length≤140737488355328)∧ifB ((keyS (Tw.mk a.kind a.name a.neg a.digits a.kids)).toList==(keyS (Tw.mk (Tw.mk a.kind a.name a.neg a.digits a.kids).kind (Tw.mk a.kind a.name a.neg a.digits a.kids).name (Tw.mk a.kind a.name a.neg a.digits a.kids).neg (Tw.mk a.kind a.name a.neg a.digits a.kids).digits (Tw.mk a.kind a.name a.neg a.digits a.kids).kids)).toList) (ifB (!z2) (true=true∧Sub (bV true) (bV true)) (szL [Tw.mk a.kind a.name a.neg a.digits a.kids]≤4611686018427387904∧szL [Tw.mk b.kind b.name b.neg b.digits b.kids]≤4611686018427387904∧ifB ((↑(szL [Tw.mk a.kind a.name a.neg a.digits a.kids]):Int)==(↑(szL [Tw.mk b.kind b.name b.neg b.digits b.kids]):Int)) (((Tw.mk a.kind a.name a.neg a.digits a.kids).fitT∧(Tw.mk a.kind a.name a.neg a.digits a.kids).size≤100000000)∧((Tw.mk b.kind b.name b.neg b.digits b.kids).fitT∧(Tw.mk b.kind b.name b.neg b.digits b.kids).size≤100000000)∧∀ (z4:Bool),z4=QjI (QiZ (QaO (Tw.mk a.kind a.name a.neg a.digits a.kids))) (QiZ (QaO (Tw.mk b.kind b.name b.neg b.digits b.kids)))→true=true∧Sub (bV z4) (bV true)) (true=true∧Sub (bV false) (bV true)))) (true=true∧Sub (bV false) (bV true))) (true=true∧Sub (bV false) (bV true))))) ?kr ?_
     case kr=>kernel_rfl
     refine ⟨?s0,fun z1=>fun hz1=>Qaa.2 ⟨fun hb0=>⟨rfl,?m0⟩,fun hb0=>⟨?s1,fun z2=>fun hz2=>⟨?s2,⟨?s3,Qaa.2 ⟨fun hb1=>⟨rfl,?m1⟩,fun hb1=>⟨?s4,⟨⟨?x0,⟨?s5,⟨?s6,⟨?s7,⟨?s8,?m2⟩⟩⟩⟩⟩,⟨?s9,fun z3=>fun hz3=>Qaa.2 ⟨fun hb2=>⟨?s10,⟨?s11,⟨?s12,Qaa.2 ⟨fun hb3=>Qaa.2 ⟨fun hb4=>⟨rfl,?m3⟩,fun hb4=>⟨?s13,⟨?s14,Qaa.2 ⟨fun hb5=>⟨?s15,⟨?s16,fun z4=>fun hz4=>⟨rfl,?m4⟩⟩⟩,fun hb5=>⟨rfl,?m5⟩⟩⟩⟩⟩,fun hb3=>⟨rfl,?m6⟩⟩⟩⟩⟩,fun hb2=>⟨rfl,?m7⟩⟩⟩⟩⟩⟩⟩⟩⟩⟩⟩
     all_goals try simp only [Tw.eta] at *
     case x0=>exact a
     case s0=>exact ⟨by decide,by simp only [Qax,Tw.eta]; omega⟩
     case m0=>exact .refl _
     all_goals have g:=(QkA (hz1.symm.trans hb0)).2
     all_goals simp only [Qax,Tw.eta] at g
     all_goals have fa:a.fitT:=QcN a (by omega)
     all_goals have fb:b.fitT:=QcN b (by omega)
     all_goals have za:=Qb4 a
     all_goals have zb:=Qb4 b
     case s1=>exact ⟨fa,fb⟩
     case s2=>exact QbY ka (by omega)
     case s3=>exact QbY kb (by omega)
     case s4=>exact QbY ka (by omega)
     case s10=>exact QbY ka (by omega)
     case s12=>exact QbY ka (by omega)
     case s5=>exact Qkv a
     case s6=>exact ka
     case s7=>exact Qda a (by omega)
     case s8=>exact fa
     case m2=>exact Qns ka (by omega)
     case s11=>exact fa
     case m3=>exact .refl _
     case s13=>simp only [szL]; omega
     case s14=>simp only [szL]; omega
     case s15=>exact ⟨fa,by omega⟩
     case s16=>exact ⟨fb,by omega⟩
     all_goals have rd:(Qac (keyS a)).1=a:=Qly ka (Qda a (by omega))
     case s9=>exact ⟨by rw [rd]; exact fa,fa⟩
     case m1=>exact absurd hb1 (by rw [hz2,QlR ka kb]; simp)
     case m7=>exact Bool.noConfusion (hb2.symm.trans (hz3.trans (show sameT (Qac (keyS a)).1 a=true from by rw [rd]; exact QdP a)))
     case m6=>exact absurd ((beq_self_eq_true (keyS a).toList).symm.trans hb3) (by decide)
     all_goals have e:a=b:=QaJ.1 (by rw [← hz2]; simpa using hb4)
     all_goals subst e
     case m4=>exact (Qbq (hz4.trans (decide_eq_true rfl))).sub
     case m5=>exact absurd hb5 (by simp)
   · cases hs
 · cases hs
end Go.Proofs.YtemhncjjiomppaaGreatDoor
