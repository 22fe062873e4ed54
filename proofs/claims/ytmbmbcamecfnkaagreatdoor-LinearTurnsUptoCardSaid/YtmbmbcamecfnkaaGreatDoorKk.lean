/- The kit: copies of terms, like texts. -/
import Derived.Test.YtmbmbcamecfnkaaGreatDoorFa
import Derived.Test.YtmbmbcamecfnkaaGreatDoorTf
import Derived.Test.YtmbmbcamecfnkaaGreatDoorTe
set_option linter.unusedSimpArgs false
namespace Go.Proofs.YtmbmbcamecfnkaaGreatDoor
open Go.RowKit
set_option linter.unusedVariables false
set_option maxRecDepth 100000
def Qfe (l m:List ByteArray):Bool:=decide (l=m)
def QkJ:Spec
 | [.f (.dt .str l),.f (.dt .str m)]=>some (none,.nm Bool (Qfe l m) bV)
 | _=>none
theorem QqG {E:Env} (hU:Up E):Contract Tryz.prog E 17 QkJ:=by
 refine Qan [] [] Tryz.ntmps17 Tryz.func17 (by kernel_rfl) (by kernel_rfl) hU trivial trivial ?_
 intro xs p r hs hp
 unfold QkJ at hs
 split at hs
 · rename_i l m
   cases hs
   refine ⟨[.f (.dt .str l),.f (.dt .str m)],[(4,.s ⟨Nat,fun i=>⟨[(0,.f (.dt .str l)),(1,.f (.dt .str m)),(5,iV i)],[]⟩,fun i=>i≤l.length∧l.length=m.length∧∀ j,j<i→l.getD j Sh.str.nil=m.getD j Sh.str.nil,fun i=>l.length - i⟩)],.cons (.refl _) (.cons (.refl _) .nil),rfl,fun _ hsh=>?_⟩
   have hl:=Qgq hsh.1
   refine Qag (p:=ifB ((↑l.length:Int) != (↑m.length:Int)) (true=true∧Sub (bV false) (bV (Qfe l m))) (∃ (x1:Nat),(True∧SubB (PV.f (Lf.dt Sh.str l)) (PV.f (Lf.dt Sh.str l))∧SubB (PV.f (Lf.dt Sh.str m)) (PV.f (Lf.dt Sh.str m))∧SubB (iV 0) (iV (↑x1:Int))∧True)∧(x1≤l.length∧l.length=m.length∧∀ (j:Nat),j<x1→l.getD j Sh.str.nil=m.getD j Sh.str.nil)∧True∧∀ (z2:Nat),(z2≤l.length∧l.length=m.length∧∀ (j:Nat),j<z2→l.getD j Sh.str.nil=m.getD j Sh.str.nil)→True→ifB (decide ((↑z2:Int)<(↑l.length:Int))) (((0:Int)≤(↑z2:Int)∧(↑z2:Int)<(↑l.length:Int))∧((0:Int)≤(↑z2:Int)∧(↑z2:Int)<(↑m.length:Int))∧ifB (!ByteArray.toList (l.getD (↑z2:Int).toNat Sh.str.nil)==ByteArray.toList (m.getD (↑z2:Int).toNat Sh.str.nil)) (true=true∧Sub (bV false) (bV (Qfe l m))) (∃ (x3:Nat),(True∧SubB (PV.f (Lf.dt Sh.str l)) (PV.f (Lf.dt Sh.str l))∧SubB (PV.f (Lf.dt Sh.str m)) (PV.f (Lf.dt Sh.str m))∧SubB (iV (IntKind.i64.wrap ((↑z2:Int)+(1:Int)))) (iV (↑x3:Int))∧True)∧(x3≤l.length∧l.length=m.length∧∀ (j:Nat),j<x3→l.getD j Sh.str.nil=m.getD j Sh.str.nil)∧True∧(l.length - x3).succ.le (l.length - z2))) (true=true∧Sub (bV true) (bV (Qfe l m))))) ?kr ?_
   case kr=>kernel_rfl
   refine Qae.2 ⟨fun hb0=>⟨rfl,?m0⟩,fun hb0=>⟨?x0,⟨⟨trivial,⟨.refl _,⟨.refl _,⟨?m1,trivial⟩⟩⟩⟩,⟨?s0,⟨trivial,fun z2=>fun hq1=>fun _=>Qae.2 ⟨fun hb2=>⟨?s1,⟨?s2,Qae.2 ⟨fun hb3=>⟨rfl,?m2⟩,fun hb3=>⟨?x1,⟨⟨trivial,⟨.refl _,⟨.refl _,⟨?m3,trivial⟩⟩⟩⟩,⟨?s3,⟨trivial,?m4⟩⟩⟩⟩⟩⟩⟩,fun hb2=>⟨rfl,?m5⟩⟩⟩⟩⟩⟩⟩
   case x0=>exact 0
   case x1=>exact z2+1
   all_goals try simp only [bs_l,Int.toNat_natCast,decide_eq_true_eq,decide_eq_false_iff_not,Int.ofNat_lt,bne_iff_ne,ne_eq,bne_eq_false_iff_eq,Int.natCast_inj,Bool.not_eq_true',Bool.not_eq_false'] at *
   case m0=>exact (QaT (decide_eq_false fun h=>hb0 (by rw [h])).symm).sub
   case m1=>exact .refl _
   case s0=>exact ⟨Nat.zero_le _,hb0,fun j hj=>absurd hj (Nat.not_lt_zero j)⟩
   case s1=>omega
   case s2=>omega
   case m2=>exact (QaT (decide_eq_false fun h=>hb3 (by rw [h])).symm).sub
   case m3=>exact QaM (by rw [wJ _ (by omega) (by omega)]; rfl)
   case s3 =>
    refine ⟨hb2,hb0,fun j hj=>?_⟩
    by_cases hjz:j=z2
    · subst hjz; exact hb3
    · exact hq1.2.2 j (by omega)
   case m4=>exact (by omega:l.length - (z2+1)<l.length - z2)
   case m5 =>
    refine (QaT (decide_eq_true ?_).symm).sub
    apply List.ext_getElem hb0
    intro j h1 h2
    have h3:=hq1.2.2 j (by omega)
    rw [List.getD_eq_getElem?_getD,List.getD_eq_getElem?_getD,List.getElem?_eq_getElem h1,List.getElem?_eq_getElem h2] at h3
    exact h3
 · cases hs
end Go.Proofs.YtmbmbcamecfnkaaGreatDoor
