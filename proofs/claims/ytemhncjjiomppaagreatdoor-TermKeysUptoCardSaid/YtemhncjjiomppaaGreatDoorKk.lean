/- The kit: copies of terms, like texts. -/
import Derived.Test.YtemhncjjiomppaaGreatDoorFa
import Derived.Test.YtemhncjjiomppaaGreatDoorTf
import Derived.Test.YtemhncjjiomppaaGreatDoorUa
namespace Go.Proofs.YtemhncjjiomppaaGreatDoor
open Go.RowKit
set_option linter.unusedVariables false
set_option maxRecDepth 100000
theorem szK_le {m:List Tw} {i:Nat} (h:i<m.length):szL (m.take i)+(m.getD i Sh.tm.nil).size≤szL m:=by
 rw [Qe4 h]; exact Qdn m (i+1)
theorem Qm3 {l:List Tw} {i o:Nat} (h:i<l.length):SubB (.tl o (.dt .tm (l.take i++[l.getD i Sh.tm.nil]))) (.tl o (.dt .tm (l.take (i+1)))):=by
 rw [List.take_add_one,List.getElem?_eq_getElem h,List.getD_eq_getElem?_getD,List.getElem?_eq_getElem h]
 exact .refl _
theorem Qml {E:Env} (hU:Up E):Contract Tryz.prog E 77 Qey:=by
 refine Qak [] [] Tryz.ntmps77 Tryz.func77 (by kernel_rfl) (by kernel_rfl) hU trivial trivial ?_
 intro xs p r hs hp
 unfold Qey at hs
 split at hs
 · rename_i d m
   cases hs
   have hd:=hp _ rfl
   refine ⟨[.f (.lr d m)],[(1000002,.s ⟨Unit,fun _=>⟨[(0,.f (.lr d m)),(3,.tl 0 (.is .u32 []))],[.tail 57 1]⟩,fun _=>True,fun _=>0⟩)],.cons (.refl _) .nil,rfl,fun hg hsh=>?_⟩
   have hgd:∀ x∈d,x<4294967296:=hg.1.1.2
   refine Qah (p:=(∃ (x1:Unit),(True∧SubB (PV.f (Lf.lr d m)) (PV.f (Lf.lr d m))∧Qbv (PV.tl 0 (Lf.is IntKind.u32 []))∧True)∧True)∧∀ (z1:Unit),True→(0+d.length≤9223372036854775807∧(0+d.length) * 4≤140737488355328)∧true=true∧Sub (PV.f (Lf.is IntKind.u32 ([]++List.map Int.ofNat d))) (PV.f (Lf.lr d d.length))) ?kr ?_
   case kr=>kernel_rfl
   refine ⟨⟨?x0,⟨?s0,trivial⟩⟩,fun z1=>fun _=>⟨?s1,⟨rfl,?m0⟩⟩⟩
   case x0=>exact ()
   case s0=>exact ⟨trivial,.refl _,rfl,trivial⟩
   case s1=>exact ⟨by omega,by omega⟩
   case m0=>exact (Qnw hgd).sub
 · cases hs
def QjR:Spec
 | [.agg [.f (.v (.bool b)),.f (.lr d m)]]=>some (some (d.length≤40000000),.one (.agg [.f (.v (.bool b)),.f (.lr d d.length)]))
 | _=>none
theorem cCopyI {E:Env} (hU:Up E):Contract Tryz.prog E 38 QjR:=by
 refine Qak [(77,Qey)] [] Tryz.ntmps38 Tryz.func38 (by kernel_rfl) (by kernel_rfl) hU ⟨Qml hU,trivial⟩ trivial ?_
 intro xs p r hs hp
 unfold QjR at hs
 split at hs
 · rename_i b d m
   cases hs
   have hd:=hp _ rfl
   refine ⟨[.agg [.f (.v (.bool b)),.f (.lr d m)]],[],.cons (.refl _) .nil,rfl,fun hg hsh=>?_⟩
   have h0:=hd
   refine Qah (p:=d.length≤40000000∧true=true∧Sub (PV.agg [bV b,PV.f (Lf.lr d d.length)]) (PV.agg [bV b,PV.f (Lf.lr d d.length)])) ?kr ?_
   case kr=>kernel_rfl
   refine ⟨?s0,⟨rfl,?m0⟩⟩
   case s0=>exact hd
   case m0=>exact .refl _
 · cases hs
def QdR (n:Nat):Spec
 | [x]=>match tmOf x with
  | some t=>some (some (2 * t.size<n∧t.fitT),.one (tmP t))
  | none=>none
 | _=>none
def Qfe (n:Nat):Spec
 | [.f (.dt .tm l)]=>some (some (2 * szL l+1<n∧Qc4 l∧l.length≤100000000),.one (.f (.dt .tm l)))
 | _=>none
theorem Qhy {E:Env} (hU:Up E):∀ n,Contract Tryz.prog E 10 (QdR n)∧Contract Tryz.prog E 39 (Qfe n)
 | 0=>by
  refine ⟨?_,?_⟩
  · intro xs p r hs hp
    unfold QdR at hs
    split at hs
    · split at hs
      · cases hs
        exact absurd (hp _ rfl).1 (Nat.not_lt_zero _)
      · cases hs
    · cases hs
  · intro xs p r hs hp
    unfold Qfe at hs
    split at hs
    · cases hs
      exact absurd (hp _ rfl).1 (Nat.not_lt_zero _)
    · cases hs
 | n+1=>by
  refine ⟨?_,?_⟩
  · refine Qak [(38,QjR),(39,Qfe n)] [] Tryz.ntmps10 Tryz.func10 (by kernel_rfl) (by kernel_rfl) hU ⟨cCopyI hU,(Qhy hU n).2,trivial⟩ trivial ?_
    intro xs p r hs hp
    unfold QdR at hs
    split at hs
    · rename_i x
      split at hs
      · rename_i t ht
        cases hs
        obtain ⟨hn,hf⟩:=hp _ rfl
        refine ⟨[tmP t],[],.cons (QaN ht).sub .nil,rfl,fun _ hsh=>?_⟩
        have e2:=t.size_eq
        have f2:=(Tw.fitT_eq t).1 hf
        refine Qah (p:=t.digits.length≤40000000∧(2 * szL t.kids+1<n∧Qc4 t.kids∧t.kids.length≤100000000)∧true=true∧Sub (PV.agg (Qaf (tmC t))) (PV.agg (Qaf (tmC t)))) ?kr ?_
        case kr=>kernel_rfl
        refine ⟨?s0,⟨?s1,⟨rfl,?m0⟩⟩⟩
        all_goals try simp only [Tw.eta] at *
        case s0=>exact f2.2.1
        case s1=>exact ⟨by omega,f2.2.2.2,f2.2.2.1⟩
        case m0=>exact .refl _
      · cases hs
    · cases hs
  · refine Qak [(10,QdR n)] [] Tryz.ntmps39 Tryz.func39 (by kernel_rfl) (by kernel_rfl) hU ⟨(Qhy hU n).1,trivial⟩ trivial ?_
    intro xs p r hs hp
    unfold Qfe at hs
    split at hs
    · rename_i l
      cases hs
      obtain ⟨hn,hf,hl⟩:=hp _ rfl
      refine ⟨[.f (.dt .tm l)],[(3,.s ⟨Nat,fun i=>⟨[(0,.f (.dt .tm l)),(3,.tl 0 (.dt .tm (l.take i))),(4,iV i)],[.tail 28 5]⟩,fun i=>i≤l.length,fun i=>l.length - i⟩)],.cons (.refl _) .nil,rfl,fun _ hsh=>?_⟩
      have h0:=hf
      refine Qah (p:=∃ (x1:Nat),(True∧SubB (PV.f (Lf.dt Sh.tm l)) (PV.f (Lf.dt Sh.tm l))∧Qbv (PV.tl 0 (Lf.dt Sh.tm (List.take x1 l)))∧SubB (iV 0) (iV (↑x1:Int))∧True)∧x1≤l.length∧True∧∀ (z2:Nat),z2≤l.length→True→ifB (decide ((↑z2:Int)<(↑l.length:Int))) (((0:Int)≤(↑z2:Int)∧(↑z2:Int)<(↑l.length:Int))∧(2 * (Tw.mk (Tw.kind (l.getD (↑z2:Int).toNat Sh.tm.nil)) (Tw.name (l.getD (↑z2:Int).toNat Sh.tm.nil)) (Tw.neg (l.getD (↑z2:Int).toNat Sh.tm.nil)) (Tw.digits (l.getD (↑z2:Int).toNat Sh.tm.nil)) (Tw.kids (l.getD (↑z2:Int).toNat Sh.tm.nil))).size<n∧(Tw.mk (Tw.kind (l.getD (↑z2:Int).toNat Sh.tm.nil)) (Tw.name (l.getD (↑z2:Int).toNat Sh.tm.nil)) (Tw.neg (l.getD (↑z2:Int).toNat Sh.tm.nil)) (Tw.digits (l.getD (↑z2:Int).toNat Sh.tm.nil)) (Tw.kids (l.getD (↑z2:Int).toNat Sh.tm.nil))).fitT)∧((List.take z2 l).length+1≤9223372036854775807∧((List.take z2 l).length+1) * 80≤140737488355328)∧∃ (x3:Nat),(True∧SubB (PV.f (Lf.dt Sh.tm l)) (PV.f (Lf.dt Sh.tm l))∧SubB (PV.tl 0 (Lf.dt Sh.tm (List.take z2 l++[Tw.mk (Tw.mk (Tw.kind (l.getD (↑z2:Int).toNat Sh.tm.nil)) (Tw.name (l.getD (↑z2:Int).toNat Sh.tm.nil)) (Tw.neg (l.getD (↑z2:Int).toNat Sh.tm.nil)) (Tw.digits (l.getD (↑z2:Int).toNat Sh.tm.nil)) (Tw.kids (l.getD (↑z2:Int).toNat Sh.tm.nil))).kind (Tw.mk (Tw.kind (l.getD (↑z2:Int).toNat Sh.tm.nil)) (Tw.name (l.getD (↑z2:Int).toNat Sh.tm.nil)) (Tw.neg (l.getD (↑z2:Int).toNat Sh.tm.nil)) (Tw.digits (l.getD (↑z2:Int).toNat Sh.tm.nil)) (Tw.kids (l.getD (↑z2:Int).toNat Sh.tm.nil))).name (Tw.mk (Tw.kind (l.getD (↑z2:Int).toNat Sh.tm.nil)) (Tw.name (l.getD (↑z2:Int).toNat Sh.tm.nil)) (Tw.neg (l.getD (↑z2:Int).toNat Sh.tm.nil)) (Tw.digits (l.getD (↑z2:Int).toNat Sh.tm.nil)) (Tw.kids (l.getD (↑z2:Int).toNat Sh.tm.nil))).neg (Tw.mk (Tw.kind (l.getD (↑z2:Int).toNat Sh.tm.nil)) (Tw.name (l.getD (↑z2:Int).toNat Sh.tm.nil)) (Tw.neg (l.getD (↑z2:Int).toNat Sh.tm.nil)) (Tw.digits (l.getD (↑z2:Int).toNat Sh.tm.nil)) (Tw.kids (l.getD (↑z2:Int).toNat Sh.tm.nil))).digits (Tw.mk (Tw.kind (l.getD (↑z2:Int).toNat Sh.tm.nil)) (Tw.name (l.getD (↑z2:Int).toNat Sh.tm.nil)) (Tw.neg (l.getD (↑z2:Int).toNat Sh.tm.nil)) (Tw.digits (l.getD (↑z2:Int).toNat Sh.tm.nil)) (Tw.kids (l.getD (↑z2:Int).toNat Sh.tm.nil))).kids]))) (PV.tl 0 (Lf.dt Sh.tm (List.take x3 l)))∧SubB (iV (IntKind.i64.wrap ((↑z2:Int)+(1:Int)))) (iV (↑x3:Int))∧True)∧x3≤l.length∧True∧(l.length - x3).succ.le (l.length - z2)) (true=true∧Sub (PV.f (Lf.dt Sh.tm (List.take z2 l))) (PV.f (Lf.dt Sh.tm l)))) ?kr ?_
      case kr=>kernel_rfl
      refine ⟨?x0,⟨?s0,⟨?s1,⟨trivial,fun z2=>fun hq0=>fun _=>Qaa.2 ⟨fun hb1=>⟨?s2,⟨?s3,⟨?s4,⟨?x1,⟨⟨trivial,⟨.refl _,⟨?m0,⟨?m1,trivial⟩⟩⟩⟩,⟨?s5,⟨trivial,?m2⟩⟩⟩⟩⟩⟩⟩,fun hb1=>⟨rfl,?m3⟩⟩⟩⟩⟩⟩
      case x0=>exact 0
      case x1=>exact z2+1
      all_goals try simp only [Tw.eta,Int.toNat_natCast,decide_eq_true_eq,decide_eq_false_iff_not,Int.ofNat_lt] at *
      case s0=>repeat' first | exact SubB.refl _ | exact trivial | exact rfl | refine And.intro ?_ ?_
      case s1=>exact Nat.zero_le _
      case s2=>omega
      case s3=>exact ⟨by have:=szK_le hb1; omega,QaU _ hf hb1⟩
      case s4=>exact ⟨by rw [List.length_take]; omega,by rw [List.length_take]; omega⟩
      case m0=>exact Qm3 hb1
      case m1=>exact Qav (by rw [wJ _ (by omega) (by omega)]; rfl)
      case s5=>exact hb1
      case m2=>exact (by omega:l.length - (z2+1)<l.length - z2)
      case m3 =>
       have e:z2=l.length:=by omega
       rw [e,List.take_length]; exact .refl _
    · cases hs
def QjQ:Spec
 | [x]=>match tmOf x with
  | some t=>some (some t.fitT,.one (tmP t))
  | none=>none
 | _=>none
theorem cCopyK {E:Env} (hU:Up E):Contract Tryz.prog E 10 QjQ:=by
 intro xs p r hs hp
 unfold QjQ at hs
 split at hs
 · rename_i x
   split at hs
   · rename_i t ht
     cases hs
     exact (Qhy hU (2 * t.size+1)).1 [x] (some (2 * t.size<2 * t.size+1∧t.fitT)) (.one (tmP t)) (by simp only [QdR,ht]) (fun q hq=>by cases hq; exact ⟨Nat.lt_succ_self _,hp _ rfl⟩)
   · cases hs
 · cases hs
def QjI (l m:List ByteArray):Bool:=decide (l=m)
def QgT:Spec
 | [.f (.dt .str l),.f (.dt .str m)]=>some (none,.nm Bool (QjI l m) bV)
 | _=>none
theorem QnQ {E:Env} (hU:Up E):Contract Tryz.prog E 12 QgT:=by
 refine Qak [] [] Tryz.ntmps12 Tryz.func12 (by kernel_rfl) (by kernel_rfl) hU trivial trivial ?_
 intro xs p r hs hp
 unfold QgT at hs
 split at hs
 · rename_i l m
   cases hs
   refine ⟨[.f (.dt .str l),.f (.dt .str m)],[(4,.s ⟨Nat,fun i=>⟨[(0,.f (.dt .str l)),(1,.f (.dt .str m)),(5,iV i)],[]⟩,fun i=>i≤l.length∧l.length=m.length∧∀ j,j<i→l.getD j Sh.str.nil=m.getD j Sh.str.nil,fun i=>l.length - i⟩)],.cons (.refl _) (.cons (.refl _) .nil),rfl,fun _ hsh=>?_⟩
   have hl:=Qba hsh.1
   refine Qah (p:=ifB ((↑l.length:Int) != (↑m.length:Int)) (true=true∧Sub (bV false) (bV (QjI l m))) (∃ (x1:Nat),(True∧SubB (PV.f (Lf.dt Sh.str l)) (PV.f (Lf.dt Sh.str l))∧SubB (PV.f (Lf.dt Sh.str m)) (PV.f (Lf.dt Sh.str m))∧SubB (iV 0) (iV (↑x1:Int))∧True)∧(x1≤l.length∧l.length=m.length∧∀ (j:Nat),j<x1→l.getD j Sh.str.nil=m.getD j Sh.str.nil)∧True∧∀ (z2:Nat),(z2≤l.length∧l.length=m.length∧∀ (j:Nat),j<z2→l.getD j Sh.str.nil=m.getD j Sh.str.nil)→True→ifB (decide ((↑z2:Int)<(↑l.length:Int))) (((0:Int)≤(↑z2:Int)∧(↑z2:Int)<(↑l.length:Int))∧((0:Int)≤(↑z2:Int)∧(↑z2:Int)<(↑m.length:Int))∧ifB (!ByteArray.toList (l.getD (↑z2:Int).toNat Sh.str.nil)==ByteArray.toList (m.getD (↑z2:Int).toNat Sh.str.nil)) (true=true∧Sub (bV false) (bV (QjI l m))) (∃ (x3:Nat),(True∧SubB (PV.f (Lf.dt Sh.str l)) (PV.f (Lf.dt Sh.str l))∧SubB (PV.f (Lf.dt Sh.str m)) (PV.f (Lf.dt Sh.str m))∧SubB (iV (IntKind.i64.wrap ((↑z2:Int)+(1:Int)))) (iV (↑x3:Int))∧True)∧(x3≤l.length∧l.length=m.length∧∀ (j:Nat),j<x3→l.getD j Sh.str.nil=m.getD j Sh.str.nil)∧True∧(l.length - x3).succ.le (l.length - z2))) (true=true∧Sub (bV true) (bV (QjI l m))))) ?kr ?_
   case kr=>kernel_rfl
   refine Qaa.2 ⟨fun hb0=>⟨rfl,?m0⟩,fun hb0=>⟨?x0,⟨⟨trivial,⟨.refl _,⟨.refl _,⟨?m1,trivial⟩⟩⟩⟩,⟨?s0,⟨trivial,fun z2=>fun hq1=>fun _=>Qaa.2 ⟨fun hb2=>⟨?s1,⟨?s2,Qaa.2 ⟨fun hb3=>⟨rfl,?m2⟩,fun hb3=>⟨?x1,⟨⟨trivial,⟨.refl _,⟨.refl _,⟨?m3,trivial⟩⟩⟩⟩,⟨?s3,⟨trivial,?m4⟩⟩⟩⟩⟩⟩⟩,fun hb2=>⟨rfl,?m5⟩⟩⟩⟩⟩⟩⟩
   case x0=>exact 0
   case x1=>exact z2+1
   all_goals try simp only [bs_l,Int.toNat_natCast,decide_eq_true_eq,decide_eq_false_iff_not,Int.ofNat_lt,bne_iff_ne,ne_eq,bne_eq_false_iff_eq,Int.natCast_inj,Bool.not_eq_true',Bool.not_eq_false'] at *
   case m0=>exact (Qbq (decide_eq_false fun h=>hb0 (by rw [h])).symm).sub
   case m1=>exact .refl _
   case s0=>exact ⟨Nat.zero_le _,hb0,fun j hj=>absurd hj (Nat.not_lt_zero j)⟩
   case s1=>omega
   case s2=>omega
   case m2=>exact (Qbq (decide_eq_false fun h=>hb3 (by rw [h])).symm).sub
   case m3=>exact Qav (by rw [wJ _ (by omega) (by omega)]; rfl)
   case s3 =>
    refine ⟨hb2,hb0,fun j hj=>?_⟩
    by_cases hjz:j=z2
    · subst hjz; exact hb3
    · exact hq1.2.2 j (by omega)
   case m4=>exact (by omega:l.length - (z2+1)<l.length - z2)
   case m5 =>
    refine (Qbq (decide_eq_true ?_).symm).sub
    apply List.ext_getElem hb0
    intro j h1 h2
    have h3:=hq1.2.2 j (by omega)
    rw [List.getD_eq_getElem?_getD,List.getD_eq_getElem?_getD,List.getElem?_eq_getElem h1,List.getElem?_eq_getElem h2] at h3
    exact h3
 · cases hs
end Go.Proofs.YtemhncjjiomppaaGreatDoor
