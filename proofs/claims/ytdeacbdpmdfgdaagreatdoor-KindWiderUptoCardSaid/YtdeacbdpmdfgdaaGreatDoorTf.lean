/- The layer term: sizes; the kit's sameness of terms. -/
import Derived.Test.YtdeacbdpmdfgdaaGreatDoorTe
set_option linter.unusedSimpArgs false
namespace Go.Proofs.YtdeacbdpmdfgdaaGreatDoor
open Go.RowKit
set_option linter.unusedVariables false
set_option maxRecDepth 100000
theorem QqM {l:List Tw} {i:Nat} (h:i<l.length) (d:Tw):szL (l.getD i d).kids<szL l:=by
 have h1:=Qmw h
 rw [QeH h default d] at h1
 have h2:=(l.getD i d).size_eq
 omega
theorem Qj9 {l:List Tw}:∀ i,szL (l.take i)≤szL l:=fun i=>by
 have:=QgL (l.take i) (l.drop i)
 rw [List.take_append_drop] at this
 omega
theorem QoM {l:List Tw} {i:Nat} (h:i<l.length) (d:Tw):szL (l.take (i+1))=szL (l.take i)+szL (l.getD i d).kids+1:=by
 have h1:=Qka l h
 rw [QeH h default d] at h1
 have h2:=(l.getD i d).size_eq
 omega
def Qkf (n:Nat):Spec
 | [.f (.dt .tm l)]=>some (some (szL l<n∧szL l≤4611686018427387904),.one (iV (szL l)))
 | _=>none
def QqY:Spec
 | [.f (.dt .tm l)]=>some (some (szL l≤4611686018427387904),.one (iV (szL l)))
 | _=>none
theorem Qqt {E:Env} (hU:Up E):∀ n,Contract Tryz.prog E 72 (Qkf n)
 | 0=>by
  intro xs p r hs hp
  unfold Qkf at hs
  split at hs
  · cases hs
    exact absurd (hp _ rfl).1 (Nat.not_lt_zero _)
  · cases hs
 | n+1=>by
  refine Qad [(72,Qkf n)] [] Tryz.ntmps72 Tryz.func72 (by kernel_rfl) (by kernel_rfl) hU ⟨Qqt hU n,trivial⟩ trivial ?_
  intro xs p r hs hp
  unfold Qkf at hs
  split at hs
  · rename_i l
    cases hs
    obtain ⟨hn,hb⟩:=hp _ rfl
    refine ⟨[.f (.dt .tm l)],[(3,.s ⟨Nat,fun i=>⟨[(3,iV (l.length - i+szL (l.take i):Int)),(8,.f (.dt .tm l)),(9,iV l.length),(10,iV i)],[]⟩,fun i=>i≤l.length,fun i=>l.length - i⟩)],.cons (.refl _) .nil,rfl,fun _ hsh=>?_⟩
    have hl:=Qat hsh.1
    refine Qab (p:=∃ (x1:Nat),(True∧SubB (iV (↑l.length:Int)) (iV ((↑l.length:Int) - (↑x1:Int)+(↑(szL (List.take x1 l)):Int)))∧SubB (PV.f (Lf.dt Sh.tm l)) (PV.f (Lf.dt Sh.tm l))∧SubB (iV (↑l.length:Int)) (iV (↑l.length:Int))∧SubB (iV 0) (iV (↑x1:Int))∧True)∧x1≤l.length∧True∧∀ (z2:Nat),z2≤l.length→True→ifB (decide ((↑z2:Int)<(↑l.length:Int))) (((0:Int)≤(↑z2:Int)∧(↑z2:Int)<(↑l.length:Int))∧(szL (Tw.kids (l.getD (↑z2:Int).toNat Sh.tm.nil))<n∧szL (Tw.kids (l.getD (↑z2:Int).toNat Sh.tm.nil))≤4611686018427387904)∧∃ (x3:Nat),(True∧SubB (iV (IntKind.i64.wrap ((↑l.length:Int) - (↑z2:Int)+(↑(szL (List.take z2 l)):Int)+(↑(szL (Tw.kids (l.getD (↑z2:Int).toNat Sh.tm.nil))):Int)))) (iV ((↑l.length:Int) - (↑x3:Int)+(↑(szL (List.take x3 l)):Int)))∧SubB (PV.f (Lf.dt Sh.tm l)) (PV.f (Lf.dt Sh.tm l))∧SubB (iV (↑l.length:Int)) (iV (↑l.length:Int))∧SubB (iV (IntKind.i64.wrap ((↑z2:Int)+(1:Int)))) (iV (↑x3:Int))∧True)∧x3≤l.length∧True∧(l.length - x3).succ.le (l.length - z2)) (true=true∧Sub (iV ((↑l.length:Int) - (↑z2:Int)+(↑(szL (List.take z2 l)):Int))) (iV (↑(szL l):Int)))) ?kr ?_
    case kr=>kernel_rfl
    refine ⟨?x0,⟨⟨trivial,⟨?m0,⟨.refl _,⟨.refl _,⟨?m1,trivial⟩⟩⟩⟩⟩,⟨?s0,⟨trivial,fun z2=>fun hq0=>fun _=>Qaa.2 ⟨fun hb1=>⟨?s1,⟨?s2,⟨?x1,⟨⟨trivial,⟨?m2,⟨.refl _,⟨.refl _,⟨?m3,trivial⟩⟩⟩⟩⟩,⟨?s3,⟨trivial,?m4⟩⟩⟩⟩⟩⟩,fun hb1=>⟨rfl,?m5⟩⟩⟩⟩⟩⟩
    case x0=>exact 0
    case x1=>exact z2+1
    all_goals try simp only [decide_eq_true_eq,decide_eq_false_iff_not,Int.toNat_natCast] at *
    case m0=>exact Qae (by simp [szL])
    case m1=>exact .refl _
    case s0=>exact Nat.zero_le _
    case m5 =>
     have hz:z2=l.length:=by omega
     subst hz
     rw [List.take_length]
     exact (Qae (by omega)).sub
    all_goals have hz:z2<l.length:=by omega
    all_goals have h1:=QqM hz Sh.tm.nil
    all_goals have h2:=QoM hz Sh.tm.nil
    all_goals have h3:=Qj9 (l:=l) (z2+1)
    all_goals have h4:=Qj9 (l:=l) z2
    case s1=>omega
    case s2=>exact ⟨by omega,by omega⟩
    case m2 =>
     have h5:=QgK (l.take z2)
     have h6:=QgK l
     have h7:=QgK (l.drop (z2+1))
     have h8:=QgL (l.take (z2+1)) (l.drop (z2+1))
     rw [List.take_append_drop] at h8
     rw [List.length_drop] at h7
     exact Qae (by rw [wJ _ (by omega) (by omega)]; omega)
    case m3=>exact Qae (by rw [wJ _ (by omega) (by omega)]; omega)
    case s3=>omega
    case m4 =>
     have:l.length - (z2+1)<l.length - z2:=by omega
     exact this
  · cases hs
theorem cSize {E:Env} (hU:Up E):Contract Tryz.prog E 72 QqY:=by
 intro xs p r hs hp
 unfold QqY at hs
 split at hs
 · rename_i l
   cases hs
   exact Qqt hU (szL l+1) [.f (.dt .tm l)] _ _ rfl (fun q hq=>by cases hq; exact ⟨Nat.lt_succ_self _,hp _ rfl⟩)
 · cases hs
noncomputable def sameT (t u:Tw):Bool:=@decide (t=u) (Classical.propDecidable _)
noncomputable def sameL (l m:List Tw):Bool:=@decide (l=m) (Classical.propDecidable _)
theorem Tw.ext {t u:Tw} (h1:t.kind=u.kind) (h2:t.name=u.name) (h3:t.neg=u.neg) (h4:t.digits=u.digits) (h5:t.kids=u.kids):t=u:=by
 rw [← t.eta,← u.eta,h1,h2,h3,h4,h5]
theorem Qsd {a b:Bool} (h:a=true↔b=true):a=b:=by cases a <;> cases b <;> simp_all
theorem Qdj {α:Type} {l m:List α} {i:Nat} (d:α) (hl:i<l.length) (hm:i<m.length) (h:l.take i=m.take i) (hd:l.getD i d=m.getD i d):l.take (i+1)=m.take (i+1):=by
 rw [List.getD_eq_getElem?_getD,List.getD_eq_getElem?_getD,List.getElem?_eq_getElem hl,List.getElem?_eq_getElem hm] at hd
 simp only [Option.getD_some] at hd
 rw [List.take_add_one,List.take_add_one,h,List.getElem?_eq_getElem hl,List.getElem?_eq_getElem hm,hd]
theorem QbW {t u:Tw}:sameT t u=true↔t=u:=by simp [sameT]
theorem Qdr {l m:List Tw}:sameL l m=true↔l=m:=by simp [sameL]
end Go.Proofs.YtdeacbdpmdfgdaaGreatDoor
