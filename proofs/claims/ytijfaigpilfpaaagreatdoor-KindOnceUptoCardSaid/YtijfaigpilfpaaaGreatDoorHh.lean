/- The layer kind: are two types of one shape? -/
import Derived.Test.YtijfaigpilfpaaaGreatDoorHg
set_option linter.unusedSimpArgs false
namespace Go.Proofs.YtijfaigpilfpaaaGreatDoor
open Go.RowKit
set_option linter.unusedVariables false
set_option maxRecDepth 100000
theorem QpI (x:ByteArray × Yw) (u:Yw):alikeQ x u=alikeY x.2 u:=by obtain ⟨s,y⟩:=x; rw [alikeQ]
theorem Qex:∀ {l m:List (ByteArray × Yw)},alikeP l m=true↔∀ i,i<l.length→i<m.length→alikeY (l.getD i Sh.prm.nil).2 (m.getD i Sh.prm.nil).2=true
 | [], m => by rw [alikeP]; · simp
               · intro a b c d h; cases h
 | x :: l, [] => by rw [alikeP]; · simp
                    · intro a b c d h h'; cases h'
 | x::l,y::m=>by
  rw [alikeP,Bool.and_eq_true,QpI,Qex]
  constructor
  · rintro ⟨h1,h2⟩ i hi hj
    match i with
    | 0=>exact h1
    | i+1=>exact h2 i (by simpa using hi) (by simpa using hj)
  · intro h
    exact ⟨h 0 (by simp) (by simp),fun i hi hj=>h (i+1) (by simpa using hi) (by simpa using hj)⟩
theorem Qa2 (t u:Yw):alikeY t u=if Qbf t=true∧Qbf u=true then decide (t.sort=u.sort) else if funsY t=true∧funsY u=true then decide (t.params.length=u.params.length) && (alikeP t.params u.params && alikeR t.result u.result) else false:=by
 cases t; rw [alikeY]; rfl
theorem QaJ {t:Yw} (h:funsY t=true):t.result.length=1:=by
 unfold funsY at h
 rw [Bool.and_eq_true,Bool.and_eq_true,decide_eq_true_eq] at h
 exact h.2.1
theorem QgP {l m:List Yw} (hl:l.length=1) (hm:m.length=1):alikeR l m=alikeY (l.getD 0 Sh.ty.nil) (m.getD 0 Sh.ty.nil):=by
 match l,m,hl,hm with
 | [x],[y],_,_=>rw [alikeR]; rfl
noncomputable def sAlikeN (n:Nat):Spec
 | [x,y]=>match tyOf x,tyOf y with
  | some t,some u=>some (some (3 * t.size<n∧t.fit∧u.fit),.nm Bool (alikeY t u) bV)
  | _,_=>none
 | _=>none
noncomputable def sAlikeQN (n:Nat):Spec
 | [x,y]=>match prOf x,prOf y with
  | some t,some u=>some (some (3 * t.2.size+1<n∧t.2.fit∧u.2.fit),.nm Bool (alikeY t.2 u.2) bV)
  | _,_=>none
 | _=>none
noncomputable def sAlikePN (n:Nat):Spec
 | [.f (.dt .prm l),.f (.dt .prm m),.f (.v (.func (.func f) ⟨[]⟩ ⟨[]⟩))]=>match Nat.beq f 51 with
  | true=>some (some (3 * szP l+2<n∧fitP l∧fitP m),.nm Bool (decide (l.length=m.length) && alikeP l m) bV)
  | false=>none
 | _=>none
set_option maxHeartbeats 8000000 in
theorem Qf4 {E:Env} (hU:Up E):∀ n,Contract Tryz.prog E 13 (sAlikeN n)∧Contract Tryz.prog E 51 (sAlikeQN n)∧Contract Tryz.prog E 44 (sAlikePN n)
 | 0=>by
  refine ⟨?_,?_,?_⟩
  · intro xs p r hs hp
    unfold sAlikeN at hs
    split at hs
    · split at hs
      · cases hs
        exact absurd (hp _ rfl).1 (Nat.not_lt_zero _)
      · cases hs
    · cases hs
  · intro xs p r hs hp
    unfold sAlikeQN at hs
    split at hs
    · split at hs
      · cases hs
        exact absurd (hp _ rfl).1 (Nat.not_lt_zero _)
      · cases hs
    · cases hs
  · intro xs p r hs hp
    unfold sAlikePN at hs
    split at hs
    · split at hs
      · cases hs
        exact absurd (hp _ rfl).1 (Nat.not_lt_zero _)
      · cases hs
    · cases hs
 | n+1=>by
  refine ⟨?_,?_,?_⟩
  · refine Qac [(41,Qiu),(50,sFunsY),(44,sAlikePN n),(13,sAlikeN n)] [] Tryz.ntmps13 Tryz.func13 (by kernel_rfl) (by kernel_rfl) hU ⟨Qpw hU,Qr3 hU,(Qf4 hU n).2.2,(Qf4 hU n).1,trivial⟩ trivial ?_
    intro xs p r hs hp
    unfold sAlikeN at hs
    split at hs
    · rename_i x y
      split at hs
      · rename_i t u ht hu
        cases hs
        obtain ⟨hn,hf,hg⟩:=hp _ rfl
        refine ⟨[tyP t,tyP u],[(1000002,.s ⟨Unit,fun _=>⟨[(2,.bp 0 0),(3,.bp 1 0),(5,.bp 2 0),(6,.bp 3 0)],[.cells (Qae (tyC t)),.cells (Qae (tyC u)),.cells (Qae (tyC t)),.cells (Qae (tyC u))]⟩,fun _=>True,fun _=>0⟩)],.cons (Qbp ht).sub (.cons (Qbp hu).sub .nil),rfl,fun _ hsh=>?_⟩
        have e2:=t.size_eq
        have f2:=(Yw.fit_eq t).1 hf
        have g2:=(Yw.fit_eq u).1 hg
        refine Qab (p:=let A2:=rfB (bV t.fn)∧rfB (sV t.sort)∧rfB (uV t.ref.kind)∧rfB (sV t.ref.name)∧rfB (bV t.ref.neg)∧rfB (PV.f (Lf.lr t.ref.digits t.ref.digits.length))∧rfB (dP Sh.tm t.ref.kids)∧rfB (dP Sh.prm t.params)∧rfB (dP Sh.ty t.result)∧True; let A3:=rfB (bV u.fn)∧rfB (sV u.sort)∧rfB (uV u.ref.kind)∧rfB (sV u.ref.name)∧rfB (bV u.ref.neg)∧rfB (PV.f (Lf.lr u.ref.digits u.ref.digits.length))∧rfB (dP Sh.tm u.ref.kids)∧rfB (dP Sh.prm u.params)∧rfB (dP Sh.ty u.result)∧True; let A4:=true=true∧Sub (bV false) (bV (alikeY t u)); let A5:=Yw.mk t.fn t.sort (etaT t.ref) t.params t.result; let A6:=Yw.mk u.fn u.sort (etaT u.ref) u.params u.result; let A7:=t.result.getD (Int.toNat (0:Int)) Sh.ty.nil; let A8:=u.result.getD (Int.toNat (0:Int)) Sh.ty.nil; let A0:=Yw.mk (Yw.fn A7) (Yw.sort A7) (etaT (Yw.ref A7)) (Yw.params A7) (Yw.result A7); let A1:=Yw.mk (Yw.fn A8) (Yw.sort A8) (etaT (Yw.ref A8)) (Yw.params A8) (Yw.result A8); (∃ (x1:Unit),((A2∧A3∧A2∧A3∧True)∧rfB (PV.bp 0 0)∧rfB (PV.bp 1 0)∧rfB (PV.bp 2 0)∧rfB (PV.bp 3 0)∧True)∧True)∧∀ (z1:Unit),True→∀ (z2:Bool),z2=Qbf A5→ifB z2 (∀ (z3:Bool),z3=Qbf A6→ifB z3 (true=true∧Sub (bV (t.sort.toList==u.sort.toList)) (bV (alikeY t u))) (A5.ref.fitT∧∀ (z4:Bool),z4=funsY A5→ifB (!z4) A4 (A6.ref.fitT∧∀ (z5:Bool),z5=funsY A6→ifB (!z5) A4 ((3 * szP t.params+2<n∧fitP t.params∧fitP u.params)∧∀ (z6:Bool),z6=(decide (t.params.length=u.params.length) && alikeP t.params u.params)→ifB z6 (((0:Int)≤(0:Int)∧(0:Int)<(↑t.result.length:Int))∧((0:Int)≤(0:Int)∧(0:Int)<(↑u.result.length:Int))∧(3 * A0.size<n∧A0.fit∧A1.fit)∧∀ (z7:Bool),z7=alikeY A0 A1→true=true∧Sub (bV z7) (bV (alikeY t u))) A4)))) (A5.ref.fitT∧∀ (z3:Bool),z3=funsY A5→ifB (!z3) A4 (A6.ref.fitT∧∀ (z4:Bool),z4=funsY A6→ifB (!z4) A4 ((3 * szP t.params+2<n∧fitP t.params∧fitP u.params)∧∀ (z5:Bool),z5=(decide (t.params.length=u.params.length) && alikeP t.params u.params)→ifB z5 (((0:Int)≤(0:Int)∧(0:Int)<(↑t.result.length:Int))∧((0:Int)≤(0:Int)∧(0:Int)<(↑u.result.length:Int))∧(3 * A0.size<n∧A0.fit∧A1.fit)∧∀ (z6:Bool),z6=alikeY A0 A1→true=true∧Sub (bV z6) (bV (alikeY t u))) A4)))) ?kr ?_
        case kr=>kernel_rfl
        conv=>zeta
        refine ⟨⟨?x0,⟨⟨⟨⟨.refl _,⟨.refl _,⟨.refl _,⟨.refl _,⟨.refl _,⟨.refl _,⟨.refl _,⟨.refl _,⟨.refl _,trivial⟩⟩⟩⟩⟩⟩⟩⟩⟩,⟨⟨.refl _,⟨.refl _,⟨.refl _,⟨.refl _,⟨.refl _,⟨.refl _,⟨.refl _,⟨.refl _,⟨.refl _,trivial⟩⟩⟩⟩⟩⟩⟩⟩⟩,⟨⟨.refl _,⟨.refl _,⟨.refl _,⟨.refl _,⟨.refl _,⟨.refl _,⟨.refl _,⟨.refl _,⟨.refl _,trivial⟩⟩⟩⟩⟩⟩⟩⟩⟩,⟨⟨.refl _,⟨.refl _,⟨.refl _,⟨.refl _,⟨.refl _,⟨.refl _,⟨.refl _,⟨.refl _,⟨.refl _,trivial⟩⟩⟩⟩⟩⟩⟩⟩⟩,trivial⟩⟩⟩⟩,⟨.refl _,⟨.refl _,⟨.refl _,⟨.refl _,trivial⟩⟩⟩⟩⟩,trivial⟩⟩,fun z1=>fun _=>fun z2=>fun hz2=>Qaa.2 ⟨fun hb0=>fun z3=>fun hz3=>Qaa.2 ⟨fun hb1=>⟨rfl,?m0⟩,fun hb1=>⟨?s0,fun z4=>fun hz4=>Qaa.2 ⟨fun hb2=>⟨rfl,?m1⟩,fun hb2=>⟨?s1,fun z5=>fun hz5=>Qaa.2 ⟨fun hb3=>⟨rfl,?m2⟩,fun hb3=>⟨?s2,fun z6=>fun hz6=>Qaa.2 ⟨fun hb4=>⟨?s3,⟨?s4,⟨?s5,fun z7=>fun hz7=>⟨rfl,?m3⟩⟩⟩⟩,fun hb4=>⟨rfl,?m4⟩⟩⟩⟩⟩⟩⟩⟩,fun hb0=>⟨?s6,fun z3=>fun hz3=>Qaa.2 ⟨fun hb5=>⟨rfl,?m5⟩,fun hb5=>⟨?s7,fun z4=>fun hz4=>Qaa.2 ⟨fun hb6=>⟨rfl,?m6⟩,fun hb6=>⟨?s8,fun z5=>fun hz5=>Qaa.2 ⟨fun hb7=>⟨?s9,⟨?s10,⟨?s11,fun z6=>fun hz6=>⟨rfl,?m7⟩⟩⟩⟩,fun hb7=>⟨rfl,?m8⟩⟩⟩⟩⟩⟩⟩⟩⟩
        all_goals try simp only [etaT] at *
        all_goals try simp only [Tw.eta,Yw.eta,bs_l,decide_eq_true_eq,decide_eq_false_iff_not,Bool.not_eq_true',Bool.not_eq_false'] at *
        case x0=>exact ()
        case s0=>exact f2.1.2.1
        case s1=>exact g2.1.2.1
        case s2=>exact ⟨by omega,f2.2.2.1,g2.2.2.1⟩
        case s6=>exact f2.1.2.1
        case s7=>exact g2.1.2.1
        case s8=>exact ⟨by omega,f2.2.2.1,g2.2.2.1⟩
        case s3=>have:=QaJ (hz4.symm.trans hb2); omega
        case s4=>have:=QaJ (hz5.symm.trans hb3); omega
        case s9=>have:=QaJ (hz3.symm.trans hb5); omega
        case s10=>have:=QaJ (hz4.symm.trans hb6); omega
        case s5=>exact ⟨by have:=Qdz (gotD Sh.ty.nil (show 0<t.result.length by have:=QaJ (hz4.symm.trans hb2); omega)); show 3 * Yw.size (t.result.getD 0 Sh.ty.nil)<n; omega,QbC f2.2.2.2 (gotD Sh.ty.nil (show 0<t.result.length by have:=QaJ (hz4.symm.trans hb2); omega)),QbC g2.2.2.2 (gotD Sh.ty.nil (show 0<u.result.length by have:=QaJ (hz5.symm.trans hb3); omega))⟩
        case s11=>exact ⟨by have:=Qdz (gotD Sh.ty.nil (show 0<t.result.length by have:=QaJ (hz3.symm.trans hb5); omega)); show 3 * Yw.size (t.result.getD 0 Sh.ty.nil)<n; omega,QbC f2.2.2.2 (gotD Sh.ty.nil (show 0<t.result.length by have:=QaJ (hz3.symm.trans hb5); omega)),QbC g2.2.2.2 (gotD Sh.ty.nil (show 0<u.result.length by have:=QaJ (hz4.symm.trans hb6); omega))⟩
        case m0=>refine (Qah ?_).sub; rw [Qa2,if_pos ⟨hz2.symm.trans hb0,hz3.symm.trans hb1⟩]
        all_goals refine (Qah ?_).sub
        case m1=>rw [Qa2,← hz2,← hz3,← hz4,hb0,hb1,hb2]; simp
        case m2=>rw [Qa2,← hz2,← hz3,← hz5,hb0,hb1,hb3]; simp
        case m3=>rw [Qa2,QgP (QaJ (hz4.symm.trans hb2)) (QaJ (hz5.symm.trans hb3)),← hz2,← hz3,← hz4,← hz5,hb0,hb1,hb2,hb3,← Bool.and_assoc,← hz6,hb4,hz7]; simp
        case m4=>rw [Qa2,← hz2,← hz3,← hz4,← hz5,hb0,hb1,hb2,hb3,← Bool.and_assoc,← hz6,hb4]; simp
        case m5=>rw [Qa2,← hz2,← hz3,hb0,hb5]; simp
        case m6=>rw [Qa2,← hz2,← hz4,hb0,hb6]; simp
        case m7=>rw [Qa2,QgP (QaJ (hz3.symm.trans hb5)) (QaJ (hz4.symm.trans hb6)),← hz2,← hz3,← hz4,hb0,hb5,hb6,← Bool.and_assoc,← hz5,hb7,hz6]; simp
        case m8=>rw [Qa2,← hz2,← hz3,← hz4,hb0,hb5,hb6,← Bool.and_assoc,← hz5,hb7]; simp
      · cases hs
    · cases hs
  · refine Qac [(13,sAlikeN n)] [] Tryz.ntmps51 Tryz.func51 (by kernel_rfl) (by kernel_rfl) hU ⟨(Qf4 hU n).1,trivial⟩ trivial ?_
    intro xs p r hs hp
    unfold sAlikeQN at hs
    split at hs
    · rename_i x y
      split at hs
      · rename_i t u ht hu
        cases hs
        obtain ⟨hn,hf,hg⟩:=hp _ rfl
        refine ⟨[prP t,prP u],[],.cons (Qgr ht).sub (.cons (Qgr hu).sub .nil),rfl,fun _ hsh=>?_⟩
        have h0:=hn
        refine Qab (p:=(3 * (Yw.mk t.snd.fn t.snd.sort (etaT t.snd.ref) t.snd.params t.snd.result).size<n∧(Yw.mk t.snd.fn t.snd.sort (etaT t.snd.ref) t.snd.params t.snd.result).fit∧(Yw.mk u.snd.fn u.snd.sort (etaT u.snd.ref) u.snd.params u.snd.result).fit)∧∀ (z1:Bool),z1=alikeY (Yw.mk t.snd.fn t.snd.sort (etaT t.snd.ref) t.snd.params t.snd.result) (Yw.mk u.snd.fn u.snd.sort (etaT u.snd.ref) u.snd.params u.snd.result)→true=true∧Sub (bV z1) (bV (alikeY t.snd u.snd))) ?kr ?_
        case kr=>kernel_rfl
        refine ⟨?s0,fun z1=>fun hz1=>⟨rfl,?m0⟩⟩
        all_goals try simp only [etaT] at *
        all_goals try simp only [Tw.eta,Yw.eta] at *
        case s0=>exact ⟨by omega,hf,hg⟩
        case m0=>rw [hz1]; exact .refl _
      · cases hs
    · cases hs
  · refine Qac [(51,sAlikeQN n)] [] Tryz.ntmps44 Tryz.func44 (by kernel_rfl) (by kernel_rfl) hU ⟨(Qf4 hU n).2.1,trivial⟩ trivial ?_
    intro xs p r hs hp
    unfold sAlikePN at hs
    split at hs
    · rename_i l m f
      split at hs
      · rename_i hfn
        cases hs
        have hfn:=Nat.eq_of_beq_eq_true hfn
        subst hfn
        obtain ⟨hn,hf,hg⟩:=hp _ rfl
        refine ⟨[.f (.dt .prm l),.f (.dt .prm m),.f (.v (.func (.func 51) ⟨[]⟩ ⟨[]⟩))],[(4,.s ⟨Nat,fun i=>⟨[(0,.f (.dt .prm l)),(1,.f (.dt .prm m)),(2,.f (.v (.func (.func 51) ⟨[]⟩ ⟨[]⟩))),(15,.f (.dt .prm l)),(16,iV l.length),(17,iV i)],[]⟩,fun i=>i≤l.length∧l.length=m.length∧∀ j,j<i→alikeY (l.getD j Sh.prm.nil).2 (m.getD j Sh.prm.nil).2=true,fun i=>l.length - i⟩)],.cons (.refl _) (.cons (.refl _) (.cons (.refl _) .nil)),rfl,fun _ hsh=>?_⟩
        have hl:=Qap hsh.1
        refine Qab (p:=let A1:=fun (z2:Nat)=>(m.getD (↑z2:Int).toNat Sh.prm.nil); let A2:=fun (z2:Nat)=>(l.getD (↑z2:Int).toNat Sh.prm.nil); let A3:=bV (decide (l.length=m.length) && alikeP l m); let A0:=fun (z2:Nat)=>(Yw.mk (A2 z2).snd.fn (A2 z2).snd.sort (etaT ((A2 z2).snd.ref)) (A2 z2).snd.params (A2 z2).snd.result); ifB ((↑l.length:Int) != (↑m.length:Int)) (true=true∧Sub (bV false) A3) (∃ (x1:Nat),(True∧rfB (dP Sh.prm l)∧rfB (dP Sh.prm m)∧rfB (PV.f (Lf.v (Value.func (Fn.func 51) (Array.mk []) (Array.mk []))))∧rfB (dP Sh.prm l)∧rfB (iV (↑l.length:Int))∧SubB (iV 0) (iV (↑x1:Int))∧True)∧(x1≤l.length∧l.length=m.length∧∀ (j:Nat),j<x1→alikeY (l.getD j Sh.prm.nil).snd (m.getD j Sh.prm.nil).snd=true)∧True∧∀ (z2:Nat),(z2≤l.length∧l.length=m.length∧∀ (j:Nat),j<z2→alikeY (l.getD j Sh.prm.nil).snd (m.getD j Sh.prm.nil).snd=true)→True→ifB (decide ((↑z2:Int)<(↑l.length:Int))) (((0:Int)≤(↑z2:Int)∧(↑z2:Int)<(↑l.length:Int))∧((0:Int)≤(↑z2:Int)∧(↑z2:Int)<(↑m.length:Int))∧(3 * (A0 z2).size+1<n∧(A0 z2).fit∧(Yw.mk (A1 z2).snd.fn (A1 z2).snd.sort (etaT ((A1 z2).snd.ref)) (A1 z2).snd.params (A1 z2).snd.result).fit)∧∀ (z3:Bool),z3=alikeY (A0 z2) (Yw.mk (A1 z2).snd.fn (A1 z2).snd.sort (etaT ((A1 z2).snd.ref)) (A1 z2).snd.params (A1 z2).snd.result)→ifB (!z3) (true=true∧Sub (bV false) A3) (∃ (x4:Nat),(True∧rfB (dP Sh.prm l)∧rfB (dP Sh.prm m)∧rfB (PV.f (Lf.v (Value.func (Fn.func 51) (Array.mk []) (Array.mk []))))∧rfB (dP Sh.prm l)∧rfB (iV (↑l.length:Int))∧SubB (iV (IntKind.i64.wrap ((↑z2:Int)+(1:Int)))) (iV (↑x4:Int))∧True)∧(x4≤l.length∧l.length=m.length∧∀ (j:Nat),j<x4→alikeY (l.getD j Sh.prm.nil).snd (m.getD j Sh.prm.nil).snd=true)∧True∧(l.length - x4).succ.le (l.length - z2))) (true=true∧Sub (bV true) A3))) ?kr ?_
        case kr=>kernel_rfl
        conv=>zeta
        refine Qaa.2 ⟨fun hb0=>⟨rfl,?m0⟩,fun hb0=>⟨?x0,⟨⟨trivial,⟨.refl _,⟨.refl _,⟨.refl _,⟨.refl _,⟨.refl _,⟨?m1,trivial⟩⟩⟩⟩⟩⟩⟩,⟨?s0,⟨trivial,fun z2=>fun hq1=>fun _=>Qaa.2 ⟨fun hb2=>⟨?s1,⟨?s2,⟨?s3,fun z3=>fun hz3=>Qaa.2 ⟨fun hb3=>⟨rfl,?m2⟩,fun hb3=>⟨?x1,⟨⟨trivial,⟨.refl _,⟨.refl _,⟨.refl _,⟨.refl _,⟨.refl _,⟨?m3,trivial⟩⟩⟩⟩⟩⟩⟩,⟨?s4,⟨trivial,?m4⟩⟩⟩⟩⟩⟩⟩⟩,fun hb2=>⟨rfl,?m5⟩⟩⟩⟩⟩⟩⟩
        all_goals try simp only [etaT] at *
        case x0=>exact 0
        case x1=>exact z2+1
        all_goals try simp only [Tw.eta,Yw.eta,bne_iff_ne,ne_eq,bne_eq_false_iff_eq,decide_eq_true_eq,decide_eq_false_iff_not,Int.toNat_natCast,Int.natCast_inj,Bool.not_eq_true',Bool.not_eq_false'] at *
        case m0=>rw [decide_eq_false hb0]; exact .refl _
        case m1=>exact SubB.refl _
        case s0=>exact ⟨Nat.zero_le _,hb0,fun j hj=>absurd hj (Nat.not_lt_zero j)⟩
        case m5 =>
         refine (Qah ?_).sub
         rw [decide_eq_true hq1.2.1,Qex.2 fun i h1 h2=>hq1.2.2 i (by omega)]; rfl
        all_goals have hz:z2<l.length:=by omega
        all_goals have hm:z2<m.length:=by have:=hq1.2.1; omega
        case s1=>omega
        case s2=>omega
        case s3=>exact ⟨by have:=Qfe (gotD Sh.prm.nil hz); omega,(Qb8 hf (gotD Sh.prm.nil hz)).2,(Qb8 hg (gotD Sh.prm.nil hm)).2⟩
        case m2 =>
         refine (Qah (Bool.eq_false_iff.2 fun h=>?_).symm).sub
         rw [Bool.and_eq_true,Qex] at h
         rw [hb3,h.2 z2 hz hm] at hz3
         cases hz3
        case m3=>exact Qad (by rw [wJ _ (by omega) (by omega)]; rfl)
        case s4 =>
         rw [hb3] at hz3
         refine ⟨by omega,hq1.2.1,fun j hj=>?_⟩
         by_cases hjz:j=z2
         · subst hjz; exact hz3.symm
         · exact hq1.2.2 j (by omega)
        case m4=>exact (by omega:l.length - (z2+1)<l.length - z2)
      · cases hs
    · cases hs
noncomputable def sAlike:Spec
 | [x,y]=>match tyOf x,tyOf y with
  | some t,some u=>some (some (t.fit∧u.fit),.nm Bool (alikeY t u) bV)
  | _,_=>none
 | _=>none
theorem Qr6 {E:Env} (hU:Up E):Contract Tryz.prog E 13 sAlike:=by
 intro xs p r hs hp
 unfold sAlike at hs
 split at hs
 · rename_i x y
   split at hs
   · rename_i t u ht hu
     cases hs
     exact (Qf4 hU (3 * t.size+1)).1 [x,y] _ _ (by simp only [sAlikeN,ht,hu]; rfl) (fun q hq=>by cases hq; exact ⟨Nat.lt_succ_self _,hp _ rfl⟩)
   · cases hs
 · cases hs
noncomputable def sSameY:Spec
 | [x,y]=>match tyOf x,tyOf y with
  | some t,some u=>some (some (t.fit∧u.fit),.nm Bool (sameY t u) bV)
  | _,_=>none
 | _=>none
theorem QrZ {E:Env} (hU:Up E):Contract Tryz.prog E 11 sSameY:=by
 intro xs p r hs hp
 unfold sSameY at hs
 split at hs
 · rename_i x y
   split at hs
   · rename_i t u ht hu
     cases hs
     exact (Qet hU (3 * t.size+1)).1 [x,y] _ _ (by simp only [sSameYN,ht,hu]; rfl) (fun q hq=>by cases hq; exact ⟨Nat.lt_succ_self _,hp _ rfl⟩)
   · cases hs
 · cases hs
theorem cKitY {E:Env} (hU:Up E):Contract Tryz.prog E 12 sSameY:=by
 intro xs p r hs hp
 unfold sSameY at hs
 split at hs
 · rename_i x y
   split at hs
   · rename_i t u ht hu
     cases hs
     exact (QgM hU (3 * t.size+1)).1 [x,y] _ _ (by simp only [sKitYN,ht,hu]; rfl) (fun q hq=>by cases hq; exact ⟨Nat.lt_succ_self _,hp _ rfl⟩)
   · cases hs
 · cases hs
end Go.Proofs.YtijfaigpilfpaaaGreatDoor
