/- The layer kind: are two types of one shape? -/
import Derived.Test.YtdeacbdpmdfgdaaGreatDoorHg
set_option linter.unusedSimpArgs false
namespace Go.Proofs.YtdeacbdpmdfgdaaGreatDoor
open Go.RowKit
set_option linter.unusedVariables false
set_option maxRecDepth 100000
theorem Qov (x:ByteArray × Yw) (u:Yw):alikeQ x u=alikeY x.2 u:=by obtain ⟨s,y⟩:=x; rw [alikeQ]
theorem Qed:∀ {l m:List (ByteArray × Yw)},alikeP l m=true↔∀ i,i<l.length→i<m.length→alikeY (l.getD i Sh.prm.nil).2 (m.getD i Sh.prm.nil).2=true
 | [], m => by rw [alikeP]; · simp
               · intro a b c d h; cases h
 | x :: l, [] => by rw [alikeP]; · simp
                    · intro a b c d h h'; cases h'
 | x::l,y::m=>by
  rw [alikeP,Bool.and_eq_true,Qov,Qed]
  constructor
  · rintro ⟨h1,h2⟩ i hi hj
    match i with
    | 0=>exact h1
    | i+1=>exact h2 i (by simpa using hi) (by simpa using hj)
  · intro h
    exact ⟨h 0 (by simp) (by simp),fun i hi hj=>h (i+1) (by simpa using hi) (by simpa using hj)⟩
theorem QaX (t u:Yw):alikeY t u=if Qa0 t=true∧Qa0 u=true then decide (t.sort=u.sort) else if funsY t=true∧funsY u=true then decide (t.params.length=u.params.length) && (alikeP t.params u.params && alikeR t.result u.result) else false:=by
 cases t; rw [alikeY]; rfl
theorem QaC {t:Yw} (h:funsY t=true):t.result.length=1:=by
 unfold funsY at h
 rw [Bool.and_eq_true,Bool.and_eq_true,decide_eq_true_eq] at h
 exact h.2.1
theorem QgD {l m:List Yw} (hl:l.length=1) (hm:m.length=1):alikeR l m=alikeY (l.getD 0 Sh.ty.nil) (m.getD 0 Sh.ty.nil):=by
 match l,m,hl,hm with
 | [x],[y],_,_=>rw [alikeR]; rfl
noncomputable def sAlikeN (n:Nat):Spec
 | [x,y]=>match tyOf x,tyOf y with
  | some t,some u=>some (some (3 * t.size<n∧t.fit∧u.fit),.nm Bool (alikeY t u) bV)
  | _,_=>none
 | _=>none
noncomputable def sAlikeQN (n:Nat):Spec
 | [x,y]=>match prOf x,prOf y with
  | some t,some u=>some (some (3 * t.2.size+1<n∧t.2.fit∧u.2.fit),.nm Bool (alikeY t.2 u.2) bV)
  | _,_=>none
 | _=>none
noncomputable def sAlikePN (n:Nat):Spec
 | [.f (.dt .prm l),.f (.dt .prm m),.f (.v (.func (.func f) ⟨[]⟩ ⟨[]⟩))]=>match Nat.beq f 37 with
  | true=>some (some (3 * szP l+2<n∧fitP l∧fitP m),.nm Bool (decide (l.length=m.length) && alikeP l m) bV)
  | false=>none
 | _=>none
set_option maxHeartbeats 8000000 in
theorem QfR {E:Env} (hU:Up E):∀ n,Contract Tryz.prog E 13 (sAlikeN n)∧Contract Tryz.prog E 37 (sAlikeQN n)∧Contract Tryz.prog E 30 (sAlikePN n)
 | 0=>by
  refine ⟨?_,?_,?_⟩
  · intro xs p r hs hp
    unfold sAlikeN at hs
    split at hs
    · split at hs
      · cases hs
        exact absurd (hp _ rfl).1 (Nat.not_lt_zero _)
      · cases hs
    · cases hs
  · intro xs p r hs hp
    unfold sAlikeQN at hs
    split at hs
    · split at hs
      · cases hs
        exact absurd (hp _ rfl).1 (Nat.not_lt_zero _)
      · cases hs
    · cases hs
  · intro xs p r hs hp
    unfold sAlikePN at hs
    split at hs
    · split at hs
      · cases hs
        exact absurd (hp _ rfl).1 (Nat.not_lt_zero _)
      · cases hs
    · cases hs
 | n+1=>by
  refine ⟨?_,?_,?_⟩
  · refine Qad [(27,QhW),(36,sFunsY),(30,sAlikePN n),(13,sAlikeN n)] [] Tryz.ntmps13 Tryz.func13 (by kernel_rfl) (by kernel_rfl) hU ⟨Qol hU,Qqv hU,(QfR hU n).2.2,(QfR hU n).1,trivial⟩ trivial ?_
    intro xs p r hs hp
    unfold sAlikeN at hs
    split at hs
    · rename_i x y
      split at hs
      · rename_i t u ht hu
        cases hs
        obtain ⟨hn,hf,hg⟩:=hp _ rfl
        refine ⟨[tyP t,tyP u],[(1000002,.s ⟨Unit,fun _=>⟨[(2,.bp 0 0),(3,.bp 1 0),(5,.bp 2 0),(6,.bp 3 0)],[.cells (Qac (tyC t)),.cells (Qac (tyC u)),.cells (Qac (tyC t)),.cells (Qac (tyC u))]⟩,fun _=>True,fun _=>0⟩)],.cons (Qck ht).sub (.cons (Qck hu).sub .nil),rfl,fun _ hsh=>?_⟩
        have e2:=t.size_eq
        have f2:=(Yw.fit_eq t).1 hf
        have g2:=(Yw.fit_eq u).1 hg
        refine Qab (p:=(∃ (x1:Unit),(((rfB (bV t.fn)∧rfB (sV t.sort)∧rfB (uV t.ref.kind)∧rfB (sV t.ref.name)∧rfB (bV t.ref.neg)∧rfB (PV.f (Lf.lr t.ref.digits t.ref.digits.length))∧rfB (dP Sh.tm t.ref.kids)∧rfB (dP Sh.prm t.params)∧rfB (dP Sh.ty t.result)∧True)∧(rfB (bV u.fn)∧rfB (sV u.sort)∧rfB (uV u.ref.kind)∧rfB (sV u.ref.name)∧rfB (bV u.ref.neg)∧rfB (PV.f (Lf.lr u.ref.digits u.ref.digits.length))∧rfB (dP Sh.tm u.ref.kids)∧rfB (dP Sh.prm u.params)∧rfB (dP Sh.ty u.result)∧True)∧(rfB (bV t.fn)∧rfB (sV t.sort)∧rfB (uV t.ref.kind)∧rfB (sV t.ref.name)∧rfB (bV t.ref.neg)∧rfB (PV.f (Lf.lr t.ref.digits t.ref.digits.length))∧rfB (dP Sh.tm t.ref.kids)∧rfB (dP Sh.prm t.params)∧rfB (dP Sh.ty t.result)∧True)∧(rfB (bV u.fn)∧rfB (sV u.sort)∧rfB (uV u.ref.kind)∧rfB (sV u.ref.name)∧rfB (bV u.ref.neg)∧rfB (PV.f (Lf.lr u.ref.digits u.ref.digits.length))∧rfB (dP Sh.tm u.ref.kids)∧rfB (dP Sh.prm u.params)∧rfB (dP Sh.ty u.result)∧True)∧True)∧rfB (PV.bp 0 0)∧rfB (PV.bp 1 0)∧rfB (PV.bp 2 0)∧rfB (PV.bp 3 0)∧True)∧True)∧∀ (z1:Unit),True→∀ (z2:Bool),z2=Qa0 (Yw.mk t.fn t.sort (etaT t.ref) t.params t.result)→ifB z2 (∀ (z3:Bool),z3=Qa0 (Yw.mk u.fn u.sort (etaT u.ref) u.params u.result)→ifB z3 (true=true∧Sub (bV (t.sort.toList==u.sort.toList)) (bV (alikeY t u))) ((Yw.mk t.fn t.sort (etaT t.ref) t.params t.result).ref.fitT∧∀ (z4:Bool),z4=funsY (Yw.mk t.fn t.sort (etaT t.ref) t.params t.result)→ifB (!z4) (true=true∧Sub (bV false) (bV (alikeY t u))) ((Yw.mk u.fn u.sort (etaT u.ref) u.params u.result).ref.fitT∧∀ (z5:Bool),z5=funsY (Yw.mk u.fn u.sort (etaT u.ref) u.params u.result)→ifB (!z5) (true=true∧Sub (bV false) (bV (alikeY t u))) ((3 * szP t.params+2<n∧fitP t.params∧fitP u.params)∧∀ (z6:Bool),z6=(decide (t.params.length=u.params.length) && alikeP t.params u.params)→ifB z6 (((0:Int)≤(0:Int)∧(0:Int)<(↑t.result.length:Int))∧((0:Int)≤(0:Int)∧(0:Int)<(↑u.result.length:Int))∧(3 * (Yw.mk (Yw.fn (t.result.getD (Int.toNat (0:Int)) Sh.ty.nil)) (Yw.sort (t.result.getD (Int.toNat (0:Int)) Sh.ty.nil)) (etaT (Yw.ref (t.result.getD (Int.toNat (0:Int)) Sh.ty.nil))) (Yw.params (t.result.getD (Int.toNat (0:Int)) Sh.ty.nil)) (Yw.result (t.result.getD (Int.toNat (0:Int)) Sh.ty.nil))).size<n∧(Yw.mk (Yw.fn (t.result.getD (Int.toNat (0:Int)) Sh.ty.nil)) (Yw.sort (t.result.getD (Int.toNat (0:Int)) Sh.ty.nil)) (etaT (Yw.ref (t.result.getD (Int.toNat (0:Int)) Sh.ty.nil))) (Yw.params (t.result.getD (Int.toNat (0:Int)) Sh.ty.nil)) (Yw.result (t.result.getD (Int.toNat (0:Int)) Sh.ty.nil))).fit∧(Yw.mk (Yw.fn (u.result.getD (Int.toNat (0:Int)) Sh.ty.nil)) (Yw.sort (u.result.getD (Int.toNat (0:Int)) Sh.ty.nil)) (etaT (Yw.ref (u.result.getD (Int.toNat (0:Int)) Sh.ty.nil))) (Yw.params (u.result.getD (Int.toNat (0:Int)) Sh.ty.nil)) (Yw.result (u.result.getD (Int.toNat (0:Int)) Sh.ty.nil))).fit)∧∀ (z7:Bool),z7=alikeY (Yw.mk (Yw.fn (t.result.getD (Int.toNat (0:Int)) Sh.ty.nil)) (Yw.sort (t.result.getD (Int.toNat (0:Int)) Sh.ty.nil)) (etaT (Yw.ref (t.result.getD (Int.toNat (0:Int)) Sh.ty.nil))) (Yw.params (t.result.getD (Int.toNat (0:Int)) Sh.ty.nil)) (Yw.result (t.result.getD (Int.toNat (0:Int)) Sh.ty.nil))) (Yw.mk (Yw.fn (u.result.getD (Int.toNat (0:Int)) Sh.ty.nil)) (Yw.sort (u.result.getD (Int.toNat (0:Int)) Sh.ty.nil)) (etaT (Yw.ref (u.result.getD (Int.toNat (0:Int)) Sh.ty.nil))) (Yw.params (u.result.getD (Int.toNat (0:Int)) Sh.ty.nil)) (Yw.result (u.result.getD (Int.toNat (0:Int)) Sh.ty.nil)))→true=true∧Sub (bV z7) (bV (alikeY t u))) (true=true∧Sub (bV false) (bV (alikeY t u))))))) ((Yw.mk t.fn t.sort (etaT t.ref) t.params t.result).ref.fitT∧∀ (z3:Bool),z3=funsY (Yw.mk t.fn t.sort (etaT t.ref) t.params t.result)→ifB (!z3) (true=true∧Sub (bV false) (bV (alikeY t u))) ((Yw.mk u.fn u.sort (etaT u.ref) u.params u.result).ref.fitT∧∀ (z4:Bool),z4=funsY (Yw.mk u.fn u.sort (etaT u.ref) u.params u.result)→ifB (!z4) (true=true∧Sub (bV false) (bV (alikeY t u))) ((3 * szP t.params+2<n∧fitP t.params∧fitP u.params)∧∀ (z5:Bool),z5=(decide (t.params.length=u.params.length) && alikeP t.params u.params)→ifB z5 (((0:Int)≤(0:Int)∧(0:Int)<(↑t.result.length:Int))∧((0:Int)≤(0:Int)∧(0:Int)<(↑u.result.length:Int))∧(3 * (Yw.mk (Yw.fn (t.result.getD (Int.toNat (0:Int)) Sh.ty.nil)) (Yw.sort (t.result.getD (Int.toNat (0:Int)) Sh.ty.nil)) (etaT (Yw.ref (t.result.getD (Int.toNat (0:Int)) Sh.ty.nil))) (Yw.params (t.result.getD (Int.toNat (0:Int)) Sh.ty.nil)) (Yw.result (t.result.getD (Int.toNat (0:Int)) Sh.ty.nil))).size<n∧(Yw.mk (Yw.fn (t.result.getD (Int.toNat (0:Int)) Sh.ty.nil)) (Yw.sort (t.result.getD (Int.toNat (0:Int)) Sh.ty.nil)) (etaT (Yw.ref (t.result.getD (Int.toNat (0:Int)) Sh.ty.nil))) (Yw.params (t.result.getD (Int.toNat (0:Int)) Sh.ty.nil)) (Yw.result (t.result.getD (Int.toNat (0:Int)) Sh.ty.nil))).fit∧(Yw.mk (Yw.fn (u.result.getD (Int.toNat (0:Int)) Sh.ty.nil)) (Yw.sort (u.result.getD (Int.toNat (0:Int)) Sh.ty.nil)) (etaT (Yw.ref (u.result.getD (Int.toNat (0:Int)) Sh.ty.nil))) (Yw.params (u.result.getD (Int.toNat (0:Int)) Sh.ty.nil)) (Yw.result (u.result.getD (Int.toNat (0:Int)) Sh.ty.nil))).fit)∧∀ (z6:Bool),z6=alikeY (Yw.mk (Yw.fn (t.result.getD (Int.toNat (0:Int)) Sh.ty.nil)) (Yw.sort (t.result.getD (Int.toNat (0:Int)) Sh.ty.nil)) (etaT (Yw.ref (t.result.getD (Int.toNat (0:Int)) Sh.ty.nil))) (Yw.params (t.result.getD (Int.toNat (0:Int)) Sh.ty.nil)) (Yw.result (t.result.getD (Int.toNat (0:Int)) Sh.ty.nil))) (Yw.mk (Yw.fn (u.result.getD (Int.toNat (0:Int)) Sh.ty.nil)) (Yw.sort (u.result.getD (Int.toNat (0:Int)) Sh.ty.nil)) (etaT (Yw.ref (u.result.getD (Int.toNat (0:Int)) Sh.ty.nil))) (Yw.params (u.result.getD (Int.toNat (0:Int)) Sh.ty.nil)) (Yw.result (u.result.getD (Int.toNat (0:Int)) Sh.ty.nil)))→true=true∧Sub (bV z6) (bV (alikeY t u))) (true=true∧Sub (bV false) (bV (alikeY t u))))))) ?kr ?_
        case kr=>kernel_rfl
        refine ⟨⟨?x0,⟨⟨⟨⟨.refl _,⟨.refl _,⟨.refl _,⟨.refl _,⟨.refl _,⟨.refl _,⟨.refl _,⟨.refl _,⟨.refl _,trivial⟩⟩⟩⟩⟩⟩⟩⟩⟩,⟨⟨.refl _,⟨.refl _,⟨.refl _,⟨.refl _,⟨.refl _,⟨.refl _,⟨.refl _,⟨.refl _,⟨.refl _,trivial⟩⟩⟩⟩⟩⟩⟩⟩⟩,⟨⟨.refl _,⟨.refl _,⟨.refl _,⟨.refl _,⟨.refl _,⟨.refl _,⟨.refl _,⟨.refl _,⟨.refl _,trivial⟩⟩⟩⟩⟩⟩⟩⟩⟩,⟨⟨.refl _,⟨.refl _,⟨.refl _,⟨.refl _,⟨.refl _,⟨.refl _,⟨.refl _,⟨.refl _,⟨.refl _,trivial⟩⟩⟩⟩⟩⟩⟩⟩⟩,trivial⟩⟩⟩⟩,⟨.refl _,⟨.refl _,⟨.refl _,⟨.refl _,trivial⟩⟩⟩⟩⟩,trivial⟩⟩,fun z1=>fun _=>fun z2=>fun hz2=>Qaa.2 ⟨fun hb0=>fun z3=>fun hz3=>Qaa.2 ⟨fun hb1=>⟨rfl,?m0⟩,fun hb1=>⟨?s0,fun z4=>fun hz4=>Qaa.2 ⟨fun hb2=>⟨rfl,?m1⟩,fun hb2=>⟨?s1,fun z5=>fun hz5=>Qaa.2 ⟨fun hb3=>⟨rfl,?m2⟩,fun hb3=>⟨?s2,fun z6=>fun hz6=>Qaa.2 ⟨fun hb4=>⟨?s3,⟨?s4,⟨?s5,fun z7=>fun hz7=>⟨rfl,?m3⟩⟩⟩⟩,fun hb4=>⟨rfl,?m4⟩⟩⟩⟩⟩⟩⟩⟩,fun hb0=>⟨?s6,fun z3=>fun hz3=>Qaa.2 ⟨fun hb5=>⟨rfl,?m5⟩,fun hb5=>⟨?s7,fun z4=>fun hz4=>Qaa.2 ⟨fun hb6=>⟨rfl,?m6⟩,fun hb6=>⟨?s8,fun z5=>fun hz5=>Qaa.2 ⟨fun hb7=>⟨?s9,⟨?s10,⟨?s11,fun z6=>fun hz6=>⟨rfl,?m7⟩⟩⟩⟩,fun hb7=>⟨rfl,?m8⟩⟩⟩⟩⟩⟩⟩⟩⟩
        all_goals try simp only [etaT] at *
        all_goals try simp only [Tw.eta,Yw.eta,bs_l,decide_eq_true_eq,decide_eq_false_iff_not,Bool.not_eq_true',Bool.not_eq_false'] at *
        case x0=>exact ()
        case s0=>exact f2.1.2.1
        case s1=>exact g2.1.2.1
        case s2=>exact ⟨by omega,f2.2.2.1,g2.2.2.1⟩
        case s6=>exact f2.1.2.1
        case s7=>exact g2.1.2.1
        case s8=>exact ⟨by omega,f2.2.2.1,g2.2.2.1⟩
        case s3=>have:=QaC (hz4.symm.trans hb2); omega
        case s4=>have:=QaC (hz5.symm.trans hb3); omega
        case s9=>have:=QaC (hz3.symm.trans hb5); omega
        case s10=>have:=QaC (hz4.symm.trans hb6); omega
        case s5=>exact ⟨by have:=QeT (gotD Sh.ty.nil (show 0<t.result.length by have:=QaC (hz4.symm.trans hb2); omega)); show 3 * Yw.size (t.result.getD 0 Sh.ty.nil)<n; omega,Qca f2.2.2.2 (gotD Sh.ty.nil (show 0<t.result.length by have:=QaC (hz4.symm.trans hb2); omega)),Qca g2.2.2.2 (gotD Sh.ty.nil (show 0<u.result.length by have:=QaC (hz5.symm.trans hb3); omega))⟩
        case s11=>exact ⟨by have:=QeT (gotD Sh.ty.nil (show 0<t.result.length by have:=QaC (hz3.symm.trans hb5); omega)); show 3 * Yw.size (t.result.getD 0 Sh.ty.nil)<n; omega,Qca f2.2.2.2 (gotD Sh.ty.nil (show 0<t.result.length by have:=QaC (hz3.symm.trans hb5); omega)),Qca g2.2.2.2 (gotD Sh.ty.nil (show 0<u.result.length by have:=QaC (hz4.symm.trans hb6); omega))⟩
        case m0=>refine (Qay ?_).sub; rw [QaX,if_pos ⟨hz2.symm.trans hb0,hz3.symm.trans hb1⟩]
        all_goals refine (Qay ?_).sub
        case m1=>rw [QaX,← hz2,← hz3,← hz4,hb0,hb1,hb2]; simp
        case m2=>rw [QaX,← hz2,← hz3,← hz5,hb0,hb1,hb3]; simp
        case m3=>rw [QaX,QgD (QaC (hz4.symm.trans hb2)) (QaC (hz5.symm.trans hb3)),← hz2,← hz3,← hz4,← hz5,hb0,hb1,hb2,hb3,← Bool.and_assoc,← hz6,hb4,hz7]; simp
        case m4=>rw [QaX,← hz2,← hz3,← hz4,← hz5,hb0,hb1,hb2,hb3,← Bool.and_assoc,← hz6,hb4]; simp
        case m5=>rw [QaX,← hz2,← hz3,hb0,hb5]; simp
        case m6=>rw [QaX,← hz2,← hz4,hb0,hb6]; simp
        case m7=>rw [QaX,QgD (QaC (hz3.symm.trans hb5)) (QaC (hz4.symm.trans hb6)),← hz2,← hz3,← hz4,hb0,hb5,hb6,← Bool.and_assoc,← hz5,hb7,hz6]; simp
        case m8=>rw [QaX,← hz2,← hz3,← hz4,hb0,hb5,hb6,← Bool.and_assoc,← hz5,hb7]; simp
      · cases hs
    · cases hs
  · refine Qad [(13,sAlikeN n)] [] Tryz.ntmps37 Tryz.func37 (by kernel_rfl) (by kernel_rfl) hU ⟨(QfR hU n).1,trivial⟩ trivial ?_
    intro xs p r hs hp
    unfold sAlikeQN at hs
    split at hs
    · rename_i x y
      split at hs
      · rename_i t u ht hu
        cases hs
        obtain ⟨hn,hf,hg⟩:=hp _ rfl
        refine ⟨[prP t,prP u],[],.cons (Qks ht).sub (.cons (Qks hu).sub .nil),rfl,fun _ hsh=>?_⟩
        have h0:=hn
        refine Qab (p:=(3 * (Yw.mk t.snd.fn t.snd.sort (etaT t.snd.ref) t.snd.params t.snd.result).size<n∧(Yw.mk t.snd.fn t.snd.sort (etaT t.snd.ref) t.snd.params t.snd.result).fit∧(Yw.mk u.snd.fn u.snd.sort (etaT u.snd.ref) u.snd.params u.snd.result).fit)∧∀ (z1:Bool),z1=alikeY (Yw.mk t.snd.fn t.snd.sort (etaT t.snd.ref) t.snd.params t.snd.result) (Yw.mk u.snd.fn u.snd.sort (etaT u.snd.ref) u.snd.params u.snd.result)→true=true∧Sub (bV z1) (bV (alikeY t.snd u.snd))) ?kr ?_
        case kr=>kernel_rfl
        refine ⟨?s0,fun z1=>fun hz1=>⟨rfl,?m0⟩⟩
        all_goals try simp only [etaT] at *
        all_goals try simp only [Tw.eta,Yw.eta] at *
        case s0=>exact ⟨by omega,hf,hg⟩
        case m0=>rw [hz1]; exact .refl _
      · cases hs
    · cases hs
  · refine Qad [(37,sAlikeQN n)] [] Tryz.ntmps30 Tryz.func30 (by kernel_rfl) (by kernel_rfl) hU ⟨(QfR hU n).2.1,trivial⟩ trivial ?_
    intro xs p r hs hp
    unfold sAlikePN at hs
    split at hs
    · rename_i l m f
      split at hs
      · rename_i hfn
        cases hs
        have hfn:=Nat.eq_of_beq_eq_true hfn
        subst hfn
        obtain ⟨hn,hf,hg⟩:=hp _ rfl
        refine ⟨[.f (.dt .prm l),.f (.dt .prm m),.f (.v (.func (.func 37) ⟨[]⟩ ⟨[]⟩))],[(4,.s ⟨Nat,fun i=>⟨[(0,.f (.dt .prm l)),(1,.f (.dt .prm m)),(2,.f (.v (.func (.func 37) ⟨[]⟩ ⟨[]⟩))),(15,.f (.dt .prm l)),(16,iV l.length),(17,iV i)],[]⟩,fun i=>i≤l.length∧l.length=m.length∧∀ j,j<i→alikeY (l.getD j Sh.prm.nil).2 (m.getD j Sh.prm.nil).2=true,fun i=>l.length - i⟩)],.cons (.refl _) (.cons (.refl _) (.cons (.refl _) .nil)),rfl,fun _ hsh=>?_⟩
        have hl:=Qat hsh.1
        refine Qab (p:=ifB ((↑l.length:Int) != (↑m.length:Int)) (true=true∧Sub (bV false) (bV (decide (l.length=m.length) && alikeP l m))) (∃ (x1:Nat),(True∧rfB (dP Sh.prm l)∧rfB (dP Sh.prm m)∧rfB (PV.f (Lf.v (Value.func (Fn.func 37) (Array.mk []) (Array.mk []))))∧rfB (dP Sh.prm l)∧rfB (iV (↑l.length:Int))∧SubB (iV 0) (iV (↑x1:Int))∧True)∧(x1≤l.length∧l.length=m.length∧∀ (j:Nat),j<x1→alikeY (l.getD j Sh.prm.nil).snd (m.getD j Sh.prm.nil).snd=true)∧True∧∀ (z2:Nat),(z2≤l.length∧l.length=m.length∧∀ (j:Nat),j<z2→alikeY (l.getD j Sh.prm.nil).snd (m.getD j Sh.prm.nil).snd=true)→True→ifB (decide ((↑z2:Int)<(↑l.length:Int))) (((0:Int)≤(↑z2:Int)∧(↑z2:Int)<(↑l.length:Int))∧((0:Int)≤(↑z2:Int)∧(↑z2:Int)<(↑m.length:Int))∧(3 * (Yw.mk (l.getD (↑z2:Int).toNat Sh.prm.nil).snd.fn (l.getD (↑z2:Int).toNat Sh.prm.nil).snd.sort (etaT ((l.getD (↑z2:Int).toNat Sh.prm.nil).snd.ref)) (l.getD (↑z2:Int).toNat Sh.prm.nil).snd.params (l.getD (↑z2:Int).toNat Sh.prm.nil).snd.result).size+1<n∧(Yw.mk (l.getD (↑z2:Int).toNat Sh.prm.nil).snd.fn (l.getD (↑z2:Int).toNat Sh.prm.nil).snd.sort (etaT ((l.getD (↑z2:Int).toNat Sh.prm.nil).snd.ref)) (l.getD (↑z2:Int).toNat Sh.prm.nil).snd.params (l.getD (↑z2:Int).toNat Sh.prm.nil).snd.result).fit∧(Yw.mk (m.getD (↑z2:Int).toNat Sh.prm.nil).snd.fn (m.getD (↑z2:Int).toNat Sh.prm.nil).snd.sort (etaT ((m.getD (↑z2:Int).toNat Sh.prm.nil).snd.ref)) (m.getD (↑z2:Int).toNat Sh.prm.nil).snd.params (m.getD (↑z2:Int).toNat Sh.prm.nil).snd.result).fit)∧∀ (z3:Bool),z3=alikeY (Yw.mk (l.getD (↑z2:Int).toNat Sh.prm.nil).snd.fn (l.getD (↑z2:Int).toNat Sh.prm.nil).snd.sort (etaT ((l.getD (↑z2:Int).toNat Sh.prm.nil).snd.ref)) (l.getD (↑z2:Int).toNat Sh.prm.nil).snd.params (l.getD (↑z2:Int).toNat Sh.prm.nil).snd.result) (Yw.mk (m.getD (↑z2:Int).toNat Sh.prm.nil).snd.fn (m.getD (↑z2:Int).toNat Sh.prm.nil).snd.sort (etaT ((m.getD (↑z2:Int).toNat Sh.prm.nil).snd.ref)) (m.getD (↑z2:Int).toNat Sh.prm.nil).snd.params (m.getD (↑z2:Int).toNat Sh.prm.nil).snd.result)→ifB (!z3) (true=true∧Sub (bV false) (bV (decide (l.length=m.length) && alikeP l m))) (∃ (x4:Nat),(True∧rfB (dP Sh.prm l)∧rfB (dP Sh.prm m)∧rfB (PV.f (Lf.v (Value.func (Fn.func 37) (Array.mk []) (Array.mk []))))∧rfB (dP Sh.prm l)∧rfB (iV (↑l.length:Int))∧SubB (iV (IntKind.i64.wrap ((↑z2:Int)+(1:Int)))) (iV (↑x4:Int))∧True)∧(x4≤l.length∧l.length=m.length∧∀ (j:Nat),j<x4→alikeY (l.getD j Sh.prm.nil).snd (m.getD j Sh.prm.nil).snd=true)∧True∧(l.length - x4).succ.le (l.length - z2))) (true=true∧Sub (bV true) (bV (decide (l.length=m.length) && alikeP l m))))) ?kr ?_
        case kr=>kernel_rfl
        refine Qaa.2 ⟨fun hb0=>⟨rfl,?m0⟩,fun hb0=>⟨?x0,⟨⟨trivial,⟨.refl _,⟨.refl _,⟨.refl _,⟨.refl _,⟨.refl _,⟨?m1,trivial⟩⟩⟩⟩⟩⟩⟩,⟨?s0,⟨trivial,fun z2=>fun hq1=>fun _=>Qaa.2 ⟨fun hb2=>⟨?s1,⟨?s2,⟨?s3,fun z3=>fun hz3=>Qaa.2 ⟨fun hb3=>⟨rfl,?m2⟩,fun hb3=>⟨?x1,⟨⟨trivial,⟨.refl _,⟨.refl _,⟨.refl _,⟨.refl _,⟨.refl _,⟨?m3,trivial⟩⟩⟩⟩⟩⟩⟩,⟨?s4,⟨trivial,?m4⟩⟩⟩⟩⟩⟩⟩⟩,fun hb2=>⟨rfl,?m5⟩⟩⟩⟩⟩⟩⟩
        all_goals try simp only [etaT] at *
        case x0=>exact 0
        case x1=>exact z2+1
        all_goals try simp only [Tw.eta,Yw.eta,bne_iff_ne,ne_eq,bne_eq_false_iff_eq,decide_eq_true_eq,decide_eq_false_iff_not,Int.toNat_natCast,Int.natCast_inj,Bool.not_eq_true',Bool.not_eq_false'] at *
        case m0=>rw [decide_eq_false hb0]; exact .refl _
        case m1=>exact SubB.refl _
        case s0=>exact ⟨Nat.zero_le _,hb0,fun j hj=>absurd hj (Nat.not_lt_zero j)⟩
        case m5 =>
         refine (Qay ?_).sub
         rw [decide_eq_true hq1.2.1,Qed.2 fun i h1 h2=>hq1.2.2 i (by omega)]; rfl
        all_goals have hz:z2<l.length:=by omega
        all_goals have hm:z2<m.length:=by have:=hq1.2.1; omega
        case s1=>omega
        case s2=>omega
        case s3=>exact ⟨by have:=Qj8 (gotD Sh.prm.nil hz); omega,(Qdg hf (gotD Sh.prm.nil hz)).2,(Qdg hg (gotD Sh.prm.nil hm)).2⟩
        case m2 =>
         refine (Qay (Bool.eq_false_iff.2 fun h=>?_).symm).sub
         rw [Bool.and_eq_true,Qed] at h
         rw [hb3,h.2 z2 hz hm] at hz3
         cases hz3
        case m3=>exact Qae (by rw [wJ _ (by omega) (by omega)]; rfl)
        case s4 =>
         rw [hb3] at hz3
         refine ⟨by omega,hq1.2.1,fun j hj=>?_⟩
         by_cases hjz:j=z2
         · subst hjz; exact hz3.symm
         · exact hq1.2.2 j (by omega)
        case m4=>exact (by omega:l.length - (z2+1)<l.length - z2)
      · cases hs
    · cases hs
noncomputable def sAlike:Spec
 | [x,y]=>match tyOf x,tyOf y with
  | some t,some u=>some (some (t.fit∧u.fit),.nm Bool (alikeY t u) bV)
  | _,_=>none
 | _=>none
theorem cAlike {E:Env} (hU:Up E):Contract Tryz.prog E 13 sAlike:=by
 intro xs p r hs hp
 unfold sAlike at hs
 split at hs
 · rename_i x y
   split at hs
   · rename_i t u ht hu
     cases hs
     exact (QfR hU (3 * t.size+1)).1 [x,y] _ _ (by simp only [sAlikeN,ht,hu]; rfl) (fun q hq=>by cases hq; exact ⟨Nat.lt_succ_self _,hp _ rfl⟩)
   · cases hs
 · cases hs
noncomputable def sSameY:Spec
 | [x,y]=>match tyOf x,tyOf y with
  | some t,some u=>some (some (t.fit∧u.fit),.nm Bool (sameY t u) bV)
  | _,_=>none
 | _=>none
theorem cSameY {E:Env} (hU:Up E):Contract Tryz.prog E 11 sSameY:=by
 intro xs p r hs hp
 unfold sSameY at hs
 split at hs
 · rename_i x y
   split at hs
   · rename_i t u ht hu
     cases hs
     exact (Qeb hU (3 * t.size+1)).1 [x,y] _ _ (by simp only [sSameYN,ht,hu]; rfl) (fun q hq=>by cases hq; exact ⟨Nat.lt_succ_self _,hp _ rfl⟩)
   · cases hs
 · cases hs
end Go.Proofs.YtdeacbdpmdfgdaaGreatDoor
