/- How much there is, as far as it is asked: the kit's counts. -/
import Derived.Test.YtpjjdngoblfleaaGreatMk
namespace Go.Proofs.YtpjjdngoblfleaaGreat
open Go.RowKit
set_option linter.unusedVariables false
set_option maxRecDepth 100000
def sTermOfN (n:Nat):Spec
 | [x,.f (.v (.int .i64 m))]=>match tmOf x with
  | some t=>some (some (2 * t.size<n∧cntT t≤4000000∧0≤m∧m≤4000000),.nm Int (capT m t) iV)
  | none=>none
 | _=>none
def sTermsOfN (n:Nat):Spec
 | [.f (.dt .tm l),.f (.v (.int .i64 m))]=>some (some (2 * szL l+1<n∧cntTL l≤4000000∧-1≤m∧m≤4000000),.nm Int (capTL m l) iV)
 | _=>none
theorem cCntN {E:Env} (hU:Up E):∀ n,Contract Tryz.prog E 63 (sTermOfN n)∧Contract Tryz.prog E 25 (sTermsOfN n)
 | 0=>by
  refine ⟨fun xs p r hs hp=>?_,fun xs p r hs hp=>?_⟩
  · unfold sTermOfN at hs
    split at hs
    · split at hs
      · cases hs
        exact absurd (hp _ rfl).1 (Nat.not_lt_zero _)
      · cases hs
    · cases hs
  · unfold sTermsOfN at hs
    split at hs
    · cases hs
      exact absurd (hp _ rfl).1 (Nat.not_lt_zero _)
    · cases hs
 | n+1=>by
  refine ⟨?_,?_⟩
  · refine contract_D [(25,sTermsOfN n)] [] Tryz.ntmps63 Tryz.func63 (by kernel_rfl) (by kernel_rfl) hU ⟨(cCntN hU n).2,trivial⟩ trivial ?_
    intro xs p r hs hp
    unfold sTermOfN at hs
    split at hs
    · rename_i x m
      split at hs
      · rename_i t ht
        cases hs
        obtain ⟨hn,hc,hm0,hm⟩:=hp _ rfl
        refine ⟨[tmP t,.f (.v (.int .i64 m))],[],.cons (tm_sub ht).sub (.cons (.refl _) .nil),rfl,fun _ hsh=>?_⟩
        refine cast_rfl (p:=(2 * szL t.kids+1<n∧cntTL t.kids≤4000000∧(-1:Int)≤IntKind.i64.wrap (m - (1:Int))∧IntKind.i64.wrap (m - (1:Int))≤(4000000:Int))∧∀ (z1:Int),z1=capTL (IntKind.i64.wrap (m - (1:Int))) t.kids→true=true∧Sub (iV (IntKind.i64.wrap (IntKind.i64.wrap (IntKind.i64.wrap ((1:Int)+IntKind.i64.wrap ((↑t.name.size:Int).tdiv (8:Int)))+(↑t.digits.length:Int))+z1))) (iV (capT m t))) ?kr ?_
        case kr=>kernel_rfl
        refine ⟨?s0,fun z1=>fun hz1=>⟨rfl,?m0⟩⟩
        all_goals have e1:IntKind.i64.wrap (m - 1)=m - 1:=wJ _ (by omega) (by omega)
        all_goals have q:=cntT_eq t
        all_goals have q1:=t.size_eq
        all_goals have e8:((t.name.size:Int)).tdiv 8=((t.name.size / 8:Nat):Int):=(Int.ofNat_tdiv _ 8).symm
        all_goals have r:=capTL_rng t.kids (m - 1)
        case s0=>rw [e1]; exact ⟨by omega,by omega,by omega,by omega⟩
        case m0 =>
         rw [e1] at hz1
         have p:=capT_eq m t
         refine (subB_i ?_).sub
         rw [e8]
         simp (disch:=omega) only [wJ]
         omega
      · cases hs
    · cases hs
  · refine contract_D [(63,sTermOfN n)] [] Tryz.ntmps25 Tryz.func25 (by kernel_rfl) (by kernel_rfl) hU ⟨(cCntN hU n).1,trivial⟩ trivial ?_
    intro xs p r hs hp
    unfold sTermsOfN at hs
    split at hs
    · rename_i l m
      cases hs
      obtain ⟨hn,hc,hm0,hm⟩:=hp _ rfl
      refine ⟨[.f (.dt .tm l),.f (.v (.int .i64 m))],[(3,.s ⟨Nat × Int,fun y=>⟨[(0,.f (.dt .tm l)),(1,iV m),(5,iV y.2),(6,iV y.1)],[]⟩,fun y=>y.1≤l.length∧capTL m l=y.2+capTL (m - y.2) (l.drop y.1)∧0≤y.2∧y.2≤cntTL (l.take y.1),fun y=>l.length - y.1⟩)],.cons (.refl _) (.cons (.refl _) .nil),rfl,fun _ hsh=>?_⟩
      have hl:=short_row hsh.1
      refine cast_rfl (p:=∃ (x1:Nat × Int),(True∧SubB (PV.f (Lf.dt Sh.tm l)) (PV.f (Lf.dt Sh.tm l))∧SubB (iV m) (iV m)∧SubB (iV 0) (iV x1.snd)∧SubB (iV 0) (iV (↑x1.fst:Int))∧True)∧(x1.fst≤l.length∧capTL m l=x1.snd+capTL (m - x1.snd) (List.drop x1.fst l)∧(0:Int)≤x1.snd∧x1.snd≤(↑(cntTL (List.take x1.fst l)):Int))∧True∧∀ (z2:Nat × Int),z2.fst≤l.length∧capTL m l=z2.snd+capTL (m - z2.snd) (List.drop z2.fst l)∧(0:Int)≤z2.snd∧z2.snd≤(↑(cntTL (List.take z2.fst l)):Int)→True→ifB (decide ((↑z2.fst:Int)<(↑l.length:Int))) (ifB (decide (z2.snd≤m)) (((0:Int)≤(↑z2.fst:Int)∧(↑z2.fst:Int)<(↑l.length:Int))∧(2 * (Tw.mk (Tw.kind (l.getD (↑z2.fst:Int).toNat Sh.tm.nil)) (Tw.name (l.getD (↑z2.fst:Int).toNat Sh.tm.nil)) (Tw.neg (l.getD (↑z2.fst:Int).toNat Sh.tm.nil)) (Tw.digits (l.getD (↑z2.fst:Int).toNat Sh.tm.nil)) (Tw.kids (l.getD (↑z2.fst:Int).toNat Sh.tm.nil))).size<n∧cntT (Tw.mk (Tw.kind (l.getD (↑z2.fst:Int).toNat Sh.tm.nil)) (Tw.name (l.getD (↑z2.fst:Int).toNat Sh.tm.nil)) (Tw.neg (l.getD (↑z2.fst:Int).toNat Sh.tm.nil)) (Tw.digits (l.getD (↑z2.fst:Int).toNat Sh.tm.nil)) (Tw.kids (l.getD (↑z2.fst:Int).toNat Sh.tm.nil)))≤4000000∧(0:Int)≤IntKind.i64.wrap (m - z2.snd)∧IntKind.i64.wrap (m - z2.snd)≤(4000000:Int))∧∀ (z3:Int),z3=capT (IntKind.i64.wrap (m - z2.snd)) (Tw.mk (Tw.kind (l.getD (↑z2.fst:Int).toNat Sh.tm.nil)) (Tw.name (l.getD (↑z2.fst:Int).toNat Sh.tm.nil)) (Tw.neg (l.getD (↑z2.fst:Int).toNat Sh.tm.nil)) (Tw.digits (l.getD (↑z2.fst:Int).toNat Sh.tm.nil)) (Tw.kids (l.getD (↑z2.fst:Int).toNat Sh.tm.nil)))→∃ (x4:Nat × Int),(True∧SubB (PV.f (Lf.dt Sh.tm l)) (PV.f (Lf.dt Sh.tm l))∧SubB (iV m) (iV m)∧SubB (iV (IntKind.i64.wrap (z2.snd+z3))) (iV x4.snd)∧SubB (iV (IntKind.i64.wrap ((↑z2.fst:Int)+(1:Int)))) (iV (↑x4.fst:Int))∧True)∧(x4.fst≤l.length∧capTL m l=x4.snd+capTL (m - x4.snd) (List.drop x4.fst l)∧(0:Int)≤x4.snd∧x4.snd≤(↑(cntTL (List.take x4.fst l)):Int))∧True∧(l.length - x4.fst).succ.le (l.length - z2.fst)) (true=true∧Sub (iV z2.snd) (iV (capTL m l)))) (true=true∧Sub (iV z2.snd) (iV (capTL m l)))) ?kr ?_
      case kr=>kernel_rfl
      refine ⟨?x0,⟨⟨trivial,⟨.refl _,⟨.refl _,⟨?m0,⟨?m1,trivial⟩⟩⟩⟩⟩,⟨?s0,⟨trivial,fun z2=>fun hq0=>fun _=>ifB_iff.2 ⟨fun hb1=>ifB_iff.2 ⟨fun hb2=>⟨?s1,⟨?s2,fun z3=>fun hz3=>⟨?x1,⟨⟨trivial,⟨.refl _,⟨.refl _,⟨?m2,⟨?m3,trivial⟩⟩⟩⟩⟩,⟨?s3,⟨trivial,?m4⟩⟩⟩⟩⟩⟩,fun hb2=>⟨rfl,?m5⟩⟩,fun hb1=>⟨rfl,?m6⟩⟩⟩⟩⟩⟩
      case x0=>exact (0,0)
      case x1=>exact (z2.1+1,z2.2+z3)
      all_goals try simp only [decide_eq_true_eq,decide_eq_false_iff_not,Int.toNat_natCast,Tw.eta] at *
      case m0=>exact .refl _
      case m1=>exact .refl _
      case s0=>exact ⟨Nat.zero_le _,by simp,by simp,by simp [cntTL]⟩
      all_goals obtain ⟨q1,q2,q3,q4⟩:=hq0
      case m5=>exact (subB_i (capTL_stop q2 (.inr (by omega))).symm).sub
      case m6=>exact (subB_i (capTL_stop q2 (.inl (by omega))).symm).sub
      all_goals have hz:z2.1<l.length:=by omega
      all_goals have t1:=cntTL_take l z2.1
      all_goals have e1:IntKind.i64.wrap (m - z2.2)=m - z2.2:=wJ _ (by omega) (by omega)
      case s1=>omega
      case s2 =>
       have h1:=szL_le hz
       rw [getD_any hz default Sh.tm.nil] at h1
       have h2:=cntTL_at Sh.tm.nil hz
       rw [e1]
       exact ⟨by omega,by omega,by omega,by omega⟩
      all_goals rw [e1] at hz3
      all_goals have r:=capT_rng (l.getD z2.1 Sh.tm.nil) (m - z2.2)
      all_goals have t2:=cntTL_next hz
      all_goals have t3:=cntTL_take l (z2.1+1)
      case m2=>exact subB_i (wJ _ (by omega) (by omega))
      case m3=>exact subB_i (wJ _ (by omega) (by omega))
      case s3=>exact ⟨by omega,by subst hz3; exact capTL_at _ _ _ _ q2 hz (by omega),by show 0≤z2.2+z3; omega,by show z2.2+z3≤_; omega⟩
      case m4 =>
       have:l.length - (z2.1+1)<l.length - z2.1:=by omega
       exact this
    · cases hs
def sDatasOf:Spec
 | [.f (.dt .dat l),.f (.v (.int .i64 m))]=>some (some (cntD l≤4000000∧0≤m∧m≤4000000),.nm Int (capD m l) iV)
 | _=>none
theorem cDatasOf {E:Env} (hU:Up E):Contract Tryz.prog E 23 sDatasOf:=by
 refine contract_D [] [] Tryz.ntmps23 Tryz.func23 (by kernel_rfl) (by kernel_rfl) hU trivial trivial ?_
 intro xs p r hs hp
 unfold sDatasOf at hs
 split at hs
 · rename_i l m
   cases hs
   obtain ⟨hc,hm0,hm⟩:=hp _ rfl
   refine ⟨[.f (.dt .dat l),.f (.v (.int .i64 m))],[(3,.s ⟨Nat × Int,fun y=>⟨[(0,.f (.dt .dat l)),(1,iV m),(5,iV y.2),(6,iV y.1)],[]⟩,fun y=>y.1≤l.length∧capD m l=y.2+capD (m - y.2) (l.drop y.1)∧0≤y.2∧y.2≤cntD (l.take y.1),fun y=>l.length - y.1⟩),
    (7,⟨Nat × Nat × Int,fun y=>⟨[(0,.f (.dt .dat l)),(1,iV m),(5,iV y.2.2),(6,iV y.1),(7,iV y.2.1)],[]⟩,fun y=>y.1<l.length∧y.2.1≤(Dat.cons (l.getD y.1 Sh.dat.nil)).length∧0≤y.2.2∧y.2.2≤((cntD (l.take y.1)+1+(Dat.name (l.getD y.1 Sh.dat.nil)).size / 8+cntK ((Dat.cons (l.getD y.1 Sh.dat.nil)).take y.2.1):Nat):Int),fun y=>(Dat.cons (l.getD y.1 Sh.dat.nil)).length - y.2.1,fun x y=>y.1=x.1∧x.2.2+capK (m - x.2.2) ((Dat.cons (l.getD x.1 Sh.dat.nil)).drop x.2.1)=y.2.2+capK (m - y.2.2) ((Dat.cons (l.getD x.1 Sh.dat.nil)).drop y.2.1)⟩)],.cons (.refl _) (.cons (.refl _) .nil),rfl,fun _ hsh=>?_⟩
   have hl:=short_row hsh.1
   refine cast_rfl (p:=∃ (x1:Nat × Int),(True∧SubB (PV.f (Lf.dt Sh.dat l)) (PV.f (Lf.dt Sh.dat l))∧SubB (iV m) (iV m)∧SubB (iV 0) (iV x1.snd)∧SubB (iV 0) (iV (↑x1.fst:Int))∧True)∧(x1.fst≤l.length∧capD m l=x1.snd+capD (m - x1.snd) (List.drop x1.fst l)∧(0:Int)≤x1.snd∧x1.snd≤(↑(cntD (List.take x1.fst l)):Int))∧True∧∀ (z2:Nat × Int),z2.fst≤l.length∧capD m l=z2.snd+capD (m - z2.snd) (List.drop z2.fst l)∧(0:Int)≤z2.snd∧z2.snd≤(↑(cntD (List.take z2.fst l)):Int)→True→ifB (decide ((↑z2.fst:Int)<(↑l.length:Int))) (ifB (decide (z2.snd≤m)) (((0:Int)≤(↑z2.fst:Int)∧(↑z2.fst:Int)<(↑l.length:Int))∧∃ (x3:Nat × Nat × Int),(True∧SubB (PV.f (Lf.dt Sh.dat l)) (PV.f (Lf.dt Sh.dat l))∧SubB (iV m) (iV m)∧SubB (iV (IntKind.i64.wrap (IntKind.i64.wrap (z2.snd+(1:Int))+IntKind.i64.wrap ((↑(l.getD (↑z2.fst:Int).toNat Sh.dat.nil).name.size:Int).tdiv (8:Int))))) (iV x3.snd.snd)∧SubB (iV (↑z2.fst:Int)) (iV (↑x3.fst:Int))∧SubB (iV 0) (iV (↑x3.snd.fst:Int))∧True)∧(x3.fst<l.length∧x3.snd.fst≤(l.getD x3.fst Sh.dat.nil).cons.length∧(0:Int)≤x3.snd.snd∧x3.snd.snd≤(↑(cntD (List.take x3.fst l)+1+(l.getD x3.fst Sh.dat.nil).name.size / 8+cntK (List.take x3.snd.fst (l.getD x3.fst Sh.dat.nil).cons)):Int))∧(x3.fst=x3.fst∧x3.snd.snd+capK (m - x3.snd.snd) (List.drop x3.snd.fst (l.getD x3.fst Sh.dat.nil).cons)=x3.snd.snd+capK (m - x3.snd.snd) (List.drop x3.snd.fst (l.getD x3.fst Sh.dat.nil).cons))∧∀ (z4:Nat × Nat × Int),z4.fst<l.length∧z4.snd.fst≤(l.getD z4.fst Sh.dat.nil).cons.length∧(0:Int)≤z4.snd.snd∧z4.snd.snd≤(↑(cntD (List.take z4.fst l)+1+(l.getD z4.fst Sh.dat.nil).name.size / 8+cntK (List.take z4.snd.fst (l.getD z4.fst Sh.dat.nil).cons)):Int)→z4.fst=x3.fst∧x3.snd.snd+capK (m - x3.snd.snd) (List.drop x3.snd.fst (l.getD x3.fst Sh.dat.nil).cons)=z4.snd.snd+capK (m - z4.snd.snd) (List.drop z4.snd.fst (l.getD x3.fst Sh.dat.nil).cons)→((0:Int)≤(↑z4.fst:Int)∧(↑z4.fst:Int)<(↑l.length:Int))∧ifB (decide ((↑z4.snd.fst:Int)<(↑(l.getD (↑z4.fst:Int).toNat Sh.dat.nil).cons.length:Int))) (ifB (decide (z4.snd.snd≤m)) (((0:Int)≤(↑z4.fst:Int)∧(↑z4.fst:Int)<(↑l.length:Int))∧((0:Int)≤(↑z4.snd.fst:Int)∧(↑z4.snd.fst:Int)<(↑(l.getD (↑z4.fst:Int).toNat Sh.dat.nil).cons.length:Int))∧((0:Int)≤(↑z4.fst:Int)∧(↑z4.fst:Int)<(↑l.length:Int))∧((0:Int)≤(↑z4.snd.fst:Int)∧(↑z4.snd.fst:Int)<(↑(l.getD (↑z4.fst:Int).toNat Sh.dat.nil).cons.length:Int))∧∃ (x5:Nat × Nat × Int),(True∧SubB (PV.f (Lf.dt Sh.dat l)) (PV.f (Lf.dt Sh.dat l))∧SubB (iV m) (iV m)∧SubB (iV (IntKind.i64.wrap (IntKind.i64.wrap (IntKind.i64.wrap (z4.snd.snd+(1:Int))+IntKind.i64.wrap ((↑((l.getD (↑z4.fst:Int).toNat Sh.dat.nil).cons.getD (↑z4.snd.fst:Int).toNat Sh.con.nil).name.size:Int).tdiv (8:Int)))+(↑((l.getD (↑z4.fst:Int).toNat Sh.dat.nil).cons.getD (↑z4.snd.fst:Int).toNat Sh.con.nil).fields.length:Int)))) (iV x5.snd.snd)∧SubB (iV (↑z4.fst:Int)) (iV (↑x5.fst:Int))∧SubB (iV (IntKind.i64.wrap ((↑z4.snd.fst:Int)+(1:Int)))) (iV (↑x5.snd.fst:Int))∧True)∧(x5.fst<l.length∧x5.snd.fst≤(l.getD x5.fst Sh.dat.nil).cons.length∧(0:Int)≤x5.snd.snd∧x5.snd.snd≤(↑(cntD (List.take x5.fst l)+1+(l.getD x5.fst Sh.dat.nil).name.size / 8+cntK (List.take x5.snd.fst (l.getD x5.fst Sh.dat.nil).cons)):Int))∧(x5.fst=x3.fst∧x3.snd.snd+capK (m - x3.snd.snd) (List.drop x3.snd.fst (l.getD x3.fst Sh.dat.nil).cons)=x5.snd.snd+capK (m - x5.snd.snd) (List.drop x5.snd.fst (l.getD x3.fst Sh.dat.nil).cons))∧((l.getD x5.fst Sh.dat.nil).cons.length - x5.snd.fst).succ.le ((l.getD z4.fst Sh.dat.nil).cons.length - z4.snd.fst)) (∃ (x5:Nat × Int),(True∧SubB (PV.f (Lf.dt Sh.dat l)) (PV.f (Lf.dt Sh.dat l))∧SubB (iV m) (iV m)∧SubB (iV z4.snd.snd) (iV x5.snd)∧SubB (iV (IntKind.i64.wrap ((↑z4.fst:Int)+(1:Int)))) (iV (↑x5.fst:Int))∧True)∧(x5.fst≤l.length∧capD m l=x5.snd+capD (m - x5.snd) (List.drop x5.fst l)∧(0:Int)≤x5.snd∧x5.snd≤(↑(cntD (List.take x5.fst l)):Int))∧True∧(l.length - x5.fst).succ.le (l.length - z2.fst))) (∃ (x5:Nat × Int),(True∧SubB (PV.f (Lf.dt Sh.dat l)) (PV.f (Lf.dt Sh.dat l))∧SubB (iV m) (iV m)∧SubB (iV z4.snd.snd) (iV x5.snd)∧SubB (iV (IntKind.i64.wrap ((↑z4.fst:Int)+(1:Int)))) (iV (↑x5.fst:Int))∧True)∧(x5.fst≤l.length∧capD m l=x5.snd+capD (m - x5.snd) (List.drop x5.fst l)∧(0:Int)≤x5.snd∧x5.snd≤(↑(cntD (List.take x5.fst l)):Int))∧True∧(l.length - x5.fst).succ.le (l.length - z2.fst))) (true=true∧Sub (iV z2.snd) (iV (capD m l)))) (true=true∧Sub (iV z2.snd) (iV (capD m l)))) ?kr ?_
   case kr=>kernel_rfl
   refine ⟨?x0,⟨⟨trivial,⟨.refl _,⟨.refl _,⟨?m0,⟨?m1,trivial⟩⟩⟩⟩⟩,⟨?s0,⟨trivial,fun z2=>fun hq0=>fun _=>ifB_iff.2 ⟨fun hb1=>ifB_iff.2 ⟨fun hb2=>⟨?s1,⟨?x1,⟨⟨trivial,⟨.refl _,⟨.refl _,⟨?m2,⟨?m3,⟨?m4,trivial⟩⟩⟩⟩⟩⟩,⟨?s2,⟨⟨rfl,rfl⟩,fun z4=>fun hq3=>fun hq4=>⟨?s3,ifB_iff.2 ⟨fun hb5=>ifB_iff.2 ⟨fun hb6=>⟨?s4,⟨?s5,⟨?s6,⟨?s7,⟨?x2,⟨⟨trivial,⟨.refl _,⟨.refl _,⟨?m5,⟨?m6,⟨?m7,trivial⟩⟩⟩⟩⟩⟩,⟨?s8,⟨?s9,?m8⟩⟩⟩⟩⟩⟩⟩⟩,fun hb6=>⟨?x3,⟨⟨trivial,⟨.refl _,⟨.refl _,⟨?m9,⟨?m10,trivial⟩⟩⟩⟩⟩,⟨?s10,⟨trivial,?m11⟩⟩⟩⟩⟩,fun hb5=>⟨?x4,⟨⟨trivial,⟨.refl _,⟨.refl _,⟨?m12,⟨?m13,trivial⟩⟩⟩⟩⟩,⟨?s11,⟨trivial,?m14⟩⟩⟩⟩⟩⟩⟩⟩⟩⟩⟩,fun hb2=>⟨rfl,?m15⟩⟩,fun hb1=>⟨rfl,?m16⟩⟩⟩⟩⟩⟩
   case x0=>exact (0,0)
   case x1=>exact (z2.1,0,z2.2+((1+(Dat.name (l.getD z2.1 Sh.dat.nil)).size / 8:Nat):Int))
   case x2=>exact (z4.1,z4.2.1+1,z4.2.2+((1+(Cn.name ((Dat.cons (l.getD z4.1 Sh.dat.nil)).getD z4.2.1 Sh.con.nil)).size / 8+(Cn.fields ((Dat.cons (l.getD z4.1 Sh.dat.nil)).getD z4.2.1 Sh.con.nil)).length:Nat):Int))
   case x3=>exact (z4.1+1,z4.2.2)
   case x4=>exact (z4.1+1,z4.2.2)
   all_goals try simp only [decide_eq_true_eq,decide_eq_false_iff_not,Int.toNat_natCast] at *
   case m0=>exact .refl _
   case m1=>exact .refl _
   case m3=>exact .refl _
   case m4=>exact .refl _
   case m6=>exact .refl _
   case m9=>exact .refl _
   case m12=>exact .refl _
   case s0=>exact ⟨Nat.zero_le _,by simp,by simp,by simp [cntD]⟩
   all_goals obtain ⟨q1,q2,q3,q4⟩:=hq0
   case m15=>exact (subB_i (capD_stop q2 (.inr (by omega))).symm).sub
   case m16=>exact (subB_i (capD_stop q2 (.inl (by omega))).symm).sub
   all_goals have hz:z2.1<l.length:=by omega
   all_goals have t1:=cntD_take l z2.1
   all_goals have t2:=cntD_next hz
   all_goals have t3:=cntD_take l (z2.1+1)
   all_goals have e8:(((Dat.name (l.getD z2.1 Sh.dat.nil)).size:Int)).tdiv 8=(((Dat.name (l.getD z2.1 Sh.dat.nil)).size / 8:Nat):Int):=(Int.ofNat_tdiv _ 8).symm
   case s1=>omega
   case m2 =>
    refine subB_i ?_
    rw [e8]
    simp (disch:=omega) only [wJ]
    omega
   case s2=>exact ⟨hz,Nat.zero_le _,by show 0≤z2.2+((1+(Dat.name (l.getD z2.1 Sh.dat.nil)).size / 8:Nat):Int); omega,by simp only [List.take_zero,cntK]; omega⟩
   all_goals obtain ⟨p0,p1,p2,p3⟩:=hq3
   all_goals obtain ⟨r0,r1⟩:=hq4
   all_goals have r0:z4.1=z2.1:=r0
   all_goals simp only [r0] at *
   all_goals have u1:=cntK_take (Dat.cons (l.getD z2.1 Sh.dat.nil)) z4.2.1
   case s3=>omega
   case s4=>omega
   case s6=>omega
   case m10=>exact subB_i (wJ _ (by omega) (by omega))
   case m13=>exact subB_i (wJ _ (by omega) (by omega))
   case m11 =>
    have:l.length - (z2.1+1)<l.length - z2.1:=by omega
    exact this
   case m14 =>
    have:l.length - (z2.1+1)<l.length - z2.1:=by omega
    exact this
   case s10=>exact ⟨by show z2.1+1≤_; omega,capD_in q2 hz (by omega) (r1.trans (capK_stop rfl (.inr (by omega)))),p2,by show z4.2.2≤_; omega⟩
   case s11=>exact ⟨by show z2.1+1≤_; omega,capD_in q2 hz (by omega) (r1.trans (capK_stop rfl (.inl (by omega)))),p2,by show z4.2.2≤_; omega⟩
   all_goals have hk:z4.2.1<(Dat.cons (l.getD z2.1 Sh.dat.nil)).length:=by omega
   all_goals have u2:=cntK_next hk
   all_goals have u3:=cntK_take (Dat.cons (l.getD z2.1 Sh.dat.nil)) (z4.2.1+1)
   case s5=>omega
   case s7=>omega
   all_goals have e9:(((Cn.name ((Dat.cons (l.getD z2.1 Sh.dat.nil)).getD z4.2.1 Sh.con.nil)).size:Int)).tdiv 8=(((Cn.name ((Dat.cons (l.getD z2.1 Sh.dat.nil)).getD z4.2.1 Sh.con.nil)).size / 8:Nat):Int):=(Int.ofNat_tdiv _ 8).symm
   all_goals have hcl:=cntK_len (Dat.cons (l.getD z2.1 Sh.dat.nil))
   case m5 =>
    refine subB_i ?_
    rw [e9]
    simp (disch:=omega) only [wJ]
    omega
   case m7=>exact subB_i (wJ _ (by omega) (by omega))
   case s8=>exact ⟨hz,by show z4.2.1+1≤_; omega,by show 0≤z4.2.2+((1+(Cn.name ((Dat.cons (l.getD z2.1 Sh.dat.nil)).getD z4.2.1 Sh.con.nil)).size / 8+(Cn.fields ((Dat.cons (l.getD z2.1 Sh.dat.nil)).getD z4.2.1 Sh.con.nil)).length:Nat):Int); omega,by show z4.2.2+((1+(Cn.name ((Dat.cons (l.getD z2.1 Sh.dat.nil)).getD z4.2.1 Sh.con.nil)).size / 8+(Cn.fields ((Dat.cons (l.getD z2.1 Sh.dat.nil)).getD z4.2.1 Sh.con.nil)).length:Nat):Int)≤_; omega⟩
   case s9=>exact ⟨trivial,r1.trans (capK_at _ _ _ _ _ rfl hk (by omega))⟩
   case m8 =>
    have:(Dat.cons (l.getD z2.1 Sh.dat.nil)).length - (z4.2.1+1)<(Dat.cons (l.getD z2.1 Sh.dat.nil)).length - z4.2.1:=by omega
    exact this
 · cases hs
end Go.Proofs.YtpjjdngoblfleaaGreat
