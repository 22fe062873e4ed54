/- The layer num by the pure run: what it hands out. -/
import Derived.Test.YtpjjdngoblfleaaGreatPp
namespace Go.Proofs.YtpjjdngoblfleaaGreat
open Go.RowKit
set_option linter.unusedVariables false
set_option maxRecDepth 100000
def sTimesN:Spec
 | [.agg [.f (.zd a k),.f (.zn z)],.agg [.f (.zd a' k'),.f (.zn z')]]=>some (some (a=z∧a'=z'∧k+k'≤4500000),.nm Int (z * z') fun y=>nP y (k+k'+1))
 | _=>none
def sRightNat:Spec
 | [.f x]=>match limL x with
  | some (l,k)=>some (some (k≤100000000),.one (.f (.v (.bool (rgtB l)))))
  | none=>none
 | _=>none
theorem cRightNat {E:Env}:Contract Tryz.prog E 107 sRightNat:=by
 intro xs p r hs hp w H vs hf hE hvs
 unfold sRightNat at hs
 split at hs
 · rename_i x
   split at hs
   · rename_i l k hx
     cases hs
     have hk:=hp _ rfl
     obtain ⟨v,rfl,hv⟩:=one_arg hvs
     obtain ⟨h1,h2,h3⟩:=limL_rd hx hv.rd hf
     refine (natRight_any v l w h1 (by omega)).mono ?_
     rintro e w' ⟨rfl,rfl⟩
     exact ⟨_,_,rfl,Ext.refl hf,.f (.v _ rfl)⟩
   · cases hs
 · cases hs
section
variable {E : Env} (hU : Up E)
include hU
theorem cOfNN:Contract Tryz.prog E 52 sOf:=by
 refine contract_loopsG [(92,sSmall),(93,sOutN)] Tryz.ntmps52 Tryz.func52 (by kernel_rfl) (by kernel_rfl) hU ⟨cSmall hU,cOutN hU,trivial⟩ ?_
 intro xs p r hs hp
 unfold sOf at hs
 split at hs
 · rename_i n
   cases hs
   have hk:=hp _ rfl
   refine ⟨[.f (.v (.int .i64 n))],[],.cons (.refl _) .nil,rfl,fun hgx hg=>?_⟩
   refine cast_rfl (p:=ifB (decide (n<(0:Int))) (((0:Int)≤IntKind.u64.wrap ((0:Int) - IntKind.u64.wrap n)∧IntKind.u64.wrap ((0:Int) - IntKind.u64.wrap n)<(18446744073709551616:Int))∧∀ (z1:Int),z1=zOf true (IntKind.u64.wrap ((0:Int) - IntKind.u64.wrap n)).toNat→z1=z1∧true=true∧Sub (PV.agg [PV.f (Lf.zn z1),PV.f (Lf.zd z1 3)]) (PV.agg [PV.f (Lf.zn n),PV.f (Lf.zd n 3)])) (((0:Int)≤IntKind.u64.wrap n∧IntKind.u64.wrap n<(18446744073709551616:Int))∧∀ (z1:Int),z1=zOf false (IntKind.u64.wrap n).toNat→z1=z1∧true=true∧Sub (PV.agg [PV.f (Lf.zn z1),PV.f (Lf.zd z1 3)]) (PV.agg [PV.f (Lf.zn n),PV.f (Lf.zd n 3)]))) (by kernel_rfl) ?_
   refine ifB_iff.2 ⟨fun hb0=>⟨?s0,fun z1=>fun hz1=>⟨rfl,⟨rfl,?m0⟩⟩⟩,fun hb0=>⟨?s1,fun z1=>fun hz1=>⟨rfl,⟨rfl,?m1⟩⟩⟩⟩
   case s0=>simp [IntKind.wrap,IntKind.bits,IntKind.signed]; omega
   case s1=>simp [IntKind.wrap,IntKind.bits,IntKind.signed]; omega
   case m0 =>
    have h1:=of_decide_eq_true hb0
    have e:z1=n:=by
     rw [hz1,zOf_true]
     simp [IntKind.wrap,IntKind.bits,IntKind.signed]
     omega
    subst e
    exact .refl _
   case m1 =>
    have h1:=of_decide_eq_false hb0
    have e:z1=n:=by
     rw [hz1,zOf_false]
     simp [IntKind.wrap,IntKind.bits,IntKind.signed]
     omega
    subst e
    exact .refl _
 · cases hs
theorem cCmpNN:Contract Tryz.prog E 90 sCmp:=by
 refine contract_loopsG [(122,sOfN2),(123,sCmpS)] Tryz.ntmps90 Tryz.func90 (by kernel_rfl) (by kernel_rfl) hU ⟨cOfN2 hU,cCmpS hU,trivial⟩ ?_
 intro xs p r hs hp
 unfold sCmp at hs
 split at hs
 · rename_i x y
   split at hs
   · rename_i n l k j n' l' k' j' hx hy
     cases hs
     have hk:=hp _ rfl
     refine ⟨[rawP n l k,rawP n' l' k'],[],.cons (sub_raw hx) (.cons (sub_raw hy) .nil),rfl,fun hgx hg=>?_⟩
     refine cast_rfl (p:=k≤100000000∧∀ (z1:Int),z1=zV n l→k'≤100000000∧∀ (z2:Int),z2=zV n' l'→ifB (!zNeg z1==zNeg z2) (ifB (zNeg z1) (true=true∧Sub (PV.f (Lf.v (Value.int IntKind.i64 (-1:Int)))) (PV.f (Lf.v (Value.int IntKind.i64 (cmpI (zV n l) (zV n' l')))))) (ifB (!zNeg z1==zNeg z2) (true=true∧Sub (PV.f (Lf.v (Value.int IntKind.i64 (1:Int)))) (PV.f (Lf.v (Value.int IntKind.i64 (cmpI (zV n l) (zV n' l')))))) (ifB (zNeg z1) ((k'+1≤10000000∧k+1≤10000000)∧true=true∧Sub (PV.f (Lf.v (Value.int IntKind.i64 (cmpI (↑z2.natAbs:Int) (↑z1.natAbs:Int))))) (PV.f (Lf.v (Value.int IntKind.i64 (cmpI (zV n l) (zV n' l')))))) ((k+1≤10000000∧k'+1≤10000000)∧true=true∧Sub (PV.f (Lf.v (Value.int IntKind.i64 (cmpI (↑z1.natAbs:Int) (↑z2.natAbs:Int))))) (PV.f (Lf.v (Value.int IntKind.i64 (cmpI (zV n l) (zV n' l'))))))))) (ifB (!zNeg z1==zNeg z2) (true=true∧Sub (PV.f (Lf.v (Value.int IntKind.i64 (1:Int)))) (PV.f (Lf.v (Value.int IntKind.i64 (cmpI (zV n l) (zV n' l')))))) (ifB (zNeg z1) ((k'+1≤10000000∧k+1≤10000000)∧true=true∧Sub (PV.f (Lf.v (Value.int IntKind.i64 (cmpI (↑z2.natAbs:Int) (↑z1.natAbs:Int))))) (PV.f (Lf.v (Value.int IntKind.i64 (cmpI (zV n l) (zV n' l')))))) ((k+1≤10000000∧k'+1≤10000000)∧true=true∧Sub (PV.f (Lf.v (Value.int IntKind.i64 (cmpI (↑z1.natAbs:Int) (↑z2.natAbs:Int))))) (PV.f (Lf.v (Value.int IntKind.i64 (cmpI (zV n l) (zV n' l'))))))))) (by kernel_rfl) ?_
     refine ⟨?s0,fun z1=>fun hz1=>⟨?s1,fun z2=>fun hz2=>ifB_iff.2 ⟨fun hb0=>ifB_iff.2 ⟨fun hb1=>⟨rfl,?m0⟩,fun hb1=>ifB_iff.2 ⟨fun hb2=>⟨rfl,?m1⟩,fun hb2=>ifB_iff.2 ⟨fun hb3=>⟨?s2,⟨rfl,?m2⟩⟩,fun hb3=>⟨?s3,⟨rfl,?m3⟩⟩⟩⟩⟩,fun hb0=>ifB_iff.2 ⟨fun hb4=>⟨rfl,?m4⟩,fun hb4=>ifB_iff.2 ⟨fun hb5=>⟨?s4,⟨rfl,?m5⟩⟩,fun hb5=>⟨?s5,⟨rfl,?m6⟩⟩⟩⟩⟩⟩⟩
     case s0=>omega
     case s1=>omega
     all_goals try rw [← hz1,← hz2]
     all_goals simp only [zNeg,Bool.not_eq_true',decide_eq_true_eq,decide_eq_false_iff_not,Bool.not_eq_false',beq_eq_false_iff_ne,ne_eq,beq_iff_eq,decide_eq_decide] at *
     all_goals first
      | exact ⟨by omega,by omega⟩
      | (refine sub_int ?_
         unfold cmpI
         repeat' split
         all_goals omega)
   · cases hs
 · cases hs
theorem cTimesN:Contract Tryz.prog E 120 sTimesN:=by
 refine contract_loopsG [(134,sMulL),(125,sMade)] Tryz.ntmps120 Tryz.func120 (by kernel_rfl) (by kernel_rfl) hU ⟨cMulN,cMade hU,trivial⟩ ?_
 intro xs p r hs hp
 unfold sTimesN at hs
 split at hs
 · rename_i a k z a' k' z'
   cases hs
   obtain ⟨rfl,rfl,hk⟩:=hp _ rfl
   refine ⟨[nP a k,nP a' k'],[],.cons (.refl _) (.cons (.refl _) .nil),rfl,fun hgx hg=>?_⟩
   refine cast_rfl (p:=sizeL [(digs 1000000000 a.natAbs,k),(digs 1000000000 a'.natAbs,k')]≤10000000∧∀ (z1:Nat),z1=prodL' [(digs 1000000000 a.natAbs,k),(digs 1000000000 a'.natAbs,k')] 1→sizeL [(digs 1000000000 a.natAbs,k),(digs 1000000000 a'.natAbs,k')]+1≤100000000∧∀ (z2:Int),z2=zV (!zNeg a==zNeg a') (digs 1000000000 (↑z1:Int).natAbs)→true=true∧Sub (PV.agg [PV.f (Lf.zd z2 (sizeL [(digs 1000000000 a.natAbs,k),(digs 1000000000 a'.natAbs,k')]+1+1)),PV.f (Lf.zn z2)]) (PV.agg [PV.f (Lf.zd (a * a') (k+k'+1)),PV.f (Lf.zn (a * a'))])) (by kernel_rfl) ?_
   refine ⟨?s0,fun z1=>fun hz1=>⟨?s1,fun z2=>fun hz2=>⟨rfl,?m0⟩⟩⟩
   all_goals have hA:ZB a k:=hgx.1.1.1
   all_goals have hB:ZB a' k':=hgx.2.1.1.1
   all_goals (try simp only [sizeL,prodL',vB_dgs,Nat.one_mul] at *)
   all_goals first | omega | skip
   case m0 =>
    have:z2=a * a':=by
     rw [hz2,Int.natAbs_natCast,zV_dgs,hz1,sgn_bne,times_z]
    subst this
    exact nP_less ((hA.mul hB).mono (by omega))
 · cases hs
theorem cRightN:Contract Tryz.prog E 65 sRight:=by
 refine contract_loopsG [(107,sRightNat)] Tryz.ntmps65 Tryz.func65 (by kernel_rfl) (by kernel_rfl) hU ⟨cRightNat,trivial⟩ ?_
 intro xs p r hs hp
 unfold sRight at hs
 split at hs
 · rename_i x
   split at hs
   · rename_i n l k j hx
     cases hs
     have hk:=hp _ rfl
     refine ⟨[rawP n l k],[],.cons (sub_raw hx) .nil,rfl,fun hgx hg=>?_⟩
     refine cast_rfl (p:=k≤100000000∧ifB (rgtB l) (ifB (!n) (true=true∧Sub (PV.f (Lf.v (Value.bool true))) (PV.f (Lf.v (Value.bool (rightZ n l))))) (true=true∧Sub (PV.f (Lf.v (Value.bool (decide ((↑l.length:Int) > (0:Int)))))) (PV.f (Lf.v (Value.bool (rightZ n l)))))) (true=true∧Sub (PV.f (Lf.v (Value.bool false))) (PV.f (Lf.v (Value.bool (rightZ n l)))))) (by kernel_rfl) ?_
     refine ⟨?s0,ifB_iff.2 ⟨fun hb0=>ifB_iff.2 ⟨fun hb1=>⟨rfl,?m0⟩,fun hb1=>⟨rfl,?m1⟩⟩,fun hb0=>⟨rfl,?m2⟩⟩⟩
     case s0=>exact hk
     case m0 =>
      refine sub_bool ?_
      unfold rightZ
      rw [hb0,hb1]; rfl
     case m1 =>
      refine sub_bool ?_
      unfold rightZ
      rw [hb0,hb1,Bool.true_and,Bool.false_or,Bool.eq_iff_iff,decide_eq_true_eq,decide_eq_true_eq]
      omega
     case m2 =>
      refine sub_bool ?_
      unfold rightZ
      rw [hb0]; rfl
   · cases hs
 · cases hs
end
end Go.Proofs.YtpjjdngoblfleaaGreat
