/- The layer num by the pure run: what it hands out. -/
import Derived.Test.YtdeacbdpmdfgdaaGreatDoorPp
namespace Go.Proofs.YtdeacbdpmdfgdaaGreatDoor
open Go.RowKit
set_option linter.unusedVariables false
set_option maxRecDepth 100000
def Qe0:Spec
 | [.f x]=>match limL x with
  | some (l,k)=>some (some (k≤100000000),.one (.f (.v (.bool (rgtB l)))))
  | none=>none
 | _=>none
theorem Qoi {E:Env}:Contract Tryz.prog E 102 Qe0:=by
 intro xs p r hs hp w H vs hf hE hvs
 unfold Qe0 at hs
 split at hs
 · rename_i x
   split at hs
   · rename_i l k hx
     cases hs
     have hk:=hp _ rfl
     obtain ⟨v,rfl,hv⟩:=Qnd hvs
     obtain ⟨h1,h2,h3⟩:=Qnq hx hv.rd hf
     refine (Qh6 v l w h1 (by omega)).mono ?_
     rintro e w' ⟨rfl,rfl⟩
     exact ⟨_,_,rfl,Ext.refl hf,.f (.v _ rfl)⟩
   · cases hs
 · cases hs
section
variable {E : Env} (hU : Up E)
include hU
theorem cOfNN:Contract Tryz.prog E 38 sOf:=by
 refine QaJ [(53,QmO),(54,Qq1)] Tryz.ntmps38 Tryz.func38 (by kernel_rfl) (by kernel_rfl) hU ⟨cSmall hU,cOutN hU,trivial⟩ ?_
 intro xs p r hs hp
 unfold sOf at hs
 split at hs
 · rename_i n
   cases hs
   have hk:=hp _ rfl
   refine ⟨[.f (.v (.int .i64 n))],[],.cons (.refl _) .nil,rfl,fun hgx hg=>?_⟩
   refine Qab (p:=ifB (decide (n<(0:Int))) (((0:Int)≤IntKind.u64.wrap ((0:Int) - IntKind.u64.wrap n)∧IntKind.u64.wrap ((0:Int) - IntKind.u64.wrap n)<(18446744073709551616:Int))∧∀ (z1:Int),z1=zOf true (IntKind.u64.wrap ((0:Int) - IntKind.u64.wrap n)).toNat→z1=z1∧true=true∧Sub (PV.agg [PV.f (Lf.zn z1),PV.f (Lf.zd z1 3)]) (PV.agg [PV.f (Lf.zn n),PV.f (Lf.zd n 3)])) (((0:Int)≤IntKind.u64.wrap n∧IntKind.u64.wrap n<(18446744073709551616:Int))∧∀ (z1:Int),z1=zOf false (IntKind.u64.wrap n).toNat→z1=z1∧true=true∧Sub (PV.agg [PV.f (Lf.zn z1),PV.f (Lf.zd z1 3)]) (PV.agg [PV.f (Lf.zn n),PV.f (Lf.zd n 3)]))) (by kernel_rfl) ?_
   refine Qaa.2 ⟨fun hb0=>⟨?s0,fun z1=>fun hz1=>⟨rfl,⟨rfl,?m0⟩⟩⟩,fun hb0=>⟨?s1,fun z1=>fun hz1=>⟨rfl,⟨rfl,?m1⟩⟩⟩⟩
   case s0=>simp [IntKind.wrap,IntKind.bits,IntKind.signed]; omega
   case s1=>simp [IntKind.wrap,IntKind.bits,IntKind.signed]; omega
   case m0 =>
    have h1:=of_decide_eq_true hb0
    have e:z1=n:=by
     rw [hz1,QjV]
     simp [IntKind.wrap,IntKind.bits,IntKind.signed]
     omega
    subst e
    exact .refl _
   case m1 =>
    have h1:=of_decide_eq_false hb0
    have e:z1=n:=by
     rw [hz1,QhF]
     simp [IntKind.wrap,IntKind.bits,IntKind.signed]
     omega
    subst e
    exact .refl _
 · cases hs
theorem Qr2:Contract Tryz.prog E 90 Qkg:=by
 refine QaJ [(102,Qe0)] Tryz.ntmps90 Tryz.func90 (by kernel_rfl) (by kernel_rfl) hU ⟨Qoi,trivial⟩ ?_
 intro xs p r hs hp
 unfold Qkg at hs
 split at hs
 · rename_i x
   split at hs
   · rename_i n l k j hx
     cases hs
     have hk:=hp _ rfl
     refine ⟨[rawP n l k],[],.cons (QqO hx) .nil,rfl,fun hgx hg=>?_⟩
     refine Qab (p:=k≤100000000∧ifB (rgtB l) (ifB (!n) (true=true∧Sub (PV.f (Lf.v (Value.bool true))) (PV.f (Lf.v (Value.bool (Qa3 n l))))) (true=true∧Sub (PV.f (Lf.v (Value.bool (decide ((↑l.length:Int) > (0:Int)))))) (PV.f (Lf.v (Value.bool (Qa3 n l)))))) (true=true∧Sub (PV.f (Lf.v (Value.bool false))) (PV.f (Lf.v (Value.bool (Qa3 n l)))))) (by kernel_rfl) ?_
     refine ⟨?s0,Qaa.2 ⟨fun hb0=>Qaa.2 ⟨fun hb1=>⟨rfl,?m0⟩,fun hb1=>⟨rfl,?m1⟩⟩,fun hb0=>⟨rfl,?m2⟩⟩⟩
     case s0=>exact hk
     case m0 =>
      refine QgM ?_
      unfold Qa3
      rw [hb0,hb1]; rfl
     case m1 =>
      refine QgM ?_
      unfold Qa3
      rw [hb0,hb1,Bool.true_and,Bool.false_or,Bool.eq_iff_iff,decide_eq_true_eq,decide_eq_true_eq]
      omega
     case m2 =>
      refine QgM ?_
      unfold Qa3
      rw [hb0]; rfl
   · cases hs
 · cases hs
end
end Go.Proofs.YtdeacbdpmdfgdaaGreatDoor
