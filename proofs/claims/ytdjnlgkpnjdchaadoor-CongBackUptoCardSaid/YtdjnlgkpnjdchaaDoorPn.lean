/- The contracts of the layer num. -/
import Derived.Test.YtdjnlgkpnjdchaaDoorPl
namespace Go.Proofs.YtdjnlgkpnjdchaaDoor
open Go.RowKit
set_option linter.unusedVariables false
set_option maxRecDepth 100000
def sRightNat:Spec
 | [.f x]=>match limL x with
  | some (l,k)=>some (some (k≤100000000),.one (.f (.v (.bool (rgtB l)))))
  | none=>none
 | _=>none
theorem cRightNat {E:Env}:Contract Tryd.prog E 169 sRightNat:=by
 intro xs p r hs hp w H vs hf hE hvs
 unfold sRightNat at hs
 split at hs
 · rename_i x
   split at hs
   · rename_i l k hx
     cases hs
     have hk:=hp _ rfl
     obtain ⟨v,rfl,hv⟩:=one_arg hvs
     obtain ⟨h1,h2,h3⟩:=limL_rd hx hv.rd hf
     refine (natRight_any v l w h1 (by omega)).mono ?_
     rintro e w' ⟨rfl,rfl⟩
     exact ⟨_,_,rfl,Ext.refl hf,.f (.v _ rfl)⟩
   · cases hs
 · cases hs
section
variable {E : Env} (hU : Up E)
include hU
theorem cRightN:Contract Tryd.prog E 140 sRight:=by
 refine contract_loopsG [(169,sRightNat)] Tryd.ntmps140 Tryd.func140 (by kernel_rfl) (by kernel_rfl) hU ⟨cRightNat,trivial⟩ ?_
 intro xs p r hs hp
 unfold sRight at hs
 split at hs
 · rename_i x
   split at hs
   · rename_i n l k j hx
     cases hs
     have hk:=hp _ rfl
     refine ⟨[rawP n l k],[],.cons (sub_raw hx) .nil,rfl,fun hgx hg=>?_⟩
     refine cast_rfl (p:=k≤100000000∧ifB (rgtB l) (ifB (!n) (true=true∧Sub (PV.f (Lf.v (Value.bool true))) (PV.f (Lf.v (Value.bool (rightZ n l))))) (true=true∧Sub (PV.f (Lf.v (Value.bool (decide ((↑l.length:Int) > (0:Int)))))) (PV.f (Lf.v (Value.bool (rightZ n l)))))) (true=true∧Sub (PV.f (Lf.v (Value.bool false))) (PV.f (Lf.v (Value.bool (rightZ n l)))))) (by kernel_rfl) ?_
     refine ⟨?s0,ifB_iff.2 ⟨fun hb0=>ifB_iff.2 ⟨fun hb1=>⟨rfl,?m0⟩,fun hb1=>⟨rfl,?m1⟩⟩,fun hb0=>⟨rfl,?m2⟩⟩⟩
     case s0=>exact hk
     case m0 =>
      refine sub_bool ?_
      unfold rightZ
      rw [hb0,hb1]; rfl
     case m1 =>
      refine sub_bool ?_
      unfold rightZ
      rw [hb0,hb1,Bool.true_and,Bool.false_or,Bool.eq_iff_iff,decide_eq_true_eq,decide_eq_true_eq]
      omega
     case m2 =>
      refine sub_bool ?_
      unfold rightZ
      rw [hb0]; rfl
   · cases hs
 · cases hs
end
end Go.Proofs.YtdjnlgkpnjdchaaDoor
namespace Go.Proofs.YtdjnlgkpnjdchaaDoor
open Go.RowKit
theorem cRight {E:Env} (hU:Up E):Contract Tryd.prog E 140 sRight:=cRightN hU
end Go.Proofs.YtdjnlgkpnjdchaaDoor
