/- Texts of whole numbers. -/
import Derived.Test.YtmbmbcamecfnkaaGreatDoorZs
import Derived.Test.YtmbmbcamecfnkaaGreatDoorNatT
import Derived.Lib.ParseIntB
namespace Go.Proofs.YtmbmbcamecfnkaaGreatDoor
open Go.RowKit
set_option linter.unusedSimpArgs false
set_option linter.unusedVariables false
theorem Que {n k:Nat} (h:n<1000000000 ^ k):(Lib.decDigits n).length≤9 * k+1:=by
 rw [Lib.decDigits_length]
 refine QdV _ _ ?_ (by omega)
 have:(1000000000:Nat) ^ k≤10 ^ (9 * k+1):=by
  rw [show (1000000000:Nat)=10 ^ 9 from rfl,← Nat.pow_mul]
  exact Nat.pow_le_pow_right (by omega) (by omega)
 omega
def QbQ (z:Int):List UInt8:=if z<0 then 45::Lib.decDigits z.natAbs else Lib.decDigits z.natAbs
theorem Qow {z:Int} (h:zNeg z=true):QbQ z=45::Lib.decDigits z.natAbs:=by unfold QbQ; rw [if_pos (Qch.1 h)]
theorem QbK {z:Int} (h:zNeg z=false):QbQ z=Lib.decDigits z.natAbs:=by unfold QbQ; rw [if_neg (fun hc=>by rw [QdJ hc] at h; cases h)]
end Go.Proofs.YtmbmbcamecfnkaaGreatDoor
