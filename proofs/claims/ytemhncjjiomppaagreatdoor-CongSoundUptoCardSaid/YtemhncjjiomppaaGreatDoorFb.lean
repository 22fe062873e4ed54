/- The layer norm: what it computes; memory of its own. -/
import Derived.Test.YtemhncjjiomppaaGreatDoorFa
namespace Go.Proofs.YtemhncjjiomppaaGreatDoor
open Go.RowKit
set_option linter.unusedVariables false
set_option maxRecDepth 100000
theorem Qqq {t:Tw} {i:Nat} (h:i<t.kids.length):(kidT t i).size<t.size:=by
 have:=QmX h
 unfold kidT
 rw [Qeg h Sh.tm.nil default]
 exact this
theorem Qsj {t:Tw} {i:Nat} (hf:t.fitT) (h:i<t.kids.length):(kidT t i).fitT:=QbK _ ((Tw.fitT_eq t).1 hf).2.2.2 h
end Go.Proofs.YtemhncjjiomppaaGreatDoor
