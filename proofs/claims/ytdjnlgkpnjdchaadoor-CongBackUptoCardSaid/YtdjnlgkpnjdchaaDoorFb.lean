/- The layer norm: what it computes; memory of its own. -/
import Derived.Test.YtdjnlgkpnjdchaaDoorFa
namespace Go.Proofs.YtdjnlgkpnjdchaaDoor
open Go.RowKit
set_option linter.unusedVariables false
set_option maxRecDepth 100000
theorem kidT_size {t:Tw} {i:Nat} (h:i<t.kids.length):(kidT t i).size<t.size:=by
 have:=kid_size h
 unfold kidT
 rw [getD_any h Sh.tm.nil default]
 exact this
theorem kidT_fit {t:Tw} {i:Nat} (hf:t.fitT) (h:i<t.kids.length):(kidT t i).fitT:=fitTL_at _ ((Tw.fitT_eq t).1 hf).2.2.2 h
end Go.Proofs.YtdjnlgkpnjdchaaDoor
