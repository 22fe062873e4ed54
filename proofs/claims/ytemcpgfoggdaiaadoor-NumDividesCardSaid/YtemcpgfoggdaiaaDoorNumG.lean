/- num: denial, difference, order, right. -/
import Derived.Test.YtemcpgfoggdaiaaDoorNumF
namespace Go.Proofs.YtemcpgfoggdaiaaDoor
open Go.RowKit
set_option linter.unusedSimpArgs false
set_option linter.unusedVariables false
attribute [local go_sem ↓] Go.wp_at_zero Go.wp_at_succ

end Go.Proofs.YtemcpgfoggdaiaaDoor
