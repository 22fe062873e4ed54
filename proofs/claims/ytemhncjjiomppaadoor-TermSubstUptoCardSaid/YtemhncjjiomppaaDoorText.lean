/- strings.Builder's writer, strconv.FormatUint at base 10, strings.Repeat of one byte. -/
import Derived.Test.YtemhncjjiomppaaDoorChecked
import Derived.Test.YtemhncjjiomppaaDoorBase
import Derived.Test.YtemhncjjiomppaaDoorShelf
import Derived.Lib.AppendIntMem
import Derived.Shelf.Strings.BuilderX
import Derived.Lib.MakeNoZero
import Derived.Laws.Externs
namespace Go.Proofs.YtemhncjjiomppaaDoor
open Go.RowKit
def Tab (w : World) : Prop := Lib.TabIs Tryd.prog w "internal/strconv.uint64pow10" .u64 Lib.pow10Tab
end Go.Proofs.YtemhncjjiomppaaDoor
