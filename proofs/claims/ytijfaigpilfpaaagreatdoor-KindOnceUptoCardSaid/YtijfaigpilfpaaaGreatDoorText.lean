/- strings.Builder's writer, strconv.FormatUint at base 10, strings.Repeat of one byte. -/
import Derived.Test.YtijfaigpilfpaaaGreatDoorChecked
import Derived.Test.YtijfaigpilfpaaaGreatDoorBase
import Derived.Test.YtijfaigpilfpaaaGreatDoorShelf
import Derived.Lib.AppendIntMem
import Derived.Shelf.Strings.BuilderX
import Derived.Lib.MakeNoZero
import Derived.Laws.Externs
namespace Go.Proofs.YtijfaigpilfpaaaGreatDoor
open Go.RowKit
def Tab (w : World) : Prop := Lib.TabIs Tryz.prog w "internal/strconv.uint64pow10" .u64 Lib.pow10Tab
end Go.Proofs.YtijfaigpilfpaaaGreatDoor
