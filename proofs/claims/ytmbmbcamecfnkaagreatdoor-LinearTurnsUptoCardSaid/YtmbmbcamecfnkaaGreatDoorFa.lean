/- The layer norm: its words, the small functions. -/
import Derived.Test.YtmbmbcamecfnkaaGreatDoorTf
namespace Go.Proofs.YtmbmbcamecfnkaaGreatDoor
open Go.RowKit
set_option linter.unusedVariables false
set_option maxRecDepth 100000
theorem QmS {s:Sh} {x:Lf} {l:List s.T} (h:dtOf s x=some l):SubB (.f x) (.f (.dt s l)):=⟨fun H B v hv=>.f (Qcz h _ _ hv.rd)⟩
end Go.Proofs.YtmbmbcamecfnkaaGreatDoor
