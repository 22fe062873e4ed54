/-
  DERIVED. GIVEN WITH THE SEED: THE CARDS: each row of YtdeacbdpmdfgdaaDoorRows.lean that lists a variable, with what it lists TIED to the program's text (the seventh form; the later family's looks); each row that meets fmt, with fmt's text TOLD by the authors' own Lean function (tested against real Go, not proved from fmt's source: count such statements apart). THE CARD IS WHAT COUNTS. Prove the row's statement (the work); the ties are given (YtdeacbdpmdfgdaaDoorTie.lean); close each card by the builder's one call (the guide's Derived/Test/ToyasCard.lean, 'card_holds'). Laid BY PROGRAM, IN A SANDBOX (cutbox-door.mjs). By AI agents, Wed Nov 11 2026. No macro, syntax, notation, axiom, sorry.
-/
import Derived.Test.YtdeacbdpmdfgdaaDoorRows
import GoSem.ClaimSeven
namespace Go.Proofs.YtdeacbdpmdfgdaaDoor
namespace Rows

/-- THE TIED CARD OF 'whetstonelaw10.ClosePath'. -/
def closePathCard : Claim7 := { stood := { row := closePathRow, standIns := [], harness := (true, "e26a8ed83f9f7841a56934df754bed5196b104bcd52a3172b23b9cea1e73890a"), looks := true }, kinds := [], alts := [], laidByText := true, laidKinds := [.data, .data, .data], laidTests := true, laidLooks := .later }
def ClosePathCardSaid : Prop := Claim7.holds Tryd.pinned (.plain (OpenSpec.ofChange closePathSpec)) closePathCard

/-- THE TIED CARD OF 'whetstonelaw04.TermReads'. -/
def termReadsCard : Claim7 := { stood := { row := termReadsRow, standIns := [], harness := (true, "e26a8ed83f9f7841a56934df754bed5196b104bcd52a3172b23b9cea1e73890a"), looks := true }, kinds := [], alts := [], laidByText := true, laidKinds := [.data, .data, .data, .sentinel, .sentinel], laidTests := true, laidLooks := .later }
def TermReadsCardSaid : Prop := Claim7.holds Tryd.pinned (.plain (OpenSpec.ofChange termReadsSpec)) termReadsCard

/-- THE SECOND FORM's CARD OF 'whetstonelaw10.ClosePath'. -/
def closePathUptoCard : Claim7 := { stood := { row := closePathUptoRow, standIns := [], harness := (true, "e26a8ed83f9f7841a56934df754bed5196b104bcd52a3172b23b9cea1e73890a"), looks := true }, kinds := [], alts := [], laidByText := true, laidKinds := [.data, .data, .data], laidTests := true, laidLooks := .later }
def ClosePathUptoCardSaid : Prop := Claim7.holds Tryd.pinned (.plain (OpenSpec.upto closePathSpec)) closePathUptoCard

/-- THE SECOND FORM's CARD OF 'whetstonelaw04.TermReads'. -/
def termReadsUptoCard : Claim7 := { stood := { row := termReadsUptoRow, standIns := [], harness := (true, "e26a8ed83f9f7841a56934df754bed5196b104bcd52a3172b23b9cea1e73890a"), looks := true }, kinds := [], alts := [], laidByText := true, laidKinds := [.data, .data, .data, .sentinel, .sentinel], laidTests := true, laidLooks := .later }
def TermReadsUptoCardSaid : Prop := Claim7.holds Tryd.pinned (.plain (OpenSpec.upto termReadsSpec)) termReadsUptoCard
end Rows
end Go.Proofs.YtdeacbdpmdfgdaaDoor
