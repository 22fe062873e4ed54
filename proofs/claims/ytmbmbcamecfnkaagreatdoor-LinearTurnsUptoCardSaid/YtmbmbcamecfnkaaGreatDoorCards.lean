/-
  DERIVED. GIVEN WITH THE SEED: THE CARDS: each row of YtmbmbcamecfnkaaGreatDoorRows.lean that lists a variable, with what it lists TIED to the program's text (the seventh form; the later family's looks); each row that meets fmt, with fmt's text TOLD by the authors' own Lean function (tested against real Go, not proved from fmt's source: count such statements apart). THE CARD IS WHAT COUNTS. Prove the row's statement (the work); the ties are given (YtmbmbcamecfnkaaGreatDoorTie.lean); close each card by the builder's one call (the guide's Derived/Test/ToyasCard.lean, 'card_holds'). Laid BY PROGRAM, IN A SANDBOX (cutbox-door.mjs). By AI agents, Wed Nov 11 2026. No macro, syntax, notation, axiom, sorry.
-/
import Derived.Test.YtmbmbcamecfnkaaGreatDoorRows
import GoSem.ClaimSeven
namespace Go.Proofs.YtmbmbcamecfnkaaGreatDoor
namespace Rows

/-- THE TIED CARD OF 'whetstonelaw14.KindShapes'. -/
def kindShapesCard : Claim7 := { stood := { row := kindShapesRow, standIns := [], harness := (true, "7e61519191f745204cdae629f872207c5df55dcdb1fa31bbcf2cd05b5f44cb10"), looks := true }, kinds := [], alts := [], laidByText := true, laidKinds := [.data, .data, .data], laidTests := true, laidLooks := .later }
def KindShapesCardSaid : Prop := Claim7.holds Tryz.pinned (.plain (OpenSpec.ofChange kindShapesSpec)) kindShapesCard

/-- THE TIED CARD OF 'whetstonelaw06.LinearTurns'. -/
def linearTurnsCard : Claim7 := { stood := { row := linearTurnsRow, standIns := [], harness := (true, "7e61519191f745204cdae629f872207c5df55dcdb1fa31bbcf2cd05b5f44cb10"), looks := true }, kinds := [], alts := [], laidByText := true, laidKinds := [.data, .data, .data], laidTests := true, laidLooks := .later }
def LinearTurnsCardSaid : Prop := Claim7.holds Tryz.pinned (.plain (OpenSpec.ofChange linearTurnsSpec)) linearTurnsCard

/-- THE TIED CARD OF 'whetstonelaw06.LinearSame'. -/
def linearSameCard : Claim7 := { stood := { row := linearSameRow, standIns := [], harness := (true, "7e61519191f745204cdae629f872207c5df55dcdb1fa31bbcf2cd05b5f44cb10"), looks := true }, kinds := [], alts := [], laidByText := true, laidKinds := [.data, .data, .data, .sentinel, .sentinel], laidTests := true, laidLooks := .later }
def LinearSameCardSaid : Prop := Claim7.holds Tryz.pinned (.plain (OpenSpec.ofChange linearSameSpec)) linearSameCard

/-- THE SECOND FORM's CARD OF 'whetstonelaw14.KindShapes'. -/
def kindShapesUptoCard : Claim7 := { stood := { row := kindShapesUptoRow, standIns := [], harness := (true, "7e61519191f745204cdae629f872207c5df55dcdb1fa31bbcf2cd05b5f44cb10"), looks := true }, kinds := [], alts := [], laidByText := true, laidKinds := [.data, .data, .data], laidTests := true, laidLooks := .later }
def KindShapesUptoCardSaid : Prop := Claim7.holds Tryz.pinned (.plain (OpenSpec.upto kindShapesSpec)) kindShapesUptoCard

/-- THE SECOND FORM's CARD OF 'whetstonelaw06.LinearTurns'. -/
def linearTurnsUptoCard : Claim7 := { stood := { row := linearTurnsUptoRow, standIns := [], harness := (true, "7e61519191f745204cdae629f872207c5df55dcdb1fa31bbcf2cd05b5f44cb10"), looks := true }, kinds := [], alts := [], laidByText := true, laidKinds := [.data, .data, .data], laidTests := true, laidLooks := .later }
def LinearTurnsUptoCardSaid : Prop := Claim7.holds Tryz.pinned (.plain (OpenSpec.upto linearTurnsSpec)) linearTurnsUptoCard

/-- THE SECOND FORM's CARD OF 'whetstonelaw06.LinearSame'. -/
def linearSameUptoCard : Claim7 := { stood := { row := linearSameUptoRow, standIns := [], harness := (true, "7e61519191f745204cdae629f872207c5df55dcdb1fa31bbcf2cd05b5f44cb10"), looks := true }, kinds := [], alts := [], laidByText := true, laidKinds := [.data, .data, .data, .sentinel, .sentinel], laidTests := true, laidLooks := .later }
def LinearSameUptoCardSaid : Prop := Claim7.holds Tryz.pinned (.plain (OpenSpec.upto linearSameSpec)) linearSameUptoCard
end Rows
end Go.Proofs.YtmbmbcamecfnkaaGreatDoor
