/-
  DERIVED. GIVEN WITH THE SEED: THE CARDS: each row of YtijfaigpilfpaaaGreatDoorRows.lean that lists a variable, with what it lists TIED to the program's text (the seventh form; the later family's looks); each row that meets fmt, with fmt's text TOLD by the authors' own Lean function (tested against real Go, not proved from fmt's source: count such statements apart). THE CARD IS WHAT COUNTS. Prove the row's statement (the work); the ties are given (YtijfaigpilfpaaaGreatDoorTie.lean); close each card by the builder's one call (the guide's Derived/Test/ToyasCard.lean, 'card_holds'). Laid BY PROGRAM, IN A SANDBOX (cutbox-door.mjs). By AI agents, Wed Nov 11 2026. No macro, syntax, notation, axiom, sorry.
-/
import Derived.Test.YtijfaigpilfpaaaGreatDoorRows
import GoSem.ClaimSeven
namespace Go.Proofs.YtijfaigpilfpaaaGreatDoor
namespace Rows

/-- THE TIED CARD OF 'whetstonelaw14.KindOnce'. -/
def kindOnceCard : Claim7 := { stood := { row := kindOnceRow, standIns := [], harness := (true, "cd1ccf63384599d0f398df0527fa64211e8940c5e9a97b8d74a9c75f3e78d628"), looks := true }, kinds := [], alts := [], laidByText := true, laidKinds := [.data, .data, .data], laidTests := true, laidLooks := .later }
def KindOnceCardSaid : Prop := Claim7.holds Tryz.pinned (.plain (OpenSpec.ofChange kindOnceSpec)) kindOnceCard

/-- THE TIED CARD OF 'whetstonelaw14.KindShapes'. -/
def kindShapesCard : Claim7 := { stood := { row := kindShapesRow, standIns := [], harness := (true, "cd1ccf63384599d0f398df0527fa64211e8940c5e9a97b8d74a9c75f3e78d628"), looks := true }, kinds := [], alts := [], laidByText := true, laidKinds := [.data, .data, .data], laidTests := true, laidLooks := .later }
def KindShapesCardSaid : Prop := Claim7.holds Tryz.pinned (.plain (OpenSpec.ofChange kindShapesSpec)) kindShapesCard

/-- THE TIED CARD OF 'whetstonelaw06.LinearTurns'. -/
def linearTurnsCard : Claim7 := { stood := { row := linearTurnsRow, standIns := [], harness := (true, "cd1ccf63384599d0f398df0527fa64211e8940c5e9a97b8d74a9c75f3e78d628"), looks := true }, kinds := [], alts := [], laidByText := true, laidKinds := [.data, .data, .data], laidTests := true, laidLooks := .later }
def LinearTurnsCardSaid : Prop := Claim7.holds Tryz.pinned (.plain (OpenSpec.ofChange linearTurnsSpec)) linearTurnsCard

/-- THE SECOND FORM's CARD OF 'whetstonelaw14.KindOnce'. -/
def kindOnceUptoCard : Claim7 := { stood := { row := kindOnceUptoRow, standIns := [], harness := (true, "cd1ccf63384599d0f398df0527fa64211e8940c5e9a97b8d74a9c75f3e78d628"), looks := true }, kinds := [], alts := [], laidByText := true, laidKinds := [.data, .data, .data], laidTests := true, laidLooks := .later }
def KindOnceUptoCardSaid : Prop := Claim7.holds Tryz.pinned (.plain (OpenSpec.upto kindOnceSpec)) kindOnceUptoCard

/-- THE SECOND FORM's CARD OF 'whetstonelaw14.KindShapes'. -/
def kindShapesUptoCard : Claim7 := { stood := { row := kindShapesUptoRow, standIns := [], harness := (true, "cd1ccf63384599d0f398df0527fa64211e8940c5e9a97b8d74a9c75f3e78d628"), looks := true }, kinds := [], alts := [], laidByText := true, laidKinds := [.data, .data, .data], laidTests := true, laidLooks := .later }
def KindShapesUptoCardSaid : Prop := Claim7.holds Tryz.pinned (.plain (OpenSpec.upto kindShapesSpec)) kindShapesUptoCard

/-- THE SECOND FORM's CARD OF 'whetstonelaw06.LinearTurns'. -/
def linearTurnsUptoCard : Claim7 := { stood := { row := linearTurnsUptoRow, standIns := [], harness := (true, "cd1ccf63384599d0f398df0527fa64211e8940c5e9a97b8d74a9c75f3e78d628"), looks := true }, kinds := [], alts := [], laidByText := true, laidKinds := [.data, .data, .data], laidTests := true, laidLooks := .later }
def LinearTurnsUptoCardSaid : Prop := Claim7.holds Tryz.pinned (.plain (OpenSpec.upto linearTurnsSpec)) linearTurnsUptoCard
end Rows
end Go.Proofs.YtijfaigpilfpaaaGreatDoor
