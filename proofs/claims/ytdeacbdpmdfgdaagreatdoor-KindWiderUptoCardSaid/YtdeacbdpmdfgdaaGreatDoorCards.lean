/-
  DERIVED. GIVEN WITH THE SEED: THE CARDS: each row of YtdeacbdpmdfgdaaGreatDoorRows.lean that lists a variable, with what it lists TIED to the program's text (the seventh form; the later family's looks); each row that meets fmt, with fmt's text TOLD by the authors' own Lean function (tested against real Go, not proved from fmt's source: count such statements apart). THE CARD IS WHAT COUNTS. Prove the row's statement (the work); the ties are given (YtdeacbdpmdfgdaaGreatDoorTie.lean); close each card by the builder's one call (the guide's Derived/Test/ToyasCard.lean, 'card_holds'). Laid BY PROGRAM, IN A SANDBOX (cutbox-door.mjs). By AI agents, Wed Nov 11 2026. No macro, syntax, notation, axiom, sorry.
-/
import Derived.Test.YtdeacbdpmdfgdaaGreatDoorRows
import GoSem.ClaimSeven
namespace Go.Proofs.YtdeacbdpmdfgdaaGreatDoor
namespace Rows

/-- THE TIED CARD OF 'whetstonelaw14.KindWider'. -/
def kindWiderCard : Claim7 := { stood := { row := kindWiderRow, standIns := [], harness := (true, "5d631b46297a0c6672a48b28687c146a21fc079f25803e3ac012f330ec14a0b8"), looks := true }, kinds := [], alts := [], laidByText := true, laidKinds := [.data, .data, .data], laidTests := true, laidLooks := .later }
def KindWiderCardSaid : Prop := Claim7.holds Tryz.pinned (.plain (OpenSpec.ofChange kindWiderSpec)) kindWiderCard

/-- THE TIED CARD OF 'whetstonelaw14.KindOnce'. -/
def kindOnceCard : Claim7 := { stood := { row := kindOnceRow, standIns := [], harness := (true, "5d631b46297a0c6672a48b28687c146a21fc079f25803e3ac012f330ec14a0b8"), looks := true }, kinds := [], alts := [], laidByText := true, laidKinds := [.data, .data, .data], laidTests := true, laidLooks := .later }
def KindOnceCardSaid : Prop := Claim7.holds Tryz.pinned (.plain (OpenSpec.ofChange kindOnceSpec)) kindOnceCard

/-- THE SECOND FORM's CARD OF 'whetstonelaw14.KindWider'. -/
def kindWiderUptoCard : Claim7 := { stood := { row := kindWiderUptoRow, standIns := [], harness := (true, "5d631b46297a0c6672a48b28687c146a21fc079f25803e3ac012f330ec14a0b8"), looks := true }, kinds := [], alts := [], laidByText := true, laidKinds := [.data, .data, .data], laidTests := true, laidLooks := .later }
def KindWiderUptoCardSaid : Prop := Claim7.holds Tryz.pinned (.plain (OpenSpec.upto kindWiderSpec)) kindWiderUptoCard

/-- THE SECOND FORM's CARD OF 'whetstonelaw14.KindOnce'. -/
def kindOnceUptoCard : Claim7 := { stood := { row := kindOnceUptoRow, standIns := [], harness := (true, "5d631b46297a0c6672a48b28687c146a21fc079f25803e3ac012f330ec14a0b8"), looks := true }, kinds := [], alts := [], laidByText := true, laidKinds := [.data, .data, .data], laidTests := true, laidLooks := .later }
def KindOnceUptoCardSaid : Prop := Claim7.holds Tryz.pinned (.plain (OpenSpec.upto kindOnceSpec)) kindOnceUptoCard
end Rows
end Go.Proofs.YtdeacbdpmdfgdaaGreatDoor
