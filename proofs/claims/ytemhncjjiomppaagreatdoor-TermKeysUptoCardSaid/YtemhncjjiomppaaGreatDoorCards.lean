/-
  DERIVED. GIVEN WITH THE SEED: THE CARDS: each row of YtemhncjjiomppaaGreatDoorRows.lean that lists a variable, with what it lists TIED to the program's text (the seventh form; the later family's looks); each row that meets fmt, with fmt's text TOLD by the authors' own Lean function (tested against real Go, not proved from fmt's source: count such statements apart). THE CARD IS WHAT COUNTS. Prove the row's statement (the work); the ties are given (YtemhncjjiomppaaGreatDoorTie.lean); close each card by the builder's one call (the guide's Derived/Test/ToyasCard.lean, 'card_holds'). Laid BY PROGRAM, IN A SANDBOX (cutbox-door.mjs). By AI agents, Wed Nov 11 2026. No macro, syntax, notation, axiom, sorry.
-/
import Derived.Test.YtemhncjjiomppaaGreatDoorRows
import GoSem.ClaimSeven
namespace Go.Proofs.YtemhncjjiomppaaGreatDoor
namespace Rows

/-- THE TIED CARD OF 'whetstonelaw04.TermKeys'. -/
def termKeysCard : Claim7 := { stood := { row := termKeysRow, standIns := [], harness := (true, "f5146420c2e6001c568362d4264e01e57f50d390a36d568ff6a32baab58555ee"), looks := true }, kinds := [], alts := [], laidByText := true, laidKinds := [.data, .data, .data, .sentinel, .sentinel], laidTests := true, laidLooks := .later }
def TermKeysCardSaid : Prop := Claim7.holds Tryz.pinned (.plain (OpenSpec.ofChange termKeysSpec)) termKeysCard

/-- THE TIED CARD OF 'whetstonelaw08.CongSound'. -/
def congSoundCard : Claim7 := { stood := { row := congSoundRow, standIns := [], harness := (true, "f5146420c2e6001c568362d4264e01e57f50d390a36d568ff6a32baab58555ee"), looks := true }, kinds := [], alts := [], laidByText := true, laidKinds := [.data, .data, .data], laidTests := true, laidLooks := .later }
def CongSoundCardSaid : Prop := Claim7.holds Tryz.pinned (.plain (OpenSpec.ofChange congSoundSpec)) congSoundCard

/-- THE SECOND FORM's CARD OF 'whetstonelaw04.TermKeys'. -/
def termKeysUptoCard : Claim7 := { stood := { row := termKeysUptoRow, standIns := [], harness := (true, "f5146420c2e6001c568362d4264e01e57f50d390a36d568ff6a32baab58555ee"), looks := true }, kinds := [], alts := [], laidByText := true, laidKinds := [.data, .data, .data, .sentinel, .sentinel], laidTests := true, laidLooks := .later }
def TermKeysUptoCardSaid : Prop := Claim7.holds Tryz.pinned (.plain (OpenSpec.upto termKeysSpec)) termKeysUptoCard

/-- THE SECOND FORM's CARD OF 'whetstonelaw08.CongSound'. -/
def congSoundUptoCard : Claim7 := { stood := { row := congSoundUptoRow, standIns := [], harness := (true, "f5146420c2e6001c568362d4264e01e57f50d390a36d568ff6a32baab58555ee"), looks := true }, kinds := [], alts := [], laidByText := true, laidKinds := [.data, .data, .data], laidTests := true, laidLooks := .later }
def CongSoundUptoCardSaid : Prop := Claim7.holds Tryz.pinned (.plain (OpenSpec.upto congSoundSpec)) congSoundUptoCard
end Rows
end Go.Proofs.YtemhncjjiomppaaGreatDoor
