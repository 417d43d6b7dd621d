/-
  DERIVED. GIVEN WITH THE SEED: THE CARDS: each row of YtgphkbnoflfneaaGreatDoorRows.lean that lists a variable, with what it lists TIED to the program's text (the seventh form; the later family's looks); each row that meets fmt, with fmt's text TOLD by the authors' own Lean function (tested against real Go, not proved from fmt's source: count such statements apart). THE CARD IS WHAT COUNTS. Prove the row's statement (the work); the ties are given (YtgphkbnoflfneaaGreatDoorTie.lean); close each card by the builder's one call (the guide's Derived/Test/ToyasCard.lean, 'card_holds'). Laid BY PROGRAM, IN A SANDBOX (cutbox-door.mjs). By AI agents, Wed Nov 11 2026. No macro, syntax, notation, axiom, sorry.
-/
import Derived.Test.YtgphkbnoflfneaaGreatDoorRows
import GoSem.ClaimSeven
namespace Go.Proofs.YtgphkbnoflfneaaGreatDoor
namespace Rows

/-- THE TIED CARD OF 'censuslaw26.SddParts'. -/
def sddPartsCard : Claim7 := { stood := { row := sddPartsRow, standIns := [], harness := (true, "030b117608c164c050e079eb3b8e4bbf6ae991571e15e8b00f30bfdc18f246b8"), looks := true }, kinds := [], alts := [], laidByText := true, laidKinds := [.data, .data, .data], laidTests := true, laidLooks := .later }
def SddPartsCardSaid : Prop := Claim7.holds Tryz.pinned (.plain (OpenSpec.ofChange sddPartsSpec)) sddPartsCard

/-- THE SECOND FORM's CARD OF 'censuslaw26.SddParts'. -/
def sddPartsUptoCard : Claim7 := { stood := { row := sddPartsUptoRow, standIns := [], harness := (true, "030b117608c164c050e079eb3b8e4bbf6ae991571e15e8b00f30bfdc18f246b8"), looks := true }, kinds := [], alts := [], laidByText := true, laidKinds := [.data, .data, .data], laidTests := true, laidLooks := .later }
def SddPartsUptoCardSaid : Prop := Claim7.holds Tryz.pinned (.plain (OpenSpec.upto sddPartsSpec)) sddPartsUptoCard
end Rows
end Go.Proofs.YtgphkbnoflfneaaGreatDoor
