/-
  DERIVED. GIVEN WITH THE SEED: THE CARDS: each row of YteikmmfjhabijaaGreatDoorRows.lean that lists a variable, with what it lists TIED to the program's text (the seventh form; the later family's looks); each row that meets fmt, with fmt's text TOLD by the authors' own Lean function (tested against real Go, not proved from fmt's source: count such statements apart). THE CARD IS WHAT COUNTS. Prove the row's statement (the work); the ties are given (YteikmmfjhabijaaGreatDoorTie.lean); close each card by the builder's one call (the guide's Derived/Test/ToyasCard.lean, 'card_holds'). Laid BY PROGRAM, IN A SANDBOX (cutbox-door.mjs). By AI agents, Wed Nov 11 2026. No macro, syntax, notation, axiom, sorry.
-/
import Derived.Test.YteikmmfjhabijaaGreatDoorRows
import GoSem.ClaimSeven
namespace Go.Proofs.YteikmmfjhabijaaGreatDoor
namespace Rows

/-- THE TIED CARD OF 'censuslaw26.SddEvals'. -/
def sddEvalsCard : Claim7 := { stood := { row := sddEvalsRow, standIns := [], harness := (true, "d2dd4fb8ec94a3538c3e875587a844e6730ad0950134e11d3b43fb894f91af61"), looks := true }, kinds := [], alts := [], laidByText := true, laidKinds := [.data, .data, .data], laidTests := true, laidLooks := .later }
def SddEvalsCardSaid : Prop := Claim7.holds Tryz.pinned (.plain (OpenSpec.ofChange sddEvalsSpec)) sddEvalsCard

/-- THE TIED CARD OF 'censuslaw26.SddKeeps'. -/
def sddKeepsCard : Claim7 := { stood := { row := sddKeepsRow, standIns := [], harness := (true, "d2dd4fb8ec94a3538c3e875587a844e6730ad0950134e11d3b43fb894f91af61"), looks := true }, kinds := [], alts := [], laidByText := true, laidKinds := [.data, .data, .data], laidTests := true, laidLooks := .later }
def SddKeepsCardSaid : Prop := Claim7.holds Tryz.pinned (.plain (OpenSpec.ofChange sddKeepsSpec)) sddKeepsCard

/-- THE TIED CARD OF 'censuslaw26.SddRuns'. -/
def sddRunsCard : Claim7 := { stood := { row := sddRunsRow, standIns := [], harness := (true, "d2dd4fb8ec94a3538c3e875587a844e6730ad0950134e11d3b43fb894f91af61"), looks := true }, kinds := [], alts := [], laidByText := true, laidKinds := [.data, .data, .data], laidTests := true, laidLooks := .later }
def SddRunsCardSaid : Prop := Claim7.holds Tryz.pinned (.plain (OpenSpec.ofChange sddRunsSpec)) sddRunsCard

/-- THE TIED CARD OF 'censuslaw26.SddErrors'. -/
def sddErrorsCard : Claim7 := { stood := { row := sddErrorsRow, standIns := [], harness := (true, "d2dd4fb8ec94a3538c3e875587a844e6730ad0950134e11d3b43fb894f91af61"), looks := true }, kinds := [], alts := [], laidByText := true, laidKinds := [.data, .data, .data], laidTests := true, laidLooks := .later }
def SddErrorsCardSaid : Prop := Claim7.holds Tryz.pinned (.plain (OpenSpec.ofChange sddErrorsSpec)) sddErrorsCard

/-- THE TIED CARD OF 'censuslaw28.VmoveMoves'. -/
def vmoveMovesCard : Claim7 := { stood := { row := vmoveMovesRow, standIns := [], harness := (true, "d2dd4fb8ec94a3538c3e875587a844e6730ad0950134e11d3b43fb894f91af61"), looks := true }, kinds := [], alts := [], laidByText := true, laidKinds := [.data, .data, .data, .sentinel, .sentinel], laidTests := true, laidLooks := .later }
def VmoveMovesCardSaid : Prop := Claim7.holds Tryz.pinned (.plain (OpenSpec.ofChange vmoveMovesSpec)) vmoveMovesCard

/-- THE TIED CARD OF 'censuslaw28.VmoveCopies'. -/
def vmoveCopiesCard : Claim7 := { stood := { row := vmoveCopiesRow, standIns := [], harness := (true, "d2dd4fb8ec94a3538c3e875587a844e6730ad0950134e11d3b43fb894f91af61"), looks := true }, kinds := [], alts := [], laidByText := true, laidKinds := [.data, .data, .data, .sentinel, .sentinel], laidTests := true, laidLooks := .later }
def VmoveCopiesCardSaid : Prop := Claim7.holds Tryz.pinned (.plain (OpenSpec.ofChange vmoveCopiesSpec)) vmoveCopiesCard

/-- THE TIED CARD OF 'censuslaw28.VmoveBack'. -/
def vmoveBackCard : Claim7 := { stood := { row := vmoveBackRow, standIns := [], harness := (true, "d2dd4fb8ec94a3538c3e875587a844e6730ad0950134e11d3b43fb894f91af61"), looks := true }, kinds := [], alts := [], laidByText := true, laidKinds := [.data, .data, .data, .sentinel, .sentinel], laidTests := true, laidLooks := .later }
def VmoveBackCardSaid : Prop := Claim7.holds Tryz.pinned (.plain (OpenSpec.ofChange vmoveBackSpec)) vmoveBackCard

/-- THE TIED CARD OF 'censuslaw28.VmoveThrough'. -/
def vmoveThroughCard : Claim7 := { stood := { row := vmoveThroughRow, standIns := [], harness := (true, "d2dd4fb8ec94a3538c3e875587a844e6730ad0950134e11d3b43fb894f91af61"), looks := true }, kinds := [], alts := [], laidByText := true, laidKinds := [.data, .data, .data, .sentinel, .sentinel], laidTests := true, laidLooks := .later }
def VmoveThroughCardSaid : Prop := Claim7.holds Tryz.pinned (.plain (OpenSpec.ofChange vmoveThroughSpec)) vmoveThroughCard

/-- THE TIED CARD OF 'censuslaw28.VmoveKeeps'. -/
def vmoveKeepsCard : Claim7 := { stood := { row := vmoveKeepsRow, standIns := [], harness := (true, "d2dd4fb8ec94a3538c3e875587a844e6730ad0950134e11d3b43fb894f91af61"), looks := true }, kinds := [], alts := [], laidByText := true, laidKinds := [.data, .data, .data, .sentinel, .sentinel], laidTests := true, laidLooks := .later }
def VmoveKeepsCardSaid : Prop := Claim7.holds Tryz.pinned (.plain (OpenSpec.ofChange vmoveKeepsSpec)) vmoveKeepsCard

/-- THE TIED CARD OF 'censuslaw28.VmoveEvals'. -/
def vmoveEvalsCard : Claim7 := { stood := { row := vmoveEvalsRow, standIns := [], harness := (true, "d2dd4fb8ec94a3538c3e875587a844e6730ad0950134e11d3b43fb894f91af61"), looks := true }, kinds := [], alts := [], laidByText := true, laidKinds := [.data, .data, .data, .sentinel, .sentinel], laidTests := true, laidLooks := .later }
def VmoveEvalsCardSaid : Prop := Claim7.holds Tryz.pinned (.plain (OpenSpec.ofChange vmoveEvalsSpec)) vmoveEvalsCard

/-- THE TIED CARD OF 'censuslaw28.VmoveErrors'. -/
def vmoveErrorsCard : Claim7 := { stood := { row := vmoveErrorsRow, standIns := [], harness := (true, "d2dd4fb8ec94a3538c3e875587a844e6730ad0950134e11d3b43fb894f91af61"), looks := true }, kinds := [], alts := [], laidByText := true, laidKinds := [.data, .data, .data, .sentinel, .sentinel], laidTests := true, laidLooks := .later }
def VmoveErrorsCardSaid : Prop := Claim7.holds Tryz.pinned (.plain (OpenSpec.ofChange vmoveErrorsSpec)) vmoveErrorsCard

/-- THE TIED CARD OF 'censuslaw28.VmoveKnown'. -/
def vmoveKnownCard : Claim7 := { stood := { row := vmoveKnownRow, standIns := [], harness := (true, "d2dd4fb8ec94a3538c3e875587a844e6730ad0950134e11d3b43fb894f91af61"), looks := true }, kinds := [], alts := [], laidByText := true, laidKinds := [.data, .data, .data, .sentinel, .sentinel], laidTests := true, laidLooks := .later }
def VmoveKnownCardSaid : Prop := Claim7.holds Tryz.pinned (.plain (OpenSpec.ofChange vmoveKnownSpec)) vmoveKnownCard

/-- THE SECOND FORM's CARD OF 'censuslaw26.SddEvals'. -/
def sddEvalsUptoCard : Claim7 := { stood := { row := sddEvalsUptoRow, standIns := [], harness := (true, "d2dd4fb8ec94a3538c3e875587a844e6730ad0950134e11d3b43fb894f91af61"), looks := true }, kinds := [], alts := [], laidByText := true, laidKinds := [.data, .data, .data], laidTests := true, laidLooks := .later }
def SddEvalsUptoCardSaid : Prop := Claim7.holds Tryz.pinned (.plain (OpenSpec.upto sddEvalsSpec)) sddEvalsUptoCard

/-- THE SECOND FORM's CARD OF 'censuslaw26.SddKeeps'. -/
def sddKeepsUptoCard : Claim7 := { stood := { row := sddKeepsUptoRow, standIns := [], harness := (true, "d2dd4fb8ec94a3538c3e875587a844e6730ad0950134e11d3b43fb894f91af61"), looks := true }, kinds := [], alts := [], laidByText := true, laidKinds := [.data, .data, .data], laidTests := true, laidLooks := .later }
def SddKeepsUptoCardSaid : Prop := Claim7.holds Tryz.pinned (.plain (OpenSpec.upto sddKeepsSpec)) sddKeepsUptoCard

/-- THE SECOND FORM's CARD OF 'censuslaw26.SddRuns'. -/
def sddRunsUptoCard : Claim7 := { stood := { row := sddRunsUptoRow, standIns := [], harness := (true, "d2dd4fb8ec94a3538c3e875587a844e6730ad0950134e11d3b43fb894f91af61"), looks := true }, kinds := [], alts := [], laidByText := true, laidKinds := [.data, .data, .data], laidTests := true, laidLooks := .later }
def SddRunsUptoCardSaid : Prop := Claim7.holds Tryz.pinned (.plain (OpenSpec.upto sddRunsSpec)) sddRunsUptoCard

/-- THE SECOND FORM's CARD OF 'censuslaw26.SddErrors'. -/
def sddErrorsUptoCard : Claim7 := { stood := { row := sddErrorsUptoRow, standIns := [], harness := (true, "d2dd4fb8ec94a3538c3e875587a844e6730ad0950134e11d3b43fb894f91af61"), looks := true }, kinds := [], alts := [], laidByText := true, laidKinds := [.data, .data, .data], laidTests := true, laidLooks := .later }
def SddErrorsUptoCardSaid : Prop := Claim7.holds Tryz.pinned (.plain (OpenSpec.upto sddErrorsSpec)) sddErrorsUptoCard

/-- THE SECOND FORM's CARD OF 'censuslaw28.VmoveMoves'. -/
def vmoveMovesUptoCard : Claim7 := { stood := { row := vmoveMovesUptoRow, standIns := [], harness := (true, "d2dd4fb8ec94a3538c3e875587a844e6730ad0950134e11d3b43fb894f91af61"), looks := true }, kinds := [], alts := [], laidByText := true, laidKinds := [.data, .data, .data, .sentinel, .sentinel], laidTests := true, laidLooks := .later }
def VmoveMovesUptoCardSaid : Prop := Claim7.holds Tryz.pinned (.plain (OpenSpec.upto vmoveMovesSpec)) vmoveMovesUptoCard

/-- THE SECOND FORM's CARD OF 'censuslaw28.VmoveCopies'. -/
def vmoveCopiesUptoCard : Claim7 := { stood := { row := vmoveCopiesUptoRow, standIns := [], harness := (true, "d2dd4fb8ec94a3538c3e875587a844e6730ad0950134e11d3b43fb894f91af61"), looks := true }, kinds := [], alts := [], laidByText := true, laidKinds := [.data, .data, .data, .sentinel, .sentinel], laidTests := true, laidLooks := .later }
def VmoveCopiesUptoCardSaid : Prop := Claim7.holds Tryz.pinned (.plain (OpenSpec.upto vmoveCopiesSpec)) vmoveCopiesUptoCard

/-- THE SECOND FORM's CARD OF 'censuslaw28.VmoveBack'. -/
def vmoveBackUptoCard : Claim7 := { stood := { row := vmoveBackUptoRow, standIns := [], harness := (true, "d2dd4fb8ec94a3538c3e875587a844e6730ad0950134e11d3b43fb894f91af61"), looks := true }, kinds := [], alts := [], laidByText := true, laidKinds := [.data, .data, .data, .sentinel, .sentinel], laidTests := true, laidLooks := .later }
def VmoveBackUptoCardSaid : Prop := Claim7.holds Tryz.pinned (.plain (OpenSpec.upto vmoveBackSpec)) vmoveBackUptoCard

/-- THE SECOND FORM's CARD OF 'censuslaw28.VmoveThrough'. -/
def vmoveThroughUptoCard : Claim7 := { stood := { row := vmoveThroughUptoRow, standIns := [], harness := (true, "d2dd4fb8ec94a3538c3e875587a844e6730ad0950134e11d3b43fb894f91af61"), looks := true }, kinds := [], alts := [], laidByText := true, laidKinds := [.data, .data, .data, .sentinel, .sentinel], laidTests := true, laidLooks := .later }
def VmoveThroughUptoCardSaid : Prop := Claim7.holds Tryz.pinned (.plain (OpenSpec.upto vmoveThroughSpec)) vmoveThroughUptoCard

/-- THE SECOND FORM's CARD OF 'censuslaw28.VmoveKeeps'. -/
def vmoveKeepsUptoCard : Claim7 := { stood := { row := vmoveKeepsUptoRow, standIns := [], harness := (true, "d2dd4fb8ec94a3538c3e875587a844e6730ad0950134e11d3b43fb894f91af61"), looks := true }, kinds := [], alts := [], laidByText := true, laidKinds := [.data, .data, .data, .sentinel, .sentinel], laidTests := true, laidLooks := .later }
def VmoveKeepsUptoCardSaid : Prop := Claim7.holds Tryz.pinned (.plain (OpenSpec.upto vmoveKeepsSpec)) vmoveKeepsUptoCard

/-- THE SECOND FORM's CARD OF 'censuslaw28.VmoveEvals'. -/
def vmoveEvalsUptoCard : Claim7 := { stood := { row := vmoveEvalsUptoRow, standIns := [], harness := (true, "d2dd4fb8ec94a3538c3e875587a844e6730ad0950134e11d3b43fb894f91af61"), looks := true }, kinds := [], alts := [], laidByText := true, laidKinds := [.data, .data, .data, .sentinel, .sentinel], laidTests := true, laidLooks := .later }
def VmoveEvalsUptoCardSaid : Prop := Claim7.holds Tryz.pinned (.plain (OpenSpec.upto vmoveEvalsSpec)) vmoveEvalsUptoCard

/-- THE SECOND FORM's CARD OF 'censuslaw28.VmoveErrors'. -/
def vmoveErrorsUptoCard : Claim7 := { stood := { row := vmoveErrorsUptoRow, standIns := [], harness := (true, "d2dd4fb8ec94a3538c3e875587a844e6730ad0950134e11d3b43fb894f91af61"), looks := true }, kinds := [], alts := [], laidByText := true, laidKinds := [.data, .data, .data, .sentinel, .sentinel], laidTests := true, laidLooks := .later }
def VmoveErrorsUptoCardSaid : Prop := Claim7.holds Tryz.pinned (.plain (OpenSpec.upto vmoveErrorsSpec)) vmoveErrorsUptoCard

/-- THE SECOND FORM's CARD OF 'censuslaw28.VmoveKnown'. -/
def vmoveKnownUptoCard : Claim7 := { stood := { row := vmoveKnownUptoRow, standIns := [], harness := (true, "d2dd4fb8ec94a3538c3e875587a844e6730ad0950134e11d3b43fb894f91af61"), looks := true }, kinds := [], alts := [], laidByText := true, laidKinds := [.data, .data, .data, .sentinel, .sentinel], laidTests := true, laidLooks := .later }
def VmoveKnownUptoCardSaid : Prop := Claim7.holds Tryz.pinned (.plain (OpenSpec.upto vmoveKnownSpec)) vmoveKnownUptoCard
end Rows
end Go.Proofs.YteikmmfjhabijaaGreatDoor
