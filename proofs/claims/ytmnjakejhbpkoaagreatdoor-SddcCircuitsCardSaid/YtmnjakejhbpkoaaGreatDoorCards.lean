/-
  DERIVED. GIVEN WITH THE SEED: THE CARDS: each row of YtmnjakejhbpkoaaGreatDoorRows.lean that lists a variable, with what it lists TIED to the program's text (the seventh form; the later family's looks); each row that meets fmt, with fmt's text TOLD by the authors' own Lean function (tested against real Go, not proved from fmt's source: count such statements apart). THE CARD IS WHAT COUNTS. Prove the row's statement (the work); the ties are given (YtmnjakejhbpkoaaGreatDoorTie.lean); close each card by the builder's one call (the guide's Derived/Test/ToyasCard.lean, 'card_holds'). Laid BY PROGRAM, IN A SANDBOX (cutbox-door.mjs). By AI agents, Wed Nov 11 2026. No macro, syntax, notation, axiom, sorry.
-/
import Derived.Test.YtmnjakejhbpkoaaGreatDoorRows
import GoSem.ClaimSeven
namespace Go.Proofs.YtmnjakejhbpkoaaGreatDoor
namespace Rows

/-- THE TIED CARD OF 'censuslaw27.SddcCompiles'. -/
def sddcCompilesCard : Claim7 := { stood := { row := sddcCompilesRow, standIns := [], harness := (true, "e97ea7dedd4064ffe8a4ce6e33e890785f63fbbc1984b90c1b4f93348d16b56e"), looks := true }, kinds := [], alts := [], laidByText := true, laidKinds := [.data, .data, .data], laidTests := true, laidLooks := .later }
def SddcCompilesCardSaid : Prop := Claim7.holds Tryz.pinned (.plain (OpenSpec.ofChange sddcCompilesSpec)) sddcCompilesCard

/-- THE TIED CARD OF 'censuslaw27.SddcTwice'. -/
def sddcTwiceCard : Claim7 := { stood := { row := sddcTwiceRow, standIns := [], harness := (true, "e97ea7dedd4064ffe8a4ce6e33e890785f63fbbc1984b90c1b4f93348d16b56e"), looks := true }, kinds := [], alts := [], laidByText := true, laidKinds := [.data, .data, .data], laidTests := true, laidLooks := .later }
def SddcTwiceCardSaid : Prop := Claim7.holds Tryz.pinned (.plain (OpenSpec.ofChange sddcTwiceSpec)) sddcTwiceCard

/-- THE TIED CARD OF 'censuslaw27.SddcGivens'. -/
def sddcGivensCard : Claim7 := { stood := { row := sddcGivensRow, standIns := [], harness := (true, "e97ea7dedd4064ffe8a4ce6e33e890785f63fbbc1984b90c1b4f93348d16b56e"), looks := true }, kinds := [], alts := [], laidByText := true, laidKinds := [.data, .data, .data], laidTests := true, laidLooks := .later }
def SddcGivensCardSaid : Prop := Claim7.holds Tryz.pinned (.plain (OpenSpec.ofChange sddcGivensSpec)) sddcGivensCard

/-- THE TIED CARD OF 'censuslaw27.SddcSplits'. -/
def sddcSplitsCard : Claim7 := { stood := { row := sddcSplitsRow, standIns := [], harness := (true, "e97ea7dedd4064ffe8a4ce6e33e890785f63fbbc1984b90c1b4f93348d16b56e"), looks := true }, kinds := [], alts := [], laidByText := true, laidKinds := [.data, .data, .data], laidTests := true, laidLooks := .later }
def SddcSplitsCardSaid : Prop := Claim7.holds Tryz.pinned (.plain (OpenSpec.ofChange sddcSplitsSpec)) sddcSplitsCard

/-- THE TIED CARD OF 'censuslaw27.SddcMeaning'. -/
def sddcMeaningCard : Claim7 := { stood := { row := sddcMeaningRow, standIns := [], harness := (true, "e97ea7dedd4064ffe8a4ce6e33e890785f63fbbc1984b90c1b4f93348d16b56e"), looks := true }, kinds := [], alts := [], laidByText := true, laidKinds := [.data, .data, .data], laidTests := true, laidLooks := .later }
def SddcMeaningCardSaid : Prop := Claim7.holds Tryz.pinned (.plain (OpenSpec.ofChange sddcMeaningSpec)) sddcMeaningCard

/-- THE TIED CARD OF 'censuslaw27.SddcCircuits'. -/
def sddcCircuitsCard : Claim7 := { stood := { row := sddcCircuitsRow, standIns := [], harness := (true, "e97ea7dedd4064ffe8a4ce6e33e890785f63fbbc1984b90c1b4f93348d16b56e"), looks := true }, kinds := [], alts := [], laidByText := true, laidKinds := [.data, .data, .data], laidTests := true, laidLooks := .later }
def SddcCircuitsCardSaid : Prop := Claim7.holds Tryz.pinned (.plain (OpenSpec.ofChange sddcCircuitsSpec)) sddcCircuitsCard

/-- THE TIED CARD OF 'censuslaw27.SddcNets'. -/
def sddcNetsCard : Claim7 := { stood := { row := sddcNetsRow, standIns := [], harness := (true, "e97ea7dedd4064ffe8a4ce6e33e890785f63fbbc1984b90c1b4f93348d16b56e"), looks := true }, kinds := [], alts := [], laidByText := true, laidKinds := [.data, .data, .data], laidTests := true, laidLooks := .later }
def SddcNetsCardSaid : Prop := Claim7.holds Tryz.pinned (.plain (OpenSpec.ofChange sddcNetsSpec)) sddcNetsCard

/-- THE TIED CARD OF 'censuslaw27.SddcErrors'. -/
def sddcErrorsCard : Claim7 := { stood := { row := sddcErrorsRow, standIns := [], harness := (true, "e97ea7dedd4064ffe8a4ce6e33e890785f63fbbc1984b90c1b4f93348d16b56e"), looks := true }, kinds := [], alts := [], laidByText := true, laidKinds := [.data, .data, .data], laidTests := true, laidLooks := .later }
def SddcErrorsCardSaid : Prop := Claim7.holds Tryz.pinned (.plain (OpenSpec.ofChange sddcErrorsSpec)) sddcErrorsCard

/-- THE TIED CARD OF 'censuslaw27.SddcKnown'. -/
def sddcKnownCard : Claim7 := { stood := { row := sddcKnownRow, standIns := [], harness := (true, "e97ea7dedd4064ffe8a4ce6e33e890785f63fbbc1984b90c1b4f93348d16b56e"), looks := true }, kinds := [], alts := [], laidByText := true, laidKinds := [.data, .data, .data], laidTests := true, laidLooks := .later }
def SddcKnownCardSaid : Prop := Claim7.holds Tryz.pinned (.plain (OpenSpec.ofChange sddcKnownSpec)) sddcKnownCard

/-- THE TIED CARD OF 'censuslaw27.SddcPairs'. -/
def sddcPairsCard : Claim7 := { stood := { row := sddcPairsRow, standIns := [], harness := (true, "e97ea7dedd4064ffe8a4ce6e33e890785f63fbbc1984b90c1b4f93348d16b56e"), looks := true }, kinds := [], alts := [], laidByText := true, laidKinds := [.data, .data, .data], laidTests := true, laidLooks := .later }
def SddcPairsCardSaid : Prop := Claim7.holds Tryz.pinned (.plain (OpenSpec.ofChange sddcPairsSpec)) sddcPairsCard

/-- THE TIED CARD OF 'censuslaw27.SddcShape'. -/
def sddcShapeCard : Claim7 := { stood := { row := sddcShapeRow, standIns := [], harness := (true, "e97ea7dedd4064ffe8a4ce6e33e890785f63fbbc1984b90c1b4f93348d16b56e"), looks := true }, kinds := [], alts := [], laidByText := true, laidKinds := [.data, .data, .data, .data], laidTests := true, laidLooks := .later }
def SddcShapeCardSaid : Prop := Claim7.holds Tryz.pinned (.plain (OpenSpec.ofChange sddcShapeSpec)) sddcShapeCard

/-- THE SECOND FORM's CARD OF 'censuslaw27.SddcCompiles'. -/
def sddcCompilesUptoCard : Claim7 := { stood := { row := sddcCompilesUptoRow, standIns := [], harness := (true, "e97ea7dedd4064ffe8a4ce6e33e890785f63fbbc1984b90c1b4f93348d16b56e"), looks := true }, kinds := [], alts := [], laidByText := true, laidKinds := [.data, .data, .data], laidTests := true, laidLooks := .later }
def SddcCompilesUptoCardSaid : Prop := Claim7.holds Tryz.pinned (.plain (OpenSpec.upto sddcCompilesSpec)) sddcCompilesUptoCard

/-- THE SECOND FORM's CARD OF 'censuslaw27.SddcTwice'. -/
def sddcTwiceUptoCard : Claim7 := { stood := { row := sddcTwiceUptoRow, standIns := [], harness := (true, "e97ea7dedd4064ffe8a4ce6e33e890785f63fbbc1984b90c1b4f93348d16b56e"), looks := true }, kinds := [], alts := [], laidByText := true, laidKinds := [.data, .data, .data], laidTests := true, laidLooks := .later }
def SddcTwiceUptoCardSaid : Prop := Claim7.holds Tryz.pinned (.plain (OpenSpec.upto sddcTwiceSpec)) sddcTwiceUptoCard

/-- THE SECOND FORM's CARD OF 'censuslaw27.SddcGivens'. -/
def sddcGivensUptoCard : Claim7 := { stood := { row := sddcGivensUptoRow, standIns := [], harness := (true, "e97ea7dedd4064ffe8a4ce6e33e890785f63fbbc1984b90c1b4f93348d16b56e"), looks := true }, kinds := [], alts := [], laidByText := true, laidKinds := [.data, .data, .data], laidTests := true, laidLooks := .later }
def SddcGivensUptoCardSaid : Prop := Claim7.holds Tryz.pinned (.plain (OpenSpec.upto sddcGivensSpec)) sddcGivensUptoCard

/-- THE SECOND FORM's CARD OF 'censuslaw27.SddcSplits'. -/
def sddcSplitsUptoCard : Claim7 := { stood := { row := sddcSplitsUptoRow, standIns := [], harness := (true, "e97ea7dedd4064ffe8a4ce6e33e890785f63fbbc1984b90c1b4f93348d16b56e"), looks := true }, kinds := [], alts := [], laidByText := true, laidKinds := [.data, .data, .data], laidTests := true, laidLooks := .later }
def SddcSplitsUptoCardSaid : Prop := Claim7.holds Tryz.pinned (.plain (OpenSpec.upto sddcSplitsSpec)) sddcSplitsUptoCard

/-- THE SECOND FORM's CARD OF 'censuslaw27.SddcMeaning'. -/
def sddcMeaningUptoCard : Claim7 := { stood := { row := sddcMeaningUptoRow, standIns := [], harness := (true, "e97ea7dedd4064ffe8a4ce6e33e890785f63fbbc1984b90c1b4f93348d16b56e"), looks := true }, kinds := [], alts := [], laidByText := true, laidKinds := [.data, .data, .data], laidTests := true, laidLooks := .later }
def SddcMeaningUptoCardSaid : Prop := Claim7.holds Tryz.pinned (.plain (OpenSpec.upto sddcMeaningSpec)) sddcMeaningUptoCard

/-- THE SECOND FORM's CARD OF 'censuslaw27.SddcCircuits'. -/
def sddcCircuitsUptoCard : Claim7 := { stood := { row := sddcCircuitsUptoRow, standIns := [], harness := (true, "e97ea7dedd4064ffe8a4ce6e33e890785f63fbbc1984b90c1b4f93348d16b56e"), looks := true }, kinds := [], alts := [], laidByText := true, laidKinds := [.data, .data, .data], laidTests := true, laidLooks := .later }
def SddcCircuitsUptoCardSaid : Prop := Claim7.holds Tryz.pinned (.plain (OpenSpec.upto sddcCircuitsSpec)) sddcCircuitsUptoCard

/-- THE SECOND FORM's CARD OF 'censuslaw27.SddcNets'. -/
def sddcNetsUptoCard : Claim7 := { stood := { row := sddcNetsUptoRow, standIns := [], harness := (true, "e97ea7dedd4064ffe8a4ce6e33e890785f63fbbc1984b90c1b4f93348d16b56e"), looks := true }, kinds := [], alts := [], laidByText := true, laidKinds := [.data, .data, .data], laidTests := true, laidLooks := .later }
def SddcNetsUptoCardSaid : Prop := Claim7.holds Tryz.pinned (.plain (OpenSpec.upto sddcNetsSpec)) sddcNetsUptoCard

/-- THE SECOND FORM's CARD OF 'censuslaw27.SddcErrors'. -/
def sddcErrorsUptoCard : Claim7 := { stood := { row := sddcErrorsUptoRow, standIns := [], harness := (true, "e97ea7dedd4064ffe8a4ce6e33e890785f63fbbc1984b90c1b4f93348d16b56e"), looks := true }, kinds := [], alts := [], laidByText := true, laidKinds := [.data, .data, .data], laidTests := true, laidLooks := .later }
def SddcErrorsUptoCardSaid : Prop := Claim7.holds Tryz.pinned (.plain (OpenSpec.upto sddcErrorsSpec)) sddcErrorsUptoCard

/-- THE SECOND FORM's CARD OF 'censuslaw27.SddcKnown'. -/
def sddcKnownUptoCard : Claim7 := { stood := { row := sddcKnownUptoRow, standIns := [], harness := (true, "e97ea7dedd4064ffe8a4ce6e33e890785f63fbbc1984b90c1b4f93348d16b56e"), looks := true }, kinds := [], alts := [], laidByText := true, laidKinds := [.data, .data, .data], laidTests := true, laidLooks := .later }
def SddcKnownUptoCardSaid : Prop := Claim7.holds Tryz.pinned (.plain (OpenSpec.upto sddcKnownSpec)) sddcKnownUptoCard

/-- THE SECOND FORM's CARD OF 'censuslaw27.SddcPairs'. -/
def sddcPairsUptoCard : Claim7 := { stood := { row := sddcPairsUptoRow, standIns := [], harness := (true, "e97ea7dedd4064ffe8a4ce6e33e890785f63fbbc1984b90c1b4f93348d16b56e"), looks := true }, kinds := [], alts := [], laidByText := true, laidKinds := [.data, .data, .data], laidTests := true, laidLooks := .later }
def SddcPairsUptoCardSaid : Prop := Claim7.holds Tryz.pinned (.plain (OpenSpec.upto sddcPairsSpec)) sddcPairsUptoCard

/-- THE SECOND FORM's CARD OF 'censuslaw27.SddcShape'. -/
def sddcShapeUptoCard : Claim7 := { stood := { row := sddcShapeUptoRow, standIns := [], harness := (true, "e97ea7dedd4064ffe8a4ce6e33e890785f63fbbc1984b90c1b4f93348d16b56e"), looks := true }, kinds := [], alts := [], laidByText := true, laidKinds := [.data, .data, .data, .data], laidTests := true, laidLooks := .later }
def SddcShapeUptoCardSaid : Prop := Claim7.holds Tryz.pinned (.plain (OpenSpec.upto sddcShapeSpec)) sddcShapeUptoCard
end Rows
end Go.Proofs.YtmnjakejhbpkoaaGreatDoor
