/-
  DERIVED. GIVEN WITH THE SEED: THE CARDS: each row of YtemnmcfmabamcaaGreatDoorRows.lean that lists a variable, with what it lists TIED to the program's text (the seventh form; the later family's looks); each row that meets fmt, with fmt's text TOLD by the authors' own Lean function (tested against real Go, not proved from fmt's source: count such statements apart). THE CARD IS WHAT COUNTS. Prove the row's statement (the work); the ties are given (YtemnmcfmabamcaaGreatDoorTie.lean); close each card by the builder's one call (the guide's Derived/Test/ToyasCard.lean, 'card_holds'). Laid BY PROGRAM, IN A SANDBOX (cutbox-door.mjs). By AI agents, Wed Nov 11 2026. No macro, syntax, notation, axiom, sorry.
-/
import Derived.Test.YtemnmcfmabamcaaGreatDoorRows
import GoSem.ClaimSeven
namespace Go.Proofs.YtemnmcfmabamcaaGreatDoor
namespace Rows

/-- THE TIED CARD OF 'censuslaw29.VsearchEnds'. -/
def vsearchEndsCard : Claim7 := { stood := { row := vsearchEndsRow, standIns := [], harness := (true, "c9fd4c1eae322ec8b5b19cf7661e7445234a9c1e14f1b879904b46db7522b6c0"), looks := true }, kinds := [], alts := [], laidByText := true, laidKinds := [.data, .data, .data, .sentinel, .sentinel], laidTests := true, laidLooks := .later }
def VsearchEndsCardSaid : Prop := Claim7.holds Tryz.pinned (.plain (OpenSpec.ofChange vsearchEndsSpec)) vsearchEndsCard

/-- THE TIED CARD OF 'censuslaw29.VsearchMoves'. -/
def vsearchMovesCard : Claim7 := { stood := { row := vsearchMovesRow, standIns := [], harness := (true, "c9fd4c1eae322ec8b5b19cf7661e7445234a9c1e14f1b879904b46db7522b6c0"), looks := true }, kinds := [], alts := [], laidByText := true, laidKinds := [.data, .data, .data, .sentinel, .sentinel], laidTests := true, laidLooks := .later }
def VsearchMovesCardSaid : Prop := Claim7.holds Tryz.pinned (.plain (OpenSpec.ofChange vsearchMovesSpec)) vsearchMovesCard

/-- THE TIED CARD OF 'censuslaw29.VsearchLeast'. -/
def vsearchLeastCard : Claim7 := { stood := { row := vsearchLeastRow, standIns := [], harness := (true, "c9fd4c1eae322ec8b5b19cf7661e7445234a9c1e14f1b879904b46db7522b6c0"), looks := true }, kinds := [], alts := [], laidByText := true, laidKinds := [.data, .data, .data, .sentinel, .sentinel], laidTests := true, laidLooks := .later }
def VsearchLeastCardSaid : Prop := Claim7.holds Tryz.pinned (.plain (OpenSpec.ofChange vsearchLeastSpec)) vsearchLeastCard

/-- THE TIED CARD OF 'censuslaw29.VsearchMore'. -/
def vsearchMoreCard : Claim7 := { stood := { row := vsearchMoreRow, standIns := [], harness := (true, "c9fd4c1eae322ec8b5b19cf7661e7445234a9c1e14f1b879904b46db7522b6c0"), looks := true }, kinds := [], alts := [], laidByText := true, laidKinds := [.data, .data, .data, .sentinel, .sentinel], laidTests := true, laidLooks := .later }
def VsearchMoreCardSaid : Prop := Claim7.holds Tryz.pinned (.plain (OpenSpec.ofChange vsearchMoreSpec)) vsearchMoreCard

/-- THE TIED CARD OF 'censuslaw29.VsearchNone'. -/
def vsearchNoneCard : Claim7 := { stood := { row := vsearchNoneRow, standIns := [], harness := (true, "c9fd4c1eae322ec8b5b19cf7661e7445234a9c1e14f1b879904b46db7522b6c0"), looks := true }, kinds := [], alts := [], laidByText := true, laidKinds := [.data, .data, .data, .sentinel, .sentinel], laidTests := true, laidLooks := .later }
def VsearchNoneCardSaid : Prop := Claim7.holds Tryz.pinned (.plain (OpenSpec.ofChange vsearchNoneSpec)) vsearchNoneCard

/-- THE TIED CARD OF 'censuslaw29.VsearchChain'. -/
def vsearchChainCard : Claim7 := { stood := { row := vsearchChainRow, standIns := [], harness := (true, "c9fd4c1eae322ec8b5b19cf7661e7445234a9c1e14f1b879904b46db7522b6c0"), looks := true }, kinds := [], alts := [], laidByText := true, laidKinds := [.data, .data, .data, .sentinel, .sentinel], laidTests := true, laidLooks := .later }
def VsearchChainCardSaid : Prop := Claim7.holds Tryz.pinned (.plain (OpenSpec.ofChange vsearchChainSpec)) vsearchChainCard

/-- THE TIED CARD OF 'censuslaw29.VsearchKnown'. -/
def vsearchKnownCard : Claim7 := { stood := { row := vsearchKnownRow, standIns := [], harness := (true, "c9fd4c1eae322ec8b5b19cf7661e7445234a9c1e14f1b879904b46db7522b6c0"), looks := true }, kinds := [], alts := [], laidByText := true, laidKinds := [.data, .data, .data, .sentinel, .sentinel], laidTests := true, laidLooks := .later }
def VsearchKnownCardSaid : Prop := Claim7.holds Tryz.pinned (.plain (OpenSpec.ofChange vsearchKnownSpec)) vsearchKnownCard

/-- THE TIED CARD OF 'censuslaw29.VsearchSame'. -/
def vsearchSameCard : Claim7 := { stood := { row := vsearchSameRow, standIns := [], harness := (true, "c9fd4c1eae322ec8b5b19cf7661e7445234a9c1e14f1b879904b46db7522b6c0"), looks := true }, kinds := [], alts := [], laidByText := true, laidKinds := [.data, .data, .data, .sentinel, .sentinel], laidTests := true, laidLooks := .later }
def VsearchSameCardSaid : Prop := Claim7.holds Tryz.pinned (.plain (OpenSpec.ofChange vsearchSameSpec)) vsearchSameCard

/-- THE SECOND FORM's CARD OF 'censuslaw29.VsearchEnds'. -/
def vsearchEndsUptoCard : Claim7 := { stood := { row := vsearchEndsUptoRow, standIns := [], harness := (true, "c9fd4c1eae322ec8b5b19cf7661e7445234a9c1e14f1b879904b46db7522b6c0"), looks := true }, kinds := [], alts := [], laidByText := true, laidKinds := [.data, .data, .data, .sentinel, .sentinel], laidTests := true, laidLooks := .later }
def VsearchEndsUptoCardSaid : Prop := Claim7.holds Tryz.pinned (.plain (OpenSpec.upto vsearchEndsSpec)) vsearchEndsUptoCard

/-- THE SECOND FORM's CARD OF 'censuslaw29.VsearchMoves'. -/
def vsearchMovesUptoCard : Claim7 := { stood := { row := vsearchMovesUptoRow, standIns := [], harness := (true, "c9fd4c1eae322ec8b5b19cf7661e7445234a9c1e14f1b879904b46db7522b6c0"), looks := true }, kinds := [], alts := [], laidByText := true, laidKinds := [.data, .data, .data, .sentinel, .sentinel], laidTests := true, laidLooks := .later }
def VsearchMovesUptoCardSaid : Prop := Claim7.holds Tryz.pinned (.plain (OpenSpec.upto vsearchMovesSpec)) vsearchMovesUptoCard

/-- THE SECOND FORM's CARD OF 'censuslaw29.VsearchLeast'. -/
def vsearchLeastUptoCard : Claim7 := { stood := { row := vsearchLeastUptoRow, standIns := [], harness := (true, "c9fd4c1eae322ec8b5b19cf7661e7445234a9c1e14f1b879904b46db7522b6c0"), looks := true }, kinds := [], alts := [], laidByText := true, laidKinds := [.data, .data, .data, .sentinel, .sentinel], laidTests := true, laidLooks := .later }
def VsearchLeastUptoCardSaid : Prop := Claim7.holds Tryz.pinned (.plain (OpenSpec.upto vsearchLeastSpec)) vsearchLeastUptoCard

/-- THE SECOND FORM's CARD OF 'censuslaw29.VsearchMore'. -/
def vsearchMoreUptoCard : Claim7 := { stood := { row := vsearchMoreUptoRow, standIns := [], harness := (true, "c9fd4c1eae322ec8b5b19cf7661e7445234a9c1e14f1b879904b46db7522b6c0"), looks := true }, kinds := [], alts := [], laidByText := true, laidKinds := [.data, .data, .data, .sentinel, .sentinel], laidTests := true, laidLooks := .later }
def VsearchMoreUptoCardSaid : Prop := Claim7.holds Tryz.pinned (.plain (OpenSpec.upto vsearchMoreSpec)) vsearchMoreUptoCard

/-- THE SECOND FORM's CARD OF 'censuslaw29.VsearchNone'. -/
def vsearchNoneUptoCard : Claim7 := { stood := { row := vsearchNoneUptoRow, standIns := [], harness := (true, "c9fd4c1eae322ec8b5b19cf7661e7445234a9c1e14f1b879904b46db7522b6c0"), looks := true }, kinds := [], alts := [], laidByText := true, laidKinds := [.data, .data, .data, .sentinel, .sentinel], laidTests := true, laidLooks := .later }
def VsearchNoneUptoCardSaid : Prop := Claim7.holds Tryz.pinned (.plain (OpenSpec.upto vsearchNoneSpec)) vsearchNoneUptoCard

/-- THE SECOND FORM's CARD OF 'censuslaw29.VsearchChain'. -/
def vsearchChainUptoCard : Claim7 := { stood := { row := vsearchChainUptoRow, standIns := [], harness := (true, "c9fd4c1eae322ec8b5b19cf7661e7445234a9c1e14f1b879904b46db7522b6c0"), looks := true }, kinds := [], alts := [], laidByText := true, laidKinds := [.data, .data, .data, .sentinel, .sentinel], laidTests := true, laidLooks := .later }
def VsearchChainUptoCardSaid : Prop := Claim7.holds Tryz.pinned (.plain (OpenSpec.upto vsearchChainSpec)) vsearchChainUptoCard

/-- THE SECOND FORM's CARD OF 'censuslaw29.VsearchKnown'. -/
def vsearchKnownUptoCard : Claim7 := { stood := { row := vsearchKnownUptoRow, standIns := [], harness := (true, "c9fd4c1eae322ec8b5b19cf7661e7445234a9c1e14f1b879904b46db7522b6c0"), looks := true }, kinds := [], alts := [], laidByText := true, laidKinds := [.data, .data, .data, .sentinel, .sentinel], laidTests := true, laidLooks := .later }
def VsearchKnownUptoCardSaid : Prop := Claim7.holds Tryz.pinned (.plain (OpenSpec.upto vsearchKnownSpec)) vsearchKnownUptoCard

/-- THE SECOND FORM's CARD OF 'censuslaw29.VsearchSame'. -/
def vsearchSameUptoCard : Claim7 := { stood := { row := vsearchSameUptoRow, standIns := [], harness := (true, "c9fd4c1eae322ec8b5b19cf7661e7445234a9c1e14f1b879904b46db7522b6c0"), looks := true }, kinds := [], alts := [], laidByText := true, laidKinds := [.data, .data, .data, .sentinel, .sentinel], laidTests := true, laidLooks := .later }
def VsearchSameUptoCardSaid : Prop := Claim7.holds Tryz.pinned (.plain (OpenSpec.upto vsearchSameSpec)) vsearchSameUptoCard
end Rows
end Go.Proofs.YtemnmcfmabamcaaGreatDoor
