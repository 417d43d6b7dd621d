/-
  DERIVED. GIVEN WITH THE SEED: THE CARDS: each row of YtckhohpbokojdaaGreatDoorRows.lean that lists a variable, with what it lists TIED to the program's text (the seventh form; the later family's looks); each row that meets fmt, with fmt's text TOLD by the authors' own Lean function (tested against real Go, not proved from fmt's source: count such statements apart). THE CARD IS WHAT COUNTS. Prove the row's statement (the work); the ties are given (YtckhohpbokojdaaGreatDoorTie.lean); close each card by the builder's one call (the guide's Derived/Test/ToyasCard.lean, 'card_holds'). Laid BY PROGRAM, IN A SANDBOX (cutbox-door.mjs). By AI agents, Wed Nov 11 2026. No macro, syntax, notation, axiom, sorry.
-/
import Derived.Test.YtckhohpbokojdaaGreatDoorRows
import GoSem.ClaimSeven
namespace Go.Proofs.YtckhohpbokojdaaGreatDoor
namespace Rows

/-- THE TIED CARD OF 'censuslaw35.CondGives'. -/
def condGivesCard : Claim7 := { stood := { row := condGivesRow, standIns := [], harness := (true, "430502caaf9e6df2caf4acc04cea3b0195939e2de2fc60ba0e1904a4c6a0e101"), looks := false }, kinds := [], alts := [], laidByText := true, laidKinds := [.data, .data, .data], laidTests := true, laidLooks := .later }
def CondGivesCardSaid : Prop := Claim7.holds Tryz.pinned (.plain (OpenSpec.ofChange condGivesSpec)) condGivesCard

/-- THE TIED CARD OF 'censuslaw35.CondForgets'. -/
def condForgetsCard : Claim7 := { stood := { row := condForgetsRow, standIns := [], harness := (true, "430502caaf9e6df2caf4acc04cea3b0195939e2de2fc60ba0e1904a4c6a0e101"), looks := false }, kinds := [], alts := [], laidByText := true, laidKinds := [.data, .data, .data], laidTests := true, laidLooks := .later }
def CondForgetsCardSaid : Prop := Claim7.holds Tryz.pinned (.plain (OpenSpec.ofChange condForgetsSpec)) condForgetsCard

/-- THE TIED CARD OF 'censuslaw35.CondTwice'. -/
def condTwiceCard : Claim7 := { stood := { row := condTwiceRow, standIns := [], harness := (true, "430502caaf9e6df2caf4acc04cea3b0195939e2de2fc60ba0e1904a4c6a0e101"), looks := false }, kinds := [], alts := [], laidByText := true, laidKinds := [.data, .data, .data], laidTests := true, laidLooks := .later }
def CondTwiceCardSaid : Prop := Claim7.holds Tryz.pinned (.plain (OpenSpec.ofChange condTwiceSpec)) condTwiceCard

/-- THE TIED CARD OF 'censuslaw35.CondAll'. -/
def condAllCard : Claim7 := { stood := { row := condAllRow, standIns := [], harness := (true, "430502caaf9e6df2caf4acc04cea3b0195939e2de2fc60ba0e1904a4c6a0e101"), looks := false }, kinds := [], alts := [], laidByText := true, laidKinds := [.data, .data, .data], laidTests := true, laidLooks := .later }
def CondAllCardSaid : Prop := Claim7.holds Tryz.pinned (.plain (OpenSpec.ofChange condAllSpec)) condAllCard

/-- THE TIED CARD OF 'censuslaw35.CondHolds'. -/
def condHoldsCard : Claim7 := { stood := { row := condHoldsRow, standIns := [], harness := (true, "430502caaf9e6df2caf4acc04cea3b0195939e2de2fc60ba0e1904a4c6a0e101"), looks := false }, kinds := [], alts := [], laidByText := true, laidKinds := [.data, .data, .data], laidTests := true, laidLooks := .later }
def CondHoldsCardSaid : Prop := Claim7.holds Tryz.pinned (.plain (OpenSpec.ofChange condHoldsSpec)) condHoldsCard

/-- THE TIED CARD OF 'censuslaw35.CondExists'. -/
def condExistsCard : Claim7 := { stood := { row := condExistsRow, standIns := [], harness := (true, "430502caaf9e6df2caf4acc04cea3b0195939e2de2fc60ba0e1904a4c6a0e101"), looks := false }, kinds := [], alts := [], laidByText := true, laidKinds := [.data, .data, .data], laidTests := true, laidLooks := .later }
def CondExistsCardSaid : Prop := Claim7.holds Tryz.pinned (.plain (OpenSpec.ofChange condExistsSpec)) condExistsCard

/-- THE TIED CARD OF 'censuslaw35.CondShapes'. -/
def condShapesCard : Claim7 := { stood := { row := condShapesRow, standIns := [], harness := (true, "430502caaf9e6df2caf4acc04cea3b0195939e2de2fc60ba0e1904a4c6a0e101"), looks := false }, kinds := [], alts := [], laidByText := true, laidKinds := [.data, .data, .data, .data], laidTests := true, laidLooks := .later }
def CondShapesCardSaid : Prop := Claim7.holds Tryz.pinned (.plain (OpenSpec.ofChange condShapesSpec)) condShapesCard

/-- THE SECOND FORM's CARD OF 'censuslaw35.CondGives'. -/
def condGivesUptoCard : Claim7 := { stood := { row := condGivesUptoRow, standIns := [], harness := (true, "430502caaf9e6df2caf4acc04cea3b0195939e2de2fc60ba0e1904a4c6a0e101"), looks := false }, kinds := [], alts := [], laidByText := true, laidKinds := [.data, .data, .data], laidTests := true, laidLooks := .later }
def CondGivesUptoCardSaid : Prop := Claim7.holds Tryz.pinned (.plain (OpenSpec.upto condGivesSpec)) condGivesUptoCard

/-- THE SECOND FORM's CARD OF 'censuslaw35.CondForgets'. -/
def condForgetsUptoCard : Claim7 := { stood := { row := condForgetsUptoRow, standIns := [], harness := (true, "430502caaf9e6df2caf4acc04cea3b0195939e2de2fc60ba0e1904a4c6a0e101"), looks := false }, kinds := [], alts := [], laidByText := true, laidKinds := [.data, .data, .data], laidTests := true, laidLooks := .later }
def CondForgetsUptoCardSaid : Prop := Claim7.holds Tryz.pinned (.plain (OpenSpec.upto condForgetsSpec)) condForgetsUptoCard

/-- THE SECOND FORM's CARD OF 'censuslaw35.CondTwice'. -/
def condTwiceUptoCard : Claim7 := { stood := { row := condTwiceUptoRow, standIns := [], harness := (true, "430502caaf9e6df2caf4acc04cea3b0195939e2de2fc60ba0e1904a4c6a0e101"), looks := false }, kinds := [], alts := [], laidByText := true, laidKinds := [.data, .data, .data], laidTests := true, laidLooks := .later }
def CondTwiceUptoCardSaid : Prop := Claim7.holds Tryz.pinned (.plain (OpenSpec.upto condTwiceSpec)) condTwiceUptoCard

/-- THE SECOND FORM's CARD OF 'censuslaw35.CondAll'. -/
def condAllUptoCard : Claim7 := { stood := { row := condAllUptoRow, standIns := [], harness := (true, "430502caaf9e6df2caf4acc04cea3b0195939e2de2fc60ba0e1904a4c6a0e101"), looks := false }, kinds := [], alts := [], laidByText := true, laidKinds := [.data, .data, .data], laidTests := true, laidLooks := .later }
def CondAllUptoCardSaid : Prop := Claim7.holds Tryz.pinned (.plain (OpenSpec.upto condAllSpec)) condAllUptoCard

/-- THE SECOND FORM's CARD OF 'censuslaw35.CondHolds'. -/
def condHoldsUptoCard : Claim7 := { stood := { row := condHoldsUptoRow, standIns := [], harness := (true, "430502caaf9e6df2caf4acc04cea3b0195939e2de2fc60ba0e1904a4c6a0e101"), looks := false }, kinds := [], alts := [], laidByText := true, laidKinds := [.data, .data, .data], laidTests := true, laidLooks := .later }
def CondHoldsUptoCardSaid : Prop := Claim7.holds Tryz.pinned (.plain (OpenSpec.upto condHoldsSpec)) condHoldsUptoCard

/-- THE SECOND FORM's CARD OF 'censuslaw35.CondExists'. -/
def condExistsUptoCard : Claim7 := { stood := { row := condExistsUptoRow, standIns := [], harness := (true, "430502caaf9e6df2caf4acc04cea3b0195939e2de2fc60ba0e1904a4c6a0e101"), looks := false }, kinds := [], alts := [], laidByText := true, laidKinds := [.data, .data, .data], laidTests := true, laidLooks := .later }
def CondExistsUptoCardSaid : Prop := Claim7.holds Tryz.pinned (.plain (OpenSpec.upto condExistsSpec)) condExistsUptoCard

/-- THE SECOND FORM's CARD OF 'censuslaw35.CondShapes'. -/
def condShapesUptoCard : Claim7 := { stood := { row := condShapesUptoRow, standIns := [], harness := (true, "430502caaf9e6df2caf4acc04cea3b0195939e2de2fc60ba0e1904a4c6a0e101"), looks := false }, kinds := [], alts := [], laidByText := true, laidKinds := [.data, .data, .data, .data], laidTests := true, laidLooks := .later }
def CondShapesUptoCardSaid : Prop := Claim7.holds Tryz.pinned (.plain (OpenSpec.upto condShapesSpec)) condShapesUptoCard
end Rows
end Go.Proofs.YtckhohpbokojdaaGreatDoor
