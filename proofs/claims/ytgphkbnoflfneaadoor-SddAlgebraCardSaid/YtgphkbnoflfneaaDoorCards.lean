/-
  DERIVED. GIVEN WITH THE SEED: THE CARDS: each row of YtgphkbnoflfneaaDoorRows.lean that lists a variable, with what it lists TIED to the program's text (the seventh form; the later family's looks); each row that meets fmt, with fmt's text TOLD by the authors' own Lean function (tested against real Go, not proved from fmt's source: count such statements apart). THE CARD IS WHAT COUNTS. Prove the row's statement (the work); the ties are given (YtgphkbnoflfneaaDoorTie.lean); close each card by the builder's one call (the guide's Derived/Test/ToyasCard.lean, 'card_holds'). Laid BY PROGRAM, IN A SANDBOX (cutbox-door.mjs). By AI agents, Wed Nov 11 2026. No macro, syntax, notation, axiom, sorry.
-/
import Derived.Test.YtgphkbnoflfneaaDoorRows
import GoSem.ClaimSeven
namespace Go.Proofs.YtgphkbnoflfneaaDoor
namespace Rows

/-- THE TIED CARD OF 'censuslaw26.SddNews'. -/
def sddNewsCard : Claim7 := { stood := { row := sddNewsRow, standIns := [], harness := (true, "fe0d07f030e2c720b390a4c00bb51c137e21243f2a24dfb500e1099fd3a307c1"), looks := true }, kinds := [], alts := [], laidByText := true, laidKinds := [.data, .data, .data], laidTests := true, laidLooks := .later }
def SddNewsCardSaid : Prop := Claim7.holds Tryd.pinned (.plain (OpenSpec.ofChange sddNewsSpec)) sddNewsCard

/-- THE TIED CARD OF 'censuslaw26.SddCanonical'. -/
def sddCanonicalCard : Claim7 := { stood := { row := sddCanonicalRow, standIns := [], harness := (true, "fe0d07f030e2c720b390a4c00bb51c137e21243f2a24dfb500e1099fd3a307c1"), looks := true }, kinds := [], alts := [], laidByText := true, laidKinds := [.data, .data, .data], laidTests := true, laidLooks := .later }
def SddCanonicalCardSaid : Prop := Claim7.holds Tryd.pinned (.plain (OpenSpec.ofChange sddCanonicalSpec)) sddCanonicalCard

/-- THE TIED CARD OF 'censuslaw26.SddAlgebra'. -/
def sddAlgebraCard : Claim7 := { stood := { row := sddAlgebraRow, standIns := [], harness := (true, "fe0d07f030e2c720b390a4c00bb51c137e21243f2a24dfb500e1099fd3a307c1"), looks := true }, kinds := [], alts := [], laidByText := true, laidKinds := [.data, .data, .data], laidTests := true, laidLooks := .later }
def SddAlgebraCardSaid : Prop := Claim7.holds Tryd.pinned (.plain (OpenSpec.ofChange sddAlgebraSpec)) sddAlgebraCard

/-- THE TIED CARD OF 'censuslaw26.SddKnown'. -/
def sddKnownCard : Claim7 := { stood := { row := sddKnownRow, standIns := [], harness := (true, "fe0d07f030e2c720b390a4c00bb51c137e21243f2a24dfb500e1099fd3a307c1"), looks := true }, kinds := [], alts := [], laidByText := true, laidKinds := [.data, .data, .data], laidTests := true, laidLooks := .later }
def SddKnownCardSaid : Prop := Claim7.holds Tryd.pinned (.plain (OpenSpec.ofChange sddKnownSpec)) sddKnownCard

/-- THE SECOND FORM's CARD OF 'censuslaw26.SddNews'. -/
def sddNewsUptoCard : Claim7 := { stood := { row := sddNewsUptoRow, standIns := [], harness := (true, "fe0d07f030e2c720b390a4c00bb51c137e21243f2a24dfb500e1099fd3a307c1"), looks := true }, kinds := [], alts := [], laidByText := true, laidKinds := [.data, .data, .data], laidTests := true, laidLooks := .later }
def SddNewsUptoCardSaid : Prop := Claim7.holds Tryd.pinned (.plain (OpenSpec.upto sddNewsSpec)) sddNewsUptoCard

/-- THE SECOND FORM's CARD OF 'censuslaw26.SddCanonical'. -/
def sddCanonicalUptoCard : Claim7 := { stood := { row := sddCanonicalUptoRow, standIns := [], harness := (true, "fe0d07f030e2c720b390a4c00bb51c137e21243f2a24dfb500e1099fd3a307c1"), looks := true }, kinds := [], alts := [], laidByText := true, laidKinds := [.data, .data, .data], laidTests := true, laidLooks := .later }
def SddCanonicalUptoCardSaid : Prop := Claim7.holds Tryd.pinned (.plain (OpenSpec.upto sddCanonicalSpec)) sddCanonicalUptoCard

/-- THE SECOND FORM's CARD OF 'censuslaw26.SddAlgebra'. -/
def sddAlgebraUptoCard : Claim7 := { stood := { row := sddAlgebraUptoRow, standIns := [], harness := (true, "fe0d07f030e2c720b390a4c00bb51c137e21243f2a24dfb500e1099fd3a307c1"), looks := true }, kinds := [], alts := [], laidByText := true, laidKinds := [.data, .data, .data], laidTests := true, laidLooks := .later }
def SddAlgebraUptoCardSaid : Prop := Claim7.holds Tryd.pinned (.plain (OpenSpec.upto sddAlgebraSpec)) sddAlgebraUptoCard

/-- THE SECOND FORM's CARD OF 'censuslaw26.SddKnown'. -/
def sddKnownUptoCard : Claim7 := { stood := { row := sddKnownUptoRow, standIns := [], harness := (true, "fe0d07f030e2c720b390a4c00bb51c137e21243f2a24dfb500e1099fd3a307c1"), looks := true }, kinds := [], alts := [], laidByText := true, laidKinds := [.data, .data, .data], laidTests := true, laidLooks := .later }
def SddKnownUptoCardSaid : Prop := Claim7.holds Tryd.pinned (.plain (OpenSpec.upto sddKnownSpec)) sddKnownUptoCard
end Rows
end Go.Proofs.YtgphkbnoflfneaaDoor
