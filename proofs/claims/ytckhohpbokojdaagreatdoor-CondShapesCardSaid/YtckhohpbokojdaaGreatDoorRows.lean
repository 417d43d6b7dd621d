/-
  NARROWER THAN 'FOR EVERY INPUT', by the rows' own cells (each row's printed sentence says how): CondGives: laid · CondForgets: laid · CondTwice: laid · CondAll: laid · CondHolds: laid · CondExists: laid · CondShapes: laid.
  DERIVED. THE GIVEN ROWS OF THIS SEAT. 7 by the template 'for every input the law returns true; each argument reads behind the call as it read before'; 0 by the template 'total and deterministic' (their statements: YtckhohpbokojdaaGreatDoorTotals.lean).
  GIVEN WITH THE SEED: the statements are not yours to turn. If you find one false, say at which input.
  Laid BY PROGRAM, IN A SANDBOX (cutbox-rows.mjs): the forced cells as the released guide's own fill.sh prints them over the translation 7d1d6083a0379b00… (all of the seat's roots in one cut). By AI agents, Wed Nov 11 2026. No macro, syntax, notation, axiom, sorry.
-/
import Derived.Test.YtckhohpbokojdaaGreatDoorChecked
import GoSem.Claim
import GoSem.ClaimJoined
import GoSem.ClaimMapViews
import Derived.JoinedTies
import Derived.KernelRfl
namespace Go.Proofs.YtckhohpbokojdaaGreatDoor
/- THE CELL 'sum', in the pinned program and in every row, IS THE sha256 OF THE DUMP (.gsa) THAT YtckhohpbokojdaaGreatDoorProg.lean LOADS. Nothing in Lean hashes anything: it is a label: what it is worth is what the hold of that sum in a sandbox is worth. -/
noncomputable def Tryz.pinned : Pinned := { name := "ytckhohpbokojdaagreatdoor", sum := "7d1d6083a0379b0084582fbb2e4b9ce424c2df060621ade67ced91e0a87cee90", checked := Tryz.checked }
namespace Rows
def none {H : Type} : Left H := { results := [], args := [] }

/- WHAT THE LISTED PACKAGE-LEVEL VARIABLES READ AS WHEN THE CALL BEGINS. Each datum BY PROGRAM (the guide's laid-datum.mjs) off the statement by which the dump's own 'gosem.cut.vars' lays the variable. In a bare row this is a premise. The card (YtckhohpbokojdaaGreatDoorCards.lean) ties it to the program's text. -/
def laid_math_bits_deBruijn32tab {H : Type} : DataW H := .agg [.lit (.int .u8 0), .lit (.int .u8 1), .lit (.int .u8 28), .lit (.int .u8 2), .lit (.int .u8 29), .lit (.int .u8 14), .lit (.int .u8 24), .lit (.int .u8 3), .lit (.int .u8 30), .lit (.int .u8 22), .lit (.int .u8 20), .lit (.int .u8 15), .lit (.int .u8 25), .lit (.int .u8 17), .lit (.int .u8 4), .lit (.int .u8 8), .lit (.int .u8 31), .lit (.int .u8 27), .lit (.int .u8 13), .lit (.int .u8 23), .lit (.int .u8 21), .lit (.int .u8 19), .lit (.int .u8 16), .lit (.int .u8 7), .lit (.int .u8 26), .lit (.int .u8 12), .lit (.int .u8 18), .lit (.int .u8 6), .lit (.int .u8 11), .lit (.int .u8 5), .lit (.int .u8 10), .lit (.int .u8 9)]
def laid_math_bits_deBruijn64tab {H : Type} : DataW H := .agg [.lit (.int .u8 0), .lit (.int .u8 1), .lit (.int .u8 56), .lit (.int .u8 2), .lit (.int .u8 57), .lit (.int .u8 49), .lit (.int .u8 28), .lit (.int .u8 3), .lit (.int .u8 61), .lit (.int .u8 58), .lit (.int .u8 42), .lit (.int .u8 50), .lit (.int .u8 38), .lit (.int .u8 29), .lit (.int .u8 17), .lit (.int .u8 4), .lit (.int .u8 62), .lit (.int .u8 47), .lit (.int .u8 59), .lit (.int .u8 36), .lit (.int .u8 45), .lit (.int .u8 43), .lit (.int .u8 51), .lit (.int .u8 22), .lit (.int .u8 53), .lit (.int .u8 39), .lit (.int .u8 33), .lit (.int .u8 30), .lit (.int .u8 24), .lit (.int .u8 18), .lit (.int .u8 12), .lit (.int .u8 5), .lit (.int .u8 63), .lit (.int .u8 55), .lit (.int .u8 48), .lit (.int .u8 27), .lit (.int .u8 60), .lit (.int .u8 41), .lit (.int .u8 37), .lit (.int .u8 16), .lit (.int .u8 46), .lit (.int .u8 35), .lit (.int .u8 44), .lit (.int .u8 21), .lit (.int .u8 52), .lit (.int .u8 32), .lit (.int .u8 23), .lit (.int .u8 11), .lit (.int .u8 54), .lit (.int .u8 26), .lit (.int .u8 40), .lit (.int .u8 15), .lit (.int .u8 34), .lit (.int .u8 20), .lit (.int .u8 31), .lit (.int .u8 10), .lit (.int .u8 25), .lit (.int .u8 14), .lit (.int .u8 19), .lit (.int .u8 9), .lit (.int .u8 13), .lit (.int .u8 8), .lit (.int .u8 7), .lit (.int .u8 6)]
def laid_internal_strconv_uint64pow10 {H : Type} : DataW H := .agg [.lit (.int .u64 1), .lit (.int .u64 10), .lit (.int .u64 100), .lit (.int .u64 1000), .lit (.int .u64 10000), .lit (.int .u64 100000), .lit (.int .u64 1000000), .lit (.int .u64 10000000), .lit (.int .u64 100000000), .lit (.int .u64 1000000000), .lit (.int .u64 10000000000), .lit (.int .u64 100000000000), .lit (.int .u64 1000000000000), .lit (.int .u64 10000000000000), .lit (.int .u64 100000000000000), .lit (.int .u64 1000000000000000), .lit (.int .u64 10000000000000000), .lit (.int .u64 100000000000000000), .lit (.int .u64 1000000000000000000), .lit (.int .u64 10000000000000000000)]
def laid_census_shape_patterns {H : Type} : DataW H := .agg [.lit (.int .u64 12297829382473034410), .lit (.int .u64 14757395258967641292), .lit (.int .u64 17361641481138401520), .lit (.int .u64 18374966859414961920), .lit (.int .u64 18446462603027742720), .lit (.int .u64 18446744069414584320)]

/-- 'censuslaw35.CondGives': WHATEVER THE INPUT: true; the input reads as it did. -/
def condGivesSpec : ChangeSpec := { name := "condGives", fn := fun _ => fun
  | [d1, d2] => { results := [.lit (.bool true)], args := [d1, d2] }
  | _ => none }
def condGivesRow : OpenClaim := { program := "ytckhohpbokojdaagreatdoor", sum := "7d1d6083a0379b0084582fbb2e4b9ce424c2df060621ade67ced91e0a87cee90", func := "census/censuslaw35.CondGives", spec := "condGives", inPlace := ["internal/abi.NoEscape"], unfollowed := true, recurses := true, named := ["internal/strconv.uint64pow10", "math/bits.deBruijn32tab", "math/bits.deBruijn64tab"], apart := false, laid := [("math/bits.deBruijn32tab", laid_math_bits_deBruijn32tab), ("math/bits.deBruijn64tab", laid_math_bits_deBruijn64tab), ("internal/strconv.uint64pow10", laid_internal_strconv_uint64pow10)] }
def CondGivesSaid : Prop := condGivesRow.holds Tryz.pinned (OpenSpec.ofChange condGivesSpec)

/-- ITS FALSE NEIGHBOUR: 'it returns false'. Refute it at one input. -/
def condGivesWrong : ChangeSpec := { name := "condGives", fn := fun _ => fun
  | [d1, d2] => { results := [.lit (.bool false)], args := [d1, d2] }
  | _ => none }
def CondGivesWrongFalsely : Prop := condGivesRow.holds Tryz.pinned (OpenSpec.ofChange condGivesWrong)

/-- 'censuslaw35.CondForgets': WHATEVER THE INPUT: true; the input reads as it did. -/
def condForgetsSpec : ChangeSpec := { name := "condForgets", fn := fun _ => fun
  | [d1, d2] => { results := [.lit (.bool true)], args := [d1, d2] }
  | _ => none }
def condForgetsRow : OpenClaim := { program := "ytckhohpbokojdaagreatdoor", sum := "7d1d6083a0379b0084582fbb2e4b9ce424c2df060621ade67ced91e0a87cee90", func := "census/censuslaw35.CondForgets", spec := "condForgets", inPlace := ["internal/abi.NoEscape"], unfollowed := true, recurses := true, named := ["internal/strconv.uint64pow10", "math/bits.deBruijn32tab", "math/bits.deBruijn64tab"], apart := false, laid := [("math/bits.deBruijn32tab", laid_math_bits_deBruijn32tab), ("math/bits.deBruijn64tab", laid_math_bits_deBruijn64tab), ("internal/strconv.uint64pow10", laid_internal_strconv_uint64pow10)] }
def CondForgetsSaid : Prop := condForgetsRow.holds Tryz.pinned (OpenSpec.ofChange condForgetsSpec)

/-- ITS FALSE NEIGHBOUR: 'it returns false'. Refute it at one input. -/
def condForgetsWrong : ChangeSpec := { name := "condForgets", fn := fun _ => fun
  | [d1, d2] => { results := [.lit (.bool false)], args := [d1, d2] }
  | _ => none }
def CondForgetsWrongFalsely : Prop := condForgetsRow.holds Tryz.pinned (OpenSpec.ofChange condForgetsWrong)

/-- 'censuslaw35.CondTwice': WHATEVER THE INPUT: true; the input reads as it did. -/
def condTwiceSpec : ChangeSpec := { name := "condTwice", fn := fun _ => fun
  | [d1, d2, d3, d4] => { results := [.lit (.bool true)], args := [d1, d2, d3, d4] }
  | _ => none }
def condTwiceRow : OpenClaim := { program := "ytckhohpbokojdaagreatdoor", sum := "7d1d6083a0379b0084582fbb2e4b9ce424c2df060621ade67ced91e0a87cee90", func := "census/censuslaw35.CondTwice", spec := "condTwice", inPlace := ["internal/abi.NoEscape"], unfollowed := true, recurses := true, named := ["internal/strconv.uint64pow10", "math/bits.deBruijn32tab", "math/bits.deBruijn64tab"], apart := false, laid := [("math/bits.deBruijn32tab", laid_math_bits_deBruijn32tab), ("math/bits.deBruijn64tab", laid_math_bits_deBruijn64tab), ("internal/strconv.uint64pow10", laid_internal_strconv_uint64pow10)] }
def CondTwiceSaid : Prop := condTwiceRow.holds Tryz.pinned (OpenSpec.ofChange condTwiceSpec)

/-- ITS FALSE NEIGHBOUR: 'it returns false'. Refute it at one input. -/
def condTwiceWrong : ChangeSpec := { name := "condTwice", fn := fun _ => fun
  | [d1, d2, d3, d4] => { results := [.lit (.bool false)], args := [d1, d2, d3, d4] }
  | _ => none }
def CondTwiceWrongFalsely : Prop := condTwiceRow.holds Tryz.pinned (OpenSpec.ofChange condTwiceWrong)

/-- 'censuslaw35.CondAll': WHATEVER THE INPUT: true; the input reads as it did. -/
def condAllSpec : ChangeSpec := { name := "condAll", fn := fun _ => fun
  | [d1, d2, d3, d4] => { results := [.lit (.bool true)], args := [d1, d2, d3, d4] }
  | _ => none }
def condAllRow : OpenClaim := { program := "ytckhohpbokojdaagreatdoor", sum := "7d1d6083a0379b0084582fbb2e4b9ce424c2df060621ade67ced91e0a87cee90", func := "census/censuslaw35.CondAll", spec := "condAll", inPlace := ["internal/abi.NoEscape"], unfollowed := true, recurses := true, named := ["internal/strconv.uint64pow10", "math/bits.deBruijn32tab", "math/bits.deBruijn64tab"], apart := false, laid := [("math/bits.deBruijn32tab", laid_math_bits_deBruijn32tab), ("math/bits.deBruijn64tab", laid_math_bits_deBruijn64tab), ("internal/strconv.uint64pow10", laid_internal_strconv_uint64pow10)] }
def CondAllSaid : Prop := condAllRow.holds Tryz.pinned (OpenSpec.ofChange condAllSpec)

/-- ITS FALSE NEIGHBOUR: 'it returns false'. Refute it at one input. -/
def condAllWrong : ChangeSpec := { name := "condAll", fn := fun _ => fun
  | [d1, d2, d3, d4] => { results := [.lit (.bool false)], args := [d1, d2, d3, d4] }
  | _ => none }
def CondAllWrongFalsely : Prop := condAllRow.holds Tryz.pinned (OpenSpec.ofChange condAllWrong)

/-- 'censuslaw35.CondHolds': WHATEVER THE INPUT: true; the input reads as it did. -/
def condHoldsSpec : ChangeSpec := { name := "condHolds", fn := fun _ => fun
  | [d1, d2, d3] => { results := [.lit (.bool true)], args := [d1, d2, d3] }
  | _ => none }
def condHoldsRow : OpenClaim := { program := "ytckhohpbokojdaagreatdoor", sum := "7d1d6083a0379b0084582fbb2e4b9ce424c2df060621ade67ced91e0a87cee90", func := "census/censuslaw35.CondHolds", spec := "condHolds", inPlace := ["internal/abi.NoEscape"], unfollowed := true, recurses := true, named := ["internal/strconv.uint64pow10", "math/bits.deBruijn32tab", "math/bits.deBruijn64tab"], apart := false, laid := [("math/bits.deBruijn32tab", laid_math_bits_deBruijn32tab), ("math/bits.deBruijn64tab", laid_math_bits_deBruijn64tab), ("internal/strconv.uint64pow10", laid_internal_strconv_uint64pow10)] }
def CondHoldsSaid : Prop := condHoldsRow.holds Tryz.pinned (OpenSpec.ofChange condHoldsSpec)

/-- ITS FALSE NEIGHBOUR: 'it returns false'. Refute it at one input. -/
def condHoldsWrong : ChangeSpec := { name := "condHolds", fn := fun _ => fun
  | [d1, d2, d3] => { results := [.lit (.bool false)], args := [d1, d2, d3] }
  | _ => none }
def CondHoldsWrongFalsely : Prop := condHoldsRow.holds Tryz.pinned (OpenSpec.ofChange condHoldsWrong)

/-- 'censuslaw35.CondExists': WHATEVER THE INPUT: true; the input reads as it did. -/
def condExistsSpec : ChangeSpec := { name := "condExists", fn := fun _ => fun
  | [d1, d2, d3] => { results := [.lit (.bool true)], args := [d1, d2, d3] }
  | _ => none }
def condExistsRow : OpenClaim := { program := "ytckhohpbokojdaagreatdoor", sum := "7d1d6083a0379b0084582fbb2e4b9ce424c2df060621ade67ced91e0a87cee90", func := "census/censuslaw35.CondExists", spec := "condExists", inPlace := ["internal/abi.NoEscape"], unfollowed := true, recurses := true, named := ["internal/strconv.uint64pow10", "math/bits.deBruijn32tab", "math/bits.deBruijn64tab"], apart := false, laid := [("math/bits.deBruijn32tab", laid_math_bits_deBruijn32tab), ("math/bits.deBruijn64tab", laid_math_bits_deBruijn64tab), ("internal/strconv.uint64pow10", laid_internal_strconv_uint64pow10)] }
def CondExistsSaid : Prop := condExistsRow.holds Tryz.pinned (OpenSpec.ofChange condExistsSpec)

/-- ITS FALSE NEIGHBOUR: 'it returns false'. Refute it at one input. -/
def condExistsWrong : ChangeSpec := { name := "condExists", fn := fun _ => fun
  | [d1, d2, d3] => { results := [.lit (.bool false)], args := [d1, d2, d3] }
  | _ => none }
def CondExistsWrongFalsely : Prop := condExistsRow.holds Tryz.pinned (OpenSpec.ofChange condExistsWrong)

/-- 'censuslaw35.CondShapes': WHATEVER THE INPUT: true; the input reads as it did. -/
def condShapesSpec : ChangeSpec := { name := "condShapes", fn := fun _ => fun
  | [d1, d2] => { results := [.lit (.bool true)], args := [d1, d2] }
  | _ => none }
def condShapesRow : OpenClaim := { program := "ytckhohpbokojdaagreatdoor", sum := "7d1d6083a0379b0084582fbb2e4b9ce424c2df060621ade67ced91e0a87cee90", func := "census/censuslaw35.CondShapes", spec := "condShapes", inPlace := ["internal/abi.NoEscape"], unfollowed := true, recurses := true, named := ["internal/strconv.uint64pow10", "math/bits.deBruijn32tab", "math/bits.deBruijn64tab", "census/shape.patterns"], apart := false, laid := [("math/bits.deBruijn32tab", laid_math_bits_deBruijn32tab), ("math/bits.deBruijn64tab", laid_math_bits_deBruijn64tab), ("internal/strconv.uint64pow10", laid_internal_strconv_uint64pow10), ("census/shape.patterns", laid_census_shape_patterns)] }
def CondShapesSaid : Prop := condShapesRow.holds Tryz.pinned (OpenSpec.ofChange condShapesSpec)

/-- ITS FALSE NEIGHBOUR: 'it returns false'. Refute it at one input. -/
def condShapesWrong : ChangeSpec := { name := "condShapes", fn := fun _ => fun
  | [d1, d2] => { results := [.lit (.bool false)], args := [d1, d2] }
  | _ => none }
def CondShapesWrongFalsely : Prop := condShapesRow.holds Tryz.pinned (OpenSpec.ofChange condShapesWrong)

/- THE SECOND FORM. 'bulk': how many values and letters a reading holds, each counted each time it is reached (what is shared counts as often as it is met; a slice's spare places count too). A statement '..UptoSaid' is the law's where the arguments, and the package variables that the reading takes, are together of bulk at most 1048576: NARROWER than '..Said'. Prove '..Said' where nothing that the law and all that it calls make is longer than what came in: it says more and counts as full. Else prove '..UptoSaid'. A law counts once. -/
mutual
def uptoBulk {H : Type} : DataW H → Nat
  | .lit (.string bytes) => bytes.length + 1
  | .lit _ => 1
  | .nil => 1
  | .ptr d => uptoBulk d + 1
  | .slice elems spare => uptoBulkAll elems + uptoBulkAll spare + 1
  | .agg parts => uptoBulkAll parts + 1
  | .iface _ d => uptoBulk d + 1
  | .map entries => uptoBulkEntries entries + 1
  | .held _ => 1
def uptoBulkAll {H : Type} : List (DataW H) → Nat
  | [] => 0
  | d :: r => uptoBulk d + uptoBulkAll r
def uptoBulkEntries {H : Type} : List (Lit × DataW H) → Nat
  | [] => 0
  | x :: r => uptoBulkEntry x + uptoBulkEntries r
def uptoBulkEntry {H : Type} : Lit × DataW H → Nat
  | (.string bytes, d) => bytes.length + uptoBulk d + 1
  | (_, d) => uptoBulk d + 1
 end
def uptoSmall : (H : Type) → List (DataW H) → Bool := fun _ ds => decide (uptoBulkAll ds ≤ 1048576)
def OpenSpec.upto (s : _root_.Go.ChangeSpec) : _root_.Go.OpenSpec := { _root_.Go.OpenSpec.ofChange s with cond := some uptoSmall }

/-- 'censuslaw35.CondGives', WHERE WHAT IT READS IS OF BULK AT MOST 1048576: true; the input reads as it did. -/
def condGivesUptoRow : OpenClaim := { program := "ytckhohpbokojdaagreatdoor", sum := "7d1d6083a0379b0084582fbb2e4b9ce424c2df060621ade67ced91e0a87cee90", func := "census/censuslaw35.CondGives", spec := "condGives", inPlace := ["internal/abi.NoEscape"], unfollowed := true, recurses := true, named := ["internal/strconv.uint64pow10", "math/bits.deBruijn32tab", "math/bits.deBruijn64tab"], apart := false, laid := [("math/bits.deBruijn32tab", laid_math_bits_deBruijn32tab), ("math/bits.deBruijn64tab", laid_math_bits_deBruijn64tab), ("internal/strconv.uint64pow10", laid_internal_strconv_uint64pow10)], narrowed := true }
def CondGivesUptoSaid : Prop := condGivesUptoRow.holds Tryz.pinned (OpenSpec.upto condGivesSpec)

/-- 'censuslaw35.CondForgets', WHERE WHAT IT READS IS OF BULK AT MOST 1048576: true; the input reads as it did. -/
def condForgetsUptoRow : OpenClaim := { program := "ytckhohpbokojdaagreatdoor", sum := "7d1d6083a0379b0084582fbb2e4b9ce424c2df060621ade67ced91e0a87cee90", func := "census/censuslaw35.CondForgets", spec := "condForgets", inPlace := ["internal/abi.NoEscape"], unfollowed := true, recurses := true, named := ["internal/strconv.uint64pow10", "math/bits.deBruijn32tab", "math/bits.deBruijn64tab"], apart := false, laid := [("math/bits.deBruijn32tab", laid_math_bits_deBruijn32tab), ("math/bits.deBruijn64tab", laid_math_bits_deBruijn64tab), ("internal/strconv.uint64pow10", laid_internal_strconv_uint64pow10)], narrowed := true }
def CondForgetsUptoSaid : Prop := condForgetsUptoRow.holds Tryz.pinned (OpenSpec.upto condForgetsSpec)

/-- 'censuslaw35.CondTwice', WHERE WHAT IT READS IS OF BULK AT MOST 1048576: true; the input reads as it did. -/
def condTwiceUptoRow : OpenClaim := { program := "ytckhohpbokojdaagreatdoor", sum := "7d1d6083a0379b0084582fbb2e4b9ce424c2df060621ade67ced91e0a87cee90", func := "census/censuslaw35.CondTwice", spec := "condTwice", inPlace := ["internal/abi.NoEscape"], unfollowed := true, recurses := true, named := ["internal/strconv.uint64pow10", "math/bits.deBruijn32tab", "math/bits.deBruijn64tab"], apart := false, laid := [("math/bits.deBruijn32tab", laid_math_bits_deBruijn32tab), ("math/bits.deBruijn64tab", laid_math_bits_deBruijn64tab), ("internal/strconv.uint64pow10", laid_internal_strconv_uint64pow10)], narrowed := true }
def CondTwiceUptoSaid : Prop := condTwiceUptoRow.holds Tryz.pinned (OpenSpec.upto condTwiceSpec)

/-- 'censuslaw35.CondAll', WHERE WHAT IT READS IS OF BULK AT MOST 1048576: true; the input reads as it did. -/
def condAllUptoRow : OpenClaim := { program := "ytckhohpbokojdaagreatdoor", sum := "7d1d6083a0379b0084582fbb2e4b9ce424c2df060621ade67ced91e0a87cee90", func := "census/censuslaw35.CondAll", spec := "condAll", inPlace := ["internal/abi.NoEscape"], unfollowed := true, recurses := true, named := ["internal/strconv.uint64pow10", "math/bits.deBruijn32tab", "math/bits.deBruijn64tab"], apart := false, laid := [("math/bits.deBruijn32tab", laid_math_bits_deBruijn32tab), ("math/bits.deBruijn64tab", laid_math_bits_deBruijn64tab), ("internal/strconv.uint64pow10", laid_internal_strconv_uint64pow10)], narrowed := true }
def CondAllUptoSaid : Prop := condAllUptoRow.holds Tryz.pinned (OpenSpec.upto condAllSpec)

/-- 'censuslaw35.CondHolds', WHERE WHAT IT READS IS OF BULK AT MOST 1048576: true; the input reads as it did. -/
def condHoldsUptoRow : OpenClaim := { program := "ytckhohpbokojdaagreatdoor", sum := "7d1d6083a0379b0084582fbb2e4b9ce424c2df060621ade67ced91e0a87cee90", func := "census/censuslaw35.CondHolds", spec := "condHolds", inPlace := ["internal/abi.NoEscape"], unfollowed := true, recurses := true, named := ["internal/strconv.uint64pow10", "math/bits.deBruijn32tab", "math/bits.deBruijn64tab"], apart := false, laid := [("math/bits.deBruijn32tab", laid_math_bits_deBruijn32tab), ("math/bits.deBruijn64tab", laid_math_bits_deBruijn64tab), ("internal/strconv.uint64pow10", laid_internal_strconv_uint64pow10)], narrowed := true }
def CondHoldsUptoSaid : Prop := condHoldsUptoRow.holds Tryz.pinned (OpenSpec.upto condHoldsSpec)

/-- 'censuslaw35.CondExists', WHERE WHAT IT READS IS OF BULK AT MOST 1048576: true; the input reads as it did. -/
def condExistsUptoRow : OpenClaim := { program := "ytckhohpbokojdaagreatdoor", sum := "7d1d6083a0379b0084582fbb2e4b9ce424c2df060621ade67ced91e0a87cee90", func := "census/censuslaw35.CondExists", spec := "condExists", inPlace := ["internal/abi.NoEscape"], unfollowed := true, recurses := true, named := ["internal/strconv.uint64pow10", "math/bits.deBruijn32tab", "math/bits.deBruijn64tab"], apart := false, laid := [("math/bits.deBruijn32tab", laid_math_bits_deBruijn32tab), ("math/bits.deBruijn64tab", laid_math_bits_deBruijn64tab), ("internal/strconv.uint64pow10", laid_internal_strconv_uint64pow10)], narrowed := true }
def CondExistsUptoSaid : Prop := condExistsUptoRow.holds Tryz.pinned (OpenSpec.upto condExistsSpec)

/-- 'censuslaw35.CondShapes', WHERE WHAT IT READS IS OF BULK AT MOST 1048576: true; the input reads as it did. -/
def condShapesUptoRow : OpenClaim := { program := "ytckhohpbokojdaagreatdoor", sum := "7d1d6083a0379b0084582fbb2e4b9ce424c2df060621ade67ced91e0a87cee90", func := "census/censuslaw35.CondShapes", spec := "condShapes", inPlace := ["internal/abi.NoEscape"], unfollowed := true, recurses := true, named := ["internal/strconv.uint64pow10", "math/bits.deBruijn32tab", "math/bits.deBruijn64tab", "census/shape.patterns"], apart := false, laid := [("math/bits.deBruijn32tab", laid_math_bits_deBruijn32tab), ("math/bits.deBruijn64tab", laid_math_bits_deBruijn64tab), ("internal/strconv.uint64pow10", laid_internal_strconv_uint64pow10), ("census/shape.patterns", laid_census_shape_patterns)], narrowed := true }
def CondShapesUptoSaid : Prop := condShapesUptoRow.holds Tryz.pinned (OpenSpec.upto condShapesSpec)

end Rows
end Go.Proofs.YtckhohpbokojdaaGreatDoor
