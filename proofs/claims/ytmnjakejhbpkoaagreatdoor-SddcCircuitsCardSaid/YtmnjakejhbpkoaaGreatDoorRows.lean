/-
  NARROWER THAN 'FOR EVERY INPUT', by the rows' own cells (each row's printed sentence says how): SddcCompiles: laid · SddcTwice: laid · SddcGivens: laid · SddcSplits: laid · SddcMeaning: laid · SddcCircuits: laid · SddcNets: laid · SddcErrors: laid · SddcKnown: laid · SddcPairs: laid · SddcShape: laid.
  DERIVED. THE GIVEN ROWS OF THIS SEAT. 11 by the template 'for every input the law returns true; each argument reads behind the call as it read before'; 0 by the template 'total and deterministic' (their statements: YtmnjakejhbpkoaaGreatDoorTotals.lean).
  GIVEN WITH THE SEED: the statements are not yours to turn. If you find one false, say at which input.
  Laid BY PROGRAM, IN A SANDBOX (cutbox-rows.mjs): the forced cells as the released guide's own fill.sh prints them over the translation bc96927eacd596f3… (all of the seat's roots in one cut). By AI agents, Wed Nov 11 2026. No macro, syntax, notation, axiom, sorry.
-/
import Derived.Test.YtmnjakejhbpkoaaGreatDoorChecked
import GoSem.Claim
import GoSem.ClaimJoined
import GoSem.ClaimMapViews
import Derived.JoinedTies
import Derived.KernelRfl
namespace Go.Proofs.YtmnjakejhbpkoaaGreatDoor
/- THE CELL 'sum', in the pinned program and in every row, IS THE sha256 OF THE DUMP (.gsa) THAT YtmnjakejhbpkoaaGreatDoorProg.lean LOADS. Nothing in Lean hashes anything: it is a label: what it is worth is what the hold of that sum in a sandbox is worth. -/
noncomputable def Tryz.pinned : Pinned := { name := "ytmnjakejhbpkoaagreatdoor", sum := "bc96927eacd596f364f22b3295054341eec5653b069dbbe1e8f013282097366d", checked := Tryz.checked }
namespace Rows
def none {H : Type} : Left H := { results := [], args := [] }

/- WHAT THE LISTED PACKAGE-LEVEL VARIABLES READ AS WHEN THE CALL BEGINS. Each datum BY PROGRAM (the guide's laid-datum.mjs) off the statement by which the dump's own 'gosem.cut.vars' lays the variable. In a bare row this is a premise. The card (YtmnjakejhbpkoaaGreatDoorCards.lean) ties it to the program's text. -/
def laid_math_bits_deBruijn32tab {H : Type} : DataW H := .agg [.lit (.int .u8 0), .lit (.int .u8 1), .lit (.int .u8 28), .lit (.int .u8 2), .lit (.int .u8 29), .lit (.int .u8 14), .lit (.int .u8 24), .lit (.int .u8 3), .lit (.int .u8 30), .lit (.int .u8 22), .lit (.int .u8 20), .lit (.int .u8 15), .lit (.int .u8 25), .lit (.int .u8 17), .lit (.int .u8 4), .lit (.int .u8 8), .lit (.int .u8 31), .lit (.int .u8 27), .lit (.int .u8 13), .lit (.int .u8 23), .lit (.int .u8 21), .lit (.int .u8 19), .lit (.int .u8 16), .lit (.int .u8 7), .lit (.int .u8 26), .lit (.int .u8 12), .lit (.int .u8 18), .lit (.int .u8 6), .lit (.int .u8 11), .lit (.int .u8 5), .lit (.int .u8 10), .lit (.int .u8 9)]
def laid_math_bits_deBruijn64tab {H : Type} : DataW H := .agg [.lit (.int .u8 0), .lit (.int .u8 1), .lit (.int .u8 56), .lit (.int .u8 2), .lit (.int .u8 57), .lit (.int .u8 49), .lit (.int .u8 28), .lit (.int .u8 3), .lit (.int .u8 61), .lit (.int .u8 58), .lit (.int .u8 42), .lit (.int .u8 50), .lit (.int .u8 38), .lit (.int .u8 29), .lit (.int .u8 17), .lit (.int .u8 4), .lit (.int .u8 62), .lit (.int .u8 47), .lit (.int .u8 59), .lit (.int .u8 36), .lit (.int .u8 45), .lit (.int .u8 43), .lit (.int .u8 51), .lit (.int .u8 22), .lit (.int .u8 53), .lit (.int .u8 39), .lit (.int .u8 33), .lit (.int .u8 30), .lit (.int .u8 24), .lit (.int .u8 18), .lit (.int .u8 12), .lit (.int .u8 5), .lit (.int .u8 63), .lit (.int .u8 55), .lit (.int .u8 48), .lit (.int .u8 27), .lit (.int .u8 60), .lit (.int .u8 41), .lit (.int .u8 37), .lit (.int .u8 16), .lit (.int .u8 46), .lit (.int .u8 35), .lit (.int .u8 44), .lit (.int .u8 21), .lit (.int .u8 52), .lit (.int .u8 32), .lit (.int .u8 23), .lit (.int .u8 11), .lit (.int .u8 54), .lit (.int .u8 26), .lit (.int .u8 40), .lit (.int .u8 15), .lit (.int .u8 34), .lit (.int .u8 20), .lit (.int .u8 31), .lit (.int .u8 10), .lit (.int .u8 25), .lit (.int .u8 14), .lit (.int .u8 19), .lit (.int .u8 9), .lit (.int .u8 13), .lit (.int .u8 8), .lit (.int .u8 7), .lit (.int .u8 6)]
def laid_internal_strconv_uint64pow10 {H : Type} : DataW H := .agg [.lit (.int .u64 1), .lit (.int .u64 10), .lit (.int .u64 100), .lit (.int .u64 1000), .lit (.int .u64 10000), .lit (.int .u64 100000), .lit (.int .u64 1000000), .lit (.int .u64 10000000), .lit (.int .u64 100000000), .lit (.int .u64 1000000000), .lit (.int .u64 10000000000), .lit (.int .u64 100000000000), .lit (.int .u64 1000000000000), .lit (.int .u64 10000000000000), .lit (.int .u64 100000000000000), .lit (.int .u64 1000000000000000), .lit (.int .u64 10000000000000000), .lit (.int .u64 100000000000000000), .lit (.int .u64 1000000000000000000), .lit (.int .u64 10000000000000000000)]
def laid_census_shape_patterns {H : Type} : DataW H := .agg [.lit (.int .u64 12297829382473034410), .lit (.int .u64 14757395258967641292), .lit (.int .u64 17361641481138401520), .lit (.int .u64 18374966859414961920), .lit (.int .u64 18446462603027742720), .lit (.int .u64 18446744069414584320)]

/-- 'censuslaw27.SddcCompiles': WHATEVER THE INPUT: true; the input reads as it did. -/
def sddcCompilesSpec : ChangeSpec := { name := "sddcCompiles", fn := fun _ => fun
  | [d1, d2] => { results := [.lit (.bool true)], args := [d1, d2] }
  | _ => none }
def sddcCompilesRow : OpenClaim := { program := "ytmnjakejhbpkoaagreatdoor", sum := "bc96927eacd596f364f22b3295054341eec5653b069dbbe1e8f013282097366d", func := "census/censuslaw27.SddcCompiles", spec := "sddcCompiles", unfollowed := true, recurses := true, named := ["internal/strconv.uint64pow10", "math/bits.deBruijn32tab", "math/bits.deBruijn64tab"], plainKeys := false, apart := false, laid := [("math/bits.deBruijn32tab", laid_math_bits_deBruijn32tab), ("math/bits.deBruijn64tab", laid_math_bits_deBruijn64tab), ("internal/strconv.uint64pow10", laid_internal_strconv_uint64pow10)] }
def SddcCompilesSaid : Prop := sddcCompilesRow.holds Tryz.pinned (OpenSpec.ofChange sddcCompilesSpec)

/-- ITS FALSE NEIGHBOUR: 'it returns false'. Refute it at one input. -/
def sddcCompilesWrong : ChangeSpec := { name := "sddcCompiles", fn := fun _ => fun
  | [d1, d2] => { results := [.lit (.bool false)], args := [d1, d2] }
  | _ => none }
def SddcCompilesWrongFalsely : Prop := sddcCompilesRow.holds Tryz.pinned (OpenSpec.ofChange sddcCompilesWrong)

/-- 'censuslaw27.SddcTwice': WHATEVER THE INPUT: true; the input reads as it did. -/
def sddcTwiceSpec : ChangeSpec := { name := "sddcTwice", fn := fun _ => fun
  | [d1, d2, d3] => { results := [.lit (.bool true)], args := [d1, d2, d3] }
  | _ => none }
def sddcTwiceRow : OpenClaim := { program := "ytmnjakejhbpkoaagreatdoor", sum := "bc96927eacd596f364f22b3295054341eec5653b069dbbe1e8f013282097366d", func := "census/censuslaw27.SddcTwice", spec := "sddcTwice", unfollowed := true, recurses := true, named := ["internal/strconv.uint64pow10", "math/bits.deBruijn32tab", "math/bits.deBruijn64tab"], plainKeys := false, apart := false, laid := [("math/bits.deBruijn32tab", laid_math_bits_deBruijn32tab), ("math/bits.deBruijn64tab", laid_math_bits_deBruijn64tab), ("internal/strconv.uint64pow10", laid_internal_strconv_uint64pow10)] }
def SddcTwiceSaid : Prop := sddcTwiceRow.holds Tryz.pinned (OpenSpec.ofChange sddcTwiceSpec)

/-- ITS FALSE NEIGHBOUR: 'it returns false'. Refute it at one input. -/
def sddcTwiceWrong : ChangeSpec := { name := "sddcTwice", fn := fun _ => fun
  | [d1, d2, d3] => { results := [.lit (.bool false)], args := [d1, d2, d3] }
  | _ => none }
def SddcTwiceWrongFalsely : Prop := sddcTwiceRow.holds Tryz.pinned (OpenSpec.ofChange sddcTwiceWrong)

/-- 'censuslaw27.SddcGivens': WHATEVER THE INPUT: true; the input reads as it did. -/
def sddcGivensSpec : ChangeSpec := { name := "sddcGivens", fn := fun _ => fun
  | [d1, d2, d3] => { results := [.lit (.bool true)], args := [d1, d2, d3] }
  | _ => none }
def sddcGivensRow : OpenClaim := { program := "ytmnjakejhbpkoaagreatdoor", sum := "bc96927eacd596f364f22b3295054341eec5653b069dbbe1e8f013282097366d", func := "census/censuslaw27.SddcGivens", spec := "sddcGivens", unfollowed := true, recurses := true, named := ["internal/strconv.uint64pow10", "math/bits.deBruijn32tab", "math/bits.deBruijn64tab"], plainKeys := false, apart := false, laid := [("math/bits.deBruijn32tab", laid_math_bits_deBruijn32tab), ("math/bits.deBruijn64tab", laid_math_bits_deBruijn64tab), ("internal/strconv.uint64pow10", laid_internal_strconv_uint64pow10)] }
def SddcGivensSaid : Prop := sddcGivensRow.holds Tryz.pinned (OpenSpec.ofChange sddcGivensSpec)

/-- ITS FALSE NEIGHBOUR: 'it returns false'. Refute it at one input. -/
def sddcGivensWrong : ChangeSpec := { name := "sddcGivens", fn := fun _ => fun
  | [d1, d2, d3] => { results := [.lit (.bool false)], args := [d1, d2, d3] }
  | _ => none }
def SddcGivensWrongFalsely : Prop := sddcGivensRow.holds Tryz.pinned (OpenSpec.ofChange sddcGivensWrong)

/-- 'censuslaw27.SddcSplits': WHATEVER THE INPUT: true; the input reads as it did. -/
def sddcSplitsSpec : ChangeSpec := { name := "sddcSplits", fn := fun _ => fun
  | [d1, d2, d3] => { results := [.lit (.bool true)], args := [d1, d2, d3] }
  | _ => none }
def sddcSplitsRow : OpenClaim := { program := "ytmnjakejhbpkoaagreatdoor", sum := "bc96927eacd596f364f22b3295054341eec5653b069dbbe1e8f013282097366d", func := "census/censuslaw27.SddcSplits", spec := "sddcSplits", unfollowed := true, recurses := true, named := ["internal/strconv.uint64pow10", "math/bits.deBruijn32tab", "math/bits.deBruijn64tab"], plainKeys := false, apart := false, laid := [("math/bits.deBruijn32tab", laid_math_bits_deBruijn32tab), ("math/bits.deBruijn64tab", laid_math_bits_deBruijn64tab), ("internal/strconv.uint64pow10", laid_internal_strconv_uint64pow10)] }
def SddcSplitsSaid : Prop := sddcSplitsRow.holds Tryz.pinned (OpenSpec.ofChange sddcSplitsSpec)

/-- ITS FALSE NEIGHBOUR: 'it returns false'. Refute it at one input. -/
def sddcSplitsWrong : ChangeSpec := { name := "sddcSplits", fn := fun _ => fun
  | [d1, d2, d3] => { results := [.lit (.bool false)], args := [d1, d2, d3] }
  | _ => none }
def SddcSplitsWrongFalsely : Prop := sddcSplitsRow.holds Tryz.pinned (OpenSpec.ofChange sddcSplitsWrong)

/-- 'censuslaw27.SddcMeaning': WHATEVER THE INPUT: true; the input reads as it did. -/
def sddcMeaningSpec : ChangeSpec := { name := "sddcMeaning", fn := fun _ => fun
  | [d1, d2, d3, d4] => { results := [.lit (.bool true)], args := [d1, d2, d3, d4] }
  | _ => none }
def sddcMeaningRow : OpenClaim := { program := "ytmnjakejhbpkoaagreatdoor", sum := "bc96927eacd596f364f22b3295054341eec5653b069dbbe1e8f013282097366d", func := "census/censuslaw27.SddcMeaning", spec := "sddcMeaning", unfollowed := true, recurses := true, named := ["internal/strconv.uint64pow10", "math/bits.deBruijn32tab", "math/bits.deBruijn64tab"], plainKeys := false, apart := false, laid := [("math/bits.deBruijn32tab", laid_math_bits_deBruijn32tab), ("math/bits.deBruijn64tab", laid_math_bits_deBruijn64tab), ("internal/strconv.uint64pow10", laid_internal_strconv_uint64pow10)] }
def SddcMeaningSaid : Prop := sddcMeaningRow.holds Tryz.pinned (OpenSpec.ofChange sddcMeaningSpec)

/-- ITS FALSE NEIGHBOUR: 'it returns false'. Refute it at one input. -/
def sddcMeaningWrong : ChangeSpec := { name := "sddcMeaning", fn := fun _ => fun
  | [d1, d2, d3, d4] => { results := [.lit (.bool false)], args := [d1, d2, d3, d4] }
  | _ => none }
def SddcMeaningWrongFalsely : Prop := sddcMeaningRow.holds Tryz.pinned (OpenSpec.ofChange sddcMeaningWrong)

/-- 'censuslaw27.SddcCircuits': WHATEVER THE INPUT: true; the input reads as it did. -/
def sddcCircuitsSpec : ChangeSpec := { name := "sddcCircuits", fn := fun _ => fun
  | [d1, d2] => { results := [.lit (.bool true)], args := [d1, d2] }
  | _ => none }
def sddcCircuitsRow : OpenClaim := { program := "ytmnjakejhbpkoaagreatdoor", sum := "bc96927eacd596f364f22b3295054341eec5653b069dbbe1e8f013282097366d", func := "census/censuslaw27.SddcCircuits", spec := "sddcCircuits", unfollowed := true, recurses := true, named := ["internal/strconv.uint64pow10", "math/bits.deBruijn32tab", "math/bits.deBruijn64tab"], plainKeys := false, apart := false, laid := [("math/bits.deBruijn32tab", laid_math_bits_deBruijn32tab), ("math/bits.deBruijn64tab", laid_math_bits_deBruijn64tab), ("internal/strconv.uint64pow10", laid_internal_strconv_uint64pow10)] }
def SddcCircuitsSaid : Prop := sddcCircuitsRow.holds Tryz.pinned (OpenSpec.ofChange sddcCircuitsSpec)

/-- ITS FALSE NEIGHBOUR: 'it returns false'. Refute it at one input. -/
def sddcCircuitsWrong : ChangeSpec := { name := "sddcCircuits", fn := fun _ => fun
  | [d1, d2] => { results := [.lit (.bool false)], args := [d1, d2] }
  | _ => none }
def SddcCircuitsWrongFalsely : Prop := sddcCircuitsRow.holds Tryz.pinned (OpenSpec.ofChange sddcCircuitsWrong)

/-- 'censuslaw27.SddcNets': WHATEVER THE INPUT: true; the input reads as it did. -/
def sddcNetsSpec : ChangeSpec := { name := "sddcNets", fn := fun _ => fun
  | [d1, d2, d3] => { results := [.lit (.bool true)], args := [d1, d2, d3] }
  | _ => none }
def sddcNetsRow : OpenClaim := { program := "ytmnjakejhbpkoaagreatdoor", sum := "bc96927eacd596f364f22b3295054341eec5653b069dbbe1e8f013282097366d", func := "census/censuslaw27.SddcNets", spec := "sddcNets", inPlace := ["internal/abi.NoEscape"], unfollowed := true, recurses := true, named := ["internal/strconv.uint64pow10", "math/bits.deBruijn32tab", "math/bits.deBruijn64tab"], plainKeys := false, apart := false, laid := [("math/bits.deBruijn32tab", laid_math_bits_deBruijn32tab), ("math/bits.deBruijn64tab", laid_math_bits_deBruijn64tab), ("internal/strconv.uint64pow10", laid_internal_strconv_uint64pow10)] }
def SddcNetsSaid : Prop := sddcNetsRow.holds Tryz.pinned (OpenSpec.ofChange sddcNetsSpec)

/-- ITS FALSE NEIGHBOUR: 'it returns false'. Refute it at one input. -/
def sddcNetsWrong : ChangeSpec := { name := "sddcNets", fn := fun _ => fun
  | [d1, d2, d3] => { results := [.lit (.bool false)], args := [d1, d2, d3] }
  | _ => none }
def SddcNetsWrongFalsely : Prop := sddcNetsRow.holds Tryz.pinned (OpenSpec.ofChange sddcNetsWrong)

/-- 'censuslaw27.SddcErrors': WHATEVER THE INPUT: true; the input reads as it did. -/
def sddcErrorsSpec : ChangeSpec := { name := "sddcErrors", fn := fun _ => fun
  | [d1, d2, d3] => { results := [.lit (.bool true)], args := [d1, d2, d3] }
  | _ => none }
def sddcErrorsRow : OpenClaim := { program := "ytmnjakejhbpkoaagreatdoor", sum := "bc96927eacd596f364f22b3295054341eec5653b069dbbe1e8f013282097366d", func := "census/censuslaw27.SddcErrors", spec := "sddcErrors", inPlace := ["internal/abi.NoEscape"], unfollowed := true, recurses := true, named := ["internal/strconv.uint64pow10", "math/bits.deBruijn32tab", "math/bits.deBruijn64tab"], plainKeys := false, apart := false, laid := [("math/bits.deBruijn32tab", laid_math_bits_deBruijn32tab), ("math/bits.deBruijn64tab", laid_math_bits_deBruijn64tab), ("internal/strconv.uint64pow10", laid_internal_strconv_uint64pow10)] }
def SddcErrorsSaid : Prop := sddcErrorsRow.holds Tryz.pinned (OpenSpec.ofChange sddcErrorsSpec)

/-- ITS FALSE NEIGHBOUR: 'it returns false'. Refute it at one input. -/
def sddcErrorsWrong : ChangeSpec := { name := "sddcErrors", fn := fun _ => fun
  | [d1, d2, d3] => { results := [.lit (.bool false)], args := [d1, d2, d3] }
  | _ => none }
def SddcErrorsWrongFalsely : Prop := sddcErrorsRow.holds Tryz.pinned (OpenSpec.ofChange sddcErrorsWrong)

/-- 'censuslaw27.SddcKnown': WHATEVER THE INPUT: true; the input reads as it did. -/
def sddcKnownSpec : ChangeSpec := { name := "sddcKnown", fn := fun _ => fun
  | [] => { results := [.lit (.bool true)], args := [] }
  | _ => none }
def sddcKnownRow : OpenClaim := { program := "ytmnjakejhbpkoaagreatdoor", sum := "bc96927eacd596f364f22b3295054341eec5653b069dbbe1e8f013282097366d", func := "census/censuslaw27.SddcKnown", spec := "sddcKnown", inPlace := ["internal/abi.NoEscape"], unfollowed := true, recurses := true, named := ["internal/strconv.uint64pow10", "math/bits.deBruijn32tab", "math/bits.deBruijn64tab"], plainKeys := false, apart := false, laid := [("math/bits.deBruijn32tab", laid_math_bits_deBruijn32tab), ("math/bits.deBruijn64tab", laid_math_bits_deBruijn64tab), ("internal/strconv.uint64pow10", laid_internal_strconv_uint64pow10)] }
def SddcKnownSaid : Prop := sddcKnownRow.holds Tryz.pinned (OpenSpec.ofChange sddcKnownSpec)

/-- ITS FALSE NEIGHBOUR: 'it returns false'. Refute it at one input. -/
def sddcKnownWrong : ChangeSpec := { name := "sddcKnown", fn := fun _ => fun
  | [] => { results := [.lit (.bool false)], args := [] }
  | _ => none }
def SddcKnownWrongFalsely : Prop := sddcKnownRow.holds Tryz.pinned (OpenSpec.ofChange sddcKnownWrong)

/-- 'censuslaw27.SddcPairs': WHATEVER THE INPUT: true; the input reads as it did. -/
def sddcPairsSpec : ChangeSpec := { name := "sddcPairs", fn := fun _ => fun
  | [d1, d2] => { results := [.lit (.bool true)], args := [d1, d2] }
  | _ => none }
def sddcPairsRow : OpenClaim := { program := "ytmnjakejhbpkoaagreatdoor", sum := "bc96927eacd596f364f22b3295054341eec5653b069dbbe1e8f013282097366d", func := "census/censuslaw27.SddcPairs", spec := "sddcPairs", inPlace := ["internal/abi.NoEscape"], unfollowed := true, recurses := true, named := ["internal/strconv.uint64pow10", "math/bits.deBruijn32tab", "math/bits.deBruijn64tab"], plainKeys := false, apart := false, laid := [("math/bits.deBruijn32tab", laid_math_bits_deBruijn32tab), ("math/bits.deBruijn64tab", laid_math_bits_deBruijn64tab), ("internal/strconv.uint64pow10", laid_internal_strconv_uint64pow10)] }
def SddcPairsSaid : Prop := sddcPairsRow.holds Tryz.pinned (OpenSpec.ofChange sddcPairsSpec)

/-- ITS FALSE NEIGHBOUR: 'it returns false'. Refute it at one input. -/
def sddcPairsWrong : ChangeSpec := { name := "sddcPairs", fn := fun _ => fun
  | [d1, d2] => { results := [.lit (.bool false)], args := [d1, d2] }
  | _ => none }
def SddcPairsWrongFalsely : Prop := sddcPairsRow.holds Tryz.pinned (OpenSpec.ofChange sddcPairsWrong)

/-- 'censuslaw27.SddcShape': WHATEVER THE INPUT: true; the input reads as it did. -/
def sddcShapeSpec : ChangeSpec := { name := "sddcShape", fn := fun _ => fun
  | [d1, d2, d3] => { results := [.lit (.bool true)], args := [d1, d2, d3] }
  | _ => none }
def sddcShapeRow : OpenClaim := { program := "ytmnjakejhbpkoaagreatdoor", sum := "bc96927eacd596f364f22b3295054341eec5653b069dbbe1e8f013282097366d", func := "census/censuslaw27.SddcShape", spec := "sddcShape", inPlace := ["internal/abi.NoEscape"], unfollowed := true, recurses := true, named := ["internal/strconv.uint64pow10", "math/bits.deBruijn32tab", "math/bits.deBruijn64tab", "census/shape.patterns"], plainKeys := false, apart := false, laid := [("math/bits.deBruijn32tab", laid_math_bits_deBruijn32tab), ("math/bits.deBruijn64tab", laid_math_bits_deBruijn64tab), ("internal/strconv.uint64pow10", laid_internal_strconv_uint64pow10), ("census/shape.patterns", laid_census_shape_patterns)] }
def SddcShapeSaid : Prop := sddcShapeRow.holds Tryz.pinned (OpenSpec.ofChange sddcShapeSpec)

/-- ITS FALSE NEIGHBOUR: 'it returns false'. Refute it at one input. -/
def sddcShapeWrong : ChangeSpec := { name := "sddcShape", fn := fun _ => fun
  | [d1, d2, d3] => { results := [.lit (.bool false)], args := [d1, d2, d3] }
  | _ => none }
def SddcShapeWrongFalsely : Prop := sddcShapeRow.holds Tryz.pinned (OpenSpec.ofChange sddcShapeWrong)

/- THE SECOND FORM. 'bulk': how many values and letters a reading holds, each counted each time it is reached (what is shared counts as often as it is met; a slice's spare places count too). A statement '..UptoSaid' is the law's where the arguments, and the package variables that the reading takes, are together of bulk at most 1048576: NARROWER than '..Said'. Prove '..Said' where nothing that the law and all that it calls make is longer than what came in: it says more and counts as full. Else prove '..UptoSaid'. A law counts once. -/
mutual
def uptoBulk {H : Type} : DataW H → Nat
  | .lit (.string bytes) => bytes.length + 1
  | .lit _ => 1
  | .nil => 1
  | .ptr d => uptoBulk d + 1
  | .slice elems spare => uptoBulkAll elems + uptoBulkAll spare + 1
  | .agg parts => uptoBulkAll parts + 1
  | .iface _ d => uptoBulk d + 1
  | .map entries => uptoBulkEntries entries + 1
  | .held _ => 1
def uptoBulkAll {H : Type} : List (DataW H) → Nat
  | [] => 0
  | d :: r => uptoBulk d + uptoBulkAll r
def uptoBulkEntries {H : Type} : List (Lit × DataW H) → Nat
  | [] => 0
  | x :: r => uptoBulkEntry x + uptoBulkEntries r
def uptoBulkEntry {H : Type} : Lit × DataW H → Nat
  | (.string bytes, d) => bytes.length + uptoBulk d + 1
  | (_, d) => uptoBulk d + 1
 end
def uptoSmall : (H : Type) → List (DataW H) → Bool := fun _ ds => decide (uptoBulkAll ds ≤ 1048576)
def OpenSpec.upto (s : _root_.Go.ChangeSpec) : _root_.Go.OpenSpec := { _root_.Go.OpenSpec.ofChange s with cond := some uptoSmall }

/-- 'censuslaw27.SddcCompiles', WHERE WHAT IT READS IS OF BULK AT MOST 1048576: true; the input reads as it did. -/
def sddcCompilesUptoRow : OpenClaim := { program := "ytmnjakejhbpkoaagreatdoor", sum := "bc96927eacd596f364f22b3295054341eec5653b069dbbe1e8f013282097366d", func := "census/censuslaw27.SddcCompiles", spec := "sddcCompiles", unfollowed := true, recurses := true, named := ["internal/strconv.uint64pow10", "math/bits.deBruijn32tab", "math/bits.deBruijn64tab"], plainKeys := false, apart := false, laid := [("math/bits.deBruijn32tab", laid_math_bits_deBruijn32tab), ("math/bits.deBruijn64tab", laid_math_bits_deBruijn64tab), ("internal/strconv.uint64pow10", laid_internal_strconv_uint64pow10)], narrowed := true }
def SddcCompilesUptoSaid : Prop := sddcCompilesUptoRow.holds Tryz.pinned (OpenSpec.upto sddcCompilesSpec)

/-- 'censuslaw27.SddcTwice', WHERE WHAT IT READS IS OF BULK AT MOST 1048576: true; the input reads as it did. -/
def sddcTwiceUptoRow : OpenClaim := { program := "ytmnjakejhbpkoaagreatdoor", sum := "bc96927eacd596f364f22b3295054341eec5653b069dbbe1e8f013282097366d", func := "census/censuslaw27.SddcTwice", spec := "sddcTwice", unfollowed := true, recurses := true, named := ["internal/strconv.uint64pow10", "math/bits.deBruijn32tab", "math/bits.deBruijn64tab"], plainKeys := false, apart := false, laid := [("math/bits.deBruijn32tab", laid_math_bits_deBruijn32tab), ("math/bits.deBruijn64tab", laid_math_bits_deBruijn64tab), ("internal/strconv.uint64pow10", laid_internal_strconv_uint64pow10)], narrowed := true }
def SddcTwiceUptoSaid : Prop := sddcTwiceUptoRow.holds Tryz.pinned (OpenSpec.upto sddcTwiceSpec)

/-- 'censuslaw27.SddcGivens', WHERE WHAT IT READS IS OF BULK AT MOST 1048576: true; the input reads as it did. -/
def sddcGivensUptoRow : OpenClaim := { program := "ytmnjakejhbpkoaagreatdoor", sum := "bc96927eacd596f364f22b3295054341eec5653b069dbbe1e8f013282097366d", func := "census/censuslaw27.SddcGivens", spec := "sddcGivens", unfollowed := true, recurses := true, named := ["internal/strconv.uint64pow10", "math/bits.deBruijn32tab", "math/bits.deBruijn64tab"], plainKeys := false, apart := false, laid := [("math/bits.deBruijn32tab", laid_math_bits_deBruijn32tab), ("math/bits.deBruijn64tab", laid_math_bits_deBruijn64tab), ("internal/strconv.uint64pow10", laid_internal_strconv_uint64pow10)], narrowed := true }
def SddcGivensUptoSaid : Prop := sddcGivensUptoRow.holds Tryz.pinned (OpenSpec.upto sddcGivensSpec)

/-- 'censuslaw27.SddcSplits', WHERE WHAT IT READS IS OF BULK AT MOST 1048576: true; the input reads as it did. -/
def sddcSplitsUptoRow : OpenClaim := { program := "ytmnjakejhbpkoaagreatdoor", sum := "bc96927eacd596f364f22b3295054341eec5653b069dbbe1e8f013282097366d", func := "census/censuslaw27.SddcSplits", spec := "sddcSplits", unfollowed := true, recurses := true, named := ["internal/strconv.uint64pow10", "math/bits.deBruijn32tab", "math/bits.deBruijn64tab"], plainKeys := false, apart := false, laid := [("math/bits.deBruijn32tab", laid_math_bits_deBruijn32tab), ("math/bits.deBruijn64tab", laid_math_bits_deBruijn64tab), ("internal/strconv.uint64pow10", laid_internal_strconv_uint64pow10)], narrowed := true }
def SddcSplitsUptoSaid : Prop := sddcSplitsUptoRow.holds Tryz.pinned (OpenSpec.upto sddcSplitsSpec)

/-- 'censuslaw27.SddcMeaning', WHERE WHAT IT READS IS OF BULK AT MOST 1048576: true; the input reads as it did. -/
def sddcMeaningUptoRow : OpenClaim := { program := "ytmnjakejhbpkoaagreatdoor", sum := "bc96927eacd596f364f22b3295054341eec5653b069dbbe1e8f013282097366d", func := "census/censuslaw27.SddcMeaning", spec := "sddcMeaning", unfollowed := true, recurses := true, named := ["internal/strconv.uint64pow10", "math/bits.deBruijn32tab", "math/bits.deBruijn64tab"], plainKeys := false, apart := false, laid := [("math/bits.deBruijn32tab", laid_math_bits_deBruijn32tab), ("math/bits.deBruijn64tab", laid_math_bits_deBruijn64tab), ("internal/strconv.uint64pow10", laid_internal_strconv_uint64pow10)], narrowed := true }
def SddcMeaningUptoSaid : Prop := sddcMeaningUptoRow.holds Tryz.pinned (OpenSpec.upto sddcMeaningSpec)

/-- 'censuslaw27.SddcCircuits', WHERE WHAT IT READS IS OF BULK AT MOST 1048576: true; the input reads as it did. -/
def sddcCircuitsUptoRow : OpenClaim := { program := "ytmnjakejhbpkoaagreatdoor", sum := "bc96927eacd596f364f22b3295054341eec5653b069dbbe1e8f013282097366d", func := "census/censuslaw27.SddcCircuits", spec := "sddcCircuits", unfollowed := true, recurses := true, named := ["internal/strconv.uint64pow10", "math/bits.deBruijn32tab", "math/bits.deBruijn64tab"], plainKeys := false, apart := false, laid := [("math/bits.deBruijn32tab", laid_math_bits_deBruijn32tab), ("math/bits.deBruijn64tab", laid_math_bits_deBruijn64tab), ("internal/strconv.uint64pow10", laid_internal_strconv_uint64pow10)], narrowed := true }
def SddcCircuitsUptoSaid : Prop := sddcCircuitsUptoRow.holds Tryz.pinned (OpenSpec.upto sddcCircuitsSpec)

/-- 'censuslaw27.SddcNets', WHERE WHAT IT READS IS OF BULK AT MOST 1048576: true; the input reads as it did. -/
def sddcNetsUptoRow : OpenClaim := { program := "ytmnjakejhbpkoaagreatdoor", sum := "bc96927eacd596f364f22b3295054341eec5653b069dbbe1e8f013282097366d", func := "census/censuslaw27.SddcNets", spec := "sddcNets", inPlace := ["internal/abi.NoEscape"], unfollowed := true, recurses := true, named := ["internal/strconv.uint64pow10", "math/bits.deBruijn32tab", "math/bits.deBruijn64tab"], plainKeys := false, apart := false, laid := [("math/bits.deBruijn32tab", laid_math_bits_deBruijn32tab), ("math/bits.deBruijn64tab", laid_math_bits_deBruijn64tab), ("internal/strconv.uint64pow10", laid_internal_strconv_uint64pow10)], narrowed := true }
def SddcNetsUptoSaid : Prop := sddcNetsUptoRow.holds Tryz.pinned (OpenSpec.upto sddcNetsSpec)

/-- 'censuslaw27.SddcErrors', WHERE WHAT IT READS IS OF BULK AT MOST 1048576: true; the input reads as it did. -/
def sddcErrorsUptoRow : OpenClaim := { program := "ytmnjakejhbpkoaagreatdoor", sum := "bc96927eacd596f364f22b3295054341eec5653b069dbbe1e8f013282097366d", func := "census/censuslaw27.SddcErrors", spec := "sddcErrors", inPlace := ["internal/abi.NoEscape"], unfollowed := true, recurses := true, named := ["internal/strconv.uint64pow10", "math/bits.deBruijn32tab", "math/bits.deBruijn64tab"], plainKeys := false, apart := false, laid := [("math/bits.deBruijn32tab", laid_math_bits_deBruijn32tab), ("math/bits.deBruijn64tab", laid_math_bits_deBruijn64tab), ("internal/strconv.uint64pow10", laid_internal_strconv_uint64pow10)], narrowed := true }
def SddcErrorsUptoSaid : Prop := sddcErrorsUptoRow.holds Tryz.pinned (OpenSpec.upto sddcErrorsSpec)

/-- 'censuslaw27.SddcKnown', WHERE WHAT IT READS IS OF BULK AT MOST 1048576: true; the input reads as it did. -/
def sddcKnownUptoRow : OpenClaim := { program := "ytmnjakejhbpkoaagreatdoor", sum := "bc96927eacd596f364f22b3295054341eec5653b069dbbe1e8f013282097366d", func := "census/censuslaw27.SddcKnown", spec := "sddcKnown", inPlace := ["internal/abi.NoEscape"], unfollowed := true, recurses := true, named := ["internal/strconv.uint64pow10", "math/bits.deBruijn32tab", "math/bits.deBruijn64tab"], plainKeys := false, apart := false, laid := [("math/bits.deBruijn32tab", laid_math_bits_deBruijn32tab), ("math/bits.deBruijn64tab", laid_math_bits_deBruijn64tab), ("internal/strconv.uint64pow10", laid_internal_strconv_uint64pow10)], narrowed := true }
def SddcKnownUptoSaid : Prop := sddcKnownUptoRow.holds Tryz.pinned (OpenSpec.upto sddcKnownSpec)

/-- 'censuslaw27.SddcPairs', WHERE WHAT IT READS IS OF BULK AT MOST 1048576: true; the input reads as it did. -/
def sddcPairsUptoRow : OpenClaim := { program := "ytmnjakejhbpkoaagreatdoor", sum := "bc96927eacd596f364f22b3295054341eec5653b069dbbe1e8f013282097366d", func := "census/censuslaw27.SddcPairs", spec := "sddcPairs", inPlace := ["internal/abi.NoEscape"], unfollowed := true, recurses := true, named := ["internal/strconv.uint64pow10", "math/bits.deBruijn32tab", "math/bits.deBruijn64tab"], plainKeys := false, apart := false, laid := [("math/bits.deBruijn32tab", laid_math_bits_deBruijn32tab), ("math/bits.deBruijn64tab", laid_math_bits_deBruijn64tab), ("internal/strconv.uint64pow10", laid_internal_strconv_uint64pow10)], narrowed := true }
def SddcPairsUptoSaid : Prop := sddcPairsUptoRow.holds Tryz.pinned (OpenSpec.upto sddcPairsSpec)

/-- 'censuslaw27.SddcShape', WHERE WHAT IT READS IS OF BULK AT MOST 1048576: true; the input reads as it did. -/
def sddcShapeUptoRow : OpenClaim := { program := "ytmnjakejhbpkoaagreatdoor", sum := "bc96927eacd596f364f22b3295054341eec5653b069dbbe1e8f013282097366d", func := "census/censuslaw27.SddcShape", spec := "sddcShape", inPlace := ["internal/abi.NoEscape"], unfollowed := true, recurses := true, named := ["internal/strconv.uint64pow10", "math/bits.deBruijn32tab", "math/bits.deBruijn64tab", "census/shape.patterns"], plainKeys := false, apart := false, laid := [("math/bits.deBruijn32tab", laid_math_bits_deBruijn32tab), ("math/bits.deBruijn64tab", laid_math_bits_deBruijn64tab), ("internal/strconv.uint64pow10", laid_internal_strconv_uint64pow10), ("census/shape.patterns", laid_census_shape_patterns)], narrowed := true }
def SddcShapeUptoSaid : Prop := sddcShapeUptoRow.holds Tryz.pinned (OpenSpec.upto sddcShapeSpec)

end Rows
end Go.Proofs.YtmnjakejhbpkoaaGreatDoor
