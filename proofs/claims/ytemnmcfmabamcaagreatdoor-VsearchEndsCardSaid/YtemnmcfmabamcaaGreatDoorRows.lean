/-
  NARROWER THAN 'FOR EVERY INPUT', by the rows' own cells (each row's printed sentence says how): VsearchEnds: laid · VsearchMoves: laid · VsearchLeast: laid · VsearchMore: laid · VsearchNone: laid · VsearchChain: laid · VsearchKnown: laid · VsearchSame: laid.
  DERIVED. THE GIVEN ROWS OF THIS SEAT. 8 by the template 'for every input the law returns true; each argument reads behind the call as it read before'; 0 by the template 'total and deterministic' (their statements: YtemnmcfmabamcaaGreatDoorTotals.lean).
  GIVEN WITH THE SEED: the statements are not yours to turn. If you find one false, say at which input.
  Laid BY PROGRAM, IN A SANDBOX (cutbox-rows.mjs): the forced cells as the released guide's own fill.sh prints them over the translation 796756e6c8b10a8e… (all of the seat's roots in one cut). By AI agents, Wed Nov 11 2026. No macro, syntax, notation, axiom, sorry.
-/
import Derived.Test.YtemnmcfmabamcaaGreatDoorChecked
import GoSem.Claim
import GoSem.ClaimJoined
import GoSem.ClaimMapViews
import Derived.JoinedTies
import Derived.KernelRfl
namespace Go.Proofs.YtemnmcfmabamcaaGreatDoor
/- THE CELL 'sum', in the pinned program and in every row, IS THE sha256 OF THE DUMP (.gsa) THAT YtemnmcfmabamcaaGreatDoorProg.lean LOADS. Nothing in Lean hashes anything: it is a label: what it is worth is what the hold of that sum in a sandbox is worth. -/
noncomputable def Tryz.pinned : Pinned := { name := "ytemnmcfmabamcaagreatdoor", sum := "796756e6c8b10a8ebd61d20119c7605c223f56583226b5b9e4848e5ac2b61231", checked := Tryz.checked }
namespace Rows
def none {H : Type} : Left H := { results := [], args := [] }

/- WHAT THE LISTED PACKAGE-LEVEL VARIABLES READ AS WHEN THE CALL BEGINS. Each datum BY PROGRAM (the guide's laid-datum.mjs) off the statement by which the dump's own 'gosem.cut.vars' lays the variable. In a bare row this is a premise. The card (YtemnmcfmabamcaaGreatDoorCards.lean) ties it to the program's text. -/
def laid_math_bits_deBruijn32tab {H : Type} : DataW H := .agg [.lit (.int .u8 0), .lit (.int .u8 1), .lit (.int .u8 28), .lit (.int .u8 2), .lit (.int .u8 29), .lit (.int .u8 14), .lit (.int .u8 24), .lit (.int .u8 3), .lit (.int .u8 30), .lit (.int .u8 22), .lit (.int .u8 20), .lit (.int .u8 15), .lit (.int .u8 25), .lit (.int .u8 17), .lit (.int .u8 4), .lit (.int .u8 8), .lit (.int .u8 31), .lit (.int .u8 27), .lit (.int .u8 13), .lit (.int .u8 23), .lit (.int .u8 21), .lit (.int .u8 19), .lit (.int .u8 16), .lit (.int .u8 7), .lit (.int .u8 26), .lit (.int .u8 12), .lit (.int .u8 18), .lit (.int .u8 6), .lit (.int .u8 11), .lit (.int .u8 5), .lit (.int .u8 10), .lit (.int .u8 9)]
def laid_math_bits_deBruijn64tab {H : Type} : DataW H := .agg [.lit (.int .u8 0), .lit (.int .u8 1), .lit (.int .u8 56), .lit (.int .u8 2), .lit (.int .u8 57), .lit (.int .u8 49), .lit (.int .u8 28), .lit (.int .u8 3), .lit (.int .u8 61), .lit (.int .u8 58), .lit (.int .u8 42), .lit (.int .u8 50), .lit (.int .u8 38), .lit (.int .u8 29), .lit (.int .u8 17), .lit (.int .u8 4), .lit (.int .u8 62), .lit (.int .u8 47), .lit (.int .u8 59), .lit (.int .u8 36), .lit (.int .u8 45), .lit (.int .u8 43), .lit (.int .u8 51), .lit (.int .u8 22), .lit (.int .u8 53), .lit (.int .u8 39), .lit (.int .u8 33), .lit (.int .u8 30), .lit (.int .u8 24), .lit (.int .u8 18), .lit (.int .u8 12), .lit (.int .u8 5), .lit (.int .u8 63), .lit (.int .u8 55), .lit (.int .u8 48), .lit (.int .u8 27), .lit (.int .u8 60), .lit (.int .u8 41), .lit (.int .u8 37), .lit (.int .u8 16), .lit (.int .u8 46), .lit (.int .u8 35), .lit (.int .u8 44), .lit (.int .u8 21), .lit (.int .u8 52), .lit (.int .u8 32), .lit (.int .u8 23), .lit (.int .u8 11), .lit (.int .u8 54), .lit (.int .u8 26), .lit (.int .u8 40), .lit (.int .u8 15), .lit (.int .u8 34), .lit (.int .u8 20), .lit (.int .u8 31), .lit (.int .u8 10), .lit (.int .u8 25), .lit (.int .u8 14), .lit (.int .u8 19), .lit (.int .u8 9), .lit (.int .u8 13), .lit (.int .u8 8), .lit (.int .u8 7), .lit (.int .u8 6)]
def laid_internal_strconv_uint64pow10 {H : Type} : DataW H := .agg [.lit (.int .u64 1), .lit (.int .u64 10), .lit (.int .u64 100), .lit (.int .u64 1000), .lit (.int .u64 10000), .lit (.int .u64 100000), .lit (.int .u64 1000000), .lit (.int .u64 10000000), .lit (.int .u64 100000000), .lit (.int .u64 1000000000), .lit (.int .u64 10000000000), .lit (.int .u64 100000000000), .lit (.int .u64 1000000000000), .lit (.int .u64 10000000000000), .lit (.int .u64 100000000000000), .lit (.int .u64 1000000000000000), .lit (.int .u64 10000000000000000), .lit (.int .u64 100000000000000000), .lit (.int .u64 1000000000000000000), .lit (.int .u64 10000000000000000000)]
def laid_strconv_ErrRange {H : Type} : DataW H := .iface "*errors.errorString" (.ptr (.agg [.lit (.string [118, 97, 108, 117, 101, 32, 111, 117, 116, 32, 111, 102, 32, 114, 97, 110, 103, 101])]))
def laid_strconv_ErrSyntax {H : Type} : DataW H := .iface "*errors.errorString" (.ptr (.agg [.lit (.string [105, 110, 118, 97, 108, 105, 100, 32, 115, 121, 110, 116, 97, 120])]))

/-- 'censuslaw29.VsearchEnds': WHATEVER THE INPUT: true; the input reads as it did. -/
def vsearchEndsSpec : ChangeSpec := { name := "vsearchEnds", fn := fun _ => fun
  | [d] => { results := [.lit (.bool true)], args := [d] }
  | _ => none }
def vsearchEndsRow : OpenClaim := { program := "ytemnmcfmabamcaagreatdoor", sum := "796756e6c8b10a8ebd61d20119c7605c223f56583226b5b9e4848e5ac2b61231", func := "census/censuslaw29.VsearchEnds", spec := "vsearchEnds", inPlace := ["internal/abi.NoEscape"], unfollowed := true, recurses := true, named := ["internal/strconv.uint64pow10", "math/bits.deBruijn32tab", "math/bits.deBruijn64tab", "strconv.ErrSyntax", "strconv.ErrRange"], plainKeys := false, apart := false, laid := [("math/bits.deBruijn32tab", laid_math_bits_deBruijn32tab), ("math/bits.deBruijn64tab", laid_math_bits_deBruijn64tab), ("internal/strconv.uint64pow10", laid_internal_strconv_uint64pow10), ("strconv.ErrRange", laid_strconv_ErrRange), ("strconv.ErrSyntax", laid_strconv_ErrSyntax)] }
def VsearchEndsSaid : Prop := vsearchEndsRow.holds Tryz.pinned (OpenSpec.ofChange vsearchEndsSpec)

/-- ITS FALSE NEIGHBOUR: 'it returns false'. Refute it at one input. -/
def vsearchEndsWrong : ChangeSpec := { name := "vsearchEnds", fn := fun _ => fun
  | [d] => { results := [.lit (.bool false)], args := [d] }
  | _ => none }
def VsearchEndsWrongFalsely : Prop := vsearchEndsRow.holds Tryz.pinned (OpenSpec.ofChange vsearchEndsWrong)

/-- 'censuslaw29.VsearchMoves': WHATEVER THE INPUT: true; the input reads as it did. -/
def vsearchMovesSpec : ChangeSpec := { name := "vsearchMoves", fn := fun _ => fun
  | [d] => { results := [.lit (.bool true)], args := [d] }
  | _ => none }
def vsearchMovesRow : OpenClaim := { program := "ytemnmcfmabamcaagreatdoor", sum := "796756e6c8b10a8ebd61d20119c7605c223f56583226b5b9e4848e5ac2b61231", func := "census/censuslaw29.VsearchMoves", spec := "vsearchMoves", inPlace := ["internal/abi.NoEscape"], unfollowed := true, recurses := true, named := ["internal/strconv.uint64pow10", "math/bits.deBruijn32tab", "math/bits.deBruijn64tab", "strconv.ErrSyntax", "strconv.ErrRange"], plainKeys := false, apart := false, laid := [("math/bits.deBruijn32tab", laid_math_bits_deBruijn32tab), ("math/bits.deBruijn64tab", laid_math_bits_deBruijn64tab), ("internal/strconv.uint64pow10", laid_internal_strconv_uint64pow10), ("strconv.ErrRange", laid_strconv_ErrRange), ("strconv.ErrSyntax", laid_strconv_ErrSyntax)] }
def VsearchMovesSaid : Prop := vsearchMovesRow.holds Tryz.pinned (OpenSpec.ofChange vsearchMovesSpec)

/-- ITS FALSE NEIGHBOUR: 'it returns false'. Refute it at one input. -/
def vsearchMovesWrong : ChangeSpec := { name := "vsearchMoves", fn := fun _ => fun
  | [d] => { results := [.lit (.bool false)], args := [d] }
  | _ => none }
def VsearchMovesWrongFalsely : Prop := vsearchMovesRow.holds Tryz.pinned (OpenSpec.ofChange vsearchMovesWrong)

/-- 'censuslaw29.VsearchLeast': WHATEVER THE INPUT: true; the input reads as it did. -/
def vsearchLeastSpec : ChangeSpec := { name := "vsearchLeast", fn := fun _ => fun
  | [d] => { results := [.lit (.bool true)], args := [d] }
  | _ => none }
def vsearchLeastRow : OpenClaim := { program := "ytemnmcfmabamcaagreatdoor", sum := "796756e6c8b10a8ebd61d20119c7605c223f56583226b5b9e4848e5ac2b61231", func := "census/censuslaw29.VsearchLeast", spec := "vsearchLeast", inPlace := ["internal/abi.NoEscape"], unfollowed := true, recurses := true, named := ["internal/strconv.uint64pow10", "math/bits.deBruijn32tab", "math/bits.deBruijn64tab", "strconv.ErrSyntax", "strconv.ErrRange"], plainKeys := false, apart := false, laid := [("math/bits.deBruijn32tab", laid_math_bits_deBruijn32tab), ("math/bits.deBruijn64tab", laid_math_bits_deBruijn64tab), ("internal/strconv.uint64pow10", laid_internal_strconv_uint64pow10), ("strconv.ErrRange", laid_strconv_ErrRange), ("strconv.ErrSyntax", laid_strconv_ErrSyntax)] }
def VsearchLeastSaid : Prop := vsearchLeastRow.holds Tryz.pinned (OpenSpec.ofChange vsearchLeastSpec)

/-- ITS FALSE NEIGHBOUR: 'it returns false'. Refute it at one input. -/
def vsearchLeastWrong : ChangeSpec := { name := "vsearchLeast", fn := fun _ => fun
  | [d] => { results := [.lit (.bool false)], args := [d] }
  | _ => none }
def VsearchLeastWrongFalsely : Prop := vsearchLeastRow.holds Tryz.pinned (OpenSpec.ofChange vsearchLeastWrong)

/-- 'censuslaw29.VsearchMore': WHATEVER THE INPUT: true; the input reads as it did. -/
def vsearchMoreSpec : ChangeSpec := { name := "vsearchMore", fn := fun _ => fun
  | [d1, d2] => { results := [.lit (.bool true)], args := [d1, d2] }
  | _ => none }
def vsearchMoreRow : OpenClaim := { program := "ytemnmcfmabamcaagreatdoor", sum := "796756e6c8b10a8ebd61d20119c7605c223f56583226b5b9e4848e5ac2b61231", func := "census/censuslaw29.VsearchMore", spec := "vsearchMore", inPlace := ["internal/abi.NoEscape"], unfollowed := true, recurses := true, named := ["internal/strconv.uint64pow10", "math/bits.deBruijn32tab", "math/bits.deBruijn64tab", "strconv.ErrSyntax", "strconv.ErrRange"], plainKeys := false, apart := false, laid := [("math/bits.deBruijn32tab", laid_math_bits_deBruijn32tab), ("math/bits.deBruijn64tab", laid_math_bits_deBruijn64tab), ("internal/strconv.uint64pow10", laid_internal_strconv_uint64pow10), ("strconv.ErrRange", laid_strconv_ErrRange), ("strconv.ErrSyntax", laid_strconv_ErrSyntax)] }
def VsearchMoreSaid : Prop := vsearchMoreRow.holds Tryz.pinned (OpenSpec.ofChange vsearchMoreSpec)

/-- ITS FALSE NEIGHBOUR: 'it returns false'. Refute it at one input. -/
def vsearchMoreWrong : ChangeSpec := { name := "vsearchMore", fn := fun _ => fun
  | [d1, d2] => { results := [.lit (.bool false)], args := [d1, d2] }
  | _ => none }
def VsearchMoreWrongFalsely : Prop := vsearchMoreRow.holds Tryz.pinned (OpenSpec.ofChange vsearchMoreWrong)

/-- 'censuslaw29.VsearchNone': WHATEVER THE INPUT: true; the input reads as it did. -/
def vsearchNoneSpec : ChangeSpec := { name := "vsearchNone", fn := fun _ => fun
  | [d1, d2] => { results := [.lit (.bool true)], args := [d1, d2] }
  | _ => none }
def vsearchNoneRow : OpenClaim := { program := "ytemnmcfmabamcaagreatdoor", sum := "796756e6c8b10a8ebd61d20119c7605c223f56583226b5b9e4848e5ac2b61231", func := "census/censuslaw29.VsearchNone", spec := "vsearchNone", inPlace := ["internal/abi.NoEscape"], unfollowed := true, recurses := true, named := ["internal/strconv.uint64pow10", "math/bits.deBruijn32tab", "math/bits.deBruijn64tab", "strconv.ErrSyntax", "strconv.ErrRange"], plainKeys := false, apart := false, laid := [("math/bits.deBruijn32tab", laid_math_bits_deBruijn32tab), ("math/bits.deBruijn64tab", laid_math_bits_deBruijn64tab), ("internal/strconv.uint64pow10", laid_internal_strconv_uint64pow10), ("strconv.ErrRange", laid_strconv_ErrRange), ("strconv.ErrSyntax", laid_strconv_ErrSyntax)] }
def VsearchNoneSaid : Prop := vsearchNoneRow.holds Tryz.pinned (OpenSpec.ofChange vsearchNoneSpec)

/-- ITS FALSE NEIGHBOUR: 'it returns false'. Refute it at one input. -/
def vsearchNoneWrong : ChangeSpec := { name := "vsearchNone", fn := fun _ => fun
  | [d1, d2] => { results := [.lit (.bool false)], args := [d1, d2] }
  | _ => none }
def VsearchNoneWrongFalsely : Prop := vsearchNoneRow.holds Tryz.pinned (OpenSpec.ofChange vsearchNoneWrong)

/-- 'censuslaw29.VsearchChain': WHATEVER THE INPUT: true; the input reads as it did. -/
def vsearchChainSpec : ChangeSpec := { name := "vsearchChain", fn := fun _ => fun
  | [d1, d2] => { results := [.lit (.bool true)], args := [d1, d2] }
  | _ => none }
def vsearchChainRow : OpenClaim := { program := "ytemnmcfmabamcaagreatdoor", sum := "796756e6c8b10a8ebd61d20119c7605c223f56583226b5b9e4848e5ac2b61231", func := "census/censuslaw29.VsearchChain", spec := "vsearchChain", inPlace := ["internal/abi.NoEscape"], unfollowed := true, recurses := true, named := ["internal/strconv.uint64pow10", "math/bits.deBruijn32tab", "math/bits.deBruijn64tab", "strconv.ErrSyntax", "strconv.ErrRange"], plainKeys := false, apart := false, laid := [("math/bits.deBruijn32tab", laid_math_bits_deBruijn32tab), ("math/bits.deBruijn64tab", laid_math_bits_deBruijn64tab), ("internal/strconv.uint64pow10", laid_internal_strconv_uint64pow10), ("strconv.ErrRange", laid_strconv_ErrRange), ("strconv.ErrSyntax", laid_strconv_ErrSyntax)] }
def VsearchChainSaid : Prop := vsearchChainRow.holds Tryz.pinned (OpenSpec.ofChange vsearchChainSpec)

/-- ITS FALSE NEIGHBOUR: 'it returns false'. Refute it at one input. -/
def vsearchChainWrong : ChangeSpec := { name := "vsearchChain", fn := fun _ => fun
  | [d1, d2] => { results := [.lit (.bool false)], args := [d1, d2] }
  | _ => none }
def VsearchChainWrongFalsely : Prop := vsearchChainRow.holds Tryz.pinned (OpenSpec.ofChange vsearchChainWrong)

/-- 'censuslaw29.VsearchKnown': WHATEVER THE INPUT: true; the input reads as it did. -/
def vsearchKnownSpec : ChangeSpec := { name := "vsearchKnown", fn := fun _ => fun
  | [] => { results := [.lit (.bool true)], args := [] }
  | _ => none }
def vsearchKnownRow : OpenClaim := { program := "ytemnmcfmabamcaagreatdoor", sum := "796756e6c8b10a8ebd61d20119c7605c223f56583226b5b9e4848e5ac2b61231", func := "census/censuslaw29.VsearchKnown", spec := "vsearchKnown", inPlace := ["internal/abi.NoEscape"], unfollowed := true, recurses := true, named := ["internal/strconv.uint64pow10", "math/bits.deBruijn32tab", "math/bits.deBruijn64tab", "strconv.ErrSyntax", "strconv.ErrRange"], plainKeys := false, apart := false, laid := [("math/bits.deBruijn32tab", laid_math_bits_deBruijn32tab), ("math/bits.deBruijn64tab", laid_math_bits_deBruijn64tab), ("internal/strconv.uint64pow10", laid_internal_strconv_uint64pow10), ("strconv.ErrRange", laid_strconv_ErrRange), ("strconv.ErrSyntax", laid_strconv_ErrSyntax)] }
def VsearchKnownSaid : Prop := vsearchKnownRow.holds Tryz.pinned (OpenSpec.ofChange vsearchKnownSpec)

/-- ITS FALSE NEIGHBOUR: 'it returns false'. Refute it at one input. -/
def vsearchKnownWrong : ChangeSpec := { name := "vsearchKnown", fn := fun _ => fun
  | [] => { results := [.lit (.bool false)], args := [] }
  | _ => none }
def VsearchKnownWrongFalsely : Prop := vsearchKnownRow.holds Tryz.pinned (OpenSpec.ofChange vsearchKnownWrong)

/-- 'censuslaw29.VsearchSame': WHATEVER THE INPUT: true; the input reads as it did. -/
def vsearchSameSpec : ChangeSpec := { name := "vsearchSame", fn := fun _ => fun
  | [d] => { results := [.lit (.bool true)], args := [d] }
  | _ => none }
def vsearchSameRow : OpenClaim := { program := "ytemnmcfmabamcaagreatdoor", sum := "796756e6c8b10a8ebd61d20119c7605c223f56583226b5b9e4848e5ac2b61231", func := "census/censuslaw29.VsearchSame", spec := "vsearchSame", inPlace := ["internal/abi.NoEscape"], unfollowed := true, recurses := true, named := ["internal/strconv.uint64pow10", "math/bits.deBruijn32tab", "math/bits.deBruijn64tab", "strconv.ErrSyntax", "strconv.ErrRange"], plainKeys := false, apart := false, laid := [("math/bits.deBruijn32tab", laid_math_bits_deBruijn32tab), ("math/bits.deBruijn64tab", laid_math_bits_deBruijn64tab), ("internal/strconv.uint64pow10", laid_internal_strconv_uint64pow10), ("strconv.ErrRange", laid_strconv_ErrRange), ("strconv.ErrSyntax", laid_strconv_ErrSyntax)] }
def VsearchSameSaid : Prop := vsearchSameRow.holds Tryz.pinned (OpenSpec.ofChange vsearchSameSpec)

/-- ITS FALSE NEIGHBOUR: 'it returns false'. Refute it at one input. -/
def vsearchSameWrong : ChangeSpec := { name := "vsearchSame", fn := fun _ => fun
  | [d] => { results := [.lit (.bool false)], args := [d] }
  | _ => none }
def VsearchSameWrongFalsely : Prop := vsearchSameRow.holds Tryz.pinned (OpenSpec.ofChange vsearchSameWrong)

/- THE SECOND FORM. 'bulk': how many values and letters a reading holds, each counted each time it is reached (what is shared counts as often as it is met; a slice's spare places count too). A statement '..UptoSaid' is the law's where the arguments, and the package variables that the reading takes, are together of bulk at most 1048576: NARROWER than '..Said'. Prove '..Said' where nothing that the law and all that it calls make is longer than what came in: it says more and counts as full. Else prove '..UptoSaid'. A law counts once. -/
mutual
def uptoBulk {H : Type} : DataW H → Nat
  | .lit (.string bytes) => bytes.length + 1
  | .lit _ => 1
  | .nil => 1
  | .ptr d => uptoBulk d + 1
  | .slice elems spare => uptoBulkAll elems + uptoBulkAll spare + 1
  | .agg parts => uptoBulkAll parts + 1
  | .iface _ d => uptoBulk d + 1
  | .map entries => uptoBulkEntries entries + 1
  | .held _ => 1
def uptoBulkAll {H : Type} : List (DataW H) → Nat
  | [] => 0
  | d :: r => uptoBulk d + uptoBulkAll r
def uptoBulkEntries {H : Type} : List (Lit × DataW H) → Nat
  | [] => 0
  | x :: r => uptoBulkEntry x + uptoBulkEntries r
def uptoBulkEntry {H : Type} : Lit × DataW H → Nat
  | (.string bytes, d) => bytes.length + uptoBulk d + 1
  | (_, d) => uptoBulk d + 1
 end
def uptoSmall : (H : Type) → List (DataW H) → Bool := fun _ ds => decide (uptoBulkAll ds ≤ 1048576)
def OpenSpec.upto (s : _root_.Go.ChangeSpec) : _root_.Go.OpenSpec := { _root_.Go.OpenSpec.ofChange s with cond := some uptoSmall }

/-- 'censuslaw29.VsearchEnds', WHERE WHAT IT READS IS OF BULK AT MOST 1048576: true; the input reads as it did. -/
def vsearchEndsUptoRow : OpenClaim := { program := "ytemnmcfmabamcaagreatdoor", sum := "796756e6c8b10a8ebd61d20119c7605c223f56583226b5b9e4848e5ac2b61231", func := "census/censuslaw29.VsearchEnds", spec := "vsearchEnds", inPlace := ["internal/abi.NoEscape"], unfollowed := true, recurses := true, named := ["internal/strconv.uint64pow10", "math/bits.deBruijn32tab", "math/bits.deBruijn64tab", "strconv.ErrSyntax", "strconv.ErrRange"], plainKeys := false, apart := false, laid := [("math/bits.deBruijn32tab", laid_math_bits_deBruijn32tab), ("math/bits.deBruijn64tab", laid_math_bits_deBruijn64tab), ("internal/strconv.uint64pow10", laid_internal_strconv_uint64pow10), ("strconv.ErrRange", laid_strconv_ErrRange), ("strconv.ErrSyntax", laid_strconv_ErrSyntax)], narrowed := true }
def VsearchEndsUptoSaid : Prop := vsearchEndsUptoRow.holds Tryz.pinned (OpenSpec.upto vsearchEndsSpec)

/-- 'censuslaw29.VsearchMoves', WHERE WHAT IT READS IS OF BULK AT MOST 1048576: true; the input reads as it did. -/
def vsearchMovesUptoRow : OpenClaim := { program := "ytemnmcfmabamcaagreatdoor", sum := "796756e6c8b10a8ebd61d20119c7605c223f56583226b5b9e4848e5ac2b61231", func := "census/censuslaw29.VsearchMoves", spec := "vsearchMoves", inPlace := ["internal/abi.NoEscape"], unfollowed := true, recurses := true, named := ["internal/strconv.uint64pow10", "math/bits.deBruijn32tab", "math/bits.deBruijn64tab", "strconv.ErrSyntax", "strconv.ErrRange"], plainKeys := false, apart := false, laid := [("math/bits.deBruijn32tab", laid_math_bits_deBruijn32tab), ("math/bits.deBruijn64tab", laid_math_bits_deBruijn64tab), ("internal/strconv.uint64pow10", laid_internal_strconv_uint64pow10), ("strconv.ErrRange", laid_strconv_ErrRange), ("strconv.ErrSyntax", laid_strconv_ErrSyntax)], narrowed := true }
def VsearchMovesUptoSaid : Prop := vsearchMovesUptoRow.holds Tryz.pinned (OpenSpec.upto vsearchMovesSpec)

/-- 'censuslaw29.VsearchLeast', WHERE WHAT IT READS IS OF BULK AT MOST 1048576: true; the input reads as it did. -/
def vsearchLeastUptoRow : OpenClaim := { program := "ytemnmcfmabamcaagreatdoor", sum := "796756e6c8b10a8ebd61d20119c7605c223f56583226b5b9e4848e5ac2b61231", func := "census/censuslaw29.VsearchLeast", spec := "vsearchLeast", inPlace := ["internal/abi.NoEscape"], unfollowed := true, recurses := true, named := ["internal/strconv.uint64pow10", "math/bits.deBruijn32tab", "math/bits.deBruijn64tab", "strconv.ErrSyntax", "strconv.ErrRange"], plainKeys := false, apart := false, laid := [("math/bits.deBruijn32tab", laid_math_bits_deBruijn32tab), ("math/bits.deBruijn64tab", laid_math_bits_deBruijn64tab), ("internal/strconv.uint64pow10", laid_internal_strconv_uint64pow10), ("strconv.ErrRange", laid_strconv_ErrRange), ("strconv.ErrSyntax", laid_strconv_ErrSyntax)], narrowed := true }
def VsearchLeastUptoSaid : Prop := vsearchLeastUptoRow.holds Tryz.pinned (OpenSpec.upto vsearchLeastSpec)

/-- 'censuslaw29.VsearchMore', WHERE WHAT IT READS IS OF BULK AT MOST 1048576: true; the input reads as it did. -/
def vsearchMoreUptoRow : OpenClaim := { program := "ytemnmcfmabamcaagreatdoor", sum := "796756e6c8b10a8ebd61d20119c7605c223f56583226b5b9e4848e5ac2b61231", func := "census/censuslaw29.VsearchMore", spec := "vsearchMore", inPlace := ["internal/abi.NoEscape"], unfollowed := true, recurses := true, named := ["internal/strconv.uint64pow10", "math/bits.deBruijn32tab", "math/bits.deBruijn64tab", "strconv.ErrSyntax", "strconv.ErrRange"], plainKeys := false, apart := false, laid := [("math/bits.deBruijn32tab", laid_math_bits_deBruijn32tab), ("math/bits.deBruijn64tab", laid_math_bits_deBruijn64tab), ("internal/strconv.uint64pow10", laid_internal_strconv_uint64pow10), ("strconv.ErrRange", laid_strconv_ErrRange), ("strconv.ErrSyntax", laid_strconv_ErrSyntax)], narrowed := true }
def VsearchMoreUptoSaid : Prop := vsearchMoreUptoRow.holds Tryz.pinned (OpenSpec.upto vsearchMoreSpec)

/-- 'censuslaw29.VsearchNone', WHERE WHAT IT READS IS OF BULK AT MOST 1048576: true; the input reads as it did. -/
def vsearchNoneUptoRow : OpenClaim := { program := "ytemnmcfmabamcaagreatdoor", sum := "796756e6c8b10a8ebd61d20119c7605c223f56583226b5b9e4848e5ac2b61231", func := "census/censuslaw29.VsearchNone", spec := "vsearchNone", inPlace := ["internal/abi.NoEscape"], unfollowed := true, recurses := true, named := ["internal/strconv.uint64pow10", "math/bits.deBruijn32tab", "math/bits.deBruijn64tab", "strconv.ErrSyntax", "strconv.ErrRange"], plainKeys := false, apart := false, laid := [("math/bits.deBruijn32tab", laid_math_bits_deBruijn32tab), ("math/bits.deBruijn64tab", laid_math_bits_deBruijn64tab), ("internal/strconv.uint64pow10", laid_internal_strconv_uint64pow10), ("strconv.ErrRange", laid_strconv_ErrRange), ("strconv.ErrSyntax", laid_strconv_ErrSyntax)], narrowed := true }
def VsearchNoneUptoSaid : Prop := vsearchNoneUptoRow.holds Tryz.pinned (OpenSpec.upto vsearchNoneSpec)

/-- 'censuslaw29.VsearchChain', WHERE WHAT IT READS IS OF BULK AT MOST 1048576: true; the input reads as it did. -/
def vsearchChainUptoRow : OpenClaim := { program := "ytemnmcfmabamcaagreatdoor", sum := "796756e6c8b10a8ebd61d20119c7605c223f56583226b5b9e4848e5ac2b61231", func := "census/censuslaw29.VsearchChain", spec := "vsearchChain", inPlace := ["internal/abi.NoEscape"], unfollowed := true, recurses := true, named := ["internal/strconv.uint64pow10", "math/bits.deBruijn32tab", "math/bits.deBruijn64tab", "strconv.ErrSyntax", "strconv.ErrRange"], plainKeys := false, apart := false, laid := [("math/bits.deBruijn32tab", laid_math_bits_deBruijn32tab), ("math/bits.deBruijn64tab", laid_math_bits_deBruijn64tab), ("internal/strconv.uint64pow10", laid_internal_strconv_uint64pow10), ("strconv.ErrRange", laid_strconv_ErrRange), ("strconv.ErrSyntax", laid_strconv_ErrSyntax)], narrowed := true }
def VsearchChainUptoSaid : Prop := vsearchChainUptoRow.holds Tryz.pinned (OpenSpec.upto vsearchChainSpec)

/-- 'censuslaw29.VsearchKnown', WHERE WHAT IT READS IS OF BULK AT MOST 1048576: true; the input reads as it did. -/
def vsearchKnownUptoRow : OpenClaim := { program := "ytemnmcfmabamcaagreatdoor", sum := "796756e6c8b10a8ebd61d20119c7605c223f56583226b5b9e4848e5ac2b61231", func := "census/censuslaw29.VsearchKnown", spec := "vsearchKnown", inPlace := ["internal/abi.NoEscape"], unfollowed := true, recurses := true, named := ["internal/strconv.uint64pow10", "math/bits.deBruijn32tab", "math/bits.deBruijn64tab", "strconv.ErrSyntax", "strconv.ErrRange"], plainKeys := false, apart := false, laid := [("math/bits.deBruijn32tab", laid_math_bits_deBruijn32tab), ("math/bits.deBruijn64tab", laid_math_bits_deBruijn64tab), ("internal/strconv.uint64pow10", laid_internal_strconv_uint64pow10), ("strconv.ErrRange", laid_strconv_ErrRange), ("strconv.ErrSyntax", laid_strconv_ErrSyntax)], narrowed := true }
def VsearchKnownUptoSaid : Prop := vsearchKnownUptoRow.holds Tryz.pinned (OpenSpec.upto vsearchKnownSpec)

/-- 'censuslaw29.VsearchSame', WHERE WHAT IT READS IS OF BULK AT MOST 1048576: true; the input reads as it did. -/
def vsearchSameUptoRow : OpenClaim := { program := "ytemnmcfmabamcaagreatdoor", sum := "796756e6c8b10a8ebd61d20119c7605c223f56583226b5b9e4848e5ac2b61231", func := "census/censuslaw29.VsearchSame", spec := "vsearchSame", inPlace := ["internal/abi.NoEscape"], unfollowed := true, recurses := true, named := ["internal/strconv.uint64pow10", "math/bits.deBruijn32tab", "math/bits.deBruijn64tab", "strconv.ErrSyntax", "strconv.ErrRange"], plainKeys := false, apart := false, laid := [("math/bits.deBruijn32tab", laid_math_bits_deBruijn32tab), ("math/bits.deBruijn64tab", laid_math_bits_deBruijn64tab), ("internal/strconv.uint64pow10", laid_internal_strconv_uint64pow10), ("strconv.ErrRange", laid_strconv_ErrRange), ("strconv.ErrSyntax", laid_strconv_ErrSyntax)], narrowed := true }
def VsearchSameUptoSaid : Prop := vsearchSameUptoRow.holds Tryz.pinned (OpenSpec.upto vsearchSameSpec)

end Rows
end Go.Proofs.YtemnmcfmabamcaaGreatDoor
