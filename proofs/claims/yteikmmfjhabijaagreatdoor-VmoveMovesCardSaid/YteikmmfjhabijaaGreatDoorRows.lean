/-
  NARROWER THAN 'FOR EVERY INPUT', by the rows' own cells (each row's printed sentence says how): SddEvals: laid · SddKeeps: laid · SddRuns: laid · SddErrors: laid · VmoveMoves: laid · VmoveCopies: laid · VmoveBack: laid · VmoveThrough: laid · VmoveKeeps: laid · VmoveEvals: laid · VmoveErrors: laid · VmoveKnown: laid.
  DERIVED. THE GIVEN ROWS OF THIS SEAT. 12 by the template 'for every input the law returns true; each argument reads behind the call as it read before'; 0 by the template 'total and deterministic' (their statements: YteikmmfjhabijaaGreatDoorTotals.lean).
  GIVEN WITH THE SEED: the statements are not yours to turn. If you find one false, say at which input.
  Laid BY PROGRAM, IN A SANDBOX (cutbox-rows.mjs): the forced cells as the released guide's own fill.sh prints them over the translation 78f19011629de421… (all of the seat's roots in one cut). By AI agents, Wed Nov 11 2026. No macro, syntax, notation, axiom, sorry.
-/
import Derived.Test.YteikmmfjhabijaaGreatDoorChecked
import GoSem.Claim
import GoSem.ClaimJoined
import GoSem.ClaimMapViews
import Derived.JoinedTies
import Derived.KernelRfl
namespace Go.Proofs.YteikmmfjhabijaaGreatDoor
/- THE CELL 'sum', in the pinned program and in every row, IS THE sha256 OF THE DUMP (.gsa) THAT YteikmmfjhabijaaGreatDoorProg.lean LOADS. Nothing in Lean hashes anything: it is a label: what it is worth is what the hold of that sum in a sandbox is worth. -/
noncomputable def Tryz.pinned : Pinned := { name := "yteikmmfjhabijaagreatdoor", sum := "78f19011629de4219490e142d76788f8103f7570d9bfd51a14b7334b04c5d5b2", checked := Tryz.checked }
namespace Rows
def none {H : Type} : Left H := { results := [], args := [] }

/- WHAT THE LISTED PACKAGE-LEVEL VARIABLES READ AS WHEN THE CALL BEGINS. Each datum BY PROGRAM (the guide's laid-datum.mjs) off the statement by which the dump's own 'gosem.cut.vars' lays the variable. In a bare row this is a premise. The card (YteikmmfjhabijaaGreatDoorCards.lean) ties it to the program's text. -/
def laid_math_bits_deBruijn32tab {H : Type} : DataW H := .agg [.lit (.int .u8 0), .lit (.int .u8 1), .lit (.int .u8 28), .lit (.int .u8 2), .lit (.int .u8 29), .lit (.int .u8 14), .lit (.int .u8 24), .lit (.int .u8 3), .lit (.int .u8 30), .lit (.int .u8 22), .lit (.int .u8 20), .lit (.int .u8 15), .lit (.int .u8 25), .lit (.int .u8 17), .lit (.int .u8 4), .lit (.int .u8 8), .lit (.int .u8 31), .lit (.int .u8 27), .lit (.int .u8 13), .lit (.int .u8 23), .lit (.int .u8 21), .lit (.int .u8 19), .lit (.int .u8 16), .lit (.int .u8 7), .lit (.int .u8 26), .lit (.int .u8 12), .lit (.int .u8 18), .lit (.int .u8 6), .lit (.int .u8 11), .lit (.int .u8 5), .lit (.int .u8 10), .lit (.int .u8 9)]
def laid_math_bits_deBruijn64tab {H : Type} : DataW H := .agg [.lit (.int .u8 0), .lit (.int .u8 1), .lit (.int .u8 56), .lit (.int .u8 2), .lit (.int .u8 57), .lit (.int .u8 49), .lit (.int .u8 28), .lit (.int .u8 3), .lit (.int .u8 61), .lit (.int .u8 58), .lit (.int .u8 42), .lit (.int .u8 50), .lit (.int .u8 38), .lit (.int .u8 29), .lit (.int .u8 17), .lit (.int .u8 4), .lit (.int .u8 62), .lit (.int .u8 47), .lit (.int .u8 59), .lit (.int .u8 36), .lit (.int .u8 45), .lit (.int .u8 43), .lit (.int .u8 51), .lit (.int .u8 22), .lit (.int .u8 53), .lit (.int .u8 39), .lit (.int .u8 33), .lit (.int .u8 30), .lit (.int .u8 24), .lit (.int .u8 18), .lit (.int .u8 12), .lit (.int .u8 5), .lit (.int .u8 63), .lit (.int .u8 55), .lit (.int .u8 48), .lit (.int .u8 27), .lit (.int .u8 60), .lit (.int .u8 41), .lit (.int .u8 37), .lit (.int .u8 16), .lit (.int .u8 46), .lit (.int .u8 35), .lit (.int .u8 44), .lit (.int .u8 21), .lit (.int .u8 52), .lit (.int .u8 32), .lit (.int .u8 23), .lit (.int .u8 11), .lit (.int .u8 54), .lit (.int .u8 26), .lit (.int .u8 40), .lit (.int .u8 15), .lit (.int .u8 34), .lit (.int .u8 20), .lit (.int .u8 31), .lit (.int .u8 10), .lit (.int .u8 25), .lit (.int .u8 14), .lit (.int .u8 19), .lit (.int .u8 9), .lit (.int .u8 13), .lit (.int .u8 8), .lit (.int .u8 7), .lit (.int .u8 6)]
def laid_internal_strconv_uint64pow10 {H : Type} : DataW H := .agg [.lit (.int .u64 1), .lit (.int .u64 10), .lit (.int .u64 100), .lit (.int .u64 1000), .lit (.int .u64 10000), .lit (.int .u64 100000), .lit (.int .u64 1000000), .lit (.int .u64 10000000), .lit (.int .u64 100000000), .lit (.int .u64 1000000000), .lit (.int .u64 10000000000), .lit (.int .u64 100000000000), .lit (.int .u64 1000000000000), .lit (.int .u64 10000000000000), .lit (.int .u64 100000000000000), .lit (.int .u64 1000000000000000), .lit (.int .u64 10000000000000000), .lit (.int .u64 100000000000000000), .lit (.int .u64 1000000000000000000), .lit (.int .u64 10000000000000000000)]
def laid_strconv_ErrRange {H : Type} : DataW H := .iface "*errors.errorString" (.ptr (.agg [.lit (.string [118, 97, 108, 117, 101, 32, 111, 117, 116, 32, 111, 102, 32, 114, 97, 110, 103, 101])]))
def laid_strconv_ErrSyntax {H : Type} : DataW H := .iface "*errors.errorString" (.ptr (.agg [.lit (.string [105, 110, 118, 97, 108, 105, 100, 32, 115, 121, 110, 116, 97, 120])]))

/-- 'censuslaw26.SddEvals': WHATEVER THE INPUT: true; the input reads as it did. -/
def sddEvalsSpec : ChangeSpec := { name := "sddEvals", fn := fun _ => fun
  | [d1, d2] => { results := [.lit (.bool true)], args := [d1, d2] }
  | _ => none }
def sddEvalsRow : OpenClaim := { program := "yteikmmfjhabijaagreatdoor", sum := "78f19011629de4219490e142d76788f8103f7570d9bfd51a14b7334b04c5d5b2", func := "census/censuslaw26.SddEvals", spec := "sddEvals", unfollowed := true, recurses := true, named := ["internal/strconv.uint64pow10", "math/bits.deBruijn32tab", "math/bits.deBruijn64tab"], plainKeys := false, apart := false, laid := [("math/bits.deBruijn32tab", laid_math_bits_deBruijn32tab), ("math/bits.deBruijn64tab", laid_math_bits_deBruijn64tab), ("internal/strconv.uint64pow10", laid_internal_strconv_uint64pow10)] }
def SddEvalsSaid : Prop := sddEvalsRow.holds Tryz.pinned (OpenSpec.ofChange sddEvalsSpec)

/-- ITS FALSE NEIGHBOUR: 'it returns false'. Refute it at one input. -/
def sddEvalsWrong : ChangeSpec := { name := "sddEvals", fn := fun _ => fun
  | [d1, d2] => { results := [.lit (.bool false)], args := [d1, d2] }
  | _ => none }
def SddEvalsWrongFalsely : Prop := sddEvalsRow.holds Tryz.pinned (OpenSpec.ofChange sddEvalsWrong)

/-- 'censuslaw26.SddKeeps': WHATEVER THE INPUT: true; the input reads as it did. -/
def sddKeepsSpec : ChangeSpec := { name := "sddKeeps", fn := fun _ => fun
  | [d1, d2, d3] => { results := [.lit (.bool true)], args := [d1, d2, d3] }
  | _ => none }
def sddKeepsRow : OpenClaim := { program := "yteikmmfjhabijaagreatdoor", sum := "78f19011629de4219490e142d76788f8103f7570d9bfd51a14b7334b04c5d5b2", func := "census/censuslaw26.SddKeeps", spec := "sddKeeps", unfollowed := true, recurses := true, named := ["internal/strconv.uint64pow10", "math/bits.deBruijn32tab", "math/bits.deBruijn64tab"], plainKeys := false, apart := false, laid := [("math/bits.deBruijn32tab", laid_math_bits_deBruijn32tab), ("math/bits.deBruijn64tab", laid_math_bits_deBruijn64tab), ("internal/strconv.uint64pow10", laid_internal_strconv_uint64pow10)] }
def SddKeepsSaid : Prop := sddKeepsRow.holds Tryz.pinned (OpenSpec.ofChange sddKeepsSpec)

/-- ITS FALSE NEIGHBOUR: 'it returns false'. Refute it at one input. -/
def sddKeepsWrong : ChangeSpec := { name := "sddKeeps", fn := fun _ => fun
  | [d1, d2, d3] => { results := [.lit (.bool false)], args := [d1, d2, d3] }
  | _ => none }
def SddKeepsWrongFalsely : Prop := sddKeepsRow.holds Tryz.pinned (OpenSpec.ofChange sddKeepsWrong)

/-- 'censuslaw26.SddRuns': WHATEVER THE INPUT: true; the input reads as it did. -/
def sddRunsSpec : ChangeSpec := { name := "sddRuns", fn := fun _ => fun
  | [d] => { results := [.lit (.bool true)], args := [d] }
  | _ => none }
def sddRunsRow : OpenClaim := { program := "yteikmmfjhabijaagreatdoor", sum := "78f19011629de4219490e142d76788f8103f7570d9bfd51a14b7334b04c5d5b2", func := "census/censuslaw26.SddRuns", spec := "sddRuns", unfollowed := true, recurses := true, named := ["internal/strconv.uint64pow10", "math/bits.deBruijn32tab", "math/bits.deBruijn64tab"], plainKeys := false, apart := false, laid := [("math/bits.deBruijn32tab", laid_math_bits_deBruijn32tab), ("math/bits.deBruijn64tab", laid_math_bits_deBruijn64tab), ("internal/strconv.uint64pow10", laid_internal_strconv_uint64pow10)] }
def SddRunsSaid : Prop := sddRunsRow.holds Tryz.pinned (OpenSpec.ofChange sddRunsSpec)

/-- ITS FALSE NEIGHBOUR: 'it returns false'. Refute it at one input. -/
def sddRunsWrong : ChangeSpec := { name := "sddRuns", fn := fun _ => fun
  | [d] => { results := [.lit (.bool false)], args := [d] }
  | _ => none }
def SddRunsWrongFalsely : Prop := sddRunsRow.holds Tryz.pinned (OpenSpec.ofChange sddRunsWrong)

/-- 'censuslaw26.SddErrors': WHATEVER THE INPUT: true; the input reads as it did. -/
def sddErrorsSpec : ChangeSpec := { name := "sddErrors", fn := fun _ => fun
  | [d1, d2, d3, d4] => { results := [.lit (.bool true)], args := [d1, d2, d3, d4] }
  | _ => none }
def sddErrorsRow : OpenClaim := { program := "yteikmmfjhabijaagreatdoor", sum := "78f19011629de4219490e142d76788f8103f7570d9bfd51a14b7334b04c5d5b2", func := "census/censuslaw26.SddErrors", spec := "sddErrors", unfollowed := true, recurses := true, named := ["internal/strconv.uint64pow10", "math/bits.deBruijn32tab", "math/bits.deBruijn64tab"], plainKeys := false, apart := false, laid := [("math/bits.deBruijn32tab", laid_math_bits_deBruijn32tab), ("math/bits.deBruijn64tab", laid_math_bits_deBruijn64tab), ("internal/strconv.uint64pow10", laid_internal_strconv_uint64pow10)] }
def SddErrorsSaid : Prop := sddErrorsRow.holds Tryz.pinned (OpenSpec.ofChange sddErrorsSpec)

/-- ITS FALSE NEIGHBOUR: 'it returns false'. Refute it at one input. -/
def sddErrorsWrong : ChangeSpec := { name := "sddErrors", fn := fun _ => fun
  | [d1, d2, d3, d4] => { results := [.lit (.bool false)], args := [d1, d2, d3, d4] }
  | _ => none }
def SddErrorsWrongFalsely : Prop := sddErrorsRow.holds Tryz.pinned (OpenSpec.ofChange sddErrorsWrong)

/-- 'censuslaw28.VmoveMoves': WHATEVER THE INPUT: true; the input reads as it did. -/
def vmoveMovesSpec : ChangeSpec := { name := "vmoveMoves", fn := fun _ => fun
  | [d1, d2, d3, d4] => { results := [.lit (.bool true)], args := [d1, d2, d3, d4] }
  | _ => none }
def vmoveMovesRow : OpenClaim := { program := "yteikmmfjhabijaagreatdoor", sum := "78f19011629de4219490e142d76788f8103f7570d9bfd51a14b7334b04c5d5b2", func := "census/censuslaw28.VmoveMoves", spec := "vmoveMoves", unfollowed := true, recurses := true, named := ["internal/strconv.uint64pow10", "math/bits.deBruijn32tab", "math/bits.deBruijn64tab", "strconv.ErrSyntax", "strconv.ErrRange"], plainKeys := false, apart := false, laid := [("math/bits.deBruijn32tab", laid_math_bits_deBruijn32tab), ("math/bits.deBruijn64tab", laid_math_bits_deBruijn64tab), ("internal/strconv.uint64pow10", laid_internal_strconv_uint64pow10), ("strconv.ErrRange", laid_strconv_ErrRange), ("strconv.ErrSyntax", laid_strconv_ErrSyntax)] }
def VmoveMovesSaid : Prop := vmoveMovesRow.holds Tryz.pinned (OpenSpec.ofChange vmoveMovesSpec)

/-- ITS FALSE NEIGHBOUR: 'it returns false'. Refute it at one input. -/
def vmoveMovesWrong : ChangeSpec := { name := "vmoveMoves", fn := fun _ => fun
  | [d1, d2, d3, d4] => { results := [.lit (.bool false)], args := [d1, d2, d3, d4] }
  | _ => none }
def VmoveMovesWrongFalsely : Prop := vmoveMovesRow.holds Tryz.pinned (OpenSpec.ofChange vmoveMovesWrong)

/-- 'censuslaw28.VmoveCopies': WHATEVER THE INPUT: true; the input reads as it did. -/
def vmoveCopiesSpec : ChangeSpec := { name := "vmoveCopies", fn := fun _ => fun
  | [d1, d2, d3] => { results := [.lit (.bool true)], args := [d1, d2, d3] }
  | _ => none }
def vmoveCopiesRow : OpenClaim := { program := "yteikmmfjhabijaagreatdoor", sum := "78f19011629de4219490e142d76788f8103f7570d9bfd51a14b7334b04c5d5b2", func := "census/censuslaw28.VmoveCopies", spec := "vmoveCopies", unfollowed := true, recurses := true, named := ["internal/strconv.uint64pow10", "math/bits.deBruijn32tab", "math/bits.deBruijn64tab", "strconv.ErrSyntax", "strconv.ErrRange"], plainKeys := false, apart := false, laid := [("math/bits.deBruijn32tab", laid_math_bits_deBruijn32tab), ("math/bits.deBruijn64tab", laid_math_bits_deBruijn64tab), ("internal/strconv.uint64pow10", laid_internal_strconv_uint64pow10), ("strconv.ErrRange", laid_strconv_ErrRange), ("strconv.ErrSyntax", laid_strconv_ErrSyntax)] }
def VmoveCopiesSaid : Prop := vmoveCopiesRow.holds Tryz.pinned (OpenSpec.ofChange vmoveCopiesSpec)

/-- ITS FALSE NEIGHBOUR: 'it returns false'. Refute it at one input. -/
def vmoveCopiesWrong : ChangeSpec := { name := "vmoveCopies", fn := fun _ => fun
  | [d1, d2, d3] => { results := [.lit (.bool false)], args := [d1, d2, d3] }
  | _ => none }
def VmoveCopiesWrongFalsely : Prop := vmoveCopiesRow.holds Tryz.pinned (OpenSpec.ofChange vmoveCopiesWrong)

/-- 'censuslaw28.VmoveBack': WHATEVER THE INPUT: true; the input reads as it did. -/
def vmoveBackSpec : ChangeSpec := { name := "vmoveBack", fn := fun _ => fun
  | [d1, d2, d3, d4] => { results := [.lit (.bool true)], args := [d1, d2, d3, d4] }
  | _ => none }
def vmoveBackRow : OpenClaim := { program := "yteikmmfjhabijaagreatdoor", sum := "78f19011629de4219490e142d76788f8103f7570d9bfd51a14b7334b04c5d5b2", func := "census/censuslaw28.VmoveBack", spec := "vmoveBack", unfollowed := true, recurses := true, named := ["internal/strconv.uint64pow10", "math/bits.deBruijn32tab", "math/bits.deBruijn64tab", "strconv.ErrSyntax", "strconv.ErrRange"], plainKeys := false, apart := false, laid := [("math/bits.deBruijn32tab", laid_math_bits_deBruijn32tab), ("math/bits.deBruijn64tab", laid_math_bits_deBruijn64tab), ("internal/strconv.uint64pow10", laid_internal_strconv_uint64pow10), ("strconv.ErrRange", laid_strconv_ErrRange), ("strconv.ErrSyntax", laid_strconv_ErrSyntax)] }
def VmoveBackSaid : Prop := vmoveBackRow.holds Tryz.pinned (OpenSpec.ofChange vmoveBackSpec)

/-- ITS FALSE NEIGHBOUR: 'it returns false'. Refute it at one input. -/
def vmoveBackWrong : ChangeSpec := { name := "vmoveBack", fn := fun _ => fun
  | [d1, d2, d3, d4] => { results := [.lit (.bool false)], args := [d1, d2, d3, d4] }
  | _ => none }
def VmoveBackWrongFalsely : Prop := vmoveBackRow.holds Tryz.pinned (OpenSpec.ofChange vmoveBackWrong)

/-- 'censuslaw28.VmoveThrough': WHATEVER THE INPUT: true; the input reads as it did. -/
def vmoveThroughSpec : ChangeSpec := { name := "vmoveThrough", fn := fun _ => fun
  | [d1, d2, d3, d4] => { results := [.lit (.bool true)], args := [d1, d2, d3, d4] }
  | _ => none }
def vmoveThroughRow : OpenClaim := { program := "yteikmmfjhabijaagreatdoor", sum := "78f19011629de4219490e142d76788f8103f7570d9bfd51a14b7334b04c5d5b2", func := "census/censuslaw28.VmoveThrough", spec := "vmoveThrough", unfollowed := true, recurses := true, named := ["internal/strconv.uint64pow10", "math/bits.deBruijn32tab", "math/bits.deBruijn64tab", "strconv.ErrSyntax", "strconv.ErrRange"], plainKeys := false, apart := false, laid := [("math/bits.deBruijn32tab", laid_math_bits_deBruijn32tab), ("math/bits.deBruijn64tab", laid_math_bits_deBruijn64tab), ("internal/strconv.uint64pow10", laid_internal_strconv_uint64pow10), ("strconv.ErrRange", laid_strconv_ErrRange), ("strconv.ErrSyntax", laid_strconv_ErrSyntax)] }
def VmoveThroughSaid : Prop := vmoveThroughRow.holds Tryz.pinned (OpenSpec.ofChange vmoveThroughSpec)

/-- ITS FALSE NEIGHBOUR: 'it returns false'. Refute it at one input. -/
def vmoveThroughWrong : ChangeSpec := { name := "vmoveThrough", fn := fun _ => fun
  | [d1, d2, d3, d4] => { results := [.lit (.bool false)], args := [d1, d2, d3, d4] }
  | _ => none }
def VmoveThroughWrongFalsely : Prop := vmoveThroughRow.holds Tryz.pinned (OpenSpec.ofChange vmoveThroughWrong)

/-- 'censuslaw28.VmoveKeeps': WHATEVER THE INPUT: true; the input reads as it did. -/
def vmoveKeepsSpec : ChangeSpec := { name := "vmoveKeeps", fn := fun _ => fun
  | [d1, d2, d3, d4, d5] => { results := [.lit (.bool true)], args := [d1, d2, d3, d4, d5] }
  | _ => none }
def vmoveKeepsRow : OpenClaim := { program := "yteikmmfjhabijaagreatdoor", sum := "78f19011629de4219490e142d76788f8103f7570d9bfd51a14b7334b04c5d5b2", func := "census/censuslaw28.VmoveKeeps", spec := "vmoveKeeps", unfollowed := true, recurses := true, named := ["internal/strconv.uint64pow10", "math/bits.deBruijn32tab", "math/bits.deBruijn64tab", "strconv.ErrSyntax", "strconv.ErrRange"], plainKeys := false, apart := false, laid := [("math/bits.deBruijn32tab", laid_math_bits_deBruijn32tab), ("math/bits.deBruijn64tab", laid_math_bits_deBruijn64tab), ("internal/strconv.uint64pow10", laid_internal_strconv_uint64pow10), ("strconv.ErrRange", laid_strconv_ErrRange), ("strconv.ErrSyntax", laid_strconv_ErrSyntax)] }
def VmoveKeepsSaid : Prop := vmoveKeepsRow.holds Tryz.pinned (OpenSpec.ofChange vmoveKeepsSpec)

/-- ITS FALSE NEIGHBOUR: 'it returns false'. Refute it at one input. -/
def vmoveKeepsWrong : ChangeSpec := { name := "vmoveKeeps", fn := fun _ => fun
  | [d1, d2, d3, d4, d5] => { results := [.lit (.bool false)], args := [d1, d2, d3, d4, d5] }
  | _ => none }
def VmoveKeepsWrongFalsely : Prop := vmoveKeepsRow.holds Tryz.pinned (OpenSpec.ofChange vmoveKeepsWrong)

/-- 'censuslaw28.VmoveEvals': WHATEVER THE INPUT: true; the input reads as it did. -/
def vmoveEvalsSpec : ChangeSpec := { name := "vmoveEvals", fn := fun _ => fun
  | [d1, d2, d3, d4] => { results := [.lit (.bool true)], args := [d1, d2, d3, d4] }
  | _ => none }
def vmoveEvalsRow : OpenClaim := { program := "yteikmmfjhabijaagreatdoor", sum := "78f19011629de4219490e142d76788f8103f7570d9bfd51a14b7334b04c5d5b2", func := "census/censuslaw28.VmoveEvals", spec := "vmoveEvals", unfollowed := true, recurses := true, named := ["internal/strconv.uint64pow10", "math/bits.deBruijn32tab", "math/bits.deBruijn64tab", "strconv.ErrSyntax", "strconv.ErrRange"], plainKeys := false, apart := false, laid := [("math/bits.deBruijn32tab", laid_math_bits_deBruijn32tab), ("math/bits.deBruijn64tab", laid_math_bits_deBruijn64tab), ("internal/strconv.uint64pow10", laid_internal_strconv_uint64pow10), ("strconv.ErrRange", laid_strconv_ErrRange), ("strconv.ErrSyntax", laid_strconv_ErrSyntax)] }
def VmoveEvalsSaid : Prop := vmoveEvalsRow.holds Tryz.pinned (OpenSpec.ofChange vmoveEvalsSpec)

/-- ITS FALSE NEIGHBOUR: 'it returns false'. Refute it at one input. -/
def vmoveEvalsWrong : ChangeSpec := { name := "vmoveEvals", fn := fun _ => fun
  | [d1, d2, d3, d4] => { results := [.lit (.bool false)], args := [d1, d2, d3, d4] }
  | _ => none }
def VmoveEvalsWrongFalsely : Prop := vmoveEvalsRow.holds Tryz.pinned (OpenSpec.ofChange vmoveEvalsWrong)

/-- 'censuslaw28.VmoveErrors': WHATEVER THE INPUT: true; the input reads as it did. -/
def vmoveErrorsSpec : ChangeSpec := { name := "vmoveErrors", fn := fun _ => fun
  | [d1, d2, d3, d4] => { results := [.lit (.bool true)], args := [d1, d2, d3, d4] }
  | _ => none }
def vmoveErrorsRow : OpenClaim := { program := "yteikmmfjhabijaagreatdoor", sum := "78f19011629de4219490e142d76788f8103f7570d9bfd51a14b7334b04c5d5b2", func := "census/censuslaw28.VmoveErrors", spec := "vmoveErrors", unfollowed := true, recurses := true, named := ["internal/strconv.uint64pow10", "math/bits.deBruijn32tab", "math/bits.deBruijn64tab", "strconv.ErrSyntax", "strconv.ErrRange"], plainKeys := false, apart := false, laid := [("math/bits.deBruijn32tab", laid_math_bits_deBruijn32tab), ("math/bits.deBruijn64tab", laid_math_bits_deBruijn64tab), ("internal/strconv.uint64pow10", laid_internal_strconv_uint64pow10), ("strconv.ErrRange", laid_strconv_ErrRange), ("strconv.ErrSyntax", laid_strconv_ErrSyntax)] }
def VmoveErrorsSaid : Prop := vmoveErrorsRow.holds Tryz.pinned (OpenSpec.ofChange vmoveErrorsSpec)

/-- ITS FALSE NEIGHBOUR: 'it returns false'. Refute it at one input. -/
def vmoveErrorsWrong : ChangeSpec := { name := "vmoveErrors", fn := fun _ => fun
  | [d1, d2, d3, d4] => { results := [.lit (.bool false)], args := [d1, d2, d3, d4] }
  | _ => none }
def VmoveErrorsWrongFalsely : Prop := vmoveErrorsRow.holds Tryz.pinned (OpenSpec.ofChange vmoveErrorsWrong)

/-- 'censuslaw28.VmoveKnown': WHATEVER THE INPUT: true; the input reads as it did. -/
def vmoveKnownSpec : ChangeSpec := { name := "vmoveKnown", fn := fun _ => fun
  | [] => { results := [.lit (.bool true)], args := [] }
  | _ => none }
def vmoveKnownRow : OpenClaim := { program := "yteikmmfjhabijaagreatdoor", sum := "78f19011629de4219490e142d76788f8103f7570d9bfd51a14b7334b04c5d5b2", func := "census/censuslaw28.VmoveKnown", spec := "vmoveKnown", unfollowed := true, recurses := true, named := ["internal/strconv.uint64pow10", "math/bits.deBruijn32tab", "math/bits.deBruijn64tab", "strconv.ErrSyntax", "strconv.ErrRange"], plainKeys := false, apart := false, laid := [("math/bits.deBruijn32tab", laid_math_bits_deBruijn32tab), ("math/bits.deBruijn64tab", laid_math_bits_deBruijn64tab), ("internal/strconv.uint64pow10", laid_internal_strconv_uint64pow10), ("strconv.ErrRange", laid_strconv_ErrRange), ("strconv.ErrSyntax", laid_strconv_ErrSyntax)] }
def VmoveKnownSaid : Prop := vmoveKnownRow.holds Tryz.pinned (OpenSpec.ofChange vmoveKnownSpec)

/-- ITS FALSE NEIGHBOUR: 'it returns false'. Refute it at one input. -/
def vmoveKnownWrong : ChangeSpec := { name := "vmoveKnown", fn := fun _ => fun
  | [] => { results := [.lit (.bool false)], args := [] }
  | _ => none }
def VmoveKnownWrongFalsely : Prop := vmoveKnownRow.holds Tryz.pinned (OpenSpec.ofChange vmoveKnownWrong)

/- THE SECOND FORM. 'bulk': how many values and letters a reading holds, each counted each time it is reached (what is shared counts as often as it is met; a slice's spare places count too). A statement '..UptoSaid' is the law's where the arguments, and the package variables that the reading takes, are together of bulk at most 1048576: NARROWER than '..Said'. Prove '..Said' where nothing that the law and all that it calls make is longer than what came in: it says more and counts as full. Else prove '..UptoSaid'. A law counts once. -/
mutual
def uptoBulk {H : Type} : DataW H → Nat
  | .lit (.string bytes) => bytes.length + 1
  | .lit _ => 1
  | .nil => 1
  | .ptr d => uptoBulk d + 1
  | .slice elems spare => uptoBulkAll elems + uptoBulkAll spare + 1
  | .agg parts => uptoBulkAll parts + 1
  | .iface _ d => uptoBulk d + 1
  | .map entries => uptoBulkEntries entries + 1
  | .held _ => 1
def uptoBulkAll {H : Type} : List (DataW H) → Nat
  | [] => 0
  | d :: r => uptoBulk d + uptoBulkAll r
def uptoBulkEntries {H : Type} : List (Lit × DataW H) → Nat
  | [] => 0
  | x :: r => uptoBulkEntry x + uptoBulkEntries r
def uptoBulkEntry {H : Type} : Lit × DataW H → Nat
  | (.string bytes, d) => bytes.length + uptoBulk d + 1
  | (_, d) => uptoBulk d + 1
 end
def uptoSmall : (H : Type) → List (DataW H) → Bool := fun _ ds => decide (uptoBulkAll ds ≤ 1048576)
def OpenSpec.upto (s : _root_.Go.ChangeSpec) : _root_.Go.OpenSpec := { _root_.Go.OpenSpec.ofChange s with cond := some uptoSmall }

/-- 'censuslaw26.SddEvals', WHERE WHAT IT READS IS OF BULK AT MOST 1048576: true; the input reads as it did. -/
def sddEvalsUptoRow : OpenClaim := { program := "yteikmmfjhabijaagreatdoor", sum := "78f19011629de4219490e142d76788f8103f7570d9bfd51a14b7334b04c5d5b2", func := "census/censuslaw26.SddEvals", spec := "sddEvals", unfollowed := true, recurses := true, named := ["internal/strconv.uint64pow10", "math/bits.deBruijn32tab", "math/bits.deBruijn64tab"], plainKeys := false, apart := false, laid := [("math/bits.deBruijn32tab", laid_math_bits_deBruijn32tab), ("math/bits.deBruijn64tab", laid_math_bits_deBruijn64tab), ("internal/strconv.uint64pow10", laid_internal_strconv_uint64pow10)], narrowed := true }
def SddEvalsUptoSaid : Prop := sddEvalsUptoRow.holds Tryz.pinned (OpenSpec.upto sddEvalsSpec)

/-- 'censuslaw26.SddKeeps', WHERE WHAT IT READS IS OF BULK AT MOST 1048576: true; the input reads as it did. -/
def sddKeepsUptoRow : OpenClaim := { program := "yteikmmfjhabijaagreatdoor", sum := "78f19011629de4219490e142d76788f8103f7570d9bfd51a14b7334b04c5d5b2", func := "census/censuslaw26.SddKeeps", spec := "sddKeeps", unfollowed := true, recurses := true, named := ["internal/strconv.uint64pow10", "math/bits.deBruijn32tab", "math/bits.deBruijn64tab"], plainKeys := false, apart := false, laid := [("math/bits.deBruijn32tab", laid_math_bits_deBruijn32tab), ("math/bits.deBruijn64tab", laid_math_bits_deBruijn64tab), ("internal/strconv.uint64pow10", laid_internal_strconv_uint64pow10)], narrowed := true }
def SddKeepsUptoSaid : Prop := sddKeepsUptoRow.holds Tryz.pinned (OpenSpec.upto sddKeepsSpec)

/-- 'censuslaw26.SddRuns', WHERE WHAT IT READS IS OF BULK AT MOST 1048576: true; the input reads as it did. -/
def sddRunsUptoRow : OpenClaim := { program := "yteikmmfjhabijaagreatdoor", sum := "78f19011629de4219490e142d76788f8103f7570d9bfd51a14b7334b04c5d5b2", func := "census/censuslaw26.SddRuns", spec := "sddRuns", unfollowed := true, recurses := true, named := ["internal/strconv.uint64pow10", "math/bits.deBruijn32tab", "math/bits.deBruijn64tab"], plainKeys := false, apart := false, laid := [("math/bits.deBruijn32tab", laid_math_bits_deBruijn32tab), ("math/bits.deBruijn64tab", laid_math_bits_deBruijn64tab), ("internal/strconv.uint64pow10", laid_internal_strconv_uint64pow10)], narrowed := true }
def SddRunsUptoSaid : Prop := sddRunsUptoRow.holds Tryz.pinned (OpenSpec.upto sddRunsSpec)

/-- 'censuslaw26.SddErrors', WHERE WHAT IT READS IS OF BULK AT MOST 1048576: true; the input reads as it did. -/
def sddErrorsUptoRow : OpenClaim := { program := "yteikmmfjhabijaagreatdoor", sum := "78f19011629de4219490e142d76788f8103f7570d9bfd51a14b7334b04c5d5b2", func := "census/censuslaw26.SddErrors", spec := "sddErrors", unfollowed := true, recurses := true, named := ["internal/strconv.uint64pow10", "math/bits.deBruijn32tab", "math/bits.deBruijn64tab"], plainKeys := false, apart := false, laid := [("math/bits.deBruijn32tab", laid_math_bits_deBruijn32tab), ("math/bits.deBruijn64tab", laid_math_bits_deBruijn64tab), ("internal/strconv.uint64pow10", laid_internal_strconv_uint64pow10)], narrowed := true }
def SddErrorsUptoSaid : Prop := sddErrorsUptoRow.holds Tryz.pinned (OpenSpec.upto sddErrorsSpec)

/-- 'censuslaw28.VmoveMoves', WHERE WHAT IT READS IS OF BULK AT MOST 1048576: true; the input reads as it did. -/
def vmoveMovesUptoRow : OpenClaim := { program := "yteikmmfjhabijaagreatdoor", sum := "78f19011629de4219490e142d76788f8103f7570d9bfd51a14b7334b04c5d5b2", func := "census/censuslaw28.VmoveMoves", spec := "vmoveMoves", unfollowed := true, recurses := true, named := ["internal/strconv.uint64pow10", "math/bits.deBruijn32tab", "math/bits.deBruijn64tab", "strconv.ErrSyntax", "strconv.ErrRange"], plainKeys := false, apart := false, laid := [("math/bits.deBruijn32tab", laid_math_bits_deBruijn32tab), ("math/bits.deBruijn64tab", laid_math_bits_deBruijn64tab), ("internal/strconv.uint64pow10", laid_internal_strconv_uint64pow10), ("strconv.ErrRange", laid_strconv_ErrRange), ("strconv.ErrSyntax", laid_strconv_ErrSyntax)], narrowed := true }
def VmoveMovesUptoSaid : Prop := vmoveMovesUptoRow.holds Tryz.pinned (OpenSpec.upto vmoveMovesSpec)

/-- 'censuslaw28.VmoveCopies', WHERE WHAT IT READS IS OF BULK AT MOST 1048576: true; the input reads as it did. -/
def vmoveCopiesUptoRow : OpenClaim := { program := "yteikmmfjhabijaagreatdoor", sum := "78f19011629de4219490e142d76788f8103f7570d9bfd51a14b7334b04c5d5b2", func := "census/censuslaw28.VmoveCopies", spec := "vmoveCopies", unfollowed := true, recurses := true, named := ["internal/strconv.uint64pow10", "math/bits.deBruijn32tab", "math/bits.deBruijn64tab", "strconv.ErrSyntax", "strconv.ErrRange"], plainKeys := false, apart := false, laid := [("math/bits.deBruijn32tab", laid_math_bits_deBruijn32tab), ("math/bits.deBruijn64tab", laid_math_bits_deBruijn64tab), ("internal/strconv.uint64pow10", laid_internal_strconv_uint64pow10), ("strconv.ErrRange", laid_strconv_ErrRange), ("strconv.ErrSyntax", laid_strconv_ErrSyntax)], narrowed := true }
def VmoveCopiesUptoSaid : Prop := vmoveCopiesUptoRow.holds Tryz.pinned (OpenSpec.upto vmoveCopiesSpec)

/-- 'censuslaw28.VmoveBack', WHERE WHAT IT READS IS OF BULK AT MOST 1048576: true; the input reads as it did. -/
def vmoveBackUptoRow : OpenClaim := { program := "yteikmmfjhabijaagreatdoor", sum := "78f19011629de4219490e142d76788f8103f7570d9bfd51a14b7334b04c5d5b2", func := "census/censuslaw28.VmoveBack", spec := "vmoveBack", unfollowed := true, recurses := true, named := ["internal/strconv.uint64pow10", "math/bits.deBruijn32tab", "math/bits.deBruijn64tab", "strconv.ErrSyntax", "strconv.ErrRange"], plainKeys := false, apart := false, laid := [("math/bits.deBruijn32tab", laid_math_bits_deBruijn32tab), ("math/bits.deBruijn64tab", laid_math_bits_deBruijn64tab), ("internal/strconv.uint64pow10", laid_internal_strconv_uint64pow10), ("strconv.ErrRange", laid_strconv_ErrRange), ("strconv.ErrSyntax", laid_strconv_ErrSyntax)], narrowed := true }
def VmoveBackUptoSaid : Prop := vmoveBackUptoRow.holds Tryz.pinned (OpenSpec.upto vmoveBackSpec)

/-- 'censuslaw28.VmoveThrough', WHERE WHAT IT READS IS OF BULK AT MOST 1048576: true; the input reads as it did. -/
def vmoveThroughUptoRow : OpenClaim := { program := "yteikmmfjhabijaagreatdoor", sum := "78f19011629de4219490e142d76788f8103f7570d9bfd51a14b7334b04c5d5b2", func := "census/censuslaw28.VmoveThrough", spec := "vmoveThrough", unfollowed := true, recurses := true, named := ["internal/strconv.uint64pow10", "math/bits.deBruijn32tab", "math/bits.deBruijn64tab", "strconv.ErrSyntax", "strconv.ErrRange"], plainKeys := false, apart := false, laid := [("math/bits.deBruijn32tab", laid_math_bits_deBruijn32tab), ("math/bits.deBruijn64tab", laid_math_bits_deBruijn64tab), ("internal/strconv.uint64pow10", laid_internal_strconv_uint64pow10), ("strconv.ErrRange", laid_strconv_ErrRange), ("strconv.ErrSyntax", laid_strconv_ErrSyntax)], narrowed := true }
def VmoveThroughUptoSaid : Prop := vmoveThroughUptoRow.holds Tryz.pinned (OpenSpec.upto vmoveThroughSpec)

/-- 'censuslaw28.VmoveKeeps', WHERE WHAT IT READS IS OF BULK AT MOST 1048576: true; the input reads as it did. -/
def vmoveKeepsUptoRow : OpenClaim := { program := "yteikmmfjhabijaagreatdoor", sum := "78f19011629de4219490e142d76788f8103f7570d9bfd51a14b7334b04c5d5b2", func := "census/censuslaw28.VmoveKeeps", spec := "vmoveKeeps", unfollowed := true, recurses := true, named := ["internal/strconv.uint64pow10", "math/bits.deBruijn32tab", "math/bits.deBruijn64tab", "strconv.ErrSyntax", "strconv.ErrRange"], plainKeys := false, apart := false, laid := [("math/bits.deBruijn32tab", laid_math_bits_deBruijn32tab), ("math/bits.deBruijn64tab", laid_math_bits_deBruijn64tab), ("internal/strconv.uint64pow10", laid_internal_strconv_uint64pow10), ("strconv.ErrRange", laid_strconv_ErrRange), ("strconv.ErrSyntax", laid_strconv_ErrSyntax)], narrowed := true }
def VmoveKeepsUptoSaid : Prop := vmoveKeepsUptoRow.holds Tryz.pinned (OpenSpec.upto vmoveKeepsSpec)

/-- 'censuslaw28.VmoveEvals', WHERE WHAT IT READS IS OF BULK AT MOST 1048576: true; the input reads as it did. -/
def vmoveEvalsUptoRow : OpenClaim := { program := "yteikmmfjhabijaagreatdoor", sum := "78f19011629de4219490e142d76788f8103f7570d9bfd51a14b7334b04c5d5b2", func := "census/censuslaw28.VmoveEvals", spec := "vmoveEvals", unfollowed := true, recurses := true, named := ["internal/strconv.uint64pow10", "math/bits.deBruijn32tab", "math/bits.deBruijn64tab", "strconv.ErrSyntax", "strconv.ErrRange"], plainKeys := false, apart := false, laid := [("math/bits.deBruijn32tab", laid_math_bits_deBruijn32tab), ("math/bits.deBruijn64tab", laid_math_bits_deBruijn64tab), ("internal/strconv.uint64pow10", laid_internal_strconv_uint64pow10), ("strconv.ErrRange", laid_strconv_ErrRange), ("strconv.ErrSyntax", laid_strconv_ErrSyntax)], narrowed := true }
def VmoveEvalsUptoSaid : Prop := vmoveEvalsUptoRow.holds Tryz.pinned (OpenSpec.upto vmoveEvalsSpec)

/-- 'censuslaw28.VmoveErrors', WHERE WHAT IT READS IS OF BULK AT MOST 1048576: true; the input reads as it did. -/
def vmoveErrorsUptoRow : OpenClaim := { program := "yteikmmfjhabijaagreatdoor", sum := "78f19011629de4219490e142d76788f8103f7570d9bfd51a14b7334b04c5d5b2", func := "census/censuslaw28.VmoveErrors", spec := "vmoveErrors", unfollowed := true, recurses := true, named := ["internal/strconv.uint64pow10", "math/bits.deBruijn32tab", "math/bits.deBruijn64tab", "strconv.ErrSyntax", "strconv.ErrRange"], plainKeys := false, apart := false, laid := [("math/bits.deBruijn32tab", laid_math_bits_deBruijn32tab), ("math/bits.deBruijn64tab", laid_math_bits_deBruijn64tab), ("internal/strconv.uint64pow10", laid_internal_strconv_uint64pow10), ("strconv.ErrRange", laid_strconv_ErrRange), ("strconv.ErrSyntax", laid_strconv_ErrSyntax)], narrowed := true }
def VmoveErrorsUptoSaid : Prop := vmoveErrorsUptoRow.holds Tryz.pinned (OpenSpec.upto vmoveErrorsSpec)

/-- 'censuslaw28.VmoveKnown', WHERE WHAT IT READS IS OF BULK AT MOST 1048576: true; the input reads as it did. -/
def vmoveKnownUptoRow : OpenClaim := { program := "yteikmmfjhabijaagreatdoor", sum := "78f19011629de4219490e142d76788f8103f7570d9bfd51a14b7334b04c5d5b2", func := "census/censuslaw28.VmoveKnown", spec := "vmoveKnown", unfollowed := true, recurses := true, named := ["internal/strconv.uint64pow10", "math/bits.deBruijn32tab", "math/bits.deBruijn64tab", "strconv.ErrSyntax", "strconv.ErrRange"], plainKeys := false, apart := false, laid := [("math/bits.deBruijn32tab", laid_math_bits_deBruijn32tab), ("math/bits.deBruijn64tab", laid_math_bits_deBruijn64tab), ("internal/strconv.uint64pow10", laid_internal_strconv_uint64pow10), ("strconv.ErrRange", laid_strconv_ErrRange), ("strconv.ErrSyntax", laid_strconv_ErrSyntax)], narrowed := true }
def VmoveKnownUptoSaid : Prop := vmoveKnownUptoRow.holds Tryz.pinned (OpenSpec.upto vmoveKnownSpec)

end Rows
end Go.Proofs.YteikmmfjhabijaaGreatDoor
