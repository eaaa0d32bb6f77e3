/-
  NARROWER THAN 'FOR EVERY INPUT', by the rows' own cells (each row's printed sentence says how): HeapSerials: laid · HeapInts: laid · HeapRings: laid · HeapTrees: laid · HeapAlike: laid · HeapActs: laid.
  DERIVED. THE GIVEN ROWS OF THIS SEAT. 6 by the template 'for every input the law returns true; each argument reads behind the call as it read before'; 0 by the template 'total and deterministic' (their statements: YtelhoppfidibiaaGreatDoorTotals.lean).
  GIVEN WITH THE SEED: the statements are not yours to turn. If you find one false, say at which input.
  Laid BY PROGRAM, IN A SANDBOX (cutbox-rows.mjs): the forced cells as the released guide's own fill.sh prints them over the translation 0b6a81e4cd8b56a2… (all of the seat's roots in one cut). By AI agents, Wed Nov 11 2026. No macro, syntax, notation, axiom, sorry.
-/
import Derived.Test.YtelhoppfidibiaaGreatDoorChecked
import GoSem.Claim
import GoSem.ClaimJoined
import GoSem.ClaimMapViews
import Derived.JoinedTies
import Derived.KernelRfl
namespace Go.Proofs.YtelhoppfidibiaaGreatDoor
/- THE CELL 'sum', in the pinned program and in every row, IS THE sha256 OF THE DUMP (.gsa) THAT YtelhoppfidibiaaGreatDoorProg.lean LOADS. Nothing in Lean hashes anything: it is a label: what it is worth is what the hold of that sum in a sandbox is worth. -/
noncomputable def Tryz.pinned : Pinned := { name := "ytelhoppfidibiaagreatdoor", sum := "0b6a81e4cd8b56a2ba7aac254151c1d5dbc5677429e28faeb888f77deae9ad96", checked := Tryz.checked }
namespace Rows
def none {H : Type} : Left H := { results := [], args := [] }

/- WHAT THE LISTED PACKAGE-LEVEL VARIABLES READ AS WHEN THE CALL BEGINS. Each datum BY PROGRAM (the guide's laid-datum.mjs) off the statement by which the dump's own 'gosem.cut.vars' lays the variable. In a bare row this is a premise. The card (YtelhoppfidibiaaGreatDoorCards.lean) ties it to the program's text. -/
def laid_math_bits_deBruijn32tab {H : Type} : DataW H := .agg [.lit (.int .u8 0), .lit (.int .u8 1), .lit (.int .u8 28), .lit (.int .u8 2), .lit (.int .u8 29), .lit (.int .u8 14), .lit (.int .u8 24), .lit (.int .u8 3), .lit (.int .u8 30), .lit (.int .u8 22), .lit (.int .u8 20), .lit (.int .u8 15), .lit (.int .u8 25), .lit (.int .u8 17), .lit (.int .u8 4), .lit (.int .u8 8), .lit (.int .u8 31), .lit (.int .u8 27), .lit (.int .u8 13), .lit (.int .u8 23), .lit (.int .u8 21), .lit (.int .u8 19), .lit (.int .u8 16), .lit (.int .u8 7), .lit (.int .u8 26), .lit (.int .u8 12), .lit (.int .u8 18), .lit (.int .u8 6), .lit (.int .u8 11), .lit (.int .u8 5), .lit (.int .u8 10), .lit (.int .u8 9)]
def laid_math_bits_deBruijn64tab {H : Type} : DataW H := .agg [.lit (.int .u8 0), .lit (.int .u8 1), .lit (.int .u8 56), .lit (.int .u8 2), .lit (.int .u8 57), .lit (.int .u8 49), .lit (.int .u8 28), .lit (.int .u8 3), .lit (.int .u8 61), .lit (.int .u8 58), .lit (.int .u8 42), .lit (.int .u8 50), .lit (.int .u8 38), .lit (.int .u8 29), .lit (.int .u8 17), .lit (.int .u8 4), .lit (.int .u8 62), .lit (.int .u8 47), .lit (.int .u8 59), .lit (.int .u8 36), .lit (.int .u8 45), .lit (.int .u8 43), .lit (.int .u8 51), .lit (.int .u8 22), .lit (.int .u8 53), .lit (.int .u8 39), .lit (.int .u8 33), .lit (.int .u8 30), .lit (.int .u8 24), .lit (.int .u8 18), .lit (.int .u8 12), .lit (.int .u8 5), .lit (.int .u8 63), .lit (.int .u8 55), .lit (.int .u8 48), .lit (.int .u8 27), .lit (.int .u8 60), .lit (.int .u8 41), .lit (.int .u8 37), .lit (.int .u8 16), .lit (.int .u8 46), .lit (.int .u8 35), .lit (.int .u8 44), .lit (.int .u8 21), .lit (.int .u8 52), .lit (.int .u8 32), .lit (.int .u8 23), .lit (.int .u8 11), .lit (.int .u8 54), .lit (.int .u8 26), .lit (.int .u8 40), .lit (.int .u8 15), .lit (.int .u8 34), .lit (.int .u8 20), .lit (.int .u8 31), .lit (.int .u8 10), .lit (.int .u8 25), .lit (.int .u8 14), .lit (.int .u8 19), .lit (.int .u8 9), .lit (.int .u8 13), .lit (.int .u8 8), .lit (.int .u8 7), .lit (.int .u8 6)]
def laid_internal_strconv_uint64pow10 {H : Type} : DataW H := .agg [.lit (.int .u64 1), .lit (.int .u64 10), .lit (.int .u64 100), .lit (.int .u64 1000), .lit (.int .u64 10000), .lit (.int .u64 100000), .lit (.int .u64 1000000), .lit (.int .u64 10000000), .lit (.int .u64 100000000), .lit (.int .u64 1000000000), .lit (.int .u64 10000000000), .lit (.int .u64 100000000000), .lit (.int .u64 1000000000000), .lit (.int .u64 10000000000000), .lit (.int .u64 100000000000000), .lit (.int .u64 1000000000000000), .lit (.int .u64 10000000000000000), .lit (.int .u64 100000000000000000), .lit (.int .u64 1000000000000000000), .lit (.int .u64 10000000000000000000)]
def laid_nurserypy_api_ErrBound {H : Type} : DataW H := .iface "*errors.errorString" (.ptr (.agg [.lit (.string [110, 117, 114, 115, 101, 114, 121, 112, 121, 58, 32, 98, 111, 117, 110, 100])]))
def laid_nurserypy_api_ErrShape {H : Type} : DataW H := .iface "*errors.errorString" (.ptr (.agg [.lit (.string [110, 117, 114, 115, 101, 114, 121, 112, 121, 58, 32, 115, 104, 97, 112, 101])]))
def laid_nurserypy_api_ErrPlace {H : Type} : DataW H := .iface "*errors.errorString" (.ptr (.agg [.lit (.string [110, 117, 114, 115, 101, 114, 121, 112, 121, 58, 32, 112, 108, 97, 99, 101])]))
def laid_nurserypy_api_ErrFull {H : Type} : DataW H := .iface "*errors.errorString" (.ptr (.agg [.lit (.string [110, 117, 114, 115, 101, 114, 121, 112, 121, 58, 32, 102, 117, 108, 108])]))
def laid_errors_errorType {H : Type} : DataW H := .iface "internal/reflectlite.rtype" (.agg [.ptr (.lit (.string [101, 114, 114, 111, 114]))])
def laid_nurserypy_api_ErrText {H : Type} : DataW H := .iface "*errors.errorString" (.ptr (.agg [.lit (.string [110, 117, 114, 115, 101, 114, 121, 112, 121, 58, 32, 116, 101, 120, 116])]))
def laid_nurserypy_api_ErrName {H : Type} : DataW H := .iface "*errors.errorString" (.ptr (.agg [.lit (.string [110, 117, 114, 115, 101, 114, 121, 112, 121, 58, 32, 110, 97, 109, 101])]))
def laid_nurserypy_api_ErrNone {H : Type} : DataW H := .iface "*errors.errorString" (.ptr (.agg [.lit (.string [110, 117, 114, 115, 101, 114, 121, 112, 121, 58, 32, 110, 111, 110, 101])]))

/-- 'nurserypylaw3.HeapSerials': WHATEVER THE INPUT: true; the input reads as it did. -/
def heapSerialsSpec : ChangeSpec := { name := "heapSerials", fn := fun _ => fun
  | [d1, d2, d3] => { results := [.lit (.bool true)], args := [d1, d2, d3] }
  | _ => none }
def heapSerialsRow : OpenClaim := { program := "ytelhoppfidibiaagreatdoor", sum := "0b6a81e4cd8b56a2ba7aac254151c1d5dbc5677429e28faeb888f77deae9ad96", func := "nurserypy/nurserypylaw3.HeapSerials", spec := "heapSerials", inPlace := ["internal/reflectlite.TypeOf", "internal/abi.NoEscape"], unfollowed := true, recurses := true, named := ["nurserypy/api.ErrBound", "nurserypy/api.ErrPlace", "nurserypy/api.ErrFull", "nurserypy/api.ErrShape", "internal/strconv.uint64pow10", "math/bits.deBruijn32tab", "math/bits.deBruijn64tab"], apart := false, laid := [("math/bits.deBruijn32tab", laid_math_bits_deBruijn32tab), ("math/bits.deBruijn64tab", laid_math_bits_deBruijn64tab), ("internal/strconv.uint64pow10", laid_internal_strconv_uint64pow10), ("nurserypy/api.ErrBound", laid_nurserypy_api_ErrBound), ("nurserypy/api.ErrShape", laid_nurserypy_api_ErrShape), ("nurserypy/api.ErrPlace", laid_nurserypy_api_ErrPlace), ("nurserypy/api.ErrFull", laid_nurserypy_api_ErrFull)] }
def HeapSerialsSaid : Prop := heapSerialsRow.holds Tryz.pinned (OpenSpec.ofChange heapSerialsSpec)

/-- ITS FALSE NEIGHBOUR: 'it returns false'. Refute it at one input. -/
def heapSerialsWrong : ChangeSpec := { name := "heapSerials", fn := fun _ => fun
  | [d1, d2, d3] => { results := [.lit (.bool false)], args := [d1, d2, d3] }
  | _ => none }
def HeapSerialsWrongFalsely : Prop := heapSerialsRow.holds Tryz.pinned (OpenSpec.ofChange heapSerialsWrong)

/-- 'nurserypylaw3.HeapInts': WHATEVER THE INPUT: true; the input reads as it did. -/
def heapIntsSpec : ChangeSpec := { name := "heapInts", fn := fun _ => fun
  | [d1, d2] => { results := [.lit (.bool true)], args := [d1, d2] }
  | _ => none }
def heapIntsRow : OpenClaim := { program := "ytelhoppfidibiaagreatdoor", sum := "0b6a81e4cd8b56a2ba7aac254151c1d5dbc5677429e28faeb888f77deae9ad96", func := "nurserypy/nurserypylaw3.HeapInts", spec := "heapInts", inPlace := ["internal/reflectlite.TypeOf", "internal/abi.NoEscape"], unfollowed := true, recurses := true, named := ["nurserypy/api.ErrBound", "nurserypy/api.ErrPlace", "nurserypy/api.ErrFull", "nurserypy/api.ErrShape", "internal/strconv.uint64pow10", "math/bits.deBruijn32tab", "math/bits.deBruijn64tab"], apart := false, laid := [("math/bits.deBruijn32tab", laid_math_bits_deBruijn32tab), ("math/bits.deBruijn64tab", laid_math_bits_deBruijn64tab), ("internal/strconv.uint64pow10", laid_internal_strconv_uint64pow10), ("nurserypy/api.ErrBound", laid_nurserypy_api_ErrBound), ("nurserypy/api.ErrShape", laid_nurserypy_api_ErrShape), ("nurserypy/api.ErrPlace", laid_nurserypy_api_ErrPlace), ("nurserypy/api.ErrFull", laid_nurserypy_api_ErrFull)] }
def HeapIntsSaid : Prop := heapIntsRow.holds Tryz.pinned (OpenSpec.ofChange heapIntsSpec)

/-- ITS FALSE NEIGHBOUR: 'it returns false'. Refute it at one input. -/
def heapIntsWrong : ChangeSpec := { name := "heapInts", fn := fun _ => fun
  | [d1, d2] => { results := [.lit (.bool false)], args := [d1, d2] }
  | _ => none }
def HeapIntsWrongFalsely : Prop := heapIntsRow.holds Tryz.pinned (OpenSpec.ofChange heapIntsWrong)

/-- 'nurserypylaw3.HeapRings': WHATEVER THE INPUT: true; the input reads as it did. -/
def heapRingsSpec : ChangeSpec := { name := "heapRings", fn := fun _ => fun
  | [d1, d2, d3, d4] => { results := [.lit (.bool true)], args := [d1, d2, d3, d4] }
  | _ => none }
def heapRingsRow : OpenClaim := { program := "ytelhoppfidibiaagreatdoor", sum := "0b6a81e4cd8b56a2ba7aac254151c1d5dbc5677429e28faeb888f77deae9ad96", func := "nurserypy/nurserypylaw3.HeapRings", spec := "heapRings", inPlace := ["internal/reflectlite.TypeOf", "internal/abi.NoEscape"], unfollowed := true, recurses := true, named := ["nurserypy/api.ErrBound", "nurserypy/api.ErrPlace", "nurserypy/api.ErrFull", "nurserypy/api.ErrShape", "internal/strconv.uint64pow10", "math/bits.deBruijn32tab", "math/bits.deBruijn64tab"], apart := false, laid := [("math/bits.deBruijn32tab", laid_math_bits_deBruijn32tab), ("math/bits.deBruijn64tab", laid_math_bits_deBruijn64tab), ("internal/strconv.uint64pow10", laid_internal_strconv_uint64pow10), ("nurserypy/api.ErrBound", laid_nurserypy_api_ErrBound), ("nurserypy/api.ErrShape", laid_nurserypy_api_ErrShape), ("nurserypy/api.ErrPlace", laid_nurserypy_api_ErrPlace), ("nurserypy/api.ErrFull", laid_nurserypy_api_ErrFull)] }
def HeapRingsSaid : Prop := heapRingsRow.holds Tryz.pinned (OpenSpec.ofChange heapRingsSpec)

/-- ITS FALSE NEIGHBOUR: 'it returns false'. Refute it at one input. -/
def heapRingsWrong : ChangeSpec := { name := "heapRings", fn := fun _ => fun
  | [d1, d2, d3, d4] => { results := [.lit (.bool false)], args := [d1, d2, d3, d4] }
  | _ => none }
def HeapRingsWrongFalsely : Prop := heapRingsRow.holds Tryz.pinned (OpenSpec.ofChange heapRingsWrong)

/-- 'nurserypylaw3.HeapTrees': WHATEVER THE INPUT: true; the input reads as it did. -/
def heapTreesSpec : ChangeSpec := { name := "heapTrees", fn := fun _ => fun
  | [d1, d2, d3, d4] => { results := [.lit (.bool true)], args := [d1, d2, d3, d4] }
  | _ => none }
def heapTreesRow : OpenClaim := { program := "ytelhoppfidibiaagreatdoor", sum := "0b6a81e4cd8b56a2ba7aac254151c1d5dbc5677429e28faeb888f77deae9ad96", func := "nurserypy/nurserypylaw3.HeapTrees", spec := "heapTrees", inPlace := ["internal/reflectlite.TypeOf", "internal/abi.NoEscape"], unfollowed := true, recurses := true, named := ["nurserypy/api.ErrBound", "nurserypy/api.ErrPlace", "nurserypy/api.ErrFull", "nurserypy/api.ErrShape", "internal/strconv.uint64pow10", "math/bits.deBruijn32tab", "math/bits.deBruijn64tab"], apart := false, laid := [("math/bits.deBruijn32tab", laid_math_bits_deBruijn32tab), ("math/bits.deBruijn64tab", laid_math_bits_deBruijn64tab), ("internal/strconv.uint64pow10", laid_internal_strconv_uint64pow10), ("nurserypy/api.ErrBound", laid_nurserypy_api_ErrBound), ("nurserypy/api.ErrShape", laid_nurserypy_api_ErrShape), ("nurserypy/api.ErrPlace", laid_nurserypy_api_ErrPlace), ("nurserypy/api.ErrFull", laid_nurserypy_api_ErrFull)] }
def HeapTreesSaid : Prop := heapTreesRow.holds Tryz.pinned (OpenSpec.ofChange heapTreesSpec)

/-- ITS FALSE NEIGHBOUR: 'it returns false'. Refute it at one input. -/
def heapTreesWrong : ChangeSpec := { name := "heapTrees", fn := fun _ => fun
  | [d1, d2, d3, d4] => { results := [.lit (.bool false)], args := [d1, d2, d3, d4] }
  | _ => none }
def HeapTreesWrongFalsely : Prop := heapTreesRow.holds Tryz.pinned (OpenSpec.ofChange heapTreesWrong)

/-- 'nurserypylaw3.HeapAlike': WHATEVER THE INPUT: true; the input reads as it did. -/
def heapAlikeSpec : ChangeSpec := { name := "heapAlike", fn := fun _ => fun
  | [d1, d2, d3, d4, d5, d6] => { results := [.lit (.bool true)], args := [d1, d2, d3, d4, d5, d6] }
  | _ => none }
def heapAlikeRow : OpenClaim := { program := "ytelhoppfidibiaagreatdoor", sum := "0b6a81e4cd8b56a2ba7aac254151c1d5dbc5677429e28faeb888f77deae9ad96", func := "nurserypy/nurserypylaw3.HeapAlike", spec := "heapAlike", inPlace := ["internal/reflectlite.TypeOf", "internal/abi.NoEscape", "internal/reflectlite.ValueOf", "(internal/reflectlite.Value).Type", "(internal/reflectlite.Value).IsNil", "(internal/reflectlite.Value).Elem", "(internal/reflectlite.Value).Set"], unfollowed := true, recurses := true, named := ["nurserypy/api.ErrBound", "nurserypy/api.ErrPlace", "nurserypy/api.ErrFull", "nurserypy/api.ErrShape", "internal/strconv.uint64pow10", "math/bits.deBruijn32tab", "math/bits.deBruijn64tab", "nurserypy/api.ErrText", "nurserypy/api.ErrName", "nurserypy/api.ErrNone", "errors.errorType"], apart := false, laid := [("math/bits.deBruijn32tab", laid_math_bits_deBruijn32tab), ("math/bits.deBruijn64tab", laid_math_bits_deBruijn64tab), ("internal/strconv.uint64pow10", laid_internal_strconv_uint64pow10), ("errors.errorType", laid_errors_errorType), ("nurserypy/api.ErrText", laid_nurserypy_api_ErrText), ("nurserypy/api.ErrBound", laid_nurserypy_api_ErrBound), ("nurserypy/api.ErrShape", laid_nurserypy_api_ErrShape), ("nurserypy/api.ErrName", laid_nurserypy_api_ErrName), ("nurserypy/api.ErrPlace", laid_nurserypy_api_ErrPlace), ("nurserypy/api.ErrFull", laid_nurserypy_api_ErrFull), ("nurserypy/api.ErrNone", laid_nurserypy_api_ErrNone)] }
def HeapAlikeSaid : Prop := heapAlikeRow.holds Tryz.pinned (OpenSpec.ofChange heapAlikeSpec)

/-- ITS FALSE NEIGHBOUR: 'it returns false'. Refute it at one input. -/
def heapAlikeWrong : ChangeSpec := { name := "heapAlike", fn := fun _ => fun
  | [d1, d2, d3, d4, d5, d6] => { results := [.lit (.bool false)], args := [d1, d2, d3, d4, d5, d6] }
  | _ => none }
def HeapAlikeWrongFalsely : Prop := heapAlikeRow.holds Tryz.pinned (OpenSpec.ofChange heapAlikeWrong)

/-- 'nurserypylaw3.HeapActs': WHATEVER THE INPUT: true; the input reads as it did. -/
def heapActsSpec : ChangeSpec := { name := "heapActs", fn := fun _ => fun
  | [d1, d2, d3, d4, d5, d6] => { results := [.lit (.bool true)], args := [d1, d2, d3, d4, d5, d6] }
  | _ => none }
def heapActsRow : OpenClaim := { program := "ytelhoppfidibiaagreatdoor", sum := "0b6a81e4cd8b56a2ba7aac254151c1d5dbc5677429e28faeb888f77deae9ad96", func := "nurserypy/nurserypylaw3.HeapActs", spec := "heapActs", inPlace := ["internal/reflectlite.TypeOf", "internal/abi.NoEscape", "internal/reflectlite.ValueOf", "(internal/reflectlite.Value).Type", "(internal/reflectlite.Value).IsNil", "(internal/reflectlite.Value).Elem", "(internal/reflectlite.Value).Set"], unfollowed := true, recurses := true, named := ["nurserypy/api.ErrBound", "nurserypy/api.ErrPlace", "nurserypy/api.ErrFull", "nurserypy/api.ErrShape", "internal/strconv.uint64pow10", "math/bits.deBruijn32tab", "math/bits.deBruijn64tab", "nurserypy/api.ErrText", "nurserypy/api.ErrName", "nurserypy/api.ErrNone", "errors.errorType"], apart := false, laid := [("math/bits.deBruijn32tab", laid_math_bits_deBruijn32tab), ("math/bits.deBruijn64tab", laid_math_bits_deBruijn64tab), ("internal/strconv.uint64pow10", laid_internal_strconv_uint64pow10), ("errors.errorType", laid_errors_errorType), ("nurserypy/api.ErrText", laid_nurserypy_api_ErrText), ("nurserypy/api.ErrBound", laid_nurserypy_api_ErrBound), ("nurserypy/api.ErrShape", laid_nurserypy_api_ErrShape), ("nurserypy/api.ErrName", laid_nurserypy_api_ErrName), ("nurserypy/api.ErrPlace", laid_nurserypy_api_ErrPlace), ("nurserypy/api.ErrFull", laid_nurserypy_api_ErrFull), ("nurserypy/api.ErrNone", laid_nurserypy_api_ErrNone)] }
def HeapActsSaid : Prop := heapActsRow.holds Tryz.pinned (OpenSpec.ofChange heapActsSpec)

/-- ITS FALSE NEIGHBOUR: 'it returns false'. Refute it at one input. -/
def heapActsWrong : ChangeSpec := { name := "heapActs", fn := fun _ => fun
  | [d1, d2, d3, d4, d5, d6] => { results := [.lit (.bool false)], args := [d1, d2, d3, d4, d5, d6] }
  | _ => none }
def HeapActsWrongFalsely : Prop := heapActsRow.holds Tryz.pinned (OpenSpec.ofChange heapActsWrong)

/- THE SECOND FORM. 'bulk': how many values and letters a reading holds, each counted each time it is reached (what is shared counts as often as it is met; a slice's spare places count too). A statement '..UptoSaid' is the law's where the arguments, and the package variables that the reading takes, are together of bulk at most 1048576: NARROWER than '..Said'. Prove '..Said' where nothing that the law and all that it calls make is longer than what came in: it says more and counts as full. Else prove '..UptoSaid'. A law counts once. -/
mutual
def uptoBulk {H : Type} : DataW H → Nat
  | .lit (.string bytes) => bytes.length + 1
  | .lit _ => 1
  | .nil => 1
  | .ptr d => uptoBulk d + 1
  | .slice elems spare => uptoBulkAll elems + uptoBulkAll spare + 1
  | .agg parts => uptoBulkAll parts + 1
  | .iface _ d => uptoBulk d + 1
  | .map entries => uptoBulkEntries entries + 1
  | .held _ => 1
def uptoBulkAll {H : Type} : List (DataW H) → Nat
  | [] => 0
  | d :: r => uptoBulk d + uptoBulkAll r
def uptoBulkEntries {H : Type} : List (Lit × DataW H) → Nat
  | [] => 0
  | x :: r => uptoBulkEntry x + uptoBulkEntries r
def uptoBulkEntry {H : Type} : Lit × DataW H → Nat
  | (.string bytes, d) => bytes.length + uptoBulk d + 1
  | (_, d) => uptoBulk d + 1
 end
def uptoSmall : (H : Type) → List (DataW H) → Bool := fun _ ds => decide (uptoBulkAll ds ≤ 1048576)
def OpenSpec.upto (s : _root_.Go.ChangeSpec) : _root_.Go.OpenSpec := { _root_.Go.OpenSpec.ofChange s with cond := some uptoSmall }

/-- 'nurserypylaw3.HeapSerials', WHERE WHAT IT READS IS OF BULK AT MOST 1048576: true; the input reads as it did. -/
def heapSerialsUptoRow : OpenClaim := { program := "ytelhoppfidibiaagreatdoor", sum := "0b6a81e4cd8b56a2ba7aac254151c1d5dbc5677429e28faeb888f77deae9ad96", func := "nurserypy/nurserypylaw3.HeapSerials", spec := "heapSerials", inPlace := ["internal/reflectlite.TypeOf", "internal/abi.NoEscape"], unfollowed := true, recurses := true, named := ["nurserypy/api.ErrBound", "nurserypy/api.ErrPlace", "nurserypy/api.ErrFull", "nurserypy/api.ErrShape", "internal/strconv.uint64pow10", "math/bits.deBruijn32tab", "math/bits.deBruijn64tab"], apart := false, laid := [("math/bits.deBruijn32tab", laid_math_bits_deBruijn32tab), ("math/bits.deBruijn64tab", laid_math_bits_deBruijn64tab), ("internal/strconv.uint64pow10", laid_internal_strconv_uint64pow10), ("nurserypy/api.ErrBound", laid_nurserypy_api_ErrBound), ("nurserypy/api.ErrShape", laid_nurserypy_api_ErrShape), ("nurserypy/api.ErrPlace", laid_nurserypy_api_ErrPlace), ("nurserypy/api.ErrFull", laid_nurserypy_api_ErrFull)], narrowed := true }
def HeapSerialsUptoSaid : Prop := heapSerialsUptoRow.holds Tryz.pinned (OpenSpec.upto heapSerialsSpec)

/-- 'nurserypylaw3.HeapInts', WHERE WHAT IT READS IS OF BULK AT MOST 1048576: true; the input reads as it did. -/
def heapIntsUptoRow : OpenClaim := { program := "ytelhoppfidibiaagreatdoor", sum := "0b6a81e4cd8b56a2ba7aac254151c1d5dbc5677429e28faeb888f77deae9ad96", func := "nurserypy/nurserypylaw3.HeapInts", spec := "heapInts", inPlace := ["internal/reflectlite.TypeOf", "internal/abi.NoEscape"], unfollowed := true, recurses := true, named := ["nurserypy/api.ErrBound", "nurserypy/api.ErrPlace", "nurserypy/api.ErrFull", "nurserypy/api.ErrShape", "internal/strconv.uint64pow10", "math/bits.deBruijn32tab", "math/bits.deBruijn64tab"], apart := false, laid := [("math/bits.deBruijn32tab", laid_math_bits_deBruijn32tab), ("math/bits.deBruijn64tab", laid_math_bits_deBruijn64tab), ("internal/strconv.uint64pow10", laid_internal_strconv_uint64pow10), ("nurserypy/api.ErrBound", laid_nurserypy_api_ErrBound), ("nurserypy/api.ErrShape", laid_nurserypy_api_ErrShape), ("nurserypy/api.ErrPlace", laid_nurserypy_api_ErrPlace), ("nurserypy/api.ErrFull", laid_nurserypy_api_ErrFull)], narrowed := true }
def HeapIntsUptoSaid : Prop := heapIntsUptoRow.holds Tryz.pinned (OpenSpec.upto heapIntsSpec)

/-- 'nurserypylaw3.HeapRings', WHERE WHAT IT READS IS OF BULK AT MOST 1048576: true; the input reads as it did. -/
def heapRingsUptoRow : OpenClaim := { program := "ytelhoppfidibiaagreatdoor", sum := "0b6a81e4cd8b56a2ba7aac254151c1d5dbc5677429e28faeb888f77deae9ad96", func := "nurserypy/nurserypylaw3.HeapRings", spec := "heapRings", inPlace := ["internal/reflectlite.TypeOf", "internal/abi.NoEscape"], unfollowed := true, recurses := true, named := ["nurserypy/api.ErrBound", "nurserypy/api.ErrPlace", "nurserypy/api.ErrFull", "nurserypy/api.ErrShape", "internal/strconv.uint64pow10", "math/bits.deBruijn32tab", "math/bits.deBruijn64tab"], apart := false, laid := [("math/bits.deBruijn32tab", laid_math_bits_deBruijn32tab), ("math/bits.deBruijn64tab", laid_math_bits_deBruijn64tab), ("internal/strconv.uint64pow10", laid_internal_strconv_uint64pow10), ("nurserypy/api.ErrBound", laid_nurserypy_api_ErrBound), ("nurserypy/api.ErrShape", laid_nurserypy_api_ErrShape), ("nurserypy/api.ErrPlace", laid_nurserypy_api_ErrPlace), ("nurserypy/api.ErrFull", laid_nurserypy_api_ErrFull)], narrowed := true }
def HeapRingsUptoSaid : Prop := heapRingsUptoRow.holds Tryz.pinned (OpenSpec.upto heapRingsSpec)

/-- 'nurserypylaw3.HeapTrees', WHERE WHAT IT READS IS OF BULK AT MOST 1048576: true; the input reads as it did. -/
def heapTreesUptoRow : OpenClaim := { program := "ytelhoppfidibiaagreatdoor", sum := "0b6a81e4cd8b56a2ba7aac254151c1d5dbc5677429e28faeb888f77deae9ad96", func := "nurserypy/nurserypylaw3.HeapTrees", spec := "heapTrees", inPlace := ["internal/reflectlite.TypeOf", "internal/abi.NoEscape"], unfollowed := true, recurses := true, named := ["nurserypy/api.ErrBound", "nurserypy/api.ErrPlace", "nurserypy/api.ErrFull", "nurserypy/api.ErrShape", "internal/strconv.uint64pow10", "math/bits.deBruijn32tab", "math/bits.deBruijn64tab"], apart := false, laid := [("math/bits.deBruijn32tab", laid_math_bits_deBruijn32tab), ("math/bits.deBruijn64tab", laid_math_bits_deBruijn64tab), ("internal/strconv.uint64pow10", laid_internal_strconv_uint64pow10), ("nurserypy/api.ErrBound", laid_nurserypy_api_ErrBound), ("nurserypy/api.ErrShape", laid_nurserypy_api_ErrShape), ("nurserypy/api.ErrPlace", laid_nurserypy_api_ErrPlace), ("nurserypy/api.ErrFull", laid_nurserypy_api_ErrFull)], narrowed := true }
def HeapTreesUptoSaid : Prop := heapTreesUptoRow.holds Tryz.pinned (OpenSpec.upto heapTreesSpec)

/-- 'nurserypylaw3.HeapAlike', WHERE WHAT IT READS IS OF BULK AT MOST 1048576: true; the input reads as it did. -/
def heapAlikeUptoRow : OpenClaim := { program := "ytelhoppfidibiaagreatdoor", sum := "0b6a81e4cd8b56a2ba7aac254151c1d5dbc5677429e28faeb888f77deae9ad96", func := "nurserypy/nurserypylaw3.HeapAlike", spec := "heapAlike", inPlace := ["internal/reflectlite.TypeOf", "internal/abi.NoEscape", "internal/reflectlite.ValueOf", "(internal/reflectlite.Value).Type", "(internal/reflectlite.Value).IsNil", "(internal/reflectlite.Value).Elem", "(internal/reflectlite.Value).Set"], unfollowed := true, recurses := true, named := ["nurserypy/api.ErrBound", "nurserypy/api.ErrPlace", "nurserypy/api.ErrFull", "nurserypy/api.ErrShape", "internal/strconv.uint64pow10", "math/bits.deBruijn32tab", "math/bits.deBruijn64tab", "nurserypy/api.ErrText", "nurserypy/api.ErrName", "nurserypy/api.ErrNone", "errors.errorType"], apart := false, laid := [("math/bits.deBruijn32tab", laid_math_bits_deBruijn32tab), ("math/bits.deBruijn64tab", laid_math_bits_deBruijn64tab), ("internal/strconv.uint64pow10", laid_internal_strconv_uint64pow10), ("errors.errorType", laid_errors_errorType), ("nurserypy/api.ErrText", laid_nurserypy_api_ErrText), ("nurserypy/api.ErrBound", laid_nurserypy_api_ErrBound), ("nurserypy/api.ErrShape", laid_nurserypy_api_ErrShape), ("nurserypy/api.ErrName", laid_nurserypy_api_ErrName), ("nurserypy/api.ErrPlace", laid_nurserypy_api_ErrPlace), ("nurserypy/api.ErrFull", laid_nurserypy_api_ErrFull), ("nurserypy/api.ErrNone", laid_nurserypy_api_ErrNone)], narrowed := true }
def HeapAlikeUptoSaid : Prop := heapAlikeUptoRow.holds Tryz.pinned (OpenSpec.upto heapAlikeSpec)

/-- 'nurserypylaw3.HeapActs', WHERE WHAT IT READS IS OF BULK AT MOST 1048576: true; the input reads as it did. -/
def heapActsUptoRow : OpenClaim := { program := "ytelhoppfidibiaagreatdoor", sum := "0b6a81e4cd8b56a2ba7aac254151c1d5dbc5677429e28faeb888f77deae9ad96", func := "nurserypy/nurserypylaw3.HeapActs", spec := "heapActs", inPlace := ["internal/reflectlite.TypeOf", "internal/abi.NoEscape", "internal/reflectlite.ValueOf", "(internal/reflectlite.Value).Type", "(internal/reflectlite.Value).IsNil", "(internal/reflectlite.Value).Elem", "(internal/reflectlite.Value).Set"], unfollowed := true, recurses := true, named := ["nurserypy/api.ErrBound", "nurserypy/api.ErrPlace", "nurserypy/api.ErrFull", "nurserypy/api.ErrShape", "internal/strconv.uint64pow10", "math/bits.deBruijn32tab", "math/bits.deBruijn64tab", "nurserypy/api.ErrText", "nurserypy/api.ErrName", "nurserypy/api.ErrNone", "errors.errorType"], apart := false, laid := [("math/bits.deBruijn32tab", laid_math_bits_deBruijn32tab), ("math/bits.deBruijn64tab", laid_math_bits_deBruijn64tab), ("internal/strconv.uint64pow10", laid_internal_strconv_uint64pow10), ("errors.errorType", laid_errors_errorType), ("nurserypy/api.ErrText", laid_nurserypy_api_ErrText), ("nurserypy/api.ErrBound", laid_nurserypy_api_ErrBound), ("nurserypy/api.ErrShape", laid_nurserypy_api_ErrShape), ("nurserypy/api.ErrName", laid_nurserypy_api_ErrName), ("nurserypy/api.ErrPlace", laid_nurserypy_api_ErrPlace), ("nurserypy/api.ErrFull", laid_nurserypy_api_ErrFull), ("nurserypy/api.ErrNone", laid_nurserypy_api_ErrNone)], narrowed := true }
def HeapActsUptoSaid : Prop := heapActsUptoRow.holds Tryz.pinned (OpenSpec.upto heapActsSpec)

end Rows
end Go.Proofs.YtelhoppfidibiaaGreatDoor
