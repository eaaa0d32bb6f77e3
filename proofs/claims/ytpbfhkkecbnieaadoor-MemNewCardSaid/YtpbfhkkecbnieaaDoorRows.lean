/-
  NARROWER THAN 'FOR EVERY INPUT', by the rows' own cells (each row's printed sentence says how): WordTwice: laid · MemCopies: laid · MemWalks: laid · WordInts: laid · WordHeads: laid · WordBytes: laid · WordAddrs: laid · MinorAges: laid · MinorGrows: laid · MemNew: laid · MemAllocs: laid · MemFields: laid · CodeTexts: laid · CodeVerifies: laid · CodeWide: laid · MajorOrder: laid · MajorTwice: laid.
  DERIVED. THE GIVEN ROWS OF THIS SEAT. 17 by the template 'for every input the law returns true; each argument reads behind the call as it read before'; 0 by the template 'total and deterministic' (their statements: YtpbfhkkecbnieaaDoorTotals.lean).
  GIVEN WITH THE SEED: the statements are not yours to turn. If you find one false, say at which input.
  Laid BY PROGRAM, IN A SANDBOX (cutbox-rows.mjs): the forced cells as the released guide's own fill.sh prints them over the translation 7d6e70e93feb48c8… (all of the seat's roots in one cut). By AI agents, Wed Nov 11 2026. No macro, syntax, notation, axiom, sorry.
-/
import Derived.Test.YtpbfhkkecbnieaaDoorChecked
import GoSem.Claim
import GoSem.ClaimJoined
import GoSem.ClaimMapViews
import Derived.JoinedTies
import Derived.KernelRfl
namespace Go.Proofs.YtpbfhkkecbnieaaDoor
/- THE CELL 'sum', in the pinned program and in every row, IS THE sha256 OF THE DUMP (.gsa) THAT YtpbfhkkecbnieaaDoorProg.lean LOADS. Nothing in Lean hashes anything: it is a label: what it is worth is what the hold of that sum in a sandbox is worth. -/
noncomputable def Tryd.pinned : Pinned := { name := "ytpbfhkkecbnieaadoor", sum := "7d6e70e93feb48c84beaeb8cb1e946cb16f31fe0cac1407ce10d334f572ce099", checked := Tryd.checked }
namespace Rows
def none {H : Type} : Left H := { results := [], args := [] }

/- WHAT THE LISTED PACKAGE-LEVEL VARIABLES READ AS WHEN THE CALL BEGINS. Each datum BY PROGRAM (the guide's laid-datum.mjs) off the statement by which the dump's own 'gosem.cut.vars' lays the variable. In a bare row this is a premise. The card (YtpbfhkkecbnieaaDoorCards.lean) ties it to the program's text. -/
def laid_nurserypy_api_ErrBound {H : Type} : DataW H := .iface "*errors.errorString" (.ptr (.agg [.lit (.string [110, 117, 114, 115, 101, 114, 121, 112, 121, 58, 32, 98, 111, 117, 110, 100])]))
def laid_nurserypy_api_ErrShape {H : Type} : DataW H := .iface "*errors.errorString" (.ptr (.agg [.lit (.string [110, 117, 114, 115, 101, 114, 121, 112, 121, 58, 32, 115, 104, 97, 112, 101])]))
def laid_nurserypy_api_ErrPlace {H : Type} : DataW H := .iface "*errors.errorString" (.ptr (.agg [.lit (.string [110, 117, 114, 115, 101, 114, 121, 112, 121, 58, 32, 112, 108, 97, 99, 101])]))
def laid_nurserypy_api_ErrFull {H : Type} : DataW H := .iface "*errors.errorString" (.ptr (.agg [.lit (.string [110, 117, 114, 115, 101, 114, 121, 112, 121, 58, 32, 102, 117, 108, 108])]))
def laid_errors_errorType {H : Type} : DataW H := .iface "internal/reflectlite.rtype" (.agg [.ptr (.lit (.string [101, 114, 114, 111, 114]))])
def laid_nurserypy_api_ErrText {H : Type} : DataW H := .iface "*errors.errorString" (.ptr (.agg [.lit (.string [110, 117, 114, 115, 101, 114, 121, 112, 121, 58, 32, 116, 101, 120, 116])]))
def laid_nurserypy_api_ErrName {H : Type} : DataW H := .iface "*errors.errorString" (.ptr (.agg [.lit (.string [110, 117, 114, 115, 101, 114, 121, 112, 121, 58, 32, 110, 97, 109, 101])]))
def laid_nurserypy_api_ErrNone {H : Type} : DataW H := .iface "*errors.errorString" (.ptr (.agg [.lit (.string [110, 117, 114, 115, 101, 114, 121, 112, 121, 58, 32, 110, 111, 110, 101])]))
def laid_math_bits_deBruijn32tab {H : Type} : DataW H := .agg [.lit (.int .u8 0), .lit (.int .u8 1), .lit (.int .u8 28), .lit (.int .u8 2), .lit (.int .u8 29), .lit (.int .u8 14), .lit (.int .u8 24), .lit (.int .u8 3), .lit (.int .u8 30), .lit (.int .u8 22), .lit (.int .u8 20), .lit (.int .u8 15), .lit (.int .u8 25), .lit (.int .u8 17), .lit (.int .u8 4), .lit (.int .u8 8), .lit (.int .u8 31), .lit (.int .u8 27), .lit (.int .u8 13), .lit (.int .u8 23), .lit (.int .u8 21), .lit (.int .u8 19), .lit (.int .u8 16), .lit (.int .u8 7), .lit (.int .u8 26), .lit (.int .u8 12), .lit (.int .u8 18), .lit (.int .u8 6), .lit (.int .u8 11), .lit (.int .u8 5), .lit (.int .u8 10), .lit (.int .u8 9)]
def laid_math_bits_deBruijn64tab {H : Type} : DataW H := .agg [.lit (.int .u8 0), .lit (.int .u8 1), .lit (.int .u8 56), .lit (.int .u8 2), .lit (.int .u8 57), .lit (.int .u8 49), .lit (.int .u8 28), .lit (.int .u8 3), .lit (.int .u8 61), .lit (.int .u8 58), .lit (.int .u8 42), .lit (.int .u8 50), .lit (.int .u8 38), .lit (.int .u8 29), .lit (.int .u8 17), .lit (.int .u8 4), .lit (.int .u8 62), .lit (.int .u8 47), .lit (.int .u8 59), .lit (.int .u8 36), .lit (.int .u8 45), .lit (.int .u8 43), .lit (.int .u8 51), .lit (.int .u8 22), .lit (.int .u8 53), .lit (.int .u8 39), .lit (.int .u8 33), .lit (.int .u8 30), .lit (.int .u8 24), .lit (.int .u8 18), .lit (.int .u8 12), .lit (.int .u8 5), .lit (.int .u8 63), .lit (.int .u8 55), .lit (.int .u8 48), .lit (.int .u8 27), .lit (.int .u8 60), .lit (.int .u8 41), .lit (.int .u8 37), .lit (.int .u8 16), .lit (.int .u8 46), .lit (.int .u8 35), .lit (.int .u8 44), .lit (.int .u8 21), .lit (.int .u8 52), .lit (.int .u8 32), .lit (.int .u8 23), .lit (.int .u8 11), .lit (.int .u8 54), .lit (.int .u8 26), .lit (.int .u8 40), .lit (.int .u8 15), .lit (.int .u8 34), .lit (.int .u8 20), .lit (.int .u8 31), .lit (.int .u8 10), .lit (.int .u8 25), .lit (.int .u8 14), .lit (.int .u8 19), .lit (.int .u8 9), .lit (.int .u8 13), .lit (.int .u8 8), .lit (.int .u8 7), .lit (.int .u8 6)]
def laid_internal_strconv_uint64pow10 {H : Type} : DataW H := .agg [.lit (.int .u64 1), .lit (.int .u64 10), .lit (.int .u64 100), .lit (.int .u64 1000), .lit (.int .u64 10000), .lit (.int .u64 100000), .lit (.int .u64 1000000), .lit (.int .u64 10000000), .lit (.int .u64 100000000), .lit (.int .u64 1000000000), .lit (.int .u64 10000000000), .lit (.int .u64 100000000000), .lit (.int .u64 1000000000000), .lit (.int .u64 10000000000000), .lit (.int .u64 100000000000000), .lit (.int .u64 1000000000000000), .lit (.int .u64 10000000000000000), .lit (.int .u64 100000000000000000), .lit (.int .u64 1000000000000000000), .lit (.int .u64 10000000000000000000)]

/-- 'nurserypylaw3.WordTwice': WHATEVER THE INPUT: true; the input reads as it did. -/
def wordTwiceSpec : ChangeSpec := { name := "wordTwice", fn := fun _ => fun
  | [d1, d2, d3] => { results := [.lit (.bool true)], args := [d1, d2, d3] }
  | _ => none }
def wordTwiceRow : OpenClaim := { program := "ytpbfhkkecbnieaadoor", sum := "7d6e70e93feb48c84beaeb8cb1e946cb16f31fe0cac1407ce10d334f572ce099", func := "nurserypy/nurserypylaw3.WordTwice", spec := "wordTwice", unfollowed := true, recurses := true, named := ["nurserypy/api.ErrBound", "nurserypy/api.ErrShape"], apart := false, laid := [("nurserypy/api.ErrBound", laid_nurserypy_api_ErrBound), ("nurserypy/api.ErrShape", laid_nurserypy_api_ErrShape)] }
def WordTwiceSaid : Prop := wordTwiceRow.holds Tryd.pinned (OpenSpec.ofChange wordTwiceSpec)

/-- ITS FALSE NEIGHBOUR: 'it returns false'. Refute it at one input. -/
def wordTwiceWrong : ChangeSpec := { name := "wordTwice", fn := fun _ => fun
  | [d1, d2, d3] => { results := [.lit (.bool false)], args := [d1, d2, d3] }
  | _ => none }
def WordTwiceWrongFalsely : Prop := wordTwiceRow.holds Tryd.pinned (OpenSpec.ofChange wordTwiceWrong)

/-- 'nurserypylaw3.MemCopies': WHATEVER THE INPUT: true; the input reads as it did. -/
def memCopiesSpec : ChangeSpec := { name := "memCopies", fn := fun _ => fun
  | [d1, d2] => { results := [.lit (.bool true)], args := [d1, d2] }
  | _ => none }
def memCopiesRow : OpenClaim := { program := "ytpbfhkkecbnieaadoor", sum := "7d6e70e93feb48c84beaeb8cb1e946cb16f31fe0cac1407ce10d334f572ce099", func := "nurserypy/nurserypylaw3.MemCopies", spec := "memCopies", unfollowed := true, recurses := true, named := ["nurserypy/api.ErrBound", "nurserypy/api.ErrShape", "nurserypy/api.ErrPlace", "nurserypy/api.ErrFull"], apart := false, laid := [("nurserypy/api.ErrBound", laid_nurserypy_api_ErrBound), ("nurserypy/api.ErrShape", laid_nurserypy_api_ErrShape), ("nurserypy/api.ErrPlace", laid_nurserypy_api_ErrPlace), ("nurserypy/api.ErrFull", laid_nurserypy_api_ErrFull)] }
def MemCopiesSaid : Prop := memCopiesRow.holds Tryd.pinned (OpenSpec.ofChange memCopiesSpec)

/-- ITS FALSE NEIGHBOUR: 'it returns false'. Refute it at one input. -/
def memCopiesWrong : ChangeSpec := { name := "memCopies", fn := fun _ => fun
  | [d1, d2] => { results := [.lit (.bool false)], args := [d1, d2] }
  | _ => none }
def MemCopiesWrongFalsely : Prop := memCopiesRow.holds Tryd.pinned (OpenSpec.ofChange memCopiesWrong)

/-- 'nurserypylaw3.MemWalks': WHATEVER THE INPUT: true; the input reads as it did. -/
def memWalksSpec : ChangeSpec := { name := "memWalks", fn := fun _ => fun
  | [d] => { results := [.lit (.bool true)], args := [d] }
  | _ => none }
def memWalksRow : OpenClaim := { program := "ytpbfhkkecbnieaadoor", sum := "7d6e70e93feb48c84beaeb8cb1e946cb16f31fe0cac1407ce10d334f572ce099", func := "nurserypy/nurserypylaw3.MemWalks", spec := "memWalks", unfollowed := true, recurses := true, named := ["nurserypy/api.ErrBound", "nurserypy/api.ErrShape", "nurserypy/api.ErrPlace"], apart := false, laid := [("nurserypy/api.ErrBound", laid_nurserypy_api_ErrBound), ("nurserypy/api.ErrShape", laid_nurserypy_api_ErrShape), ("nurserypy/api.ErrPlace", laid_nurserypy_api_ErrPlace)] }
def MemWalksSaid : Prop := memWalksRow.holds Tryd.pinned (OpenSpec.ofChange memWalksSpec)

/-- ITS FALSE NEIGHBOUR: 'it returns false'. Refute it at one input. -/
def memWalksWrong : ChangeSpec := { name := "memWalks", fn := fun _ => fun
  | [d] => { results := [.lit (.bool false)], args := [d] }
  | _ => none }
def MemWalksWrongFalsely : Prop := memWalksRow.holds Tryd.pinned (OpenSpec.ofChange memWalksWrong)

/-- 'nurserypylaw3.WordInts': WHATEVER THE INPUT: true; the input reads as it did. -/
def wordIntsSpec : ChangeSpec := { name := "wordInts", fn := fun _ => fun
  | [d1, d2] => { results := [.lit (.bool true)], args := [d1, d2] }
  | _ => none }
def wordIntsRow : OpenClaim := { program := "ytpbfhkkecbnieaadoor", sum := "7d6e70e93feb48c84beaeb8cb1e946cb16f31fe0cac1407ce10d334f572ce099", func := "nurserypy/nurserypylaw3.WordInts", spec := "wordInts", inPlace := ["internal/reflectlite.ValueOf", "(internal/reflectlite.Value).Type", "(internal/reflectlite.Value).IsNil", "internal/reflectlite.TypeOf", "(internal/reflectlite.Value).Elem", "(internal/reflectlite.Value).Set"], unfollowed := true, recurses := true, named := ["nurserypy/api.ErrBound", "nurserypy/api.ErrText", "nurserypy/api.ErrShape", "nurserypy/api.ErrName", "nurserypy/api.ErrPlace", "nurserypy/api.ErrFull", "nurserypy/api.ErrNone", "errors.errorType"], apart := false, laid := [("errors.errorType", laid_errors_errorType), ("nurserypy/api.ErrText", laid_nurserypy_api_ErrText), ("nurserypy/api.ErrBound", laid_nurserypy_api_ErrBound), ("nurserypy/api.ErrShape", laid_nurserypy_api_ErrShape), ("nurserypy/api.ErrName", laid_nurserypy_api_ErrName), ("nurserypy/api.ErrPlace", laid_nurserypy_api_ErrPlace), ("nurserypy/api.ErrFull", laid_nurserypy_api_ErrFull), ("nurserypy/api.ErrNone", laid_nurserypy_api_ErrNone)] }
def WordIntsSaid : Prop := wordIntsRow.holds Tryd.pinned (OpenSpec.ofChange wordIntsSpec)

/-- ITS FALSE NEIGHBOUR: 'it returns false'. Refute it at one input. -/
def wordIntsWrong : ChangeSpec := { name := "wordInts", fn := fun _ => fun
  | [d1, d2] => { results := [.lit (.bool false)], args := [d1, d2] }
  | _ => none }
def WordIntsWrongFalsely : Prop := wordIntsRow.holds Tryd.pinned (OpenSpec.ofChange wordIntsWrong)

/-- 'nurserypylaw3.WordHeads': WHATEVER THE INPUT: true; the input reads as it did. -/
def wordHeadsSpec : ChangeSpec := { name := "wordHeads", fn := fun _ => fun
  | [d1, d2, d3, d4, d5] => { results := [.lit (.bool true)], args := [d1, d2, d3, d4, d5] }
  | _ => none }
def wordHeadsRow : OpenClaim := { program := "ytpbfhkkecbnieaadoor", sum := "7d6e70e93feb48c84beaeb8cb1e946cb16f31fe0cac1407ce10d334f572ce099", func := "nurserypy/nurserypylaw3.WordHeads", spec := "wordHeads", inPlace := ["internal/reflectlite.ValueOf", "(internal/reflectlite.Value).Type", "(internal/reflectlite.Value).IsNil", "internal/reflectlite.TypeOf", "(internal/reflectlite.Value).Elem", "(internal/reflectlite.Value).Set"], unfollowed := true, recurses := true, named := ["nurserypy/api.ErrBound", "nurserypy/api.ErrText", "nurserypy/api.ErrShape", "nurserypy/api.ErrName", "nurserypy/api.ErrPlace", "nurserypy/api.ErrFull", "nurserypy/api.ErrNone", "errors.errorType"], apart := false, laid := [("errors.errorType", laid_errors_errorType), ("nurserypy/api.ErrText", laid_nurserypy_api_ErrText), ("nurserypy/api.ErrBound", laid_nurserypy_api_ErrBound), ("nurserypy/api.ErrShape", laid_nurserypy_api_ErrShape), ("nurserypy/api.ErrName", laid_nurserypy_api_ErrName), ("nurserypy/api.ErrPlace", laid_nurserypy_api_ErrPlace), ("nurserypy/api.ErrFull", laid_nurserypy_api_ErrFull), ("nurserypy/api.ErrNone", laid_nurserypy_api_ErrNone)] }
def WordHeadsSaid : Prop := wordHeadsRow.holds Tryd.pinned (OpenSpec.ofChange wordHeadsSpec)

/-- ITS FALSE NEIGHBOUR: 'it returns false'. Refute it at one input. -/
def wordHeadsWrong : ChangeSpec := { name := "wordHeads", fn := fun _ => fun
  | [d1, d2, d3, d4, d5] => { results := [.lit (.bool false)], args := [d1, d2, d3, d4, d5] }
  | _ => none }
def WordHeadsWrongFalsely : Prop := wordHeadsRow.holds Tryd.pinned (OpenSpec.ofChange wordHeadsWrong)

/-- 'nurserypylaw3.WordBytes': WHATEVER THE INPUT: true; the input reads as it did. -/
def wordBytesSpec : ChangeSpec := { name := "wordBytes", fn := fun _ => fun
  | [d1, d2] => { results := [.lit (.bool true)], args := [d1, d2] }
  | _ => none }
def wordBytesRow : OpenClaim := { program := "ytpbfhkkecbnieaadoor", sum := "7d6e70e93feb48c84beaeb8cb1e946cb16f31fe0cac1407ce10d334f572ce099", func := "nurserypy/nurserypylaw3.WordBytes", spec := "wordBytes", inPlace := ["internal/reflectlite.ValueOf", "(internal/reflectlite.Value).Type", "(internal/reflectlite.Value).IsNil", "internal/reflectlite.TypeOf", "(internal/reflectlite.Value).Elem", "(internal/reflectlite.Value).Set"], unfollowed := true, recurses := true, named := ["nurserypy/api.ErrBound", "nurserypy/api.ErrText", "nurserypy/api.ErrShape", "nurserypy/api.ErrName", "nurserypy/api.ErrPlace", "nurserypy/api.ErrFull", "nurserypy/api.ErrNone", "errors.errorType"], apart := false, laid := [("errors.errorType", laid_errors_errorType), ("nurserypy/api.ErrText", laid_nurserypy_api_ErrText), ("nurserypy/api.ErrBound", laid_nurserypy_api_ErrBound), ("nurserypy/api.ErrShape", laid_nurserypy_api_ErrShape), ("nurserypy/api.ErrName", laid_nurserypy_api_ErrName), ("nurserypy/api.ErrPlace", laid_nurserypy_api_ErrPlace), ("nurserypy/api.ErrFull", laid_nurserypy_api_ErrFull), ("nurserypy/api.ErrNone", laid_nurserypy_api_ErrNone)] }
def WordBytesSaid : Prop := wordBytesRow.holds Tryd.pinned (OpenSpec.ofChange wordBytesSpec)

/-- ITS FALSE NEIGHBOUR: 'it returns false'. Refute it at one input. -/
def wordBytesWrong : ChangeSpec := { name := "wordBytes", fn := fun _ => fun
  | [d1, d2] => { results := [.lit (.bool false)], args := [d1, d2] }
  | _ => none }
def WordBytesWrongFalsely : Prop := wordBytesRow.holds Tryd.pinned (OpenSpec.ofChange wordBytesWrong)

/-- 'nurserypylaw3.WordAddrs': WHATEVER THE INPUT: true; the input reads as it did. -/
def wordAddrsSpec : ChangeSpec := { name := "wordAddrs", fn := fun _ => fun
  | [d1, d2] => { results := [.lit (.bool true)], args := [d1, d2] }
  | _ => none }
def wordAddrsRow : OpenClaim := { program := "ytpbfhkkecbnieaadoor", sum := "7d6e70e93feb48c84beaeb8cb1e946cb16f31fe0cac1407ce10d334f572ce099", func := "nurserypy/nurserypylaw3.WordAddrs", spec := "wordAddrs", inPlace := ["internal/reflectlite.ValueOf", "(internal/reflectlite.Value).Type", "(internal/reflectlite.Value).IsNil", "internal/reflectlite.TypeOf", "(internal/reflectlite.Value).Elem", "(internal/reflectlite.Value).Set"], unfollowed := true, recurses := true, named := ["nurserypy/api.ErrBound", "nurserypy/api.ErrText", "nurserypy/api.ErrShape", "nurserypy/api.ErrName", "nurserypy/api.ErrPlace", "nurserypy/api.ErrFull", "nurserypy/api.ErrNone", "errors.errorType"], apart := false, laid := [("errors.errorType", laid_errors_errorType), ("nurserypy/api.ErrText", laid_nurserypy_api_ErrText), ("nurserypy/api.ErrBound", laid_nurserypy_api_ErrBound), ("nurserypy/api.ErrShape", laid_nurserypy_api_ErrShape), ("nurserypy/api.ErrName", laid_nurserypy_api_ErrName), ("nurserypy/api.ErrPlace", laid_nurserypy_api_ErrPlace), ("nurserypy/api.ErrFull", laid_nurserypy_api_ErrFull), ("nurserypy/api.ErrNone", laid_nurserypy_api_ErrNone)] }
def WordAddrsSaid : Prop := wordAddrsRow.holds Tryd.pinned (OpenSpec.ofChange wordAddrsSpec)

/-- ITS FALSE NEIGHBOUR: 'it returns false'. Refute it at one input. -/
def wordAddrsWrong : ChangeSpec := { name := "wordAddrs", fn := fun _ => fun
  | [d1, d2] => { results := [.lit (.bool false)], args := [d1, d2] }
  | _ => none }
def WordAddrsWrongFalsely : Prop := wordAddrsRow.holds Tryd.pinned (OpenSpec.ofChange wordAddrsWrong)

/-- 'nurserypylaw3.MinorAges': WHATEVER THE INPUT: true; the input reads as it did. -/
def minorAgesSpec : ChangeSpec := { name := "minorAges", fn := fun _ => fun
  | [d1, d2] => { results := [.lit (.bool true)], args := [d1, d2] }
  | _ => none }
def minorAgesRow : OpenClaim := { program := "ytpbfhkkecbnieaadoor", sum := "7d6e70e93feb48c84beaeb8cb1e946cb16f31fe0cac1407ce10d334f572ce099", func := "nurserypy/nurserypylaw3.MinorAges", spec := "minorAges", unfollowed := true, recurses := true, named := ["nurserypy/api.ErrBound", "nurserypy/api.ErrShape", "nurserypy/api.ErrFull", "nurserypy/api.ErrPlace"], apart := false, laid := [("nurserypy/api.ErrBound", laid_nurserypy_api_ErrBound), ("nurserypy/api.ErrShape", laid_nurserypy_api_ErrShape), ("nurserypy/api.ErrPlace", laid_nurserypy_api_ErrPlace), ("nurserypy/api.ErrFull", laid_nurserypy_api_ErrFull)] }
def MinorAgesSaid : Prop := minorAgesRow.holds Tryd.pinned (OpenSpec.ofChange minorAgesSpec)

/-- ITS FALSE NEIGHBOUR: 'it returns false'. Refute it at one input. -/
def minorAgesWrong : ChangeSpec := { name := "minorAges", fn := fun _ => fun
  | [d1, d2] => { results := [.lit (.bool false)], args := [d1, d2] }
  | _ => none }
def MinorAgesWrongFalsely : Prop := minorAgesRow.holds Tryd.pinned (OpenSpec.ofChange minorAgesWrong)

/-- 'nurserypylaw3.MinorGrows': WHATEVER THE INPUT: true; the input reads as it did. -/
def minorGrowsSpec : ChangeSpec := { name := "minorGrows", fn := fun _ => fun
  | [d1, d2] => { results := [.lit (.bool true)], args := [d1, d2] }
  | _ => none }
def minorGrowsRow : OpenClaim := { program := "ytpbfhkkecbnieaadoor", sum := "7d6e70e93feb48c84beaeb8cb1e946cb16f31fe0cac1407ce10d334f572ce099", func := "nurserypy/nurserypylaw3.MinorGrows", spec := "minorGrows", unfollowed := true, recurses := true, named := ["nurserypy/api.ErrBound", "nurserypy/api.ErrShape", "nurserypy/api.ErrFull", "nurserypy/api.ErrPlace"], apart := false, laid := [("nurserypy/api.ErrBound", laid_nurserypy_api_ErrBound), ("nurserypy/api.ErrShape", laid_nurserypy_api_ErrShape), ("nurserypy/api.ErrPlace", laid_nurserypy_api_ErrPlace), ("nurserypy/api.ErrFull", laid_nurserypy_api_ErrFull)] }
def MinorGrowsSaid : Prop := minorGrowsRow.holds Tryd.pinned (OpenSpec.ofChange minorGrowsSpec)

/-- ITS FALSE NEIGHBOUR: 'it returns false'. Refute it at one input. -/
def minorGrowsWrong : ChangeSpec := { name := "minorGrows", fn := fun _ => fun
  | [d1, d2] => { results := [.lit (.bool false)], args := [d1, d2] }
  | _ => none }
def MinorGrowsWrongFalsely : Prop := minorGrowsRow.holds Tryd.pinned (OpenSpec.ofChange minorGrowsWrong)

/-- 'nurserypylaw3.MemNew': WHATEVER THE INPUT: true; the input reads as it did. -/
def memNewSpec : ChangeSpec := { name := "memNew", fn := fun _ => fun
  | [d1, d2, d3] => { results := [.lit (.bool true)], args := [d1, d2, d3] }
  | _ => none }
def memNewRow : OpenClaim := { program := "ytpbfhkkecbnieaadoor", sum := "7d6e70e93feb48c84beaeb8cb1e946cb16f31fe0cac1407ce10d334f572ce099", func := "nurserypy/nurserypylaw3.MemNew", spec := "memNew", inPlace := ["internal/reflectlite.ValueOf", "(internal/reflectlite.Value).Type", "(internal/reflectlite.Value).IsNil", "internal/reflectlite.TypeOf", "(internal/reflectlite.Value).Elem", "(internal/reflectlite.Value).Set"], unfollowed := true, recurses := true, named := ["nurserypy/api.ErrBound", "nurserypy/api.ErrShape", "nurserypy/api.ErrPlace", "nurserypy/api.ErrText", "nurserypy/api.ErrName", "nurserypy/api.ErrFull", "nurserypy/api.ErrNone", "errors.errorType"], apart := false, laid := [("errors.errorType", laid_errors_errorType), ("nurserypy/api.ErrText", laid_nurserypy_api_ErrText), ("nurserypy/api.ErrBound", laid_nurserypy_api_ErrBound), ("nurserypy/api.ErrShape", laid_nurserypy_api_ErrShape), ("nurserypy/api.ErrName", laid_nurserypy_api_ErrName), ("nurserypy/api.ErrPlace", laid_nurserypy_api_ErrPlace), ("nurserypy/api.ErrFull", laid_nurserypy_api_ErrFull), ("nurserypy/api.ErrNone", laid_nurserypy_api_ErrNone)] }
def MemNewSaid : Prop := memNewRow.holds Tryd.pinned (OpenSpec.ofChange memNewSpec)

/-- ITS FALSE NEIGHBOUR: 'it returns false'. Refute it at one input. -/
def memNewWrong : ChangeSpec := { name := "memNew", fn := fun _ => fun
  | [d1, d2, d3] => { results := [.lit (.bool false)], args := [d1, d2, d3] }
  | _ => none }
def MemNewWrongFalsely : Prop := memNewRow.holds Tryd.pinned (OpenSpec.ofChange memNewWrong)

/-- 'nurserypylaw3.MemAllocs': WHATEVER THE INPUT: true; the input reads as it did. -/
def memAllocsSpec : ChangeSpec := { name := "memAllocs", fn := fun _ => fun
  | [d1, d2, d3] => { results := [.lit (.bool true)], args := [d1, d2, d3] }
  | _ => none }
def memAllocsRow : OpenClaim := { program := "ytpbfhkkecbnieaadoor", sum := "7d6e70e93feb48c84beaeb8cb1e946cb16f31fe0cac1407ce10d334f572ce099", func := "nurserypy/nurserypylaw3.MemAllocs", spec := "memAllocs", inPlace := ["internal/reflectlite.ValueOf", "(internal/reflectlite.Value).Type", "(internal/reflectlite.Value).IsNil", "internal/reflectlite.TypeOf", "(internal/reflectlite.Value).Elem", "(internal/reflectlite.Value).Set"], unfollowed := true, recurses := true, named := ["nurserypy/api.ErrBound", "nurserypy/api.ErrShape", "nurserypy/api.ErrPlace", "nurserypy/api.ErrFull", "nurserypy/api.ErrText", "nurserypy/api.ErrName", "nurserypy/api.ErrNone", "errors.errorType"], apart := false, laid := [("errors.errorType", laid_errors_errorType), ("nurserypy/api.ErrText", laid_nurserypy_api_ErrText), ("nurserypy/api.ErrBound", laid_nurserypy_api_ErrBound), ("nurserypy/api.ErrShape", laid_nurserypy_api_ErrShape), ("nurserypy/api.ErrName", laid_nurserypy_api_ErrName), ("nurserypy/api.ErrPlace", laid_nurserypy_api_ErrPlace), ("nurserypy/api.ErrFull", laid_nurserypy_api_ErrFull), ("nurserypy/api.ErrNone", laid_nurserypy_api_ErrNone)] }
def MemAllocsSaid : Prop := memAllocsRow.holds Tryd.pinned (OpenSpec.ofChange memAllocsSpec)

/-- ITS FALSE NEIGHBOUR: 'it returns false'. Refute it at one input. -/
def memAllocsWrong : ChangeSpec := { name := "memAllocs", fn := fun _ => fun
  | [d1, d2, d3] => { results := [.lit (.bool false)], args := [d1, d2, d3] }
  | _ => none }
def MemAllocsWrongFalsely : Prop := memAllocsRow.holds Tryd.pinned (OpenSpec.ofChange memAllocsWrong)

/-- 'nurserypylaw3.MemFields': WHATEVER THE INPUT: true; the input reads as it did. -/
def memFieldsSpec : ChangeSpec := { name := "memFields", fn := fun _ => fun
  | [d1, d2, d3, d4] => { results := [.lit (.bool true)], args := [d1, d2, d3, d4] }
  | _ => none }
def memFieldsRow : OpenClaim := { program := "ytpbfhkkecbnieaadoor", sum := "7d6e70e93feb48c84beaeb8cb1e946cb16f31fe0cac1407ce10d334f572ce099", func := "nurserypy/nurserypylaw3.MemFields", spec := "memFields", inPlace := ["internal/reflectlite.ValueOf", "(internal/reflectlite.Value).Type", "(internal/reflectlite.Value).IsNil", "internal/reflectlite.TypeOf", "(internal/reflectlite.Value).Elem", "(internal/reflectlite.Value).Set"], unfollowed := true, recurses := true, named := ["nurserypy/api.ErrBound", "nurserypy/api.ErrShape", "nurserypy/api.ErrPlace", "nurserypy/api.ErrText", "nurserypy/api.ErrName", "nurserypy/api.ErrFull", "nurserypy/api.ErrNone", "errors.errorType"], apart := false, laid := [("errors.errorType", laid_errors_errorType), ("nurserypy/api.ErrText", laid_nurserypy_api_ErrText), ("nurserypy/api.ErrBound", laid_nurserypy_api_ErrBound), ("nurserypy/api.ErrShape", laid_nurserypy_api_ErrShape), ("nurserypy/api.ErrName", laid_nurserypy_api_ErrName), ("nurserypy/api.ErrPlace", laid_nurserypy_api_ErrPlace), ("nurserypy/api.ErrFull", laid_nurserypy_api_ErrFull), ("nurserypy/api.ErrNone", laid_nurserypy_api_ErrNone)] }
def MemFieldsSaid : Prop := memFieldsRow.holds Tryd.pinned (OpenSpec.ofChange memFieldsSpec)

/-- ITS FALSE NEIGHBOUR: 'it returns false'. Refute it at one input. -/
def memFieldsWrong : ChangeSpec := { name := "memFields", fn := fun _ => fun
  | [d1, d2, d3, d4] => { results := [.lit (.bool false)], args := [d1, d2, d3, d4] }
  | _ => none }
def MemFieldsWrongFalsely : Prop := memFieldsRow.holds Tryd.pinned (OpenSpec.ofChange memFieldsWrong)

/-- 'nurserypylaw3.CodeTexts': WHATEVER THE INPUT: true; the input reads as it did. -/
def codeTextsSpec : ChangeSpec := { name := "codeTexts", fn := fun _ => fun
  | [d] => { results := [.lit (.bool true)], args := [d] }
  | _ => none }
def codeTextsRow : OpenClaim := { program := "ytpbfhkkecbnieaadoor", sum := "7d6e70e93feb48c84beaeb8cb1e946cb16f31fe0cac1407ce10d334f572ce099", func := "nurserypy/nurserypylaw3.CodeTexts", spec := "codeTexts", inPlace := ["internal/abi.NoEscape", "internal/bytealg.MakeNoZero"], unfollowed := true, recurses := true, named := ["nurserypy/api.ErrBound", "nurserypy/api.ErrShape", "internal/strconv.uint64pow10", "math/bits.deBruijn32tab", "math/bits.deBruijn64tab"], apart := false, laid := [("math/bits.deBruijn32tab", laid_math_bits_deBruijn32tab), ("math/bits.deBruijn64tab", laid_math_bits_deBruijn64tab), ("internal/strconv.uint64pow10", laid_internal_strconv_uint64pow10), ("nurserypy/api.ErrBound", laid_nurserypy_api_ErrBound), ("nurserypy/api.ErrShape", laid_nurserypy_api_ErrShape)] }
def CodeTextsSaid : Prop := codeTextsRow.holds Tryd.pinned (OpenSpec.ofChange codeTextsSpec)

/-- ITS FALSE NEIGHBOUR: 'it returns false'. Refute it at one input. -/
def codeTextsWrong : ChangeSpec := { name := "codeTexts", fn := fun _ => fun
  | [d] => { results := [.lit (.bool false)], args := [d] }
  | _ => none }
def CodeTextsWrongFalsely : Prop := codeTextsRow.holds Tryd.pinned (OpenSpec.ofChange codeTextsWrong)

/-- 'nurserypylaw3.CodeVerifies': WHATEVER THE INPUT: true; the input reads as it did. -/
def codeVerifiesSpec : ChangeSpec := { name := "codeVerifies", fn := fun _ => fun
  | [d] => { results := [.lit (.bool true)], args := [d] }
  | _ => none }
def codeVerifiesRow : OpenClaim := { program := "ytpbfhkkecbnieaadoor", sum := "7d6e70e93feb48c84beaeb8cb1e946cb16f31fe0cac1407ce10d334f572ce099", func := "nurserypy/nurserypylaw3.CodeVerifies", spec := "codeVerifies", inPlace := ["internal/abi.NoEscape", "internal/bytealg.MakeNoZero", "internal/reflectlite.ValueOf", "(internal/reflectlite.Value).Type", "(internal/reflectlite.Value).IsNil", "internal/reflectlite.TypeOf", "(internal/reflectlite.Value).Elem", "(internal/reflectlite.Value).Set"], unfollowed := true, recurses := true, named := ["nurserypy/api.ErrBound", "nurserypy/api.ErrShape", "internal/strconv.uint64pow10", "math/bits.deBruijn32tab", "math/bits.deBruijn64tab", "nurserypy/api.ErrText", "nurserypy/api.ErrName", "nurserypy/api.ErrPlace", "nurserypy/api.ErrFull", "nurserypy/api.ErrNone", "errors.errorType"], apart := false, laid := [("math/bits.deBruijn32tab", laid_math_bits_deBruijn32tab), ("math/bits.deBruijn64tab", laid_math_bits_deBruijn64tab), ("internal/strconv.uint64pow10", laid_internal_strconv_uint64pow10), ("errors.errorType", laid_errors_errorType), ("nurserypy/api.ErrText", laid_nurserypy_api_ErrText), ("nurserypy/api.ErrBound", laid_nurserypy_api_ErrBound), ("nurserypy/api.ErrShape", laid_nurserypy_api_ErrShape), ("nurserypy/api.ErrName", laid_nurserypy_api_ErrName), ("nurserypy/api.ErrPlace", laid_nurserypy_api_ErrPlace), ("nurserypy/api.ErrFull", laid_nurserypy_api_ErrFull), ("nurserypy/api.ErrNone", laid_nurserypy_api_ErrNone)] }
def CodeVerifiesSaid : Prop := codeVerifiesRow.holds Tryd.pinned (OpenSpec.ofChange codeVerifiesSpec)

/-- ITS FALSE NEIGHBOUR: 'it returns false'. Refute it at one input. -/
def codeVerifiesWrong : ChangeSpec := { name := "codeVerifies", fn := fun _ => fun
  | [d] => { results := [.lit (.bool false)], args := [d] }
  | _ => none }
def CodeVerifiesWrongFalsely : Prop := codeVerifiesRow.holds Tryd.pinned (OpenSpec.ofChange codeVerifiesWrong)

/-- 'nurserypylaw3.CodeWide': WHATEVER THE INPUT: true; the input reads as it did. -/
def codeWideSpec : ChangeSpec := { name := "codeWide", fn := fun _ => fun
  | [d1, d2, d3, d4] => { results := [.lit (.bool true)], args := [d1, d2, d3, d4] }
  | _ => none }
def codeWideRow : OpenClaim := { program := "ytpbfhkkecbnieaadoor", sum := "7d6e70e93feb48c84beaeb8cb1e946cb16f31fe0cac1407ce10d334f572ce099", func := "nurserypy/nurserypylaw3.CodeWide", spec := "codeWide", inPlace := ["internal/abi.NoEscape", "internal/bytealg.MakeNoZero", "internal/reflectlite.ValueOf", "(internal/reflectlite.Value).Type", "(internal/reflectlite.Value).IsNil", "internal/reflectlite.TypeOf", "(internal/reflectlite.Value).Elem", "(internal/reflectlite.Value).Set"], unfollowed := true, recurses := true, named := ["nurserypy/api.ErrBound", "nurserypy/api.ErrShape", "internal/strconv.uint64pow10", "math/bits.deBruijn32tab", "math/bits.deBruijn64tab", "nurserypy/api.ErrText", "nurserypy/api.ErrName", "nurserypy/api.ErrPlace", "nurserypy/api.ErrFull", "nurserypy/api.ErrNone", "errors.errorType"], apart := false, laid := [("math/bits.deBruijn32tab", laid_math_bits_deBruijn32tab), ("math/bits.deBruijn64tab", laid_math_bits_deBruijn64tab), ("internal/strconv.uint64pow10", laid_internal_strconv_uint64pow10), ("errors.errorType", laid_errors_errorType), ("nurserypy/api.ErrText", laid_nurserypy_api_ErrText), ("nurserypy/api.ErrBound", laid_nurserypy_api_ErrBound), ("nurserypy/api.ErrShape", laid_nurserypy_api_ErrShape), ("nurserypy/api.ErrName", laid_nurserypy_api_ErrName), ("nurserypy/api.ErrPlace", laid_nurserypy_api_ErrPlace), ("nurserypy/api.ErrFull", laid_nurserypy_api_ErrFull), ("nurserypy/api.ErrNone", laid_nurserypy_api_ErrNone)] }
def CodeWideSaid : Prop := codeWideRow.holds Tryd.pinned (OpenSpec.ofChange codeWideSpec)

/-- ITS FALSE NEIGHBOUR: 'it returns false'. Refute it at one input. -/
def codeWideWrong : ChangeSpec := { name := "codeWide", fn := fun _ => fun
  | [d1, d2, d3, d4] => { results := [.lit (.bool false)], args := [d1, d2, d3, d4] }
  | _ => none }
def CodeWideWrongFalsely : Prop := codeWideRow.holds Tryd.pinned (OpenSpec.ofChange codeWideWrong)

/-- 'nurserypylaw3.MajorOrder': WHATEVER THE INPUT: true; the input reads as it did. -/
def majorOrderSpec : ChangeSpec := { name := "majorOrder", fn := fun _ => fun
  | [d] => { results := [.lit (.bool true)], args := [d] }
  | _ => none }
def majorOrderRow : OpenClaim := { program := "ytpbfhkkecbnieaadoor", sum := "7d6e70e93feb48c84beaeb8cb1e946cb16f31fe0cac1407ce10d334f572ce099", func := "nurserypy/nurserypylaw3.MajorOrder", spec := "majorOrder", unfollowed := true, recurses := true, named := ["nurserypy/api.ErrBound", "nurserypy/api.ErrShape", "nurserypy/api.ErrFull", "nurserypy/api.ErrPlace"], apart := false, laid := [("nurserypy/api.ErrBound", laid_nurserypy_api_ErrBound), ("nurserypy/api.ErrShape", laid_nurserypy_api_ErrShape), ("nurserypy/api.ErrPlace", laid_nurserypy_api_ErrPlace), ("nurserypy/api.ErrFull", laid_nurserypy_api_ErrFull)] }
def MajorOrderSaid : Prop := majorOrderRow.holds Tryd.pinned (OpenSpec.ofChange majorOrderSpec)

/-- ITS FALSE NEIGHBOUR: 'it returns false'. Refute it at one input. -/
def majorOrderWrong : ChangeSpec := { name := "majorOrder", fn := fun _ => fun
  | [d] => { results := [.lit (.bool false)], args := [d] }
  | _ => none }
def MajorOrderWrongFalsely : Prop := majorOrderRow.holds Tryd.pinned (OpenSpec.ofChange majorOrderWrong)

/-- 'nurserypylaw3.MajorTwice': WHATEVER THE INPUT: true; the input reads as it did. -/
def majorTwiceSpec : ChangeSpec := { name := "majorTwice", fn := fun _ => fun
  | [d1, d2] => { results := [.lit (.bool true)], args := [d1, d2] }
  | _ => none }
def majorTwiceRow : OpenClaim := { program := "ytpbfhkkecbnieaadoor", sum := "7d6e70e93feb48c84beaeb8cb1e946cb16f31fe0cac1407ce10d334f572ce099", func := "nurserypy/nurserypylaw3.MajorTwice", spec := "majorTwice", unfollowed := true, recurses := true, named := ["nurserypy/api.ErrBound", "nurserypy/api.ErrShape", "nurserypy/api.ErrFull", "nurserypy/api.ErrPlace"], apart := false, laid := [("nurserypy/api.ErrBound", laid_nurserypy_api_ErrBound), ("nurserypy/api.ErrShape", laid_nurserypy_api_ErrShape), ("nurserypy/api.ErrPlace", laid_nurserypy_api_ErrPlace), ("nurserypy/api.ErrFull", laid_nurserypy_api_ErrFull)] }
def MajorTwiceSaid : Prop := majorTwiceRow.holds Tryd.pinned (OpenSpec.ofChange majorTwiceSpec)

/-- ITS FALSE NEIGHBOUR: 'it returns false'. Refute it at one input. -/
def majorTwiceWrong : ChangeSpec := { name := "majorTwice", fn := fun _ => fun
  | [d1, d2] => { results := [.lit (.bool false)], args := [d1, d2] }
  | _ => none }
def MajorTwiceWrongFalsely : Prop := majorTwiceRow.holds Tryd.pinned (OpenSpec.ofChange majorTwiceWrong)

/- THE SECOND FORM. 'bulk': how many values and letters a reading holds, each counted each time it is reached (what is shared counts as often as it is met; a slice's spare places count too). A statement '..UptoSaid' is the law's where the arguments, and the package variables that the reading takes, are together of bulk at most 1048576: NARROWER than '..Said'. Prove '..Said' where nothing that the law and all that it calls make is longer than what came in: it says more and counts as full. Else prove '..UptoSaid'. A law counts once. -/
mutual
def uptoBulk {H : Type} : DataW H → Nat
  | .lit (.string bytes) => bytes.length + 1
  | .lit _ => 1
  | .nil => 1
  | .ptr d => uptoBulk d + 1
  | .slice elems spare => uptoBulkAll elems + uptoBulkAll spare + 1
  | .agg parts => uptoBulkAll parts + 1
  | .iface _ d => uptoBulk d + 1
  | .map entries => uptoBulkEntries entries + 1
  | .held _ => 1
def uptoBulkAll {H : Type} : List (DataW H) → Nat
  | [] => 0
  | d :: r => uptoBulk d + uptoBulkAll r
def uptoBulkEntries {H : Type} : List (Lit × DataW H) → Nat
  | [] => 0
  | x :: r => uptoBulkEntry x + uptoBulkEntries r
def uptoBulkEntry {H : Type} : Lit × DataW H → Nat
  | (.string bytes, d) => bytes.length + uptoBulk d + 1
  | (_, d) => uptoBulk d + 1
 end
def uptoSmall : (H : Type) → List (DataW H) → Bool := fun _ ds => decide (uptoBulkAll ds ≤ 1048576)
def OpenSpec.upto (s : _root_.Go.ChangeSpec) : _root_.Go.OpenSpec := { _root_.Go.OpenSpec.ofChange s with cond := some uptoSmall }

/-- 'nurserypylaw3.WordTwice', WHERE WHAT IT READS IS OF BULK AT MOST 1048576: true; the input reads as it did. -/
def wordTwiceUptoRow : OpenClaim := { program := "ytpbfhkkecbnieaadoor", sum := "7d6e70e93feb48c84beaeb8cb1e946cb16f31fe0cac1407ce10d334f572ce099", func := "nurserypy/nurserypylaw3.WordTwice", spec := "wordTwice", unfollowed := true, recurses := true, named := ["nurserypy/api.ErrBound", "nurserypy/api.ErrShape"], apart := false, laid := [("nurserypy/api.ErrBound", laid_nurserypy_api_ErrBound), ("nurserypy/api.ErrShape", laid_nurserypy_api_ErrShape)], narrowed := true }
def WordTwiceUptoSaid : Prop := wordTwiceUptoRow.holds Tryd.pinned (OpenSpec.upto wordTwiceSpec)

/-- 'nurserypylaw3.MemCopies', WHERE WHAT IT READS IS OF BULK AT MOST 1048576: true; the input reads as it did. -/
def memCopiesUptoRow : OpenClaim := { program := "ytpbfhkkecbnieaadoor", sum := "7d6e70e93feb48c84beaeb8cb1e946cb16f31fe0cac1407ce10d334f572ce099", func := "nurserypy/nurserypylaw3.MemCopies", spec := "memCopies", unfollowed := true, recurses := true, named := ["nurserypy/api.ErrBound", "nurserypy/api.ErrShape", "nurserypy/api.ErrPlace", "nurserypy/api.ErrFull"], apart := false, laid := [("nurserypy/api.ErrBound", laid_nurserypy_api_ErrBound), ("nurserypy/api.ErrShape", laid_nurserypy_api_ErrShape), ("nurserypy/api.ErrPlace", laid_nurserypy_api_ErrPlace), ("nurserypy/api.ErrFull", laid_nurserypy_api_ErrFull)], narrowed := true }
def MemCopiesUptoSaid : Prop := memCopiesUptoRow.holds Tryd.pinned (OpenSpec.upto memCopiesSpec)

/-- 'nurserypylaw3.MemWalks', WHERE WHAT IT READS IS OF BULK AT MOST 1048576: true; the input reads as it did. -/
def memWalksUptoRow : OpenClaim := { program := "ytpbfhkkecbnieaadoor", sum := "7d6e70e93feb48c84beaeb8cb1e946cb16f31fe0cac1407ce10d334f572ce099", func := "nurserypy/nurserypylaw3.MemWalks", spec := "memWalks", unfollowed := true, recurses := true, named := ["nurserypy/api.ErrBound", "nurserypy/api.ErrShape", "nurserypy/api.ErrPlace"], apart := false, laid := [("nurserypy/api.ErrBound", laid_nurserypy_api_ErrBound), ("nurserypy/api.ErrShape", laid_nurserypy_api_ErrShape), ("nurserypy/api.ErrPlace", laid_nurserypy_api_ErrPlace)], narrowed := true }
def MemWalksUptoSaid : Prop := memWalksUptoRow.holds Tryd.pinned (OpenSpec.upto memWalksSpec)

/-- 'nurserypylaw3.WordInts', WHERE WHAT IT READS IS OF BULK AT MOST 1048576: true; the input reads as it did. -/
def wordIntsUptoRow : OpenClaim := { program := "ytpbfhkkecbnieaadoor", sum := "7d6e70e93feb48c84beaeb8cb1e946cb16f31fe0cac1407ce10d334f572ce099", func := "nurserypy/nurserypylaw3.WordInts", spec := "wordInts", inPlace := ["internal/reflectlite.ValueOf", "(internal/reflectlite.Value).Type", "(internal/reflectlite.Value).IsNil", "internal/reflectlite.TypeOf", "(internal/reflectlite.Value).Elem", "(internal/reflectlite.Value).Set"], unfollowed := true, recurses := true, named := ["nurserypy/api.ErrBound", "nurserypy/api.ErrText", "nurserypy/api.ErrShape", "nurserypy/api.ErrName", "nurserypy/api.ErrPlace", "nurserypy/api.ErrFull", "nurserypy/api.ErrNone", "errors.errorType"], apart := false, laid := [("errors.errorType", laid_errors_errorType), ("nurserypy/api.ErrText", laid_nurserypy_api_ErrText), ("nurserypy/api.ErrBound", laid_nurserypy_api_ErrBound), ("nurserypy/api.ErrShape", laid_nurserypy_api_ErrShape), ("nurserypy/api.ErrName", laid_nurserypy_api_ErrName), ("nurserypy/api.ErrPlace", laid_nurserypy_api_ErrPlace), ("nurserypy/api.ErrFull", laid_nurserypy_api_ErrFull), ("nurserypy/api.ErrNone", laid_nurserypy_api_ErrNone)], narrowed := true }
def WordIntsUptoSaid : Prop := wordIntsUptoRow.holds Tryd.pinned (OpenSpec.upto wordIntsSpec)

/-- 'nurserypylaw3.WordHeads', WHERE WHAT IT READS IS OF BULK AT MOST 1048576: true; the input reads as it did. -/
def wordHeadsUptoRow : OpenClaim := { program := "ytpbfhkkecbnieaadoor", sum := "7d6e70e93feb48c84beaeb8cb1e946cb16f31fe0cac1407ce10d334f572ce099", func := "nurserypy/nurserypylaw3.WordHeads", spec := "wordHeads", inPlace := ["internal/reflectlite.ValueOf", "(internal/reflectlite.Value).Type", "(internal/reflectlite.Value).IsNil", "internal/reflectlite.TypeOf", "(internal/reflectlite.Value).Elem", "(internal/reflectlite.Value).Set"], unfollowed := true, recurses := true, named := ["nurserypy/api.ErrBound", "nurserypy/api.ErrText", "nurserypy/api.ErrShape", "nurserypy/api.ErrName", "nurserypy/api.ErrPlace", "nurserypy/api.ErrFull", "nurserypy/api.ErrNone", "errors.errorType"], apart := false, laid := [("errors.errorType", laid_errors_errorType), ("nurserypy/api.ErrText", laid_nurserypy_api_ErrText), ("nurserypy/api.ErrBound", laid_nurserypy_api_ErrBound), ("nurserypy/api.ErrShape", laid_nurserypy_api_ErrShape), ("nurserypy/api.ErrName", laid_nurserypy_api_ErrName), ("nurserypy/api.ErrPlace", laid_nurserypy_api_ErrPlace), ("nurserypy/api.ErrFull", laid_nurserypy_api_ErrFull), ("nurserypy/api.ErrNone", laid_nurserypy_api_ErrNone)], narrowed := true }
def WordHeadsUptoSaid : Prop := wordHeadsUptoRow.holds Tryd.pinned (OpenSpec.upto wordHeadsSpec)

/-- 'nurserypylaw3.WordBytes', WHERE WHAT IT READS IS OF BULK AT MOST 1048576: true; the input reads as it did. -/
def wordBytesUptoRow : OpenClaim := { program := "ytpbfhkkecbnieaadoor", sum := "7d6e70e93feb48c84beaeb8cb1e946cb16f31fe0cac1407ce10d334f572ce099", func := "nurserypy/nurserypylaw3.WordBytes", spec := "wordBytes", inPlace := ["internal/reflectlite.ValueOf", "(internal/reflectlite.Value).Type", "(internal/reflectlite.Value).IsNil", "internal/reflectlite.TypeOf", "(internal/reflectlite.Value).Elem", "(internal/reflectlite.Value).Set"], unfollowed := true, recurses := true, named := ["nurserypy/api.ErrBound", "nurserypy/api.ErrText", "nurserypy/api.ErrShape", "nurserypy/api.ErrName", "nurserypy/api.ErrPlace", "nurserypy/api.ErrFull", "nurserypy/api.ErrNone", "errors.errorType"], apart := false, laid := [("errors.errorType", laid_errors_errorType), ("nurserypy/api.ErrText", laid_nurserypy_api_ErrText), ("nurserypy/api.ErrBound", laid_nurserypy_api_ErrBound), ("nurserypy/api.ErrShape", laid_nurserypy_api_ErrShape), ("nurserypy/api.ErrName", laid_nurserypy_api_ErrName), ("nurserypy/api.ErrPlace", laid_nurserypy_api_ErrPlace), ("nurserypy/api.ErrFull", laid_nurserypy_api_ErrFull), ("nurserypy/api.ErrNone", laid_nurserypy_api_ErrNone)], narrowed := true }
def WordBytesUptoSaid : Prop := wordBytesUptoRow.holds Tryd.pinned (OpenSpec.upto wordBytesSpec)

/-- 'nurserypylaw3.WordAddrs', WHERE WHAT IT READS IS OF BULK AT MOST 1048576: true; the input reads as it did. -/
def wordAddrsUptoRow : OpenClaim := { program := "ytpbfhkkecbnieaadoor", sum := "7d6e70e93feb48c84beaeb8cb1e946cb16f31fe0cac1407ce10d334f572ce099", func := "nurserypy/nurserypylaw3.WordAddrs", spec := "wordAddrs", inPlace := ["internal/reflectlite.ValueOf", "(internal/reflectlite.Value).Type", "(internal/reflectlite.Value).IsNil", "internal/reflectlite.TypeOf", "(internal/reflectlite.Value).Elem", "(internal/reflectlite.Value).Set"], unfollowed := true, recurses := true, named := ["nurserypy/api.ErrBound", "nurserypy/api.ErrText", "nurserypy/api.ErrShape", "nurserypy/api.ErrName", "nurserypy/api.ErrPlace", "nurserypy/api.ErrFull", "nurserypy/api.ErrNone", "errors.errorType"], apart := false, laid := [("errors.errorType", laid_errors_errorType), ("nurserypy/api.ErrText", laid_nurserypy_api_ErrText), ("nurserypy/api.ErrBound", laid_nurserypy_api_ErrBound), ("nurserypy/api.ErrShape", laid_nurserypy_api_ErrShape), ("nurserypy/api.ErrName", laid_nurserypy_api_ErrName), ("nurserypy/api.ErrPlace", laid_nurserypy_api_ErrPlace), ("nurserypy/api.ErrFull", laid_nurserypy_api_ErrFull), ("nurserypy/api.ErrNone", laid_nurserypy_api_ErrNone)], narrowed := true }
def WordAddrsUptoSaid : Prop := wordAddrsUptoRow.holds Tryd.pinned (OpenSpec.upto wordAddrsSpec)

/-- 'nurserypylaw3.MinorAges', WHERE WHAT IT READS IS OF BULK AT MOST 1048576: true; the input reads as it did. -/
def minorAgesUptoRow : OpenClaim := { program := "ytpbfhkkecbnieaadoor", sum := "7d6e70e93feb48c84beaeb8cb1e946cb16f31fe0cac1407ce10d334f572ce099", func := "nurserypy/nurserypylaw3.MinorAges", spec := "minorAges", unfollowed := true, recurses := true, named := ["nurserypy/api.ErrBound", "nurserypy/api.ErrShape", "nurserypy/api.ErrFull", "nurserypy/api.ErrPlace"], apart := false, laid := [("nurserypy/api.ErrBound", laid_nurserypy_api_ErrBound), ("nurserypy/api.ErrShape", laid_nurserypy_api_ErrShape), ("nurserypy/api.ErrPlace", laid_nurserypy_api_ErrPlace), ("nurserypy/api.ErrFull", laid_nurserypy_api_ErrFull)], narrowed := true }
def MinorAgesUptoSaid : Prop := minorAgesUptoRow.holds Tryd.pinned (OpenSpec.upto minorAgesSpec)

/-- 'nurserypylaw3.MinorGrows', WHERE WHAT IT READS IS OF BULK AT MOST 1048576: true; the input reads as it did. -/
def minorGrowsUptoRow : OpenClaim := { program := "ytpbfhkkecbnieaadoor", sum := "7d6e70e93feb48c84beaeb8cb1e946cb16f31fe0cac1407ce10d334f572ce099", func := "nurserypy/nurserypylaw3.MinorGrows", spec := "minorGrows", unfollowed := true, recurses := true, named := ["nurserypy/api.ErrBound", "nurserypy/api.ErrShape", "nurserypy/api.ErrFull", "nurserypy/api.ErrPlace"], apart := false, laid := [("nurserypy/api.ErrBound", laid_nurserypy_api_ErrBound), ("nurserypy/api.ErrShape", laid_nurserypy_api_ErrShape), ("nurserypy/api.ErrPlace", laid_nurserypy_api_ErrPlace), ("nurserypy/api.ErrFull", laid_nurserypy_api_ErrFull)], narrowed := true }
def MinorGrowsUptoSaid : Prop := minorGrowsUptoRow.holds Tryd.pinned (OpenSpec.upto minorGrowsSpec)

/-- 'nurserypylaw3.MemNew', WHERE WHAT IT READS IS OF BULK AT MOST 1048576: true; the input reads as it did. -/
def memNewUptoRow : OpenClaim := { program := "ytpbfhkkecbnieaadoor", sum := "7d6e70e93feb48c84beaeb8cb1e946cb16f31fe0cac1407ce10d334f572ce099", func := "nurserypy/nurserypylaw3.MemNew", spec := "memNew", inPlace := ["internal/reflectlite.ValueOf", "(internal/reflectlite.Value).Type", "(internal/reflectlite.Value).IsNil", "internal/reflectlite.TypeOf", "(internal/reflectlite.Value).Elem", "(internal/reflectlite.Value).Set"], unfollowed := true, recurses := true, named := ["nurserypy/api.ErrBound", "nurserypy/api.ErrShape", "nurserypy/api.ErrPlace", "nurserypy/api.ErrText", "nurserypy/api.ErrName", "nurserypy/api.ErrFull", "nurserypy/api.ErrNone", "errors.errorType"], apart := false, laid := [("errors.errorType", laid_errors_errorType), ("nurserypy/api.ErrText", laid_nurserypy_api_ErrText), ("nurserypy/api.ErrBound", laid_nurserypy_api_ErrBound), ("nurserypy/api.ErrShape", laid_nurserypy_api_ErrShape), ("nurserypy/api.ErrName", laid_nurserypy_api_ErrName), ("nurserypy/api.ErrPlace", laid_nurserypy_api_ErrPlace), ("nurserypy/api.ErrFull", laid_nurserypy_api_ErrFull), ("nurserypy/api.ErrNone", laid_nurserypy_api_ErrNone)], narrowed := true }
def MemNewUptoSaid : Prop := memNewUptoRow.holds Tryd.pinned (OpenSpec.upto memNewSpec)

/-- 'nurserypylaw3.MemAllocs', WHERE WHAT IT READS IS OF BULK AT MOST 1048576: true; the input reads as it did. -/
def memAllocsUptoRow : OpenClaim := { program := "ytpbfhkkecbnieaadoor", sum := "7d6e70e93feb48c84beaeb8cb1e946cb16f31fe0cac1407ce10d334f572ce099", func := "nurserypy/nurserypylaw3.MemAllocs", spec := "memAllocs", inPlace := ["internal/reflectlite.ValueOf", "(internal/reflectlite.Value).Type", "(internal/reflectlite.Value).IsNil", "internal/reflectlite.TypeOf", "(internal/reflectlite.Value).Elem", "(internal/reflectlite.Value).Set"], unfollowed := true, recurses := true, named := ["nurserypy/api.ErrBound", "nurserypy/api.ErrShape", "nurserypy/api.ErrPlace", "nurserypy/api.ErrFull", "nurserypy/api.ErrText", "nurserypy/api.ErrName", "nurserypy/api.ErrNone", "errors.errorType"], apart := false, laid := [("errors.errorType", laid_errors_errorType), ("nurserypy/api.ErrText", laid_nurserypy_api_ErrText), ("nurserypy/api.ErrBound", laid_nurserypy_api_ErrBound), ("nurserypy/api.ErrShape", laid_nurserypy_api_ErrShape), ("nurserypy/api.ErrName", laid_nurserypy_api_ErrName), ("nurserypy/api.ErrPlace", laid_nurserypy_api_ErrPlace), ("nurserypy/api.ErrFull", laid_nurserypy_api_ErrFull), ("nurserypy/api.ErrNone", laid_nurserypy_api_ErrNone)], narrowed := true }
def MemAllocsUptoSaid : Prop := memAllocsUptoRow.holds Tryd.pinned (OpenSpec.upto memAllocsSpec)

/-- 'nurserypylaw3.MemFields', WHERE WHAT IT READS IS OF BULK AT MOST 1048576: true; the input reads as it did. -/
def memFieldsUptoRow : OpenClaim := { program := "ytpbfhkkecbnieaadoor", sum := "7d6e70e93feb48c84beaeb8cb1e946cb16f31fe0cac1407ce10d334f572ce099", func := "nurserypy/nurserypylaw3.MemFields", spec := "memFields", inPlace := ["internal/reflectlite.ValueOf", "(internal/reflectlite.Value).Type", "(internal/reflectlite.Value).IsNil", "internal/reflectlite.TypeOf", "(internal/reflectlite.Value).Elem", "(internal/reflectlite.Value).Set"], unfollowed := true, recurses := true, named := ["nurserypy/api.ErrBound", "nurserypy/api.ErrShape", "nurserypy/api.ErrPlace", "nurserypy/api.ErrText", "nurserypy/api.ErrName", "nurserypy/api.ErrFull", "nurserypy/api.ErrNone", "errors.errorType"], apart := false, laid := [("errors.errorType", laid_errors_errorType), ("nurserypy/api.ErrText", laid_nurserypy_api_ErrText), ("nurserypy/api.ErrBound", laid_nurserypy_api_ErrBound), ("nurserypy/api.ErrShape", laid_nurserypy_api_ErrShape), ("nurserypy/api.ErrName", laid_nurserypy_api_ErrName), ("nurserypy/api.ErrPlace", laid_nurserypy_api_ErrPlace), ("nurserypy/api.ErrFull", laid_nurserypy_api_ErrFull), ("nurserypy/api.ErrNone", laid_nurserypy_api_ErrNone)], narrowed := true }
def MemFieldsUptoSaid : Prop := memFieldsUptoRow.holds Tryd.pinned (OpenSpec.upto memFieldsSpec)

/-- 'nurserypylaw3.CodeTexts', WHERE WHAT IT READS IS OF BULK AT MOST 1048576: true; the input reads as it did. -/
def codeTextsUptoRow : OpenClaim := { program := "ytpbfhkkecbnieaadoor", sum := "7d6e70e93feb48c84beaeb8cb1e946cb16f31fe0cac1407ce10d334f572ce099", func := "nurserypy/nurserypylaw3.CodeTexts", spec := "codeTexts", inPlace := ["internal/abi.NoEscape", "internal/bytealg.MakeNoZero"], unfollowed := true, recurses := true, named := ["nurserypy/api.ErrBound", "nurserypy/api.ErrShape", "internal/strconv.uint64pow10", "math/bits.deBruijn32tab", "math/bits.deBruijn64tab"], apart := false, laid := [("math/bits.deBruijn32tab", laid_math_bits_deBruijn32tab), ("math/bits.deBruijn64tab", laid_math_bits_deBruijn64tab), ("internal/strconv.uint64pow10", laid_internal_strconv_uint64pow10), ("nurserypy/api.ErrBound", laid_nurserypy_api_ErrBound), ("nurserypy/api.ErrShape", laid_nurserypy_api_ErrShape)], narrowed := true }
def CodeTextsUptoSaid : Prop := codeTextsUptoRow.holds Tryd.pinned (OpenSpec.upto codeTextsSpec)

/-- 'nurserypylaw3.CodeVerifies', WHERE WHAT IT READS IS OF BULK AT MOST 1048576: true; the input reads as it did. -/
def codeVerifiesUptoRow : OpenClaim := { program := "ytpbfhkkecbnieaadoor", sum := "7d6e70e93feb48c84beaeb8cb1e946cb16f31fe0cac1407ce10d334f572ce099", func := "nurserypy/nurserypylaw3.CodeVerifies", spec := "codeVerifies", inPlace := ["internal/abi.NoEscape", "internal/bytealg.MakeNoZero", "internal/reflectlite.ValueOf", "(internal/reflectlite.Value).Type", "(internal/reflectlite.Value).IsNil", "internal/reflectlite.TypeOf", "(internal/reflectlite.Value).Elem", "(internal/reflectlite.Value).Set"], unfollowed := true, recurses := true, named := ["nurserypy/api.ErrBound", "nurserypy/api.ErrShape", "internal/strconv.uint64pow10", "math/bits.deBruijn32tab", "math/bits.deBruijn64tab", "nurserypy/api.ErrText", "nurserypy/api.ErrName", "nurserypy/api.ErrPlace", "nurserypy/api.ErrFull", "nurserypy/api.ErrNone", "errors.errorType"], apart := false, laid := [("math/bits.deBruijn32tab", laid_math_bits_deBruijn32tab), ("math/bits.deBruijn64tab", laid_math_bits_deBruijn64tab), ("internal/strconv.uint64pow10", laid_internal_strconv_uint64pow10), ("errors.errorType", laid_errors_errorType), ("nurserypy/api.ErrText", laid_nurserypy_api_ErrText), ("nurserypy/api.ErrBound", laid_nurserypy_api_ErrBound), ("nurserypy/api.ErrShape", laid_nurserypy_api_ErrShape), ("nurserypy/api.ErrName", laid_nurserypy_api_ErrName), ("nurserypy/api.ErrPlace", laid_nurserypy_api_ErrPlace), ("nurserypy/api.ErrFull", laid_nurserypy_api_ErrFull), ("nurserypy/api.ErrNone", laid_nurserypy_api_ErrNone)], narrowed := true }
def CodeVerifiesUptoSaid : Prop := codeVerifiesUptoRow.holds Tryd.pinned (OpenSpec.upto codeVerifiesSpec)

/-- 'nurserypylaw3.CodeWide', WHERE WHAT IT READS IS OF BULK AT MOST 1048576: true; the input reads as it did. -/
def codeWideUptoRow : OpenClaim := { program := "ytpbfhkkecbnieaadoor", sum := "7d6e70e93feb48c84beaeb8cb1e946cb16f31fe0cac1407ce10d334f572ce099", func := "nurserypy/nurserypylaw3.CodeWide", spec := "codeWide", inPlace := ["internal/abi.NoEscape", "internal/bytealg.MakeNoZero", "internal/reflectlite.ValueOf", "(internal/reflectlite.Value).Type", "(internal/reflectlite.Value).IsNil", "internal/reflectlite.TypeOf", "(internal/reflectlite.Value).Elem", "(internal/reflectlite.Value).Set"], unfollowed := true, recurses := true, named := ["nurserypy/api.ErrBound", "nurserypy/api.ErrShape", "internal/strconv.uint64pow10", "math/bits.deBruijn32tab", "math/bits.deBruijn64tab", "nurserypy/api.ErrText", "nurserypy/api.ErrName", "nurserypy/api.ErrPlace", "nurserypy/api.ErrFull", "nurserypy/api.ErrNone", "errors.errorType"], apart := false, laid := [("math/bits.deBruijn32tab", laid_math_bits_deBruijn32tab), ("math/bits.deBruijn64tab", laid_math_bits_deBruijn64tab), ("internal/strconv.uint64pow10", laid_internal_strconv_uint64pow10), ("errors.errorType", laid_errors_errorType), ("nurserypy/api.ErrText", laid_nurserypy_api_ErrText), ("nurserypy/api.ErrBound", laid_nurserypy_api_ErrBound), ("nurserypy/api.ErrShape", laid_nurserypy_api_ErrShape), ("nurserypy/api.ErrName", laid_nurserypy_api_ErrName), ("nurserypy/api.ErrPlace", laid_nurserypy_api_ErrPlace), ("nurserypy/api.ErrFull", laid_nurserypy_api_ErrFull), ("nurserypy/api.ErrNone", laid_nurserypy_api_ErrNone)], narrowed := true }
def CodeWideUptoSaid : Prop := codeWideUptoRow.holds Tryd.pinned (OpenSpec.upto codeWideSpec)

/-- 'nurserypylaw3.MajorOrder', WHERE WHAT IT READS IS OF BULK AT MOST 1048576: true; the input reads as it did. -/
def majorOrderUptoRow : OpenClaim := { program := "ytpbfhkkecbnieaadoor", sum := "7d6e70e93feb48c84beaeb8cb1e946cb16f31fe0cac1407ce10d334f572ce099", func := "nurserypy/nurserypylaw3.MajorOrder", spec := "majorOrder", unfollowed := true, recurses := true, named := ["nurserypy/api.ErrBound", "nurserypy/api.ErrShape", "nurserypy/api.ErrFull", "nurserypy/api.ErrPlace"], apart := false, laid := [("nurserypy/api.ErrBound", laid_nurserypy_api_ErrBound), ("nurserypy/api.ErrShape", laid_nurserypy_api_ErrShape), ("nurserypy/api.ErrPlace", laid_nurserypy_api_ErrPlace), ("nurserypy/api.ErrFull", laid_nurserypy_api_ErrFull)], narrowed := true }
def MajorOrderUptoSaid : Prop := majorOrderUptoRow.holds Tryd.pinned (OpenSpec.upto majorOrderSpec)

/-- 'nurserypylaw3.MajorTwice', WHERE WHAT IT READS IS OF BULK AT MOST 1048576: true; the input reads as it did. -/
def majorTwiceUptoRow : OpenClaim := { program := "ytpbfhkkecbnieaadoor", sum := "7d6e70e93feb48c84beaeb8cb1e946cb16f31fe0cac1407ce10d334f572ce099", func := "nurserypy/nurserypylaw3.MajorTwice", spec := "majorTwice", unfollowed := true, recurses := true, named := ["nurserypy/api.ErrBound", "nurserypy/api.ErrShape", "nurserypy/api.ErrFull", "nurserypy/api.ErrPlace"], apart := false, laid := [("nurserypy/api.ErrBound", laid_nurserypy_api_ErrBound), ("nurserypy/api.ErrShape", laid_nurserypy_api_ErrShape), ("nurserypy/api.ErrPlace", laid_nurserypy_api_ErrPlace), ("nurserypy/api.ErrFull", laid_nurserypy_api_ErrFull)], narrowed := true }
def MajorTwiceUptoSaid : Prop := majorTwiceUptoRow.holds Tryd.pinned (OpenSpec.upto majorTwiceSpec)

end Rows
end Go.Proofs.YtpbfhkkecbnieaaDoor
