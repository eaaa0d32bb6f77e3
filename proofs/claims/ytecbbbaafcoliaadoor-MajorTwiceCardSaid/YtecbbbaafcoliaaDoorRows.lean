/-
  NARROWER THAN 'FOR EVERY INPUT', by the rows' own cells (each row's printed sentence says how): MemCopies: laid · MemWalks: laid · MinorAges: laid · MinorGrows: laid · MemAllocs: laid · MemFields: laid · MajorOrder: laid · MajorTwice: laid.
  DERIVED. THE GIVEN ROWS OF THIS SEAT. 8 by the template 'for every input the law returns true; each argument reads behind the call as it read before'; 0 by the template 'total and deterministic' (their statements: YtecbbbaafcoliaaDoorTotals.lean).
  GIVEN WITH THE SEED: the statements are not yours to turn. If you find one false, say at which input.
  Laid BY PROGRAM, IN A SANDBOX (cutbox-rows.mjs): the forced cells as the released guide's own fill.sh prints them over the translation 4c6e9408f554e163… (all of the seat's roots in one cut). By AI agents, Wed Nov 11 2026. No macro, syntax, notation, axiom, sorry.
-/
import Derived.Test.YtecbbbaafcoliaaDoorChecked
import GoSem.Claim
import GoSem.ClaimJoined
import GoSem.ClaimMapViews
import Derived.JoinedTies
import Derived.KernelRfl
namespace Go.Proofs.YtecbbbaafcoliaaDoor
/- THE CELL 'sum', in the pinned program and in every row, IS THE sha256 OF THE DUMP (.gsa) THAT YtecbbbaafcoliaaDoorProg.lean LOADS. Nothing in Lean hashes anything: it is a label: what it is worth is what the hold of that sum in a sandbox is worth. -/
noncomputable def Tryd.pinned : Pinned := { name := "ytecbbbaafcoliaadoor", sum := "4c6e9408f554e16306a05a7234461729e2b4e92159cf107db0b13182c454d786", checked := Tryd.checked }
namespace Rows
def none {H : Type} : Left H := { results := [], args := [] }

/- WHAT THE LISTED PACKAGE-LEVEL VARIABLES READ AS WHEN THE CALL BEGINS. Each datum BY PROGRAM (the guide's laid-datum.mjs) off the statement by which the dump's own 'gosem.cut.vars' lays the variable. In a bare row this is a premise. The card (YtecbbbaafcoliaaDoorCards.lean) ties it to the program's text. -/
def laid_nurserypy_api_ErrBound {H : Type} : DataW H := .iface "*errors.errorString" (.ptr (.agg [.lit (.string [110, 117, 114, 115, 101, 114, 121, 112, 121, 58, 32, 98, 111, 117, 110, 100])]))
def laid_nurserypy_api_ErrShape {H : Type} : DataW H := .iface "*errors.errorString" (.ptr (.agg [.lit (.string [110, 117, 114, 115, 101, 114, 121, 112, 121, 58, 32, 115, 104, 97, 112, 101])]))
def laid_nurserypy_api_ErrPlace {H : Type} : DataW H := .iface "*errors.errorString" (.ptr (.agg [.lit (.string [110, 117, 114, 115, 101, 114, 121, 112, 121, 58, 32, 112, 108, 97, 99, 101])]))
def laid_nurserypy_api_ErrFull {H : Type} : DataW H := .iface "*errors.errorString" (.ptr (.agg [.lit (.string [110, 117, 114, 115, 101, 114, 121, 112, 121, 58, 32, 102, 117, 108, 108])]))
def laid_errors_errorType {H : Type} : DataW H := .iface "internal/reflectlite.rtype" (.agg [.ptr (.lit (.string [101, 114, 114, 111, 114]))])
def laid_nurserypy_api_ErrText {H : Type} : DataW H := .iface "*errors.errorString" (.ptr (.agg [.lit (.string [110, 117, 114, 115, 101, 114, 121, 112, 121, 58, 32, 116, 101, 120, 116])]))
def laid_nurserypy_api_ErrName {H : Type} : DataW H := .iface "*errors.errorString" (.ptr (.agg [.lit (.string [110, 117, 114, 115, 101, 114, 121, 112, 121, 58, 32, 110, 97, 109, 101])]))
def laid_nurserypy_api_ErrNone {H : Type} : DataW H := .iface "*errors.errorString" (.ptr (.agg [.lit (.string [110, 117, 114, 115, 101, 114, 121, 112, 121, 58, 32, 110, 111, 110, 101])]))

/-- 'nurserypylaw3.MemCopies': WHATEVER THE INPUT: true; the input reads as it did. -/
def memCopiesSpec : ChangeSpec := { name := "memCopies", fn := fun _ => fun
  | [d1, d2] => { results := [.lit (.bool true)], args := [d1, d2] }
  | _ => none }
def memCopiesRow : OpenClaim := { program := "ytecbbbaafcoliaadoor", sum := "4c6e9408f554e16306a05a7234461729e2b4e92159cf107db0b13182c454d786", func := "nurserypy/nurserypylaw3.MemCopies", spec := "memCopies", unfollowed := true, recurses := true, named := ["nurserypy/api.ErrBound", "nurserypy/api.ErrShape", "nurserypy/api.ErrPlace", "nurserypy/api.ErrFull"], apart := false, laid := [("nurserypy/api.ErrBound", laid_nurserypy_api_ErrBound), ("nurserypy/api.ErrShape", laid_nurserypy_api_ErrShape), ("nurserypy/api.ErrPlace", laid_nurserypy_api_ErrPlace), ("nurserypy/api.ErrFull", laid_nurserypy_api_ErrFull)] }
def MemCopiesSaid : Prop := memCopiesRow.holds Tryd.pinned (OpenSpec.ofChange memCopiesSpec)

/-- ITS FALSE NEIGHBOUR: 'it returns false'. Refute it at one input. -/
def memCopiesWrong : ChangeSpec := { name := "memCopies", fn := fun _ => fun
  | [d1, d2] => { results := [.lit (.bool false)], args := [d1, d2] }
  | _ => none }
def MemCopiesWrongFalsely : Prop := memCopiesRow.holds Tryd.pinned (OpenSpec.ofChange memCopiesWrong)

/-- 'nurserypylaw3.MemWalks': WHATEVER THE INPUT: true; the input reads as it did. -/
def memWalksSpec : ChangeSpec := { name := "memWalks", fn := fun _ => fun
  | [d] => { results := [.lit (.bool true)], args := [d] }
  | _ => none }
def memWalksRow : OpenClaim := { program := "ytecbbbaafcoliaadoor", sum := "4c6e9408f554e16306a05a7234461729e2b4e92159cf107db0b13182c454d786", func := "nurserypy/nurserypylaw3.MemWalks", spec := "memWalks", unfollowed := true, recurses := true, named := ["nurserypy/api.ErrBound", "nurserypy/api.ErrShape", "nurserypy/api.ErrPlace"], apart := false, laid := [("nurserypy/api.ErrBound", laid_nurserypy_api_ErrBound), ("nurserypy/api.ErrShape", laid_nurserypy_api_ErrShape), ("nurserypy/api.ErrPlace", laid_nurserypy_api_ErrPlace)] }
def MemWalksSaid : Prop := memWalksRow.holds Tryd.pinned (OpenSpec.ofChange memWalksSpec)

/-- ITS FALSE NEIGHBOUR: 'it returns false'. Refute it at one input. -/
def memWalksWrong : ChangeSpec := { name := "memWalks", fn := fun _ => fun
  | [d] => { results := [.lit (.bool false)], args := [d] }
  | _ => none }
def MemWalksWrongFalsely : Prop := memWalksRow.holds Tryd.pinned (OpenSpec.ofChange memWalksWrong)

/-- 'nurserypylaw3.MinorAges': WHATEVER THE INPUT: true; the input reads as it did. -/
def minorAgesSpec : ChangeSpec := { name := "minorAges", fn := fun _ => fun
  | [d1, d2] => { results := [.lit (.bool true)], args := [d1, d2] }
  | _ => none }
def minorAgesRow : OpenClaim := { program := "ytecbbbaafcoliaadoor", sum := "4c6e9408f554e16306a05a7234461729e2b4e92159cf107db0b13182c454d786", func := "nurserypy/nurserypylaw3.MinorAges", spec := "minorAges", unfollowed := true, recurses := true, named := ["nurserypy/api.ErrBound", "nurserypy/api.ErrShape", "nurserypy/api.ErrFull", "nurserypy/api.ErrPlace"], apart := false, laid := [("nurserypy/api.ErrBound", laid_nurserypy_api_ErrBound), ("nurserypy/api.ErrShape", laid_nurserypy_api_ErrShape), ("nurserypy/api.ErrPlace", laid_nurserypy_api_ErrPlace), ("nurserypy/api.ErrFull", laid_nurserypy_api_ErrFull)] }
def MinorAgesSaid : Prop := minorAgesRow.holds Tryd.pinned (OpenSpec.ofChange minorAgesSpec)

/-- ITS FALSE NEIGHBOUR: 'it returns false'. Refute it at one input. -/
def minorAgesWrong : ChangeSpec := { name := "minorAges", fn := fun _ => fun
  | [d1, d2] => { results := [.lit (.bool false)], args := [d1, d2] }
  | _ => none }
def MinorAgesWrongFalsely : Prop := minorAgesRow.holds Tryd.pinned (OpenSpec.ofChange minorAgesWrong)

/-- 'nurserypylaw3.MinorGrows': WHATEVER THE INPUT: true; the input reads as it did. -/
def minorGrowsSpec : ChangeSpec := { name := "minorGrows", fn := fun _ => fun
  | [d1, d2] => { results := [.lit (.bool true)], args := [d1, d2] }
  | _ => none }
def minorGrowsRow : OpenClaim := { program := "ytecbbbaafcoliaadoor", sum := "4c6e9408f554e16306a05a7234461729e2b4e92159cf107db0b13182c454d786", func := "nurserypy/nurserypylaw3.MinorGrows", spec := "minorGrows", unfollowed := true, recurses := true, named := ["nurserypy/api.ErrBound", "nurserypy/api.ErrShape", "nurserypy/api.ErrFull", "nurserypy/api.ErrPlace"], apart := false, laid := [("nurserypy/api.ErrBound", laid_nurserypy_api_ErrBound), ("nurserypy/api.ErrShape", laid_nurserypy_api_ErrShape), ("nurserypy/api.ErrPlace", laid_nurserypy_api_ErrPlace), ("nurserypy/api.ErrFull", laid_nurserypy_api_ErrFull)] }
def MinorGrowsSaid : Prop := minorGrowsRow.holds Tryd.pinned (OpenSpec.ofChange minorGrowsSpec)

/-- ITS FALSE NEIGHBOUR: 'it returns false'. Refute it at one input. -/
def minorGrowsWrong : ChangeSpec := { name := "minorGrows", fn := fun _ => fun
  | [d1, d2] => { results := [.lit (.bool false)], args := [d1, d2] }
  | _ => none }
def MinorGrowsWrongFalsely : Prop := minorGrowsRow.holds Tryd.pinned (OpenSpec.ofChange minorGrowsWrong)

/-- 'nurserypylaw3.MemAllocs': WHATEVER THE INPUT: true; the input reads as it did. -/
def memAllocsSpec : ChangeSpec := { name := "memAllocs", fn := fun _ => fun
  | [d1, d2, d3] => { results := [.lit (.bool true)], args := [d1, d2, d3] }
  | _ => none }
def memAllocsRow : OpenClaim := { program := "ytecbbbaafcoliaadoor", sum := "4c6e9408f554e16306a05a7234461729e2b4e92159cf107db0b13182c454d786", func := "nurserypy/nurserypylaw3.MemAllocs", spec := "memAllocs", inPlace := ["internal/reflectlite.ValueOf", "(internal/reflectlite.Value).Type", "(internal/reflectlite.Value).IsNil", "internal/reflectlite.TypeOf", "(internal/reflectlite.Value).Elem", "(internal/reflectlite.Value).Set"], unfollowed := true, recurses := true, named := ["nurserypy/api.ErrBound", "nurserypy/api.ErrShape", "nurserypy/api.ErrPlace", "nurserypy/api.ErrFull", "nurserypy/api.ErrText", "nurserypy/api.ErrName", "nurserypy/api.ErrNone", "errors.errorType"], apart := false, laid := [("errors.errorType", laid_errors_errorType), ("nurserypy/api.ErrText", laid_nurserypy_api_ErrText), ("nurserypy/api.ErrBound", laid_nurserypy_api_ErrBound), ("nurserypy/api.ErrShape", laid_nurserypy_api_ErrShape), ("nurserypy/api.ErrName", laid_nurserypy_api_ErrName), ("nurserypy/api.ErrPlace", laid_nurserypy_api_ErrPlace), ("nurserypy/api.ErrFull", laid_nurserypy_api_ErrFull), ("nurserypy/api.ErrNone", laid_nurserypy_api_ErrNone)] }
def MemAllocsSaid : Prop := memAllocsRow.holds Tryd.pinned (OpenSpec.ofChange memAllocsSpec)

/-- ITS FALSE NEIGHBOUR: 'it returns false'. Refute it at one input. -/
def memAllocsWrong : ChangeSpec := { name := "memAllocs", fn := fun _ => fun
  | [d1, d2, d3] => { results := [.lit (.bool false)], args := [d1, d2, d3] }
  | _ => none }
def MemAllocsWrongFalsely : Prop := memAllocsRow.holds Tryd.pinned (OpenSpec.ofChange memAllocsWrong)

/-- 'nurserypylaw3.MemFields': WHATEVER THE INPUT: true; the input reads as it did. -/
def memFieldsSpec : ChangeSpec := { name := "memFields", fn := fun _ => fun
  | [d1, d2, d3, d4] => { results := [.lit (.bool true)], args := [d1, d2, d3, d4] }
  | _ => none }
def memFieldsRow : OpenClaim := { program := "ytecbbbaafcoliaadoor", sum := "4c6e9408f554e16306a05a7234461729e2b4e92159cf107db0b13182c454d786", func := "nurserypy/nurserypylaw3.MemFields", spec := "memFields", inPlace := ["internal/reflectlite.ValueOf", "(internal/reflectlite.Value).Type", "(internal/reflectlite.Value).IsNil", "internal/reflectlite.TypeOf", "(internal/reflectlite.Value).Elem", "(internal/reflectlite.Value).Set"], unfollowed := true, recurses := true, named := ["nurserypy/api.ErrBound", "nurserypy/api.ErrShape", "nurserypy/api.ErrPlace", "nurserypy/api.ErrText", "nurserypy/api.ErrName", "nurserypy/api.ErrFull", "nurserypy/api.ErrNone", "errors.errorType"], apart := false, laid := [("errors.errorType", laid_errors_errorType), ("nurserypy/api.ErrText", laid_nurserypy_api_ErrText), ("nurserypy/api.ErrBound", laid_nurserypy_api_ErrBound), ("nurserypy/api.ErrShape", laid_nurserypy_api_ErrShape), ("nurserypy/api.ErrName", laid_nurserypy_api_ErrName), ("nurserypy/api.ErrPlace", laid_nurserypy_api_ErrPlace), ("nurserypy/api.ErrFull", laid_nurserypy_api_ErrFull), ("nurserypy/api.ErrNone", laid_nurserypy_api_ErrNone)] }
def MemFieldsSaid : Prop := memFieldsRow.holds Tryd.pinned (OpenSpec.ofChange memFieldsSpec)

/-- ITS FALSE NEIGHBOUR: 'it returns false'. Refute it at one input. -/
def memFieldsWrong : ChangeSpec := { name := "memFields", fn := fun _ => fun
  | [d1, d2, d3, d4] => { results := [.lit (.bool false)], args := [d1, d2, d3, d4] }
  | _ => none }
def MemFieldsWrongFalsely : Prop := memFieldsRow.holds Tryd.pinned (OpenSpec.ofChange memFieldsWrong)

/-- 'nurserypylaw3.MajorOrder': WHATEVER THE INPUT: true; the input reads as it did. -/
def majorOrderSpec : ChangeSpec := { name := "majorOrder", fn := fun _ => fun
  | [d] => { results := [.lit (.bool true)], args := [d] }
  | _ => none }
def majorOrderRow : OpenClaim := { program := "ytecbbbaafcoliaadoor", sum := "4c6e9408f554e16306a05a7234461729e2b4e92159cf107db0b13182c454d786", func := "nurserypy/nurserypylaw3.MajorOrder", spec := "majorOrder", unfollowed := true, recurses := true, named := ["nurserypy/api.ErrBound", "nurserypy/api.ErrShape", "nurserypy/api.ErrFull", "nurserypy/api.ErrPlace"], apart := false, laid := [("nurserypy/api.ErrBound", laid_nurserypy_api_ErrBound), ("nurserypy/api.ErrShape", laid_nurserypy_api_ErrShape), ("nurserypy/api.ErrPlace", laid_nurserypy_api_ErrPlace), ("nurserypy/api.ErrFull", laid_nurserypy_api_ErrFull)] }
def MajorOrderSaid : Prop := majorOrderRow.holds Tryd.pinned (OpenSpec.ofChange majorOrderSpec)

/-- ITS FALSE NEIGHBOUR: 'it returns false'. Refute it at one input. -/
def majorOrderWrong : ChangeSpec := { name := "majorOrder", fn := fun _ => fun
  | [d] => { results := [.lit (.bool false)], args := [d] }
  | _ => none }
def MajorOrderWrongFalsely : Prop := majorOrderRow.holds Tryd.pinned (OpenSpec.ofChange majorOrderWrong)

/-- 'nurserypylaw3.MajorTwice': WHATEVER THE INPUT: true; the input reads as it did. -/
def majorTwiceSpec : ChangeSpec := { name := "majorTwice", fn := fun _ => fun
  | [d1, d2] => { results := [.lit (.bool true)], args := [d1, d2] }
  | _ => none }
def majorTwiceRow : OpenClaim := { program := "ytecbbbaafcoliaadoor", sum := "4c6e9408f554e16306a05a7234461729e2b4e92159cf107db0b13182c454d786", func := "nurserypy/nurserypylaw3.MajorTwice", spec := "majorTwice", unfollowed := true, recurses := true, named := ["nurserypy/api.ErrBound", "nurserypy/api.ErrShape", "nurserypy/api.ErrFull", "nurserypy/api.ErrPlace"], apart := false, laid := [("nurserypy/api.ErrBound", laid_nurserypy_api_ErrBound), ("nurserypy/api.ErrShape", laid_nurserypy_api_ErrShape), ("nurserypy/api.ErrPlace", laid_nurserypy_api_ErrPlace), ("nurserypy/api.ErrFull", laid_nurserypy_api_ErrFull)] }
def MajorTwiceSaid : Prop := majorTwiceRow.holds Tryd.pinned (OpenSpec.ofChange majorTwiceSpec)

/-- ITS FALSE NEIGHBOUR: 'it returns false'. Refute it at one input. -/
def majorTwiceWrong : ChangeSpec := { name := "majorTwice", fn := fun _ => fun
  | [d1, d2] => { results := [.lit (.bool false)], args := [d1, d2] }
  | _ => none }
def MajorTwiceWrongFalsely : Prop := majorTwiceRow.holds Tryd.pinned (OpenSpec.ofChange majorTwiceWrong)

/- THE SECOND FORM. 'bulk': how many values and letters a reading holds, each counted each time it is reached (what is shared counts as often as it is met; a slice's spare places count too). A statement '..UptoSaid' is the law's where the arguments, and the package variables that the reading takes, are together of bulk at most 1048576: NARROWER than '..Said'. Prove '..Said' where nothing that the law and all that it calls make is longer than what came in: it says more and counts as full. Else prove '..UptoSaid'. A law counts once. -/
mutual
def uptoBulk {H : Type} : DataW H → Nat
  | .lit (.string bytes) => bytes.length + 1
  | .lit _ => 1
  | .nil => 1
  | .ptr d => uptoBulk d + 1
  | .slice elems spare => uptoBulkAll elems + uptoBulkAll spare + 1
  | .agg parts => uptoBulkAll parts + 1
  | .iface _ d => uptoBulk d + 1
  | .map entries => uptoBulkEntries entries + 1
  | .held _ => 1
def uptoBulkAll {H : Type} : List (DataW H) → Nat
  | [] => 0
  | d :: r => uptoBulk d + uptoBulkAll r
def uptoBulkEntries {H : Type} : List (Lit × DataW H) → Nat
  | [] => 0
  | x :: r => uptoBulkEntry x + uptoBulkEntries r
def uptoBulkEntry {H : Type} : Lit × DataW H → Nat
  | (.string bytes, d) => bytes.length + uptoBulk d + 1
  | (_, d) => uptoBulk d + 1
 end
def uptoSmall : (H : Type) → List (DataW H) → Bool := fun _ ds => decide (uptoBulkAll ds ≤ 1048576)
def OpenSpec.upto (s : _root_.Go.ChangeSpec) : _root_.Go.OpenSpec := { _root_.Go.OpenSpec.ofChange s with cond := some uptoSmall }

/-- 'nurserypylaw3.MemCopies', WHERE WHAT IT READS IS OF BULK AT MOST 1048576: true; the input reads as it did. -/
def memCopiesUptoRow : OpenClaim := { program := "ytecbbbaafcoliaadoor", sum := "4c6e9408f554e16306a05a7234461729e2b4e92159cf107db0b13182c454d786", func := "nurserypy/nurserypylaw3.MemCopies", spec := "memCopies", unfollowed := true, recurses := true, named := ["nurserypy/api.ErrBound", "nurserypy/api.ErrShape", "nurserypy/api.ErrPlace", "nurserypy/api.ErrFull"], apart := false, laid := [("nurserypy/api.ErrBound", laid_nurserypy_api_ErrBound), ("nurserypy/api.ErrShape", laid_nurserypy_api_ErrShape), ("nurserypy/api.ErrPlace", laid_nurserypy_api_ErrPlace), ("nurserypy/api.ErrFull", laid_nurserypy_api_ErrFull)], narrowed := true }
def MemCopiesUptoSaid : Prop := memCopiesUptoRow.holds Tryd.pinned (OpenSpec.upto memCopiesSpec)

/-- 'nurserypylaw3.MemWalks', WHERE WHAT IT READS IS OF BULK AT MOST 1048576: true; the input reads as it did. -/
def memWalksUptoRow : OpenClaim := { program := "ytecbbbaafcoliaadoor", sum := "4c6e9408f554e16306a05a7234461729e2b4e92159cf107db0b13182c454d786", func := "nurserypy/nurserypylaw3.MemWalks", spec := "memWalks", unfollowed := true, recurses := true, named := ["nurserypy/api.ErrBound", "nurserypy/api.ErrShape", "nurserypy/api.ErrPlace"], apart := false, laid := [("nurserypy/api.ErrBound", laid_nurserypy_api_ErrBound), ("nurserypy/api.ErrShape", laid_nurserypy_api_ErrShape), ("nurserypy/api.ErrPlace", laid_nurserypy_api_ErrPlace)], narrowed := true }
def MemWalksUptoSaid : Prop := memWalksUptoRow.holds Tryd.pinned (OpenSpec.upto memWalksSpec)

/-- 'nurserypylaw3.MinorAges', WHERE WHAT IT READS IS OF BULK AT MOST 1048576: true; the input reads as it did. -/
def minorAgesUptoRow : OpenClaim := { program := "ytecbbbaafcoliaadoor", sum := "4c6e9408f554e16306a05a7234461729e2b4e92159cf107db0b13182c454d786", func := "nurserypy/nurserypylaw3.MinorAges", spec := "minorAges", unfollowed := true, recurses := true, named := ["nurserypy/api.ErrBound", "nurserypy/api.ErrShape", "nurserypy/api.ErrFull", "nurserypy/api.ErrPlace"], apart := false, laid := [("nurserypy/api.ErrBound", laid_nurserypy_api_ErrBound), ("nurserypy/api.ErrShape", laid_nurserypy_api_ErrShape), ("nurserypy/api.ErrPlace", laid_nurserypy_api_ErrPlace), ("nurserypy/api.ErrFull", laid_nurserypy_api_ErrFull)], narrowed := true }
def MinorAgesUptoSaid : Prop := minorAgesUptoRow.holds Tryd.pinned (OpenSpec.upto minorAgesSpec)

/-- 'nurserypylaw3.MinorGrows', WHERE WHAT IT READS IS OF BULK AT MOST 1048576: true; the input reads as it did. -/
def minorGrowsUptoRow : OpenClaim := { program := "ytecbbbaafcoliaadoor", sum := "4c6e9408f554e16306a05a7234461729e2b4e92159cf107db0b13182c454d786", func := "nurserypy/nurserypylaw3.MinorGrows", spec := "minorGrows", unfollowed := true, recurses := true, named := ["nurserypy/api.ErrBound", "nurserypy/api.ErrShape", "nurserypy/api.ErrFull", "nurserypy/api.ErrPlace"], apart := false, laid := [("nurserypy/api.ErrBound", laid_nurserypy_api_ErrBound), ("nurserypy/api.ErrShape", laid_nurserypy_api_ErrShape), ("nurserypy/api.ErrPlace", laid_nurserypy_api_ErrPlace), ("nurserypy/api.ErrFull", laid_nurserypy_api_ErrFull)], narrowed := true }
def MinorGrowsUptoSaid : Prop := minorGrowsUptoRow.holds Tryd.pinned (OpenSpec.upto minorGrowsSpec)

/-- 'nurserypylaw3.MemAllocs', WHERE WHAT IT READS IS OF BULK AT MOST 1048576: true; the input reads as it did. -/
def memAllocsUptoRow : OpenClaim := { program := "ytecbbbaafcoliaadoor", sum := "4c6e9408f554e16306a05a7234461729e2b4e92159cf107db0b13182c454d786", func := "nurserypy/nurserypylaw3.MemAllocs", spec := "memAllocs", inPlace := ["internal/reflectlite.ValueOf", "(internal/reflectlite.Value).Type", "(internal/reflectlite.Value).IsNil", "internal/reflectlite.TypeOf", "(internal/reflectlite.Value).Elem", "(internal/reflectlite.Value).Set"], unfollowed := true, recurses := true, named := ["nurserypy/api.ErrBound", "nurserypy/api.ErrShape", "nurserypy/api.ErrPlace", "nurserypy/api.ErrFull", "nurserypy/api.ErrText", "nurserypy/api.ErrName", "nurserypy/api.ErrNone", "errors.errorType"], apart := false, laid := [("errors.errorType", laid_errors_errorType), ("nurserypy/api.ErrText", laid_nurserypy_api_ErrText), ("nurserypy/api.ErrBound", laid_nurserypy_api_ErrBound), ("nurserypy/api.ErrShape", laid_nurserypy_api_ErrShape), ("nurserypy/api.ErrName", laid_nurserypy_api_ErrName), ("nurserypy/api.ErrPlace", laid_nurserypy_api_ErrPlace), ("nurserypy/api.ErrFull", laid_nurserypy_api_ErrFull), ("nurserypy/api.ErrNone", laid_nurserypy_api_ErrNone)], narrowed := true }
def MemAllocsUptoSaid : Prop := memAllocsUptoRow.holds Tryd.pinned (OpenSpec.upto memAllocsSpec)

/-- 'nurserypylaw3.MemFields', WHERE WHAT IT READS IS OF BULK AT MOST 1048576: true; the input reads as it did. -/
def memFieldsUptoRow : OpenClaim := { program := "ytecbbbaafcoliaadoor", sum := "4c6e9408f554e16306a05a7234461729e2b4e92159cf107db0b13182c454d786", func := "nurserypy/nurserypylaw3.MemFields", spec := "memFields", inPlace := ["internal/reflectlite.ValueOf", "(internal/reflectlite.Value).Type", "(internal/reflectlite.Value).IsNil", "internal/reflectlite.TypeOf", "(internal/reflectlite.Value).Elem", "(internal/reflectlite.Value).Set"], unfollowed := true, recurses := true, named := ["nurserypy/api.ErrBound", "nurserypy/api.ErrShape", "nurserypy/api.ErrPlace", "nurserypy/api.ErrText", "nurserypy/api.ErrName", "nurserypy/api.ErrFull", "nurserypy/api.ErrNone", "errors.errorType"], apart := false, laid := [("errors.errorType", laid_errors_errorType), ("nurserypy/api.ErrText", laid_nurserypy_api_ErrText), ("nurserypy/api.ErrBound", laid_nurserypy_api_ErrBound), ("nurserypy/api.ErrShape", laid_nurserypy_api_ErrShape), ("nurserypy/api.ErrName", laid_nurserypy_api_ErrName), ("nurserypy/api.ErrPlace", laid_nurserypy_api_ErrPlace), ("nurserypy/api.ErrFull", laid_nurserypy_api_ErrFull), ("nurserypy/api.ErrNone", laid_nurserypy_api_ErrNone)], narrowed := true }
def MemFieldsUptoSaid : Prop := memFieldsUptoRow.holds Tryd.pinned (OpenSpec.upto memFieldsSpec)

/-- 'nurserypylaw3.MajorOrder', WHERE WHAT IT READS IS OF BULK AT MOST 1048576: true; the input reads as it did. -/
def majorOrderUptoRow : OpenClaim := { program := "ytecbbbaafcoliaadoor", sum := "4c6e9408f554e16306a05a7234461729e2b4e92159cf107db0b13182c454d786", func := "nurserypy/nurserypylaw3.MajorOrder", spec := "majorOrder", unfollowed := true, recurses := true, named := ["nurserypy/api.ErrBound", "nurserypy/api.ErrShape", "nurserypy/api.ErrFull", "nurserypy/api.ErrPlace"], apart := false, laid := [("nurserypy/api.ErrBound", laid_nurserypy_api_ErrBound), ("nurserypy/api.ErrShape", laid_nurserypy_api_ErrShape), ("nurserypy/api.ErrPlace", laid_nurserypy_api_ErrPlace), ("nurserypy/api.ErrFull", laid_nurserypy_api_ErrFull)], narrowed := true }
def MajorOrderUptoSaid : Prop := majorOrderUptoRow.holds Tryd.pinned (OpenSpec.upto majorOrderSpec)

/-- 'nurserypylaw3.MajorTwice', WHERE WHAT IT READS IS OF BULK AT MOST 1048576: true; the input reads as it did. -/
def majorTwiceUptoRow : OpenClaim := { program := "ytecbbbaafcoliaadoor", sum := "4c6e9408f554e16306a05a7234461729e2b4e92159cf107db0b13182c454d786", func := "nurserypy/nurserypylaw3.MajorTwice", spec := "majorTwice", unfollowed := true, recurses := true, named := ["nurserypy/api.ErrBound", "nurserypy/api.ErrShape", "nurserypy/api.ErrFull", "nurserypy/api.ErrPlace"], apart := false, laid := [("nurserypy/api.ErrBound", laid_nurserypy_api_ErrBound), ("nurserypy/api.ErrShape", laid_nurserypy_api_ErrShape), ("nurserypy/api.ErrPlace", laid_nurserypy_api_ErrPlace), ("nurserypy/api.ErrFull", laid_nurserypy_api_ErrFull)], narrowed := true }
def MajorTwiceUptoSaid : Prop := majorTwiceUptoRow.holds Tryd.pinned (OpenSpec.upto majorTwiceSpec)

end Rows
end Go.Proofs.YtecbbbaafcoliaaDoor
