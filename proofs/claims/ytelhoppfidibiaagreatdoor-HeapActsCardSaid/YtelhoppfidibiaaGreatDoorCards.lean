/-
  DERIVED. GIVEN WITH THE SEED: THE CARDS: each row of YtelhoppfidibiaaGreatDoorRows.lean that lists a variable, with what it lists TIED to the program's text (the seventh form; the later family's looks); each row that meets fmt, with fmt's text TOLD by the authors' own Lean function (tested against real Go, not proved from fmt's source: count such statements apart). THE CARD IS WHAT COUNTS. Prove the row's statement (the work); the ties are given (YtelhoppfidibiaaGreatDoorTie.lean); close each card by the builder's one call (the guide's Derived/Test/ToyasCard.lean, 'card_holds'). Laid BY PROGRAM, IN A SANDBOX (cutbox-door.mjs). By AI agents, Wed Nov 11 2026. No macro, syntax, notation, axiom, sorry.
-/
import Derived.Test.YtelhoppfidibiaaGreatDoorRows
import GoSem.ClaimSeven
namespace Go.Proofs.YtelhoppfidibiaaGreatDoor
namespace Rows

/-- THE TIED CARD OF 'nurserypylaw3.HeapSerials'. -/
def heapSerialsCard : Claim7 := { stood := { row := heapSerialsRow, standIns := [], harness := (true, "eb2394404e57b9f4f9ecf84e457a456378328825c614b3bab978fc34bc1ba578"), looks := true }, kinds := [], alts := [], laidByText := true, laidKinds := [.data, .data, .data, .sentinel, .sentinel, .sentinel, .sentinel], laidTests := true, laidLooks := .later }
def HeapSerialsCardSaid : Prop := Claim7.holds Tryz.pinned (.plain (OpenSpec.ofChange heapSerialsSpec)) heapSerialsCard

/-- THE TIED CARD OF 'nurserypylaw3.HeapInts'. -/
def heapIntsCard : Claim7 := { stood := { row := heapIntsRow, standIns := [], harness := (true, "eb2394404e57b9f4f9ecf84e457a456378328825c614b3bab978fc34bc1ba578"), looks := true }, kinds := [], alts := [], laidByText := true, laidKinds := [.data, .data, .data, .sentinel, .sentinel, .sentinel, .sentinel], laidTests := true, laidLooks := .later }
def HeapIntsCardSaid : Prop := Claim7.holds Tryz.pinned (.plain (OpenSpec.ofChange heapIntsSpec)) heapIntsCard

/-- THE TIED CARD OF 'nurserypylaw3.HeapRings'. -/
def heapRingsCard : Claim7 := { stood := { row := heapRingsRow, standIns := [], harness := (true, "eb2394404e57b9f4f9ecf84e457a456378328825c614b3bab978fc34bc1ba578"), looks := true }, kinds := [], alts := [], laidByText := true, laidKinds := [.data, .data, .data, .sentinel, .sentinel, .sentinel, .sentinel], laidTests := true, laidLooks := .later }
def HeapRingsCardSaid : Prop := Claim7.holds Tryz.pinned (.plain (OpenSpec.ofChange heapRingsSpec)) heapRingsCard

/-- THE TIED CARD OF 'nurserypylaw3.HeapTrees'. -/
def heapTreesCard : Claim7 := { stood := { row := heapTreesRow, standIns := [], harness := (true, "eb2394404e57b9f4f9ecf84e457a456378328825c614b3bab978fc34bc1ba578"), looks := true }, kinds := [], alts := [], laidByText := true, laidKinds := [.data, .data, .data, .sentinel, .sentinel, .sentinel, .sentinel], laidTests := true, laidLooks := .later }
def HeapTreesCardSaid : Prop := Claim7.holds Tryz.pinned (.plain (OpenSpec.ofChange heapTreesSpec)) heapTreesCard

/-- THE TIED CARD OF 'nurserypylaw3.HeapAlike'. -/
def heapAlikeCard : Claim7 := { stood := { row := heapAlikeRow, standIns := [], harness := (true, "eb2394404e57b9f4f9ecf84e457a456378328825c614b3bab978fc34bc1ba578"), looks := true }, kinds := [], alts := [], laidByText := true, laidKinds := [.data, .data, .data, .handle, .sentinel, .sentinel, .sentinel, .sentinel, .sentinel, .sentinel, .sentinel], laidTests := true, laidLooks := .later }
def HeapAlikeCardSaid : Prop := Claim7.holds Tryz.pinned (.plain (OpenSpec.ofChange heapAlikeSpec)) heapAlikeCard

/-- THE TIED CARD OF 'nurserypylaw3.HeapActs'. -/
def heapActsCard : Claim7 := { stood := { row := heapActsRow, standIns := [], harness := (true, "eb2394404e57b9f4f9ecf84e457a456378328825c614b3bab978fc34bc1ba578"), looks := true }, kinds := [], alts := [], laidByText := true, laidKinds := [.data, .data, .data, .handle, .sentinel, .sentinel, .sentinel, .sentinel, .sentinel, .sentinel, .sentinel], laidTests := true, laidLooks := .later }
def HeapActsCardSaid : Prop := Claim7.holds Tryz.pinned (.plain (OpenSpec.ofChange heapActsSpec)) heapActsCard

/-- THE SECOND FORM's CARD OF 'nurserypylaw3.HeapSerials'. -/
def heapSerialsUptoCard : Claim7 := { stood := { row := heapSerialsUptoRow, standIns := [], harness := (true, "eb2394404e57b9f4f9ecf84e457a456378328825c614b3bab978fc34bc1ba578"), looks := true }, kinds := [], alts := [], laidByText := true, laidKinds := [.data, .data, .data, .sentinel, .sentinel, .sentinel, .sentinel], laidTests := true, laidLooks := .later }
def HeapSerialsUptoCardSaid : Prop := Claim7.holds Tryz.pinned (.plain (OpenSpec.upto heapSerialsSpec)) heapSerialsUptoCard

/-- THE SECOND FORM's CARD OF 'nurserypylaw3.HeapInts'. -/
def heapIntsUptoCard : Claim7 := { stood := { row := heapIntsUptoRow, standIns := [], harness := (true, "eb2394404e57b9f4f9ecf84e457a456378328825c614b3bab978fc34bc1ba578"), looks := true }, kinds := [], alts := [], laidByText := true, laidKinds := [.data, .data, .data, .sentinel, .sentinel, .sentinel, .sentinel], laidTests := true, laidLooks := .later }
def HeapIntsUptoCardSaid : Prop := Claim7.holds Tryz.pinned (.plain (OpenSpec.upto heapIntsSpec)) heapIntsUptoCard

/-- THE SECOND FORM's CARD OF 'nurserypylaw3.HeapRings'. -/
def heapRingsUptoCard : Claim7 := { stood := { row := heapRingsUptoRow, standIns := [], harness := (true, "eb2394404e57b9f4f9ecf84e457a456378328825c614b3bab978fc34bc1ba578"), looks := true }, kinds := [], alts := [], laidByText := true, laidKinds := [.data, .data, .data, .sentinel, .sentinel, .sentinel, .sentinel], laidTests := true, laidLooks := .later }
def HeapRingsUptoCardSaid : Prop := Claim7.holds Tryz.pinned (.plain (OpenSpec.upto heapRingsSpec)) heapRingsUptoCard

/-- THE SECOND FORM's CARD OF 'nurserypylaw3.HeapTrees'. -/
def heapTreesUptoCard : Claim7 := { stood := { row := heapTreesUptoRow, standIns := [], harness := (true, "eb2394404e57b9f4f9ecf84e457a456378328825c614b3bab978fc34bc1ba578"), looks := true }, kinds := [], alts := [], laidByText := true, laidKinds := [.data, .data, .data, .sentinel, .sentinel, .sentinel, .sentinel], laidTests := true, laidLooks := .later }
def HeapTreesUptoCardSaid : Prop := Claim7.holds Tryz.pinned (.plain (OpenSpec.upto heapTreesSpec)) heapTreesUptoCard

/-- THE SECOND FORM's CARD OF 'nurserypylaw3.HeapAlike'. -/
def heapAlikeUptoCard : Claim7 := { stood := { row := heapAlikeUptoRow, standIns := [], harness := (true, "eb2394404e57b9f4f9ecf84e457a456378328825c614b3bab978fc34bc1ba578"), looks := true }, kinds := [], alts := [], laidByText := true, laidKinds := [.data, .data, .data, .handle, .sentinel, .sentinel, .sentinel, .sentinel, .sentinel, .sentinel, .sentinel], laidTests := true, laidLooks := .later }
def HeapAlikeUptoCardSaid : Prop := Claim7.holds Tryz.pinned (.plain (OpenSpec.upto heapAlikeSpec)) heapAlikeUptoCard

/-- THE SECOND FORM's CARD OF 'nurserypylaw3.HeapActs'. -/
def heapActsUptoCard : Claim7 := { stood := { row := heapActsUptoRow, standIns := [], harness := (true, "eb2394404e57b9f4f9ecf84e457a456378328825c614b3bab978fc34bc1ba578"), looks := true }, kinds := [], alts := [], laidByText := true, laidKinds := [.data, .data, .data, .handle, .sentinel, .sentinel, .sentinel, .sentinel, .sentinel, .sentinel, .sentinel], laidTests := true, laidLooks := .later }
def HeapActsUptoCardSaid : Prop := Claim7.holds Tryz.pinned (.plain (OpenSpec.upto heapActsSpec)) heapActsUptoCard
end Rows
end Go.Proofs.YtelhoppfidibiaaGreatDoor
