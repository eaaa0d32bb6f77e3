/-
  DERIVED. GIVEN WITH THE SEED: THE CARDS: each row of YtbbiaepgenbloaaGreatDoorRows.lean that lists a variable, with what it lists TIED to the program's text (the seventh form; the later family's looks); each row that meets fmt, with fmt's text TOLD by the authors' own Lean function (tested against real Go, not proved from fmt's source: count such statements apart). THE CARD IS WHAT COUNTS. Prove the row's statement (the work); the ties are given (YtbbiaepgenbloaaGreatDoorTie.lean); close each card by the builder's one call (the guide's Derived/Test/ToyasCard.lean, 'card_holds'). Laid BY PROGRAM, IN A SANDBOX (cutbox-door.mjs). By AI agents, Wed Nov 11 2026. No macro, syntax, notation, axiom, sorry.
-/
import Derived.Test.YtbbiaepgenbloaaGreatDoorRows
import GoSem.ClaimSeven
namespace Go.Proofs.YtbbiaepgenbloaaGreatDoor
namespace Rows

/-- THE TIED CARD OF 'nurserypylaw3.HeapSerials'. -/
def heapSerialsCard : Claim7 := { stood := { row := heapSerialsRow, standIns := [], harness := (true, "2240bf018bdcf27cc68824eb4b4e3d98bdeb16f27e437bac054896a192d28ee3"), looks := true }, kinds := [], alts := [], laidByText := true, laidKinds := [.data, .data, .data, .sentinel, .sentinel, .sentinel, .sentinel], laidTests := true, laidLooks := .later }
def HeapSerialsCardSaid : Prop := Claim7.holds Tryz.pinned (.plain (OpenSpec.ofChange heapSerialsSpec)) heapSerialsCard

/-- THE TIED CARD OF 'nurserypylaw3.HeapRings'. -/
def heapRingsCard : Claim7 := { stood := { row := heapRingsRow, standIns := [], harness := (true, "2240bf018bdcf27cc68824eb4b4e3d98bdeb16f27e437bac054896a192d28ee3"), looks := true }, kinds := [], alts := [], laidByText := true, laidKinds := [.data, .data, .data, .sentinel, .sentinel, .sentinel, .sentinel], laidTests := true, laidLooks := .later }
def HeapRingsCardSaid : Prop := Claim7.holds Tryz.pinned (.plain (OpenSpec.ofChange heapRingsSpec)) heapRingsCard

/-- THE TIED CARD OF 'nurserypylaw3.HeapWeak'. -/
def heapWeakCard : Claim7 := { stood := { row := heapWeakRow, standIns := [], harness := (true, "2240bf018bdcf27cc68824eb4b4e3d98bdeb16f27e437bac054896a192d28ee3"), looks := true }, kinds := [], alts := [], laidByText := true, laidKinds := [.data, .data, .data, .sentinel, .sentinel, .sentinel, .sentinel], laidTests := true, laidLooks := .later }
def HeapWeakCardSaid : Prop := Claim7.holds Tryz.pinned (.plain (OpenSpec.ofChange heapWeakSpec)) heapWeakCard

/-- THE TIED CARD OF 'nurserypylaw3.HeapCounts'. -/
def heapCountsCard : Claim7 := { stood := { row := heapCountsRow, standIns := [], harness := (true, "2240bf018bdcf27cc68824eb4b4e3d98bdeb16f27e437bac054896a192d28ee3"), looks := true }, kinds := [], alts := [], laidByText := true, laidKinds := [.data, .data, .data, .sentinel, .sentinel, .sentinel, .sentinel], laidTests := true, laidLooks := .later }
def HeapCountsCardSaid : Prop := Claim7.holds Tryz.pinned (.plain (OpenSpec.ofChange heapCountsSpec)) heapCountsCard

/-- THE TIED CARD OF 'nurserypylaw3.HeapNew'. -/
def heapNewCard : Claim7 := { stood := { row := heapNewRow, standIns := [], harness := (true, "2240bf018bdcf27cc68824eb4b4e3d98bdeb16f27e437bac054896a192d28ee3"), looks := true }, kinds := [], alts := [], laidByText := true, laidKinds := [.data, .data, .data, .handle, .sentinel, .sentinel, .sentinel, .sentinel, .sentinel, .sentinel, .sentinel], laidTests := true, laidLooks := .later }
def HeapNewCardSaid : Prop := Claim7.holds Tryz.pinned (.plain (OpenSpec.ofChange heapNewSpec)) heapNewCard

/-- THE SECOND FORM's CARD OF 'nurserypylaw3.HeapSerials'. -/
def heapSerialsUptoCard : Claim7 := { stood := { row := heapSerialsUptoRow, standIns := [], harness := (true, "2240bf018bdcf27cc68824eb4b4e3d98bdeb16f27e437bac054896a192d28ee3"), looks := true }, kinds := [], alts := [], laidByText := true, laidKinds := [.data, .data, .data, .sentinel, .sentinel, .sentinel, .sentinel], laidTests := true, laidLooks := .later }
def HeapSerialsUptoCardSaid : Prop := Claim7.holds Tryz.pinned (.plain (OpenSpec.upto heapSerialsSpec)) heapSerialsUptoCard

/-- THE SECOND FORM's CARD OF 'nurserypylaw3.HeapRings'. -/
def heapRingsUptoCard : Claim7 := { stood := { row := heapRingsUptoRow, standIns := [], harness := (true, "2240bf018bdcf27cc68824eb4b4e3d98bdeb16f27e437bac054896a192d28ee3"), looks := true }, kinds := [], alts := [], laidByText := true, laidKinds := [.data, .data, .data, .sentinel, .sentinel, .sentinel, .sentinel], laidTests := true, laidLooks := .later }
def HeapRingsUptoCardSaid : Prop := Claim7.holds Tryz.pinned (.plain (OpenSpec.upto heapRingsSpec)) heapRingsUptoCard

/-- THE SECOND FORM's CARD OF 'nurserypylaw3.HeapWeak'. -/
def heapWeakUptoCard : Claim7 := { stood := { row := heapWeakUptoRow, standIns := [], harness := (true, "2240bf018bdcf27cc68824eb4b4e3d98bdeb16f27e437bac054896a192d28ee3"), looks := true }, kinds := [], alts := [], laidByText := true, laidKinds := [.data, .data, .data, .sentinel, .sentinel, .sentinel, .sentinel], laidTests := true, laidLooks := .later }
def HeapWeakUptoCardSaid : Prop := Claim7.holds Tryz.pinned (.plain (OpenSpec.upto heapWeakSpec)) heapWeakUptoCard

/-- THE SECOND FORM's CARD OF 'nurserypylaw3.HeapCounts'. -/
def heapCountsUptoCard : Claim7 := { stood := { row := heapCountsUptoRow, standIns := [], harness := (true, "2240bf018bdcf27cc68824eb4b4e3d98bdeb16f27e437bac054896a192d28ee3"), looks := true }, kinds := [], alts := [], laidByText := true, laidKinds := [.data, .data, .data, .sentinel, .sentinel, .sentinel, .sentinel], laidTests := true, laidLooks := .later }
def HeapCountsUptoCardSaid : Prop := Claim7.holds Tryz.pinned (.plain (OpenSpec.upto heapCountsSpec)) heapCountsUptoCard

/-- THE SECOND FORM's CARD OF 'nurserypylaw3.HeapNew'. -/
def heapNewUptoCard : Claim7 := { stood := { row := heapNewUptoRow, standIns := [], harness := (true, "2240bf018bdcf27cc68824eb4b4e3d98bdeb16f27e437bac054896a192d28ee3"), looks := true }, kinds := [], alts := [], laidByText := true, laidKinds := [.data, .data, .data, .handle, .sentinel, .sentinel, .sentinel, .sentinel, .sentinel, .sentinel, .sentinel], laidTests := true, laidLooks := .later }
def HeapNewUptoCardSaid : Prop := Claim7.holds Tryz.pinned (.plain (OpenSpec.upto heapNewSpec)) heapNewUptoCard
end Rows
end Go.Proofs.YtbbiaepgenbloaaGreatDoor
