/-
  DERIVED. GIVEN WITH THE SEED: THE CARDS: each row of YtecbbbaafcoliaaDoorRows.lean that lists a variable, with what it lists TIED to the program's text (the seventh form; the later family's looks); each row that meets fmt, with fmt's text TOLD by the authors' own Lean function (tested against real Go, not proved from fmt's source: count such statements apart). THE CARD IS WHAT COUNTS. Prove the row's statement (the work); the ties are given (YtecbbbaafcoliaaDoorTie.lean); close each card by the builder's one call (the guide's Derived/Test/ToyasCard.lean, 'card_holds'). Laid BY PROGRAM, IN A SANDBOX (cutbox-door.mjs). By AI agents, Wed Nov 11 2026. No macro, syntax, notation, axiom, sorry.
-/
import Derived.Test.YtecbbbaafcoliaaDoorRows
import GoSem.ClaimSeven
namespace Go.Proofs.YtecbbbaafcoliaaDoor
namespace Rows

/-- THE TIED CARD OF 'nurserypylaw3.MemCopies'. -/
def memCopiesCard : Claim7 := { stood := { row := memCopiesRow, standIns := [], harness := (true, "2d90e61720ee16eed28042a455ac60e29831b05e0c2015f34fb4b8c31eb258db"), looks := true }, kinds := [], alts := [], laidByText := true, laidKinds := [.sentinel, .sentinel, .sentinel, .sentinel], laidTests := true, laidLooks := .later }
def MemCopiesCardSaid : Prop := Claim7.holds Tryd.pinned (.plain (OpenSpec.ofChange memCopiesSpec)) memCopiesCard

/-- THE TIED CARD OF 'nurserypylaw3.MemWalks'. -/
def memWalksCard : Claim7 := { stood := { row := memWalksRow, standIns := [], harness := (true, "2d90e61720ee16eed28042a455ac60e29831b05e0c2015f34fb4b8c31eb258db"), looks := true }, kinds := [], alts := [], laidByText := true, laidKinds := [.sentinel, .sentinel, .sentinel], laidTests := true, laidLooks := .later }
def MemWalksCardSaid : Prop := Claim7.holds Tryd.pinned (.plain (OpenSpec.ofChange memWalksSpec)) memWalksCard

/-- THE TIED CARD OF 'nurserypylaw3.MinorAges'. -/
def minorAgesCard : Claim7 := { stood := { row := minorAgesRow, standIns := [], harness := (true, "2d90e61720ee16eed28042a455ac60e29831b05e0c2015f34fb4b8c31eb258db"), looks := true }, kinds := [], alts := [], laidByText := true, laidKinds := [.sentinel, .sentinel, .sentinel, .sentinel], laidTests := true, laidLooks := .later }
def MinorAgesCardSaid : Prop := Claim7.holds Tryd.pinned (.plain (OpenSpec.ofChange minorAgesSpec)) minorAgesCard

/-- THE TIED CARD OF 'nurserypylaw3.MinorGrows'. -/
def minorGrowsCard : Claim7 := { stood := { row := minorGrowsRow, standIns := [], harness := (true, "2d90e61720ee16eed28042a455ac60e29831b05e0c2015f34fb4b8c31eb258db"), looks := true }, kinds := [], alts := [], laidByText := true, laidKinds := [.sentinel, .sentinel, .sentinel, .sentinel], laidTests := true, laidLooks := .later }
def MinorGrowsCardSaid : Prop := Claim7.holds Tryd.pinned (.plain (OpenSpec.ofChange minorGrowsSpec)) minorGrowsCard

/-- THE TIED CARD OF 'nurserypylaw3.MemAllocs'. -/
def memAllocsCard : Claim7 := { stood := { row := memAllocsRow, standIns := [], harness := (true, "2d90e61720ee16eed28042a455ac60e29831b05e0c2015f34fb4b8c31eb258db"), looks := true }, kinds := [], alts := [], laidByText := true, laidKinds := [.handle, .sentinel, .sentinel, .sentinel, .sentinel, .sentinel, .sentinel, .sentinel], laidTests := true, laidLooks := .later }
def MemAllocsCardSaid : Prop := Claim7.holds Tryd.pinned (.plain (OpenSpec.ofChange memAllocsSpec)) memAllocsCard

/-- THE TIED CARD OF 'nurserypylaw3.MemFields'. -/
def memFieldsCard : Claim7 := { stood := { row := memFieldsRow, standIns := [], harness := (true, "2d90e61720ee16eed28042a455ac60e29831b05e0c2015f34fb4b8c31eb258db"), looks := true }, kinds := [], alts := [], laidByText := true, laidKinds := [.handle, .sentinel, .sentinel, .sentinel, .sentinel, .sentinel, .sentinel, .sentinel], laidTests := true, laidLooks := .later }
def MemFieldsCardSaid : Prop := Claim7.holds Tryd.pinned (.plain (OpenSpec.ofChange memFieldsSpec)) memFieldsCard

/-- THE TIED CARD OF 'nurserypylaw3.MajorOrder'. -/
def majorOrderCard : Claim7 := { stood := { row := majorOrderRow, standIns := [], harness := (true, "2d90e61720ee16eed28042a455ac60e29831b05e0c2015f34fb4b8c31eb258db"), looks := true }, kinds := [], alts := [], laidByText := true, laidKinds := [.sentinel, .sentinel, .sentinel, .sentinel], laidTests := true, laidLooks := .later }
def MajorOrderCardSaid : Prop := Claim7.holds Tryd.pinned (.plain (OpenSpec.ofChange majorOrderSpec)) majorOrderCard

/-- THE TIED CARD OF 'nurserypylaw3.MajorTwice'. -/
def majorTwiceCard : Claim7 := { stood := { row := majorTwiceRow, standIns := [], harness := (true, "2d90e61720ee16eed28042a455ac60e29831b05e0c2015f34fb4b8c31eb258db"), looks := true }, kinds := [], alts := [], laidByText := true, laidKinds := [.sentinel, .sentinel, .sentinel, .sentinel], laidTests := true, laidLooks := .later }
def MajorTwiceCardSaid : Prop := Claim7.holds Tryd.pinned (.plain (OpenSpec.ofChange majorTwiceSpec)) majorTwiceCard

/-- THE SECOND FORM's CARD OF 'nurserypylaw3.MemCopies'. -/
def memCopiesUptoCard : Claim7 := { stood := { row := memCopiesUptoRow, standIns := [], harness := (true, "2d90e61720ee16eed28042a455ac60e29831b05e0c2015f34fb4b8c31eb258db"), looks := true }, kinds := [], alts := [], laidByText := true, laidKinds := [.sentinel, .sentinel, .sentinel, .sentinel], laidTests := true, laidLooks := .later }
def MemCopiesUptoCardSaid : Prop := Claim7.holds Tryd.pinned (.plain (OpenSpec.upto memCopiesSpec)) memCopiesUptoCard

/-- THE SECOND FORM's CARD OF 'nurserypylaw3.MemWalks'. -/
def memWalksUptoCard : Claim7 := { stood := { row := memWalksUptoRow, standIns := [], harness := (true, "2d90e61720ee16eed28042a455ac60e29831b05e0c2015f34fb4b8c31eb258db"), looks := true }, kinds := [], alts := [], laidByText := true, laidKinds := [.sentinel, .sentinel, .sentinel], laidTests := true, laidLooks := .later }
def MemWalksUptoCardSaid : Prop := Claim7.holds Tryd.pinned (.plain (OpenSpec.upto memWalksSpec)) memWalksUptoCard

/-- THE SECOND FORM's CARD OF 'nurserypylaw3.MinorAges'. -/
def minorAgesUptoCard : Claim7 := { stood := { row := minorAgesUptoRow, standIns := [], harness := (true, "2d90e61720ee16eed28042a455ac60e29831b05e0c2015f34fb4b8c31eb258db"), looks := true }, kinds := [], alts := [], laidByText := true, laidKinds := [.sentinel, .sentinel, .sentinel, .sentinel], laidTests := true, laidLooks := .later }
def MinorAgesUptoCardSaid : Prop := Claim7.holds Tryd.pinned (.plain (OpenSpec.upto minorAgesSpec)) minorAgesUptoCard

/-- THE SECOND FORM's CARD OF 'nurserypylaw3.MinorGrows'. -/
def minorGrowsUptoCard : Claim7 := { stood := { row := minorGrowsUptoRow, standIns := [], harness := (true, "2d90e61720ee16eed28042a455ac60e29831b05e0c2015f34fb4b8c31eb258db"), looks := true }, kinds := [], alts := [], laidByText := true, laidKinds := [.sentinel, .sentinel, .sentinel, .sentinel], laidTests := true, laidLooks := .later }
def MinorGrowsUptoCardSaid : Prop := Claim7.holds Tryd.pinned (.plain (OpenSpec.upto minorGrowsSpec)) minorGrowsUptoCard

/-- THE SECOND FORM's CARD OF 'nurserypylaw3.MemAllocs'. -/
def memAllocsUptoCard : Claim7 := { stood := { row := memAllocsUptoRow, standIns := [], harness := (true, "2d90e61720ee16eed28042a455ac60e29831b05e0c2015f34fb4b8c31eb258db"), looks := true }, kinds := [], alts := [], laidByText := true, laidKinds := [.handle, .sentinel, .sentinel, .sentinel, .sentinel, .sentinel, .sentinel, .sentinel], laidTests := true, laidLooks := .later }
def MemAllocsUptoCardSaid : Prop := Claim7.holds Tryd.pinned (.plain (OpenSpec.upto memAllocsSpec)) memAllocsUptoCard

/-- THE SECOND FORM's CARD OF 'nurserypylaw3.MemFields'. -/
def memFieldsUptoCard : Claim7 := { stood := { row := memFieldsUptoRow, standIns := [], harness := (true, "2d90e61720ee16eed28042a455ac60e29831b05e0c2015f34fb4b8c31eb258db"), looks := true }, kinds := [], alts := [], laidByText := true, laidKinds := [.handle, .sentinel, .sentinel, .sentinel, .sentinel, .sentinel, .sentinel, .sentinel], laidTests := true, laidLooks := .later }
def MemFieldsUptoCardSaid : Prop := Claim7.holds Tryd.pinned (.plain (OpenSpec.upto memFieldsSpec)) memFieldsUptoCard

/-- THE SECOND FORM's CARD OF 'nurserypylaw3.MajorOrder'. -/
def majorOrderUptoCard : Claim7 := { stood := { row := majorOrderUptoRow, standIns := [], harness := (true, "2d90e61720ee16eed28042a455ac60e29831b05e0c2015f34fb4b8c31eb258db"), looks := true }, kinds := [], alts := [], laidByText := true, laidKinds := [.sentinel, .sentinel, .sentinel, .sentinel], laidTests := true, laidLooks := .later }
def MajorOrderUptoCardSaid : Prop := Claim7.holds Tryd.pinned (.plain (OpenSpec.upto majorOrderSpec)) majorOrderUptoCard

/-- THE SECOND FORM's CARD OF 'nurserypylaw3.MajorTwice'. -/
def majorTwiceUptoCard : Claim7 := { stood := { row := majorTwiceUptoRow, standIns := [], harness := (true, "2d90e61720ee16eed28042a455ac60e29831b05e0c2015f34fb4b8c31eb258db"), looks := true }, kinds := [], alts := [], laidByText := true, laidKinds := [.sentinel, .sentinel, .sentinel, .sentinel], laidTests := true, laidLooks := .later }
def MajorTwiceUptoCardSaid : Prop := Claim7.holds Tryd.pinned (.plain (OpenSpec.upto majorTwiceSpec)) majorTwiceUptoCard
end Rows
end Go.Proofs.YtecbbbaafcoliaaDoor
