/-
  DERIVED. GIVEN WITH THE SEED: THE CARDS: each row of YtecbbbaafcoliaaGreatDoorRows.lean that lists a variable, with what it lists TIED to the program's text (the seventh form; the later family's looks); each row that meets fmt, with fmt's text TOLD by the authors' own Lean function (tested against real Go, not proved from fmt's source: count such statements apart). THE CARD IS WHAT COUNTS. Prove the row's statement (the work); the ties are given (YtecbbbaafcoliaaGreatDoorTie.lean); close each card by the builder's one call (the guide's Derived/Test/ToyasCard.lean, 'card_holds'). Laid BY PROGRAM, IN A SANDBOX (cutbox-door.mjs). By AI agents, Wed Nov 11 2026. No macro, syntax, notation, axiom, sorry.
-/
import Derived.Test.YtecbbbaafcoliaaGreatDoorRows
import GoSem.ClaimSeven
namespace Go.Proofs.YtecbbbaafcoliaaGreatDoor
namespace Rows

/-- THE TIED CARD OF 'nurserypylaw3.MinorKeeps'. -/
def minorKeepsCard : Claim7 := { stood := { row := minorKeepsRow, standIns := [], harness := (true, "a2a248845e9ed6f167e1400d1fb71ddbf53ff711c3b5ce7810a1cf91b9a03c6c"), looks := true }, kinds := [], alts := [], laidByText := true, laidKinds := [.handle, .sentinel, .sentinel, .sentinel, .sentinel, .sentinel, .sentinel, .sentinel], laidTests := true, laidLooks := .later }
def MinorKeepsCardSaid : Prop := Claim7.holds Tryz.pinned (.plain (OpenSpec.ofChange minorKeepsSpec)) minorKeepsCard

/-- THE TIED CARD OF 'nurserypylaw3.MajorKeeps'. -/
def majorKeepsCard : Claim7 := { stood := { row := majorKeepsRow, standIns := [], harness := (true, "a2a248845e9ed6f167e1400d1fb71ddbf53ff711c3b5ce7810a1cf91b9a03c6c"), looks := true }, kinds := [], alts := [], laidByText := true, laidKinds := [.handle, .sentinel, .sentinel, .sentinel, .sentinel, .sentinel, .sentinel, .sentinel], laidTests := true, laidLooks := .later }
def MajorKeepsCardSaid : Prop := Claim7.holds Tryz.pinned (.plain (OpenSpec.ofChange majorKeepsSpec)) majorKeepsCard

/-- THE TIED CARD OF 'nurserypylaw3.MemChecks'. -/
def memChecksCard : Claim7 := { stood := { row := memChecksRow, standIns := [], harness := (true, "a2a248845e9ed6f167e1400d1fb71ddbf53ff711c3b5ce7810a1cf91b9a03c6c"), looks := true }, kinds := [], alts := [], laidByText := true, laidKinds := [.data, .data, .data, .handle, .sentinel, .sentinel, .sentinel, .sentinel, .sentinel, .sentinel, .sentinel], laidTests := true, laidLooks := .later }
def MemChecksCardSaid : Prop := Claim7.holds Tryz.pinned (.plain (OpenSpec.ofChange memChecksSpec)) memChecksCard

/-- THE SECOND FORM's CARD OF 'nurserypylaw3.MinorKeeps'. -/
def minorKeepsUptoCard : Claim7 := { stood := { row := minorKeepsUptoRow, standIns := [], harness := (true, "a2a248845e9ed6f167e1400d1fb71ddbf53ff711c3b5ce7810a1cf91b9a03c6c"), looks := true }, kinds := [], alts := [], laidByText := true, laidKinds := [.handle, .sentinel, .sentinel, .sentinel, .sentinel, .sentinel, .sentinel, .sentinel], laidTests := true, laidLooks := .later }
def MinorKeepsUptoCardSaid : Prop := Claim7.holds Tryz.pinned (.plain (OpenSpec.upto minorKeepsSpec)) minorKeepsUptoCard

/-- THE SECOND FORM's CARD OF 'nurserypylaw3.MajorKeeps'. -/
def majorKeepsUptoCard : Claim7 := { stood := { row := majorKeepsUptoRow, standIns := [], harness := (true, "a2a248845e9ed6f167e1400d1fb71ddbf53ff711c3b5ce7810a1cf91b9a03c6c"), looks := true }, kinds := [], alts := [], laidByText := true, laidKinds := [.handle, .sentinel, .sentinel, .sentinel, .sentinel, .sentinel, .sentinel, .sentinel], laidTests := true, laidLooks := .later }
def MajorKeepsUptoCardSaid : Prop := Claim7.holds Tryz.pinned (.plain (OpenSpec.upto majorKeepsSpec)) majorKeepsUptoCard

/-- THE SECOND FORM's CARD OF 'nurserypylaw3.MemChecks'. -/
def memChecksUptoCard : Claim7 := { stood := { row := memChecksUptoRow, standIns := [], harness := (true, "a2a248845e9ed6f167e1400d1fb71ddbf53ff711c3b5ce7810a1cf91b9a03c6c"), looks := true }, kinds := [], alts := [], laidByText := true, laidKinds := [.data, .data, .data, .handle, .sentinel, .sentinel, .sentinel, .sentinel, .sentinel, .sentinel, .sentinel], laidTests := true, laidLooks := .later }
def MemChecksUptoCardSaid : Prop := Claim7.holds Tryz.pinned (.plain (OpenSpec.upto memChecksSpec)) memChecksUptoCard
end Rows
end Go.Proofs.YtecbbbaafcoliaaGreatDoor
