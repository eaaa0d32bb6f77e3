/-
  DERIVED. GIVEN WITH THE SEED: THE CARDS: each row of YtgjjkllngopboaaDoorRows.lean that lists a variable, with what it lists TIED to the program's text (the seventh form; the later family's looks); each row that meets fmt, with fmt's text TOLD by the authors' own Lean function (tested against real Go, not proved from fmt's source: count such statements apart). THE CARD IS WHAT COUNTS. Prove the row's statement (the work); the ties are given (YtgjjkllngopboaaDoorTie.lean); close each card by the builder's one call (the guide's Derived/Test/ToyasCard.lean, 'card_holds'). Laid BY PROGRAM, IN A SANDBOX (cutbox-door.mjs). By AI agents, Wed Nov 11 2026. No macro, syntax, notation, axiom, sorry.
-/
import Derived.Test.YtgjjkllngopboaaDoorRows
import GoSem.ClaimSeven
namespace Go.Proofs.YtgjjkllngopboaaDoor
namespace Rows

/-- THE TIED CARD OF 'nurserypylaw3.CodeTexts'. -/
def codeTextsCard : Claim7 := { stood := { row := codeTextsRow, standIns := [], harness := (true, "3bb6e731e77874bb8279f9061eb6ff77fe4d71e5ffc9e828b4659552b440dcbc"), looks := true }, kinds := [], alts := [], laidByText := true, laidKinds := [.data, .data, .data, .sentinel, .sentinel], laidTests := true, laidLooks := .later }
def CodeTextsCardSaid : Prop := Claim7.holds Tryd.pinned (.plain (OpenSpec.ofChange codeTextsSpec)) codeTextsCard

/-- THE TIED CARD OF 'nurserypylaw3.CodeVerifies'. -/
def codeVerifiesCard : Claim7 := { stood := { row := codeVerifiesRow, standIns := [], harness := (true, "3bb6e731e77874bb8279f9061eb6ff77fe4d71e5ffc9e828b4659552b440dcbc"), looks := true }, kinds := [], alts := [], laidByText := true, laidKinds := [.data, .data, .data, .handle, .sentinel, .sentinel, .sentinel, .sentinel, .sentinel, .sentinel, .sentinel], laidTests := true, laidLooks := .later }
def CodeVerifiesCardSaid : Prop := Claim7.holds Tryd.pinned (.plain (OpenSpec.ofChange codeVerifiesSpec)) codeVerifiesCard

/-- THE TIED CARD OF 'nurserypylaw3.CodeWide'. -/
def codeWideCard : Claim7 := { stood := { row := codeWideRow, standIns := [], harness := (true, "3bb6e731e77874bb8279f9061eb6ff77fe4d71e5ffc9e828b4659552b440dcbc"), looks := true }, kinds := [], alts := [], laidByText := true, laidKinds := [.data, .data, .data, .handle, .sentinel, .sentinel, .sentinel, .sentinel, .sentinel, .sentinel, .sentinel], laidTests := true, laidLooks := .later }
def CodeWideCardSaid : Prop := Claim7.holds Tryd.pinned (.plain (OpenSpec.ofChange codeWideSpec)) codeWideCard

/-- THE SECOND FORM's CARD OF 'nurserypylaw3.CodeTexts'. -/
def codeTextsUptoCard : Claim7 := { stood := { row := codeTextsUptoRow, standIns := [], harness := (true, "3bb6e731e77874bb8279f9061eb6ff77fe4d71e5ffc9e828b4659552b440dcbc"), looks := true }, kinds := [], alts := [], laidByText := true, laidKinds := [.data, .data, .data, .sentinel, .sentinel], laidTests := true, laidLooks := .later }
def CodeTextsUptoCardSaid : Prop := Claim7.holds Tryd.pinned (.plain (OpenSpec.upto codeTextsSpec)) codeTextsUptoCard

/-- THE SECOND FORM's CARD OF 'nurserypylaw3.CodeVerifies'. -/
def codeVerifiesUptoCard : Claim7 := { stood := { row := codeVerifiesUptoRow, standIns := [], harness := (true, "3bb6e731e77874bb8279f9061eb6ff77fe4d71e5ffc9e828b4659552b440dcbc"), looks := true }, kinds := [], alts := [], laidByText := true, laidKinds := [.data, .data, .data, .handle, .sentinel, .sentinel, .sentinel, .sentinel, .sentinel, .sentinel, .sentinel], laidTests := true, laidLooks := .later }
def CodeVerifiesUptoCardSaid : Prop := Claim7.holds Tryd.pinned (.plain (OpenSpec.upto codeVerifiesSpec)) codeVerifiesUptoCard

/-- THE SECOND FORM's CARD OF 'nurserypylaw3.CodeWide'. -/
def codeWideUptoCard : Claim7 := { stood := { row := codeWideUptoRow, standIns := [], harness := (true, "3bb6e731e77874bb8279f9061eb6ff77fe4d71e5ffc9e828b4659552b440dcbc"), looks := true }, kinds := [], alts := [], laidByText := true, laidKinds := [.data, .data, .data, .handle, .sentinel, .sentinel, .sentinel, .sentinel, .sentinel, .sentinel, .sentinel], laidTests := true, laidLooks := .later }
def CodeWideUptoCardSaid : Prop := Claim7.holds Tryd.pinned (.plain (OpenSpec.upto codeWideSpec)) codeWideUptoCard
end Rows
end Go.Proofs.YtgjjkllngopboaaDoor
