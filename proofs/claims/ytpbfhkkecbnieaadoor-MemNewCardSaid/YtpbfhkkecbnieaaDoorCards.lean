/-
  DERIVED. GIVEN WITH THE SEED: THE CARDS: each row of YtpbfhkkecbnieaaDoorRows.lean that lists a variable, with what it lists TIED to the program's text (the seventh form; the later family's looks); each row that meets fmt, with fmt's text TOLD by the authors' own Lean function (tested against real Go, not proved from fmt's source: count such statements apart). THE CARD IS WHAT COUNTS. Prove the row's statement (the work); the ties are given (YtpbfhkkecbnieaaDoorTie.lean); close each card by the builder's one call (the guide's Derived/Test/ToyasCard.lean, 'card_holds'). Laid BY PROGRAM, IN A SANDBOX (cutbox-door.mjs). By AI agents, Wed Nov 11 2026. No macro, syntax, notation, axiom, sorry.
-/
import Derived.Test.YtpbfhkkecbnieaaDoorRows
import GoSem.ClaimSeven
namespace Go.Proofs.YtpbfhkkecbnieaaDoor
namespace Rows

/-- THE TIED CARD OF 'nurserypylaw3.WordTwice'. -/
def wordTwiceCard : Claim7 := { stood := { row := wordTwiceRow, standIns := [], harness := (true, "addc0032a58d7c57b4baec269a691026a17e6e2747c493945b65dd4053cffefd"), looks := true }, kinds := [], alts := [], laidByText := true, laidKinds := [.sentinel, .sentinel], laidTests := true, laidLooks := .later }
def WordTwiceCardSaid : Prop := Claim7.holds Tryd.pinned (.plain (OpenSpec.ofChange wordTwiceSpec)) wordTwiceCard

/-- THE TIED CARD OF 'nurserypylaw3.MemCopies'. -/
def memCopiesCard : Claim7 := { stood := { row := memCopiesRow, standIns := [], harness := (true, "addc0032a58d7c57b4baec269a691026a17e6e2747c493945b65dd4053cffefd"), looks := true }, kinds := [], alts := [], laidByText := true, laidKinds := [.sentinel, .sentinel, .sentinel, .sentinel], laidTests := true, laidLooks := .later }
def MemCopiesCardSaid : Prop := Claim7.holds Tryd.pinned (.plain (OpenSpec.ofChange memCopiesSpec)) memCopiesCard

/-- THE TIED CARD OF 'nurserypylaw3.MemWalks'. -/
def memWalksCard : Claim7 := { stood := { row := memWalksRow, standIns := [], harness := (true, "addc0032a58d7c57b4baec269a691026a17e6e2747c493945b65dd4053cffefd"), looks := true }, kinds := [], alts := [], laidByText := true, laidKinds := [.sentinel, .sentinel, .sentinel], laidTests := true, laidLooks := .later }
def MemWalksCardSaid : Prop := Claim7.holds Tryd.pinned (.plain (OpenSpec.ofChange memWalksSpec)) memWalksCard

/-- THE TIED CARD OF 'nurserypylaw3.WordInts'. -/
def wordIntsCard : Claim7 := { stood := { row := wordIntsRow, standIns := [], harness := (true, "addc0032a58d7c57b4baec269a691026a17e6e2747c493945b65dd4053cffefd"), looks := true }, kinds := [], alts := [], laidByText := true, laidKinds := [.handle, .sentinel, .sentinel, .sentinel, .sentinel, .sentinel, .sentinel, .sentinel], laidTests := true, laidLooks := .later }
def WordIntsCardSaid : Prop := Claim7.holds Tryd.pinned (.plain (OpenSpec.ofChange wordIntsSpec)) wordIntsCard

/-- THE TIED CARD OF 'nurserypylaw3.WordHeads'. -/
def wordHeadsCard : Claim7 := { stood := { row := wordHeadsRow, standIns := [], harness := (true, "addc0032a58d7c57b4baec269a691026a17e6e2747c493945b65dd4053cffefd"), looks := true }, kinds := [], alts := [], laidByText := true, laidKinds := [.handle, .sentinel, .sentinel, .sentinel, .sentinel, .sentinel, .sentinel, .sentinel], laidTests := true, laidLooks := .later }
def WordHeadsCardSaid : Prop := Claim7.holds Tryd.pinned (.plain (OpenSpec.ofChange wordHeadsSpec)) wordHeadsCard

/-- THE TIED CARD OF 'nurserypylaw3.WordBytes'. -/
def wordBytesCard : Claim7 := { stood := { row := wordBytesRow, standIns := [], harness := (true, "addc0032a58d7c57b4baec269a691026a17e6e2747c493945b65dd4053cffefd"), looks := true }, kinds := [], alts := [], laidByText := true, laidKinds := [.handle, .sentinel, .sentinel, .sentinel, .sentinel, .sentinel, .sentinel, .sentinel], laidTests := true, laidLooks := .later }
def WordBytesCardSaid : Prop := Claim7.holds Tryd.pinned (.plain (OpenSpec.ofChange wordBytesSpec)) wordBytesCard

/-- THE TIED CARD OF 'nurserypylaw3.WordAddrs'. -/
def wordAddrsCard : Claim7 := { stood := { row := wordAddrsRow, standIns := [], harness := (true, "addc0032a58d7c57b4baec269a691026a17e6e2747c493945b65dd4053cffefd"), looks := true }, kinds := [], alts := [], laidByText := true, laidKinds := [.handle, .sentinel, .sentinel, .sentinel, .sentinel, .sentinel, .sentinel, .sentinel], laidTests := true, laidLooks := .later }
def WordAddrsCardSaid : Prop := Claim7.holds Tryd.pinned (.plain (OpenSpec.ofChange wordAddrsSpec)) wordAddrsCard

/-- THE TIED CARD OF 'nurserypylaw3.MinorAges'. -/
def minorAgesCard : Claim7 := { stood := { row := minorAgesRow, standIns := [], harness := (true, "addc0032a58d7c57b4baec269a691026a17e6e2747c493945b65dd4053cffefd"), looks := true }, kinds := [], alts := [], laidByText := true, laidKinds := [.sentinel, .sentinel, .sentinel, .sentinel], laidTests := true, laidLooks := .later }
def MinorAgesCardSaid : Prop := Claim7.holds Tryd.pinned (.plain (OpenSpec.ofChange minorAgesSpec)) minorAgesCard

/-- THE TIED CARD OF 'nurserypylaw3.MinorGrows'. -/
def minorGrowsCard : Claim7 := { stood := { row := minorGrowsRow, standIns := [], harness := (true, "addc0032a58d7c57b4baec269a691026a17e6e2747c493945b65dd4053cffefd"), looks := true }, kinds := [], alts := [], laidByText := true, laidKinds := [.sentinel, .sentinel, .sentinel, .sentinel], laidTests := true, laidLooks := .later }
def MinorGrowsCardSaid : Prop := Claim7.holds Tryd.pinned (.plain (OpenSpec.ofChange minorGrowsSpec)) minorGrowsCard

/-- THE TIED CARD OF 'nurserypylaw3.MemNew'. -/
def memNewCard : Claim7 := { stood := { row := memNewRow, standIns := [], harness := (true, "addc0032a58d7c57b4baec269a691026a17e6e2747c493945b65dd4053cffefd"), looks := true }, kinds := [], alts := [], laidByText := true, laidKinds := [.handle, .sentinel, .sentinel, .sentinel, .sentinel, .sentinel, .sentinel, .sentinel], laidTests := true, laidLooks := .later }
def MemNewCardSaid : Prop := Claim7.holds Tryd.pinned (.plain (OpenSpec.ofChange memNewSpec)) memNewCard

/-- THE TIED CARD OF 'nurserypylaw3.MemAllocs'. -/
def memAllocsCard : Claim7 := { stood := { row := memAllocsRow, standIns := [], harness := (true, "addc0032a58d7c57b4baec269a691026a17e6e2747c493945b65dd4053cffefd"), looks := true }, kinds := [], alts := [], laidByText := true, laidKinds := [.handle, .sentinel, .sentinel, .sentinel, .sentinel, .sentinel, .sentinel, .sentinel], laidTests := true, laidLooks := .later }
def MemAllocsCardSaid : Prop := Claim7.holds Tryd.pinned (.plain (OpenSpec.ofChange memAllocsSpec)) memAllocsCard

/-- THE TIED CARD OF 'nurserypylaw3.MemFields'. -/
def memFieldsCard : Claim7 := { stood := { row := memFieldsRow, standIns := [], harness := (true, "addc0032a58d7c57b4baec269a691026a17e6e2747c493945b65dd4053cffefd"), looks := true }, kinds := [], alts := [], laidByText := true, laidKinds := [.handle, .sentinel, .sentinel, .sentinel, .sentinel, .sentinel, .sentinel, .sentinel], laidTests := true, laidLooks := .later }
def MemFieldsCardSaid : Prop := Claim7.holds Tryd.pinned (.plain (OpenSpec.ofChange memFieldsSpec)) memFieldsCard

/-- THE TIED CARD OF 'nurserypylaw3.CodeTexts'. -/
def codeTextsCard : Claim7 := { stood := { row := codeTextsRow, standIns := [], harness := (true, "addc0032a58d7c57b4baec269a691026a17e6e2747c493945b65dd4053cffefd"), looks := true }, kinds := [], alts := [], laidByText := true, laidKinds := [.data, .data, .data, .sentinel, .sentinel], laidTests := true, laidLooks := .later }
def CodeTextsCardSaid : Prop := Claim7.holds Tryd.pinned (.plain (OpenSpec.ofChange codeTextsSpec)) codeTextsCard

/-- THE TIED CARD OF 'nurserypylaw3.CodeVerifies'. -/
def codeVerifiesCard : Claim7 := { stood := { row := codeVerifiesRow, standIns := [], harness := (true, "addc0032a58d7c57b4baec269a691026a17e6e2747c493945b65dd4053cffefd"), looks := true }, kinds := [], alts := [], laidByText := true, laidKinds := [.data, .data, .data, .handle, .sentinel, .sentinel, .sentinel, .sentinel, .sentinel, .sentinel, .sentinel], laidTests := true, laidLooks := .later }
def CodeVerifiesCardSaid : Prop := Claim7.holds Tryd.pinned (.plain (OpenSpec.ofChange codeVerifiesSpec)) codeVerifiesCard

/-- THE TIED CARD OF 'nurserypylaw3.CodeWide'. -/
def codeWideCard : Claim7 := { stood := { row := codeWideRow, standIns := [], harness := (true, "addc0032a58d7c57b4baec269a691026a17e6e2747c493945b65dd4053cffefd"), looks := true }, kinds := [], alts := [], laidByText := true, laidKinds := [.data, .data, .data, .handle, .sentinel, .sentinel, .sentinel, .sentinel, .sentinel, .sentinel, .sentinel], laidTests := true, laidLooks := .later }
def CodeWideCardSaid : Prop := Claim7.holds Tryd.pinned (.plain (OpenSpec.ofChange codeWideSpec)) codeWideCard

/-- THE TIED CARD OF 'nurserypylaw3.MajorOrder'. -/
def majorOrderCard : Claim7 := { stood := { row := majorOrderRow, standIns := [], harness := (true, "addc0032a58d7c57b4baec269a691026a17e6e2747c493945b65dd4053cffefd"), looks := true }, kinds := [], alts := [], laidByText := true, laidKinds := [.sentinel, .sentinel, .sentinel, .sentinel], laidTests := true, laidLooks := .later }
def MajorOrderCardSaid : Prop := Claim7.holds Tryd.pinned (.plain (OpenSpec.ofChange majorOrderSpec)) majorOrderCard

/-- THE TIED CARD OF 'nurserypylaw3.MajorTwice'. -/
def majorTwiceCard : Claim7 := { stood := { row := majorTwiceRow, standIns := [], harness := (true, "addc0032a58d7c57b4baec269a691026a17e6e2747c493945b65dd4053cffefd"), looks := true }, kinds := [], alts := [], laidByText := true, laidKinds := [.sentinel, .sentinel, .sentinel, .sentinel], laidTests := true, laidLooks := .later }
def MajorTwiceCardSaid : Prop := Claim7.holds Tryd.pinned (.plain (OpenSpec.ofChange majorTwiceSpec)) majorTwiceCard

/-- THE SECOND FORM's CARD OF 'nurserypylaw3.WordTwice'. -/
def wordTwiceUptoCard : Claim7 := { stood := { row := wordTwiceUptoRow, standIns := [], harness := (true, "addc0032a58d7c57b4baec269a691026a17e6e2747c493945b65dd4053cffefd"), looks := true }, kinds := [], alts := [], laidByText := true, laidKinds := [.sentinel, .sentinel], laidTests := true, laidLooks := .later }
def WordTwiceUptoCardSaid : Prop := Claim7.holds Tryd.pinned (.plain (OpenSpec.upto wordTwiceSpec)) wordTwiceUptoCard

/-- THE SECOND FORM's CARD OF 'nurserypylaw3.MemCopies'. -/
def memCopiesUptoCard : Claim7 := { stood := { row := memCopiesUptoRow, standIns := [], harness := (true, "addc0032a58d7c57b4baec269a691026a17e6e2747c493945b65dd4053cffefd"), looks := true }, kinds := [], alts := [], laidByText := true, laidKinds := [.sentinel, .sentinel, .sentinel, .sentinel], laidTests := true, laidLooks := .later }
def MemCopiesUptoCardSaid : Prop := Claim7.holds Tryd.pinned (.plain (OpenSpec.upto memCopiesSpec)) memCopiesUptoCard

/-- THE SECOND FORM's CARD OF 'nurserypylaw3.MemWalks'. -/
def memWalksUptoCard : Claim7 := { stood := { row := memWalksUptoRow, standIns := [], harness := (true, "addc0032a58d7c57b4baec269a691026a17e6e2747c493945b65dd4053cffefd"), looks := true }, kinds := [], alts := [], laidByText := true, laidKinds := [.sentinel, .sentinel, .sentinel], laidTests := true, laidLooks := .later }
def MemWalksUptoCardSaid : Prop := Claim7.holds Tryd.pinned (.plain (OpenSpec.upto memWalksSpec)) memWalksUptoCard

/-- THE SECOND FORM's CARD OF 'nurserypylaw3.WordInts'. -/
def wordIntsUptoCard : Claim7 := { stood := { row := wordIntsUptoRow, standIns := [], harness := (true, "addc0032a58d7c57b4baec269a691026a17e6e2747c493945b65dd4053cffefd"), looks := true }, kinds := [], alts := [], laidByText := true, laidKinds := [.handle, .sentinel, .sentinel, .sentinel, .sentinel, .sentinel, .sentinel, .sentinel], laidTests := true, laidLooks := .later }
def WordIntsUptoCardSaid : Prop := Claim7.holds Tryd.pinned (.plain (OpenSpec.upto wordIntsSpec)) wordIntsUptoCard

/-- THE SECOND FORM's CARD OF 'nurserypylaw3.WordHeads'. -/
def wordHeadsUptoCard : Claim7 := { stood := { row := wordHeadsUptoRow, standIns := [], harness := (true, "addc0032a58d7c57b4baec269a691026a17e6e2747c493945b65dd4053cffefd"), looks := true }, kinds := [], alts := [], laidByText := true, laidKinds := [.handle, .sentinel, .sentinel, .sentinel, .sentinel, .sentinel, .sentinel, .sentinel], laidTests := true, laidLooks := .later }
def WordHeadsUptoCardSaid : Prop := Claim7.holds Tryd.pinned (.plain (OpenSpec.upto wordHeadsSpec)) wordHeadsUptoCard

/-- THE SECOND FORM's CARD OF 'nurserypylaw3.WordBytes'. -/
def wordBytesUptoCard : Claim7 := { stood := { row := wordBytesUptoRow, standIns := [], harness := (true, "addc0032a58d7c57b4baec269a691026a17e6e2747c493945b65dd4053cffefd"), looks := true }, kinds := [], alts := [], laidByText := true, laidKinds := [.handle, .sentinel, .sentinel, .sentinel, .sentinel, .sentinel, .sentinel, .sentinel], laidTests := true, laidLooks := .later }
def WordBytesUptoCardSaid : Prop := Claim7.holds Tryd.pinned (.plain (OpenSpec.upto wordBytesSpec)) wordBytesUptoCard

/-- THE SECOND FORM's CARD OF 'nurserypylaw3.WordAddrs'. -/
def wordAddrsUptoCard : Claim7 := { stood := { row := wordAddrsUptoRow, standIns := [], harness := (true, "addc0032a58d7c57b4baec269a691026a17e6e2747c493945b65dd4053cffefd"), looks := true }, kinds := [], alts := [], laidByText := true, laidKinds := [.handle, .sentinel, .sentinel, .sentinel, .sentinel, .sentinel, .sentinel, .sentinel], laidTests := true, laidLooks := .later }
def WordAddrsUptoCardSaid : Prop := Claim7.holds Tryd.pinned (.plain (OpenSpec.upto wordAddrsSpec)) wordAddrsUptoCard

/-- THE SECOND FORM's CARD OF 'nurserypylaw3.MinorAges'. -/
def minorAgesUptoCard : Claim7 := { stood := { row := minorAgesUptoRow, standIns := [], harness := (true, "addc0032a58d7c57b4baec269a691026a17e6e2747c493945b65dd4053cffefd"), looks := true }, kinds := [], alts := [], laidByText := true, laidKinds := [.sentinel, .sentinel, .sentinel, .sentinel], laidTests := true, laidLooks := .later }
def MinorAgesUptoCardSaid : Prop := Claim7.holds Tryd.pinned (.plain (OpenSpec.upto minorAgesSpec)) minorAgesUptoCard

/-- THE SECOND FORM's CARD OF 'nurserypylaw3.MinorGrows'. -/
def minorGrowsUptoCard : Claim7 := { stood := { row := minorGrowsUptoRow, standIns := [], harness := (true, "addc0032a58d7c57b4baec269a691026a17e6e2747c493945b65dd4053cffefd"), looks := true }, kinds := [], alts := [], laidByText := true, laidKinds := [.sentinel, .sentinel, .sentinel, .sentinel], laidTests := true, laidLooks := .later }
def MinorGrowsUptoCardSaid : Prop := Claim7.holds Tryd.pinned (.plain (OpenSpec.upto minorGrowsSpec)) minorGrowsUptoCard

/-- THE SECOND FORM's CARD OF 'nurserypylaw3.MemNew'. -/
def memNewUptoCard : Claim7 := { stood := { row := memNewUptoRow, standIns := [], harness := (true, "addc0032a58d7c57b4baec269a691026a17e6e2747c493945b65dd4053cffefd"), looks := true }, kinds := [], alts := [], laidByText := true, laidKinds := [.handle, .sentinel, .sentinel, .sentinel, .sentinel, .sentinel, .sentinel, .sentinel], laidTests := true, laidLooks := .later }
def MemNewUptoCardSaid : Prop := Claim7.holds Tryd.pinned (.plain (OpenSpec.upto memNewSpec)) memNewUptoCard

/-- THE SECOND FORM's CARD OF 'nurserypylaw3.MemAllocs'. -/
def memAllocsUptoCard : Claim7 := { stood := { row := memAllocsUptoRow, standIns := [], harness := (true, "addc0032a58d7c57b4baec269a691026a17e6e2747c493945b65dd4053cffefd"), looks := true }, kinds := [], alts := [], laidByText := true, laidKinds := [.handle, .sentinel, .sentinel, .sentinel, .sentinel, .sentinel, .sentinel, .sentinel], laidTests := true, laidLooks := .later }
def MemAllocsUptoCardSaid : Prop := Claim7.holds Tryd.pinned (.plain (OpenSpec.upto memAllocsSpec)) memAllocsUptoCard

/-- THE SECOND FORM's CARD OF 'nurserypylaw3.MemFields'. -/
def memFieldsUptoCard : Claim7 := { stood := { row := memFieldsUptoRow, standIns := [], harness := (true, "addc0032a58d7c57b4baec269a691026a17e6e2747c493945b65dd4053cffefd"), looks := true }, kinds := [], alts := [], laidByText := true, laidKinds := [.handle, .sentinel, .sentinel, .sentinel, .sentinel, .sentinel, .sentinel, .sentinel], laidTests := true, laidLooks := .later }
def MemFieldsUptoCardSaid : Prop := Claim7.holds Tryd.pinned (.plain (OpenSpec.upto memFieldsSpec)) memFieldsUptoCard

/-- THE SECOND FORM's CARD OF 'nurserypylaw3.CodeTexts'. -/
def codeTextsUptoCard : Claim7 := { stood := { row := codeTextsUptoRow, standIns := [], harness := (true, "addc0032a58d7c57b4baec269a691026a17e6e2747c493945b65dd4053cffefd"), looks := true }, kinds := [], alts := [], laidByText := true, laidKinds := [.data, .data, .data, .sentinel, .sentinel], laidTests := true, laidLooks := .later }
def CodeTextsUptoCardSaid : Prop := Claim7.holds Tryd.pinned (.plain (OpenSpec.upto codeTextsSpec)) codeTextsUptoCard

/-- THE SECOND FORM's CARD OF 'nurserypylaw3.CodeVerifies'. -/
def codeVerifiesUptoCard : Claim7 := { stood := { row := codeVerifiesUptoRow, standIns := [], harness := (true, "addc0032a58d7c57b4baec269a691026a17e6e2747c493945b65dd4053cffefd"), looks := true }, kinds := [], alts := [], laidByText := true, laidKinds := [.data, .data, .data, .handle, .sentinel, .sentinel, .sentinel, .sentinel, .sentinel, .sentinel, .sentinel], laidTests := true, laidLooks := .later }
def CodeVerifiesUptoCardSaid : Prop := Claim7.holds Tryd.pinned (.plain (OpenSpec.upto codeVerifiesSpec)) codeVerifiesUptoCard

/-- THE SECOND FORM's CARD OF 'nurserypylaw3.CodeWide'. -/
def codeWideUptoCard : Claim7 := { stood := { row := codeWideUptoRow, standIns := [], harness := (true, "addc0032a58d7c57b4baec269a691026a17e6e2747c493945b65dd4053cffefd"), looks := true }, kinds := [], alts := [], laidByText := true, laidKinds := [.data, .data, .data, .handle, .sentinel, .sentinel, .sentinel, .sentinel, .sentinel, .sentinel, .sentinel], laidTests := true, laidLooks := .later }
def CodeWideUptoCardSaid : Prop := Claim7.holds Tryd.pinned (.plain (OpenSpec.upto codeWideSpec)) codeWideUptoCard

/-- THE SECOND FORM's CARD OF 'nurserypylaw3.MajorOrder'. -/
def majorOrderUptoCard : Claim7 := { stood := { row := majorOrderUptoRow, standIns := [], harness := (true, "addc0032a58d7c57b4baec269a691026a17e6e2747c493945b65dd4053cffefd"), looks := true }, kinds := [], alts := [], laidByText := true, laidKinds := [.sentinel, .sentinel, .sentinel, .sentinel], laidTests := true, laidLooks := .later }
def MajorOrderUptoCardSaid : Prop := Claim7.holds Tryd.pinned (.plain (OpenSpec.upto majorOrderSpec)) majorOrderUptoCard

/-- THE SECOND FORM's CARD OF 'nurserypylaw3.MajorTwice'. -/
def majorTwiceUptoCard : Claim7 := { stood := { row := majorTwiceUptoRow, standIns := [], harness := (true, "addc0032a58d7c57b4baec269a691026a17e6e2747c493945b65dd4053cffefd"), looks := true }, kinds := [], alts := [], laidByText := true, laidKinds := [.sentinel, .sentinel, .sentinel, .sentinel], laidTests := true, laidLooks := .later }
def MajorTwiceUptoCardSaid : Prop := Claim7.holds Tryd.pinned (.plain (OpenSpec.upto majorTwiceSpec)) majorTwiceUptoCard
end Rows
end Go.Proofs.YtpbfhkkecbnieaaDoor
