/- The walk of the document's Shaped: where a length is wrong. -/
import Derived.Test.YtbbiaepgenbloaaGreatDoorJHa24
import Derived.Test.YtbbiaepgenbloaaGreatDoorJHa07
import Derived.Deep.RegionHeld3
import Derived.Test.YtbbiaepgenbloaaGreatDoorJHa09
import Derived.Test.YtbbiaepgenbloaaGreatDoorJHa08
namespace Go.Proofs.YtbbiaepgenbloaaGreatDoor
open Go.RowKit
set_option linter.unusedVariables false
set_option linter.unusedSimpArgs false

theorem dec_or (p : Prop) [Decidable p] : p ∨ ¬ p := Decidable.em p
/- The walk of the document's CheckOf, where lengths, headers, roots or weak words are wrong. -/
/- The walk of the document's CheckOf: the objects, the cards, the numbers. -/
/- The walk of the document's CheckOf, whatever the memory: it is the program's Check. -/
end Go.Proofs.YtbbiaepgenbloaaGreatDoor
