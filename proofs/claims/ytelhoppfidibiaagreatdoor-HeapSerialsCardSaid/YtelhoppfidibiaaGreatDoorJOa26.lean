/- The walk of the document's CheckOf, where lengths, headers, roots or weak words are wrong. -/
import Derived.Test.YtelhoppfidibiaaGreatDoorJOa07
import Derived.Test.YtelhoppfidibiaaGreatDoorJOa25
import Derived.Deep.RegionHeld3
namespace Go.Proofs.YtelhoppfidibiaaGreatDoor
open Go.RowKit
set_option linter.unusedVariables false
set_option linter.unusedSimpArgs false
end Go.Proofs.YtelhoppfidibiaaGreatDoor
