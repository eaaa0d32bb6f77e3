/- The walk of the document's CheckOf: the objects, the cards, the numbers. -/
import Derived.Test.YtelhoppfidibiaaGreatDoorJOa26
import Derived.Test.YtelhoppfidibiaaGreatDoorJOa09
import Derived.Test.YtelhoppfidibiaaGreatDoorJOa07
import Derived.Test.YtelhoppfidibiaaGreatDoorJOa08
import Derived.Deep.RegionHeld3
namespace Go.Proofs.YtelhoppfidibiaaGreatDoor
open Go.RowKit
set_option linter.unusedVariables false
set_option linter.unusedSimpArgs false
end Go.Proofs.YtelhoppfidibiaaGreatDoor
