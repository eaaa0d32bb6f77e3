/- The walk of the document's Shaped: where a length is wrong. -/
import Derived.Test.YtelhoppfidibiaaGreatDoorJOa24
namespace Go.Proofs.YtelhoppfidibiaaGreatDoor
open Go.RowKit
set_option linter.unusedVariables false
set_option linter.unusedSimpArgs false
end Go.Proofs.YtelhoppfidibiaaGreatDoor
