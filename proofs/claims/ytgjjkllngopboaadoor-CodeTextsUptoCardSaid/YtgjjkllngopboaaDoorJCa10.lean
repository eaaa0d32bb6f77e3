/- The walks of package mem: its small functions. -/
import Derived.Test.YtgjjkllngopboaaDoorJCa05
import Derived.Test.YtgjjkllngopboaaDoorJCa03
import Derived.IntWalk
namespace Go.Proofs.YtgjjkllngopboaaDoor
open Go.RowKit
set_option linter.unusedVariables false
set_option linter.unusedSimpArgs false
/- The walk of mem.field. -/
/- The walk of Memory.Each, whatever is called on the objects. -/
/- The walks of slices.IndexFunc and slices.ContainsFunc at words, whatever is asked of them. -/
end Go.Proofs.YtgjjkllngopboaaDoor
