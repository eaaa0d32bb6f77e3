/- Words as numbers, in plain Lean: no Go in sight. -/
import Derived.WalkKit
import Derived.Test.YtgjjkllngopboaaDoorJCa01
import Derived.Deep.QuietTactic
import Derived.BigQuiet
namespace Go.Proofs.YtgjjkllngopboaaDoor

def hSize (a : Int) : Int := a / 65536
def isHd (a : Int) : Bool := decide (a % 4 = 3) && decide (a / 32768 % 2 = 0) && decide (a / 65536 ≤ 4096)
open Go.RowKit
set_option linter.unusedVariables false
set_option linter.unusedSimpArgs false
/- The walks of package word: what each of its functions answers, as plain numbers. -/
/- The walks of package word: constants and headers. -/
end Go.Proofs.YtgjjkllngopboaaDoor
