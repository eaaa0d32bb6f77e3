/- The law WordBytes: the closed facts of its row, each by itself. -/
import Derived.Test.YtpbfhkkecbnieaaDoorCards
import Derived.JoinedCond
import Derived.Lib.SmallJoins
import Derived.ProofKit
namespace Go.Proofs.YtpbfhkkecbnieaaDoor.WordBytes
open Go.ChangeShapes Go.WideShapes Go.ChangeAt Go.RowKit

set_option maxHeartbeats 40000000 in
theorem closed : joinedFacts Tryd.prog 8 Tryd.f8 (OpenSpec.ofChange Rows.wordBytesSpec).bare Rows.wordBytesRow = true := by
  unfold joinedFacts
  repeat' (with_reducible refine Bool.and_eq_true_iff.2 ⟨?_, ?_⟩)
  all_goals as_aux_lemma => kernel_rfl
end Go.Proofs.YtpbfhkkecbnieaaDoor.WordBytes
