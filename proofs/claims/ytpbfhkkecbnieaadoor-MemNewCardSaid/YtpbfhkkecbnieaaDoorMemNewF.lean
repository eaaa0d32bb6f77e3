/- The law MemNew: the closed facts of its row, each by itself. -/
import Derived.Test.YtpbfhkkecbnieaaDoorCards
import Derived.JoinedCond
import Derived.Lib.SmallJoins
import Derived.ProofKit
namespace Go.Proofs.YtpbfhkkecbnieaaDoor.MemNew
open Go.ChangeShapes Go.WideShapes Go.ChangeAt Go.RowKit

set_option maxHeartbeats 40000000 in
theorem closed : joinedFacts Tryd.prog 12 Tryd.f12 (OpenSpec.ofChange Rows.memNewSpec).bare Rows.memNewRow = true := by
  unfold joinedFacts
  repeat' (with_reducible refine Bool.and_eq_true_iff.2 ⟨?_, ?_⟩)
  all_goals as_aux_lemma => kernel_rfl
end Go.Proofs.YtpbfhkkecbnieaaDoor.MemNew
