/- Pairs as cells. -/
import Derived.Test.YtpbfhkkecbnieaaDoorKeep
namespace Go.Proofs.YtpbfhkkecbnieaaDoor
theorem icells_at (l : List (Int × Int)) (i : Nat) (h : i < l.length) : (icells l)[i * 2]? = some (.int .u64 l[i].1) ∧ (icells l)[i * 2 + 1]? = some (.int .i64 l[i].2) := by
  induction l generalizing i with
  | nil => simp at h
  | cons y l ih =>
    cases i with
    | zero => simp [icells]
    | succ i =>
      have := ih i (by simpa using h)
      have e1 : (i + 1) * 2 = i * 2 + 2 := by omega
      rw [e1]
      simpa [icells] using this
theorem icells_len (l : List (Int × Int)) : (icells l).length = l.length * 2 := by
  induction l with
  | nil => rfl
  | cons y l ih => simp only [icells, List.flatMap_cons, List.length_append, List.length_cons, List.length_nil] at *; omega
end Go.Proofs.YtpbfhkkecbnieaaDoor
