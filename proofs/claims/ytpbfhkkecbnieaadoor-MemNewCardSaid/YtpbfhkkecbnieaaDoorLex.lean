/- A long region's closed fact (one walk of the text's order serves every order), shown operation by operation: else the kernel runs out of memory. -/
import Derived.Test.YtpbfhkkecbnieaaDoorBase
namespace Go.Proofs.YtpbfhkkecbnieaaDoor

/-- Which operations are behind, at the k-th. -/
def lst (n k : Nat) : Array Bool := ((List.range n).map fun i => decide (i < k)).toArray
theorem lst_zero (n : Nat) : Array.replicate n false = lst n 0 := by
  apply Array.ext'
  simp only [lst, Array.toList_replicate]
  apply List.ext_getElem?
  intro i
  by_cases h : i < n <;> simp [h]
theorem lst_succ (n k : Nat) : (lst n k).setIfInBounds k true = lst n (k + 1) := by
  apply Array.ext'
  simp only [lst, Array.toList_setIfInBounds]
  apply List.ext_getElem?
  intro i
  rw [List.getElem?_set]
  by_cases h : i < n
  · by_cases e : k = i
    · subst e; simp [h]
    · simp [h, e]; omega
  · simp [h]; omega
/-- One operation's part. -/
def lexOne (md : Region.Mode) (ops : Array Oper) (n k : Nat) : Bool := (Region.ready md ops (lst n k)).contains k && Region.free md ops (lst n k) k
theorem lexFrom_of (md : Region.Mode) (ops : Array Oper) (n : Nat) (h : ∀ k, k < n → lexOne md ops n k = true) (he : (Region.ready md ops (lst n n)).isEmpty = true) :
    ∀ f k, f + k = n → Region.lexFrom md ops f k (lst n k) = true
  | 0, k, hk => by
    have : k = n := by omega
    subst this
    exact he
  | f + 1, k, hk => by
    have h1 := h k (by omega)
    unfold lexOne at h1
    unfold Region.lexFrom
    rw [h1, lst_succ, lexFrom_of md ops n h he f (k + 1) (by omega)]
    rfl
theorem lexB_of (md : Region.Mode) (ops : Array Oper) (n : Nat) (hn : ops.size = n) (hs : Region.noSelect ops = true) (h : ∀ k, k < n → lexOne md ops n k = true) (he : (Region.ready md ops (lst n n)).isEmpty = true) : Region.lexB md ops = true := by
  unfold Region.lexB
  rw [hs, hn, lst_zero, lexFrom_of md ops n h he n 0 (by omega)]
  rfl
/-- The operations of a body's regions, in the text's order. -/
def regs : Code → List (List Oper)
  | .region _ ops _ => [ops.toList]
  | .seq a b => regs a ++ regs b
  | .cond _ a b => regs a ++ regs b
  | .block _ c => regs c
  | .loop c => regs c
  | .scope c => regs c
  | _ => []
def regOf (f : Func) (k : Nat) : List Oper := ((f.body.map regs).getD []).getD k []
end Go.Proofs.YtpbfhkkecbnieaaDoor
