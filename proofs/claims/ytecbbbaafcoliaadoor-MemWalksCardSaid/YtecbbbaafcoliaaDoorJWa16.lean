/- The law MemWalks: the closed facts of its row, each by itself. -/
import Derived.Test.YtecbbbaafcoliaaDoorCards
import Derived.JoinedCond
import Derived.Lib.SmallJoins
import Derived.ProofKit
import Derived.Test.YtecbbbaafcoliaaDoorJWa15
import Derived.Test.YtecbbbaafcoliaaDoorTie
namespace Go.Proofs.YtecbbbaafcoliaaDoor.MemWalks
open Go.ChangeShapes Go.WideShapes Go.ChangeAt Go.RowKit

set_option maxHeartbeats 40000000 in
theorem closed : joinedFacts Tryd.prog 4 Tryd.f4 (OpenSpec.ofChange Rows.memWalksSpec).bare Rows.memWalksRow = true := by
  unfold joinedFacts
  repeat' (with_reducible refine Bool.and_eq_true_iff.2 ⟨?_, ?_⟩)
  all_goals as_aux_lemma => kernel_rfl
end Go.Proofs.YtecbbbaafcoliaaDoor.MemWalks
/- The law MemWalks: the statement, closed. -/
namespace Go.Proofs.YtecbbbaafcoliaaDoor.MemWalks
open Go.ChangeShapes Go.WideShapes Go.ChangeAt Go.RowKit

set_option maxRecDepth 100000 in
theorem said : Rows.MemWalksSaid :=
  OpenClaim.holds_of_cond 4 Tryd.f4 rfl rfl rfl rfl rfl rfl rfl ⟨rfl, rfl, rfl, rfl, rfl⟩ rfl rfl rfl rfl rfl (by kernel_rfl) Tryd.func4 closed
    (of_decide_eq_true (by kernel_rfl)) (by unfold Func.isWrapper; first | (rw [if_pos (by decide +kernel)]; kernel_rfl) | (rw [if_neg (by decide +kernel)]; exact ⟨rfl, rfl⟩))
    (fun os started H enc _ F => by rw [OpenClaim.pre_eq_preRow]; exact lifted os started H enc F)

theorem looks0 : true = Tryd.pinned.checked.prog.looks [] := by kernel_rfl
/-- No parameter wants a stand-in; the looks are the program's own. -/
theorem plain (f : FuncId) (fn : Func) (hf : Tryd.pinned.checked.prog.funcNamed "nurserypy/nurserypylaw3.MemWalks" = some f) (hfn : Tryd.pinned.checked.prog.funcs[f]? = some fn) :
    true = Tryd.pinned.checked.prog.looks [] ∧ ∀ (j : Nat) t, fn.params[j]? = some t → Tryd.pinned.checked.prog.wantsStandIn t = false := by
  obtain rfl : f = 4 := Option.some.inj ((show Tryd.prog.funcNamed "nurserypy/nurserypylaw3.MemWalks" = some 4 by kernel_rfl).symm.trans hf) |>.symm
  obtain rfl : fn = Tryd.f4 := (Option.some.inj (Tryd.func4.symm.trans hfn)).symm
  refine ⟨looks0, fun j t ht => ?_⟩
  rw [Tryd.params4] at ht
  have hm := Array.mem_of_getElem? ht
  simp only [List.mem_toArray, List.mem_cons, List.not_mem_nil, or_false] at hm
  rcases hm with rfl
  · exact (show Tryd.prog.wantsStandIn 22 = false by kernel_rfl)
theorem wfT : Rows.memWalksRow.wfByText (OpenSpec.ofChange Rows.memWalksSpec) = true := by kernel_rfl
theorem goesB : false = Rows.memWalksRow.goesBy Tryd.pinned.checked.prog := by kernel_rfl
theorem mainI : Tryd.pinned.checked.prog.mainIs = some (Rows.memWalksCard.stood.harness.1, Rows.memWalksCard.stood.harness.2.toList) := by kernel_rfl

/-- THE STATEMENT. -/
theorem memWalks_holds : Rows.MemWalksCardSaid :=
  Claim7.holds_tied_plain_at .later [] _ _ _ _ said (fun _ h => by cases h) wfT (fun _ h => by cases h) memWalks_row_tie rfl ⟨rfl, rfl⟩ mainI rfl plain goesB
end Go.Proofs.YtecbbbaafcoliaaDoor.MemWalks
