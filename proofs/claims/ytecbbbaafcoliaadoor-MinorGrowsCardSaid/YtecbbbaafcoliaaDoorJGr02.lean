/- The law MinorGrows: the statement, closed. -/
import Derived.Test.YtecbbbaafcoliaaDoorJGr01
import Derived.Test.YtecbbbaafcoliaaDoorTie
namespace Go.Proofs.YtecbbbaafcoliaaDoor.MinorGrows
open Go.ChangeShapes Go.WideShapes Go.ChangeAt Go.RowKit

set_option maxRecDepth 100000 in
theorem said : Rows.MinorGrowsSaid :=
  OpenClaim.holds_of_cond 6 Tryd.f6 rfl rfl rfl rfl rfl rfl rfl ⟨rfl, rfl, rfl, rfl, rfl⟩ rfl rfl rfl rfl rfl (by kernel_rfl) Tryd.func6 closed
    (of_decide_eq_true (by kernel_rfl)) (by unfold Func.isWrapper; first | (rw [if_pos (by decide +kernel)]; kernel_rfl) | (rw [if_neg (by decide +kernel)]; exact ⟨rfl, rfl⟩))
    (fun os started H enc _ F => by rw [OpenClaim.pre_eq_preRow]; exact lifted os started H enc F)

theorem looks0 : true = Tryd.pinned.checked.prog.looks [] := by kernel_rfl
/-- No parameter wants a stand-in; the looks are the program's own. -/
theorem plain (f : FuncId) (fn : Func) (hf : Tryd.pinned.checked.prog.funcNamed "nurserypy/nurserypylaw3.MinorGrows" = some f) (hfn : Tryd.pinned.checked.prog.funcs[f]? = some fn) :
    true = Tryd.pinned.checked.prog.looks [] ∧ ∀ (j : Nat) t, fn.params[j]? = some t → Tryd.pinned.checked.prog.wantsStandIn t = false := by
  obtain rfl : f = 6 := Option.some.inj ((show Tryd.prog.funcNamed "nurserypy/nurserypylaw3.MinorGrows" = some 6 by kernel_rfl).symm.trans hf) |>.symm
  obtain rfl : fn = Tryd.f6 := (Option.some.inj (Tryd.func6.symm.trans hfn)).symm
  refine ⟨looks0, fun j t ht => ?_⟩
  rw [Tryd.params6] at ht
  have hm := Array.mem_of_getElem? ht
  simp only [List.mem_toArray, List.mem_cons, List.not_mem_nil, or_false] at hm
  rcases hm with rfl | rfl
  · exact (show Tryd.prog.wantsStandIn 22 = false by kernel_rfl)
  · exact (show Tryd.prog.wantsStandIn 3 = false by kernel_rfl)
theorem wfT : Rows.minorGrowsRow.wfByText (OpenSpec.ofChange Rows.minorGrowsSpec) = true := by kernel_rfl
theorem goesB : false = Rows.minorGrowsRow.goesBy Tryd.pinned.checked.prog := by kernel_rfl
theorem mainI : Tryd.pinned.checked.prog.mainIs = some (Rows.minorGrowsCard.stood.harness.1, Rows.minorGrowsCard.stood.harness.2.toList) := by kernel_rfl

/-- THE STATEMENT. -/
theorem minorGrows_holds : Rows.MinorGrowsCardSaid :=
  Claim7.holds_tied_plain_at .later [] _ _ _ _ said (fun _ h => by cases h) wfT (fun _ h => by cases h) minorGrows_row_tie rfl ⟨rfl, rfl⟩ mainI rfl plain goesB
end Go.Proofs.YtecbbbaafcoliaaDoor.MinorGrows
