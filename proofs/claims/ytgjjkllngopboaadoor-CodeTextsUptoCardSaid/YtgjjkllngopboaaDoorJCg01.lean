/- The law CodeTexts: its contract: whatever it is given it answers true, and leaves what was there. -/
import Derived.Test.YtgjjkllngopboaaDoorJCa23
import Derived.Test.YtgjjkllngopboaaDoorJCf03
import Derived.Test.YtgjjkllngopboaaDoorJCa22
import Derived.Test.YtgjjkllngopboaaDoorCards
import Derived.JoinedCond
import Derived.Lib.SmallJoins
import Derived.ProofKit
import Derived.Test.YtgjjkllngopboaaDoorTie
namespace Go.Proofs.YtgjjkllngopboaaDoor.CodeTexts
open Go.ChangeShapes Go.WideShapes Go.ChangeAt Go.RowKit
set_option linter.unusedVariables false
set_option linter.unusedSimpArgs false

set_option maxRecDepth 100000 in
theorem contract (H : Type) (enc : TypeId × Value → H) (W : World) (base : Nat) (args : Array Value) (ds gs : List (DataW H)) (before : List MemPlace)
    (hval : ∀ (j : Nat) t v, Tryd.f3.params[j]? = some t → args[j]? = some v → Value.okWide Tryd.prog W .any base t v)
    (hW : DataW.Whole enc Tryd.prog Tryd.f3.params.toList Rows.codeTextsSpec.vars false W args.toList ds gs before)
    (hsz : (DataW.weightsEach Tryd.prog (Tryd.f3.params.toList ++ (OpenSpec.ofChange Rows.codeTextsSpec).bare.plain.varTypes Tryd.prog) (ds ++ gs)).all (· ≤ reachBytes) = true) (hL : laidMetH Tryd.prog Rows.codeTextsUptoRow.laid W) (hbk : Rows.uptoBulkAll ds ≤ 1048576) :
    Calls Tryd.prog 3 args W fun e W' => ∃ v, e = .returned v ∧ Rows.codeTextsSpec.post enc Tryd.prog Tryd.f3 false true false false W args v W' := by
  have hW' := hW
  obtain ⟨p, q, hA0, hV, rfl, hfz, hnd⟩ := hW
  have hA : DataW.TrodAll enc Tryd.prog W 0 (fun _ => true) true Tryd.f3.params.toList args.toList ds p := hA0
  rw [Tryd.params3] at hA hval
  obtain ⟨v0, vs0, d0, ds0, p0, q0, hargs, rfl, rfl, h0, r0⟩ := trodAll_cons hA
  obtain ⟨rfl, rfl, rfl⟩ := trodAll_nil r0
  obtain rfl : args = #[v0] := by cases args; simp_all
  obtain ⟨rfl, rfl⟩ := trodVars_none hV
  have hz0 : ∀ n ∈ d0.weights Tryd.prog 26, szR n := fun n hn => by
    have := List.all_eq_true.1 hsz n (DataW.weights_mem_each (j := 0) (t := 26) (d := d0) (by rw [Tryd.params3]; rfl) rfl n hn)
    have h2 := of_decide_eq_true this
    exact h2
  obtain ⟨x0, V0, rfl, hR0, hN0, hZ0, hB0⟩ := read_code (hval 0 26 v0 rfl rfl) h0 hz0
  obtain ⟨gb, _, hgb, _⟩ := one_of_laid (W := W) (n := "nurserypy/api.ErrBound") (text := _) gB gBt (hL.filter fun x => x.1 == "nurserypy/api.ErrBound")
  obtain ⟨gs', _, hgs', _⟩ := one_of_laid (W := W) (n := "nurserypy/api.ErrShape") (text := _) gS gSt (hL.filter fun x => x.1 == "nurserypy/api.ErrShape")
  have hT : Pow W := pow_of_laid (hL.filter fun x => x.1 == "internal/strconv.uint64pow10")
  clear hA0
  refine (codeTexts_any x0 V0 W hR0 hZ0 hN0 (by have := hbk; simp only [Rows.uptoBulkAll] at this; omega) gb gs' hgb hgs' hT).mono fun e W' ⟨he, hg⟩ => ?_
  subst he
  exact ⟨_, rfl, law_post rfl rfl hW' (by simp [Rows.codeTextsSpec]) (by decide +kernel) hg⟩
end Go.Proofs.YtgjjkllngopboaaDoor.CodeTexts
/- The law CodeTexts: its row's step, out of the contract; an input that fits. -/
namespace Go.Proofs.YtgjjkllngopboaaDoor.CodeTexts
open Go.ChangeShapes Go.WideShapes Go.ChangeAt Go.RowKit

theorem laid_met (os : Os) : laidMetH Tryd.prog Rows.codeTextsUptoRow.laid ((World.doorLaid Tryd.prog 200 os).forCall (fun _ _ => 0) ⟨#[], #[.agg #[.slice none 0 0, .slice none 0 0, .slice none 0 0, .slice none 0 0]], []⟩).memory :=
  laidMetH_of_parts3 (fuel := 8) (laidMet_of_run' 8 (by kernel_rfl) (by kernel_rfl)) (by kernel_rfl) (by kernel_rfl)
theorem reads (os : Os) {H : Type} (enc : TypeId × Value → H) : ∃ places, DataW.whole enc Tryd.prog ((World.doorLaid Tryd.prog 200 os).forCall (fun _ _ => 0) ⟨#[], #[.agg #[.slice none 0 0, .slice none 0 0, .slice none 0 0, .slice none 0 0]], []⟩).memory Tryd.f3.params.toList Rows.codeTextsSpec.vars false #[.agg #[.slice none 0 0, .slice none 0 0, .slice none 0 0, .slice none 0 0]].toList 8 = some ([.agg [.nil, .nil, .nil, .nil]], [], places) :=
  ⟨[], by kernel_rfl⟩

theorem bulk_app {H : Type} : ∀ (l r : List (DataW H)), Rows.uptoBulkAll l ≤ Rows.uptoBulkAll (l ++ r)
  | [], r => Nat.zero_le _
  | x :: l, r => by
    have := bulk_app l r
    simp only [List.cons_append, Rows.uptoBulkAll]
    omega
set_option maxRecDepth 100000 in
theorem lifted (os : Os) (started : os.Started) (H : Type) (enc : TypeId × Value → H) (F : Stop.Interp) :
    ReturnsInHanded {} Tryd.checked os 3 .any ((Rows.OpenSpec.upto Rows.codeTextsSpec).preRow enc Tryd.prog Tryd.f3 Rows.codeTextsUptoRow.domain false Rows.codeTextsUptoRow.laid) (((Rows.OpenSpec.upto Rows.codeTextsSpec).at F).post enc Tryd.prog Tryd.f3 false true false false) := by
  obtain ⟨places, hx⟩ := reads os enc
  refine returnsInHanded_of_row (C := Tryd.checked) (s := Rows.OpenSpec.upto Rows.codeTextsSpec) own started (by kernel_rfl) Tryd.func3
    (witness_row_atRef (enc := enc) (C := Tryd.checked) false (World.doorLaid Tryd.prog 200 os) #[.agg #[.slice none 0 0, .slice none 0 0, .slice none 0 0, .slice none 0 0]] rfl (by kernel_rfl) (by kernel_rfl) (by kernel_rfl)
      (OpenSpec.preRow_of_cond 8 hx (by kernel_rfl) (fun k hk => by cases hk; kernel_rfl) (by kernel_rfl) (laid_met os))) ?_
  intro W base args ds gs before hval hW _ hcond hsz hL _ _
  have hk := of_decide_eq_true (hcond _ rfl)
  have hle : Rows.uptoBulkAll ds ≤ Rows.uptoBulkAll (ds ++ gs) := bulk_app ds gs
  exact contract H enc W base args ds gs before hval hW hsz hL (Nat.le_trans hle hk)
end Go.Proofs.YtgjjkllngopboaaDoor.CodeTexts
/- The law CodeTexts: the closed facts of its row, each by itself. -/
namespace Go.Proofs.YtgjjkllngopboaaDoor.CodeTexts
open Go.ChangeShapes Go.WideShapes Go.ChangeAt Go.RowKit

set_option maxHeartbeats 40000000 in
theorem closed : joinedFacts Tryd.prog 3 Tryd.f3 (Rows.OpenSpec.upto Rows.codeTextsSpec).bare Rows.codeTextsUptoRow = true := by
  unfold joinedFacts
  repeat' (with_reducible refine Bool.and_eq_true_iff.2 ⟨?_, ?_⟩)
  all_goals as_aux_lemma => kernel_rfl
end Go.Proofs.YtgjjkllngopboaaDoor.CodeTexts
/- The law CodeTexts: the statement, closed. -/
namespace Go.Proofs.YtgjjkllngopboaaDoor.CodeTexts
open Go.ChangeShapes Go.WideShapes Go.ChangeAt Go.RowKit

set_option maxRecDepth 100000 in
theorem said : Rows.CodeTextsUptoSaid :=
  OpenClaim.holds_of_cond 3 Tryd.f3 rfl rfl rfl rfl rfl rfl rfl ⟨rfl, rfl, rfl, rfl, rfl⟩ rfl rfl rfl rfl rfl (by kernel_rfl) Tryd.func3 closed
    (of_decide_eq_true (by kernel_rfl)) (by unfold Func.isWrapper; first | (rw [if_pos (by decide +kernel)]; kernel_rfl) | (rw [if_neg (by decide +kernel)]; exact ⟨rfl, rfl⟩))
    (fun os started H enc _ F => by rw [OpenClaim.pre_eq_preRow]; exact lifted os started H enc F)

theorem looks0 : true = Tryd.pinned.checked.prog.looks [] := by kernel_rfl
/-- No parameter wants a stand-in; the looks are the program's own. -/
theorem plain (f : FuncId) (fn : Func) (hf : Tryd.pinned.checked.prog.funcNamed "nurserypy/nurserypylaw3.CodeTexts" = some f) (hfn : Tryd.pinned.checked.prog.funcs[f]? = some fn) :
    true = Tryd.pinned.checked.prog.looks [] ∧ ∀ (j : Nat) t, fn.params[j]? = some t → Tryd.pinned.checked.prog.wantsStandIn t = false := by
  obtain rfl : f = 3 := Option.some.inj ((show Tryd.prog.funcNamed "nurserypy/nurserypylaw3.CodeTexts" = some 3 by kernel_rfl).symm.trans hf) |>.symm
  obtain rfl : fn = Tryd.f3 := (Option.some.inj (Tryd.func3.symm.trans hfn)).symm
  refine ⟨looks0, fun j t ht => ?_⟩
  rw [Tryd.params3] at ht
  have hm := Array.mem_of_getElem? ht
  simp only [List.mem_toArray, List.mem_cons, List.not_mem_nil, or_false] at hm
  rcases hm with rfl
  · exact (show Tryd.prog.wantsStandIn 26 = false by kernel_rfl)
theorem wfT : Rows.codeTextsUptoRow.wfByText (Rows.OpenSpec.upto Rows.codeTextsSpec) = true := by kernel_rfl
theorem goesB : false = Rows.codeTextsUptoRow.goesBy Tryd.pinned.checked.prog := by kernel_rfl
theorem mainI : Tryd.pinned.checked.prog.mainIs = some (Rows.codeTextsUptoCard.stood.harness.1, Rows.codeTextsUptoCard.stood.harness.2.toList) := by kernel_rfl

/-- THE STATEMENT. -/
theorem codeTextsUpto_holds : Rows.CodeTextsUptoCardSaid :=
  Claim7.holds_tied_plain_at .later [] _ _ _ _ said (fun _ h => by cases h) wfT (fun _ h => by cases h) codeTextsUpto_row_tie rfl ⟨rfl, rfl⟩ mainI rfl plain goesB
end Go.Proofs.YtgjjkllngopboaaDoor.CodeTexts
