/- The law CodeVerifies: its contract: whatever it is given it answers true, and leaves what was there. -/
import Derived.Test.YtgjjkllngopboaaDoorJCa23
import Derived.Test.YtgjjkllngopboaaDoorJCd09
import Derived.Test.YtgjjkllngopboaaDoorJCa22
import Derived.Test.YtgjjkllngopboaaDoorCards
import Derived.JoinedCond
import Derived.Lib.SmallJoins
import Derived.ProofKit
import Derived.Test.YtgjjkllngopboaaDoorTie
namespace Go.Proofs.YtgjjkllngopboaaDoor.CodeVerifies
open Go.ChangeShapes Go.WideShapes Go.ChangeAt Go.RowKit
set_option linter.unusedVariables false
set_option linter.unusedSimpArgs false

set_option maxRecDepth 100000 in
theorem contract (H : Type) (enc : TypeId × Value → H) (W : World) (base : Nat) (args : Array Value) (ds gs : List (DataW H)) (before : List MemPlace)
    (hval : ∀ (j : Nat) t v, Tryd.f4.params[j]? = some t → args[j]? = some v → Value.okWide Tryd.prog W .any base t v)
    (hW : DataW.Whole enc Tryd.prog Tryd.f4.params.toList Rows.codeVerifiesSpec.vars false W args.toList ds gs before)
    (hsz : (DataW.weightsEach Tryd.prog (Tryd.f4.params.toList ++ (OpenSpec.ofChange Rows.codeVerifiesSpec).bare.plain.varTypes Tryd.prog) (ds ++ gs)).all (· ≤ reachBytes) = true) (hL : laidMetH Tryd.prog Rows.codeVerifiesRow.laid W) :
    Calls Tryd.prog 4 args W fun e W' => ∃ v, e = .returned v ∧ Rows.codeVerifiesSpec.post enc Tryd.prog Tryd.f4 false true false false W args v W' := by
  have hW' := hW
  obtain ⟨p, q, hA0, hV, rfl, hfz, hnd⟩ := hW
  have hA : DataW.TrodAll enc Tryd.prog W 0 (fun _ => true) true Tryd.f4.params.toList args.toList ds p := hA0
  rw [Tryd.params4] at hA hval
  obtain ⟨v0, vs0, d0, ds0, p0, q0, hargs, rfl, rfl, h0, r0⟩ := trodAll_cons hA
  obtain ⟨rfl, rfl, rfl⟩ := trodAll_nil r0
  obtain rfl : args = #[v0] := by cases args; simp_all
  obtain ⟨rfl, rfl⟩ := trodVars_none hV
  have hz0 : ∀ n ∈ d0.weights Tryd.prog 26, szR n := fun n hn => by
    have := List.all_eq_true.1 hsz n (DataW.weights_mem_each (j := 0) (t := 26) (d := d0) (by rw [Tryd.params4]; rfl) rfl n hn)
    have h2 := of_decide_eq_true this
    exact h2
  obtain ⟨x0, V0, rfl, hR0, hN0, hZ0, hB0⟩ := read_code (hval 0 26 v0 rfl rfl) h0 hz0
  obtain ⟨E, hE⟩ := env_of_laid (W := W) (hL.filter fun x => laid8.any (·.1 == x.1))
  have hT : Pow W := pow_of_laid (hL.filter fun x => x.1 == "internal/strconv.uint64pow10")
  clear hA0
  refine (codeVerifies_any x0 V0 W hR0 hZ0 E hE hT).mono fun e W' ⟨he, hg⟩ => ?_
  subst he
  exact ⟨_, rfl, law_post rfl rfl hW' (by simp [Rows.codeVerifiesSpec]) (by decide +kernel) hg⟩
end Go.Proofs.YtgjjkllngopboaaDoor.CodeVerifies
/- The law CodeVerifies: its row's step, out of the contract; an input that fits. -/
namespace Go.Proofs.YtgjjkllngopboaaDoor.CodeVerifies
open Go.ChangeShapes Go.WideShapes Go.ChangeAt Go.RowKit

theorem laid_met (os : Os) : laidMetH Tryd.prog Rows.codeVerifiesRow.laid ((World.doorLaid Tryd.prog 200 os).forCall (fun _ _ => 0) ⟨#[], #[.agg #[.slice none 0 0, .slice none 0 0, .slice none 0 0, .slice none 0 0]], []⟩).memory :=
  laidMetH_of_parts3 (fuel := 8) (laidMet_of_run' 8 (by kernel_rfl) (by kernel_rfl)) (by kernel_rfl) (by kernel_rfl)
theorem reads (os : Os) {H : Type} (enc : TypeId × Value → H) : ∃ places, DataW.whole enc Tryd.prog ((World.doorLaid Tryd.prog 200 os).forCall (fun _ _ => 0) ⟨#[], #[.agg #[.slice none 0 0, .slice none 0 0, .slice none 0 0, .slice none 0 0]], []⟩).memory Tryd.f4.params.toList Rows.codeVerifiesSpec.vars false #[.agg #[.slice none 0 0, .slice none 0 0, .slice none 0 0, .slice none 0 0]].toList 8 = some ([.agg [.nil, .nil, .nil, .nil]], [], places) :=
  ⟨[], by kernel_rfl⟩

set_option maxRecDepth 100000 in
theorem lifted (os : Os) (started : os.Started) (H : Type) (enc : TypeId × Value → H) (F : Stop.Interp) :
    ReturnsInHanded {} Tryd.checked os 4 .any ((OpenSpec.ofChange Rows.codeVerifiesSpec).preRow enc Tryd.prog Tryd.f4 Rows.codeVerifiesRow.domain false Rows.codeVerifiesRow.laid) (((OpenSpec.ofChange Rows.codeVerifiesSpec).at F).post enc Tryd.prog Tryd.f4 false true false false) := by
  obtain ⟨places, hx⟩ := reads os enc
  refine returnsInHanded_of_row (C := Tryd.checked) (s := OpenSpec.ofChange Rows.codeVerifiesSpec) own started (by kernel_rfl) Tryd.func4
    (witness_row_atRef (enc := enc) (C := Tryd.checked) false (World.doorLaid Tryd.prog 200 os) #[.agg #[.slice none 0 0, .slice none 0 0, .slice none 0 0, .slice none 0 0]] rfl (by kernel_rfl) (by kernel_rfl) (by kernel_rfl)
      (OpenSpec.preRow_of_cond 8 hx (by kernel_rfl) (fun k hk => by cases hk) (by kernel_rfl) (laid_met os))) ?_
  intro W base args ds gs before hval hW _ _ hsz hL _ _
  exact contract H enc W base args ds gs before hval hW hsz hL
end Go.Proofs.YtgjjkllngopboaaDoor.CodeVerifies
/- The law CodeVerifies: the closed facts of its row, each by itself. -/
namespace Go.Proofs.YtgjjkllngopboaaDoor.CodeVerifies
open Go.ChangeShapes Go.WideShapes Go.ChangeAt Go.RowKit

set_option maxHeartbeats 40000000 in
theorem closed : joinedFacts Tryd.prog 4 Tryd.f4 (OpenSpec.ofChange Rows.codeVerifiesSpec).bare Rows.codeVerifiesRow = true := by
  unfold joinedFacts
  repeat' (with_reducible refine Bool.and_eq_true_iff.2 ⟨?_, ?_⟩)
  all_goals as_aux_lemma => kernel_rfl
end Go.Proofs.YtgjjkllngopboaaDoor.CodeVerifies
/- The law CodeVerifies: the statement, closed. -/
namespace Go.Proofs.YtgjjkllngopboaaDoor.CodeVerifies
open Go.ChangeShapes Go.WideShapes Go.ChangeAt Go.RowKit

set_option maxRecDepth 100000 in
theorem said : Rows.CodeVerifiesSaid :=
  OpenClaim.holds_of_cond 4 Tryd.f4 rfl rfl rfl rfl rfl rfl rfl ⟨rfl, rfl, rfl, rfl, rfl⟩ rfl rfl rfl rfl rfl (by kernel_rfl) Tryd.func4 closed
    (of_decide_eq_true (by kernel_rfl)) (by unfold Func.isWrapper; first | (rw [if_pos (by decide +kernel)]; kernel_rfl) | (rw [if_neg (by decide +kernel)]; exact ⟨rfl, rfl⟩))
    (fun os started H enc _ F => by rw [OpenClaim.pre_eq_preRow]; exact lifted os started H enc F)

theorem looks0 : true = Tryd.pinned.checked.prog.looks [] := by kernel_rfl
/-- No parameter wants a stand-in; the looks are the program's own. -/
theorem plain (f : FuncId) (fn : Func) (hf : Tryd.pinned.checked.prog.funcNamed "nurserypy/nurserypylaw3.CodeVerifies" = some f) (hfn : Tryd.pinned.checked.prog.funcs[f]? = some fn) :
    true = Tryd.pinned.checked.prog.looks [] ∧ ∀ (j : Nat) t, fn.params[j]? = some t → Tryd.pinned.checked.prog.wantsStandIn t = false := by
  obtain rfl : f = 4 := Option.some.inj ((show Tryd.prog.funcNamed "nurserypy/nurserypylaw3.CodeVerifies" = some 4 by kernel_rfl).symm.trans hf) |>.symm
  obtain rfl : fn = Tryd.f4 := (Option.some.inj (Tryd.func4.symm.trans hfn)).symm
  refine ⟨looks0, fun j t ht => ?_⟩
  rw [Tryd.params4] at ht
  have hm := Array.mem_of_getElem? ht
  simp only [List.mem_toArray, List.mem_cons, List.not_mem_nil, or_false] at hm
  rcases hm with rfl
  · exact (show Tryd.prog.wantsStandIn 26 = false by kernel_rfl)
theorem wfT : Rows.codeVerifiesRow.wfByText (OpenSpec.ofChange Rows.codeVerifiesSpec) = true := by kernel_rfl
theorem goesB : false = Rows.codeVerifiesRow.goesBy Tryd.pinned.checked.prog := by kernel_rfl
theorem mainI : Tryd.pinned.checked.prog.mainIs = some (Rows.codeVerifiesCard.stood.harness.1, Rows.codeVerifiesCard.stood.harness.2.toList) := by kernel_rfl

/-- THE STATEMENT. -/
theorem codeVerifies_holds : Rows.CodeVerifiesCardSaid :=
  Claim7.holds_tied_plain_at .later [] _ _ _ _ said (fun _ h => by cases h) wfT (fun _ h => by cases h) codeVerifies_row_tie rfl ⟨rfl, rfl⟩ mainI rfl plain goesB
end Go.Proofs.YtgjjkllngopboaaDoor.CodeVerifies
