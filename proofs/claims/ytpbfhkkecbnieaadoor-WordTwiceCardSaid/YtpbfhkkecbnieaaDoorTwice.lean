/- WordTwice: for every int, every address and every header's numbers, what is put into a word comes out of it, and unlike things are unlike words. No conditions. -/
import Derived.Test.YtpbfhkkecbnieaaDoorTwiceW
import Derived.Test.YtpbfhkkecbnieaaDoorLaid
import Derived.Lib.SmallJoins
namespace Go.Proofs.YtpbfhkkecbnieaaDoor.WordTwice
open Go.ChangeShapes Go.WideShapes Go.ChangeAt Go.RowKit Go.Joins
set_option linter.unusedVariables false

theorem cellsH : Tryd.prog.cellsOf 23 = 4 := by kernel_rfl
theorem cellsI : Tryd.prog.cellsOf 3 = 1 := by kernel_rfl

/-- What the listed variables give. -/
theorem errs {W : World} (h : laidMetH Tryd.prog Rows.wordTwiceRow.laid W) : (∃ a, GBound W a) ∧ (∃ a, GShape W a) := by
  have hb := h.filter fun x => x.1 == "nurserypy/api.ErrBound"
  have hs := h.filter fun x => x.1 == "nurserypy/api.ErrShape"
  obtain ⟨a, _, ha, _⟩ := one_of_laid (text := _) gB gBt hb
  obtain ⟨b, _, hb, _⟩ := one_of_laid (text := _) gS gSt hs
  exact ⟨⟨a, ha⟩, ⟨b, hb⟩⟩

set_option maxRecDepth 100000 in
theorem contract (H : Type) (enc : TypeId × Value → H) (W : World) (base : Nat) (args : Array Value) (ds gs : List (DataW H)) (before : List MemPlace)
    (hval : ∀ (j : Nat) t v, Tryd.f3.params[j]? = some t → args[j]? = some v → Value.okWide Tryd.prog W .any base t v)
    (hW : DataW.Whole enc Tryd.prog Tryd.f3.params.toList Rows.wordTwiceSpec.vars false W args.toList ds gs before)
    (_ : (DataW.weightsEach Tryd.prog (Tryd.f3.params.toList ++ (OpenSpec.ofChange Rows.wordTwiceSpec).bare.plain.varTypes Tryd.prog) (ds ++ gs)).all (· ≤ reachBytes) = true) (hL : laidMetH Tryd.prog Rows.wordTwiceRow.laid W) :
    Calls Tryd.prog 3 args W fun e W' => ∃ v, e = .returned v ∧ Rows.wordTwiceSpec.post enc Tryd.prog Tryd.f3 false true false false W args v W' := by
  have hW' := hW
  obtain ⟨p, q, hA0, hV, rfl, hfz, hnd⟩ := hW
  have hA : DataW.TrodAll enc Tryd.prog W 0 (fun _ => true) true Tryd.f3.params.toList args.toList ds p := hA0
  rw [Tryd.params3] at hA hval
  obtain ⟨v0, vs0, d0, ds0, p0, q0, hargs, rfl, rfl, h0, r0⟩ := trodAll_cons hA
  obtain ⟨v1, vs1, d1, ds1, p1, q1, rfl, rfl, rfl, h1, r1⟩ := trodAll_cons r0
  obtain ⟨v2, vs2, d2, ds2, p2, q2, rfl, rfl, rfl, h2, r2⟩ := trodAll_cons r1
  obtain ⟨rfl, rfl, rfl⟩ := trodAll_nil r2
  obtain rfl : args = #[v0, v1, v2] := by cases args; simp_all
  obtain ⟨rfl, rfl⟩ := trodVars_none hV
  obtain ⟨n, rfl, rfl, rfl, w0⟩ := open_int Tryd.underlying2 (hval 0 2 v0 rfl rfl) h0
  obtain ⟨a, rfl, rfl, rfl, w1⟩ := open_int Tryd.underlying3 (hval 1 3 v1 rfl rfl) h1
  obtain ⟨c0, c1, c2, c3, y0, y1, y2, y3, m, rfl, rfl, rfl, hy0, hy1, hy2, hy3⟩ := open_agg4 Tryd.underlying23 (by kernel_rfl) cellsH (hval 2 23 v2 rfl rfl) h2
  obtain ⟨k0, e0, rfl, wk⟩ := DataW.trod_int Tryd.underlying3 hy0
  obtain ⟨k1, e1, rfl, wg⟩ := DataW.trod_int Tryd.underlying3 hy1
  obtain ⟨k2, e2, rfl, wm⟩ := DataW.trod_int Tryd.underlying3 hy2
  obtain ⟨k3, e3, rfl, ws⟩ := DataW.trod_int Tryd.underlying3 hy3
  simp at e0 e1 e2 e3
  subst e0 e1 e2 e3
  obtain ⟨⟨b, gb⟩, ⟨z, gs⟩⟩ := errs hL
  clear hA0
  refine (twice_any n a k0 k1 k2 k3 W b z gb gs).mono fun e W' ⟨he, hg⟩ => ?_
  subst he
  exact ⟨_, rfl, law_post rfl rfl hW' (by simp [Rows.wordTwiceSpec]) (by decide +kernel) hg⟩

end Go.Proofs.YtpbfhkkecbnieaaDoor.WordTwice
