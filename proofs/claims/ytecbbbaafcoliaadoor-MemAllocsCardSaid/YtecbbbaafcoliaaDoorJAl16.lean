/- From the rows' lists to the seven errors and errors.errorType. -/
import Derived.Test.YtecbbbaafcoliaaDoorJAl15
import Derived.Test.YtecbbbaafcoliaaDoorJAl11
import Derived.Test.YtecbbbaafcoliaaDoorCards
import Derived.JoinedCond
import Derived.Lib.SmallJoins
import Derived.ProofKit
import Derived.Test.YtecbbbaafcoliaaDoorTie
namespace Go.Proofs.YtecbbbaafcoliaaDoor
open Go.ChangeShapes Go.WideShapes Go.ChangeAt Go.RowKit
set_option linter.unusedVariables false
set_option linter.unusedSimpArgs false

/-- The list that every law over error numbers bears. -/
def laid8 : List (String × DataW Unit) := [("errors.errorType", Rows.laid_errors_errorType), ("nurserypy/api.ErrText", Rows.laid_nurserypy_api_ErrText), ("nurserypy/api.ErrBound", Rows.laid_nurserypy_api_ErrBound), ("nurserypy/api.ErrShape", Rows.laid_nurserypy_api_ErrShape), ("nurserypy/api.ErrName", Rows.laid_nurserypy_api_ErrName), ("nurserypy/api.ErrPlace", Rows.laid_nurserypy_api_ErrPlace), ("nurserypy/api.ErrFull", Rows.laid_nurserypy_api_ErrFull), ("nurserypy/api.ErrNone", Rows.laid_nurserypy_api_ErrNone)]
theorem etypeG : Tryd.prog.globalNamed "errors.errorType" = some 7 := by kernel_rfl
theorem etypeR : (Tryd.prog.cutTypes.find? (·.1 == "internal/reflectlite.rtype")).map (·.2) = some 169 := by kernel_rfl
theorem typesSize : Tryd.prog.types.size = 221 := by kernel_rfl
theorem etypeRow : ((List.range 221).filter fun t => Tryd.prog.rowNamed t [101, 114, 114, 111, 114]) = [32] := by kernel_rfl
theorem etype_of_laid {W : World} (h : laidMetH Tryd.prog [("errors.errorType", Rows.laid_errors_errorType)] W) : GEType W := by
  have h' : laidMet Tryd.prog [] W ∧ handlesMet Tryd.prog [("errors.errorType", Rows.laid_errors_errorType)] W := h
  obtain ⟨name, u, ty, e1, e2, e3, e4, e5⟩ := h'.2 _ (List.mem_singleton.2 rfl)
  have en : name = [101, 114, 114, 111, 114] := (Option.some.inj e1).symm
  subst en
  obtain rfl := Option.some.inj (etypeR.symm.trans e2)
  have hm : ty ∈ (List.range 221).filter fun t => Tryd.prog.rowNamed t [101, 114, 114, 111, 114] := List.mem_filter.2 ⟨List.mem_range.2 (by rw [← typesSize]; exact e3), e4⟩
  rw [etypeRow] at hm
  obtain rfl := List.mem_singleton.1 hm
  have hh : typeHandle Tryd.prog 32 = .pointer (some ⟨8, 32, none⟩) := by kernel_rfl
  rw [hh] at e5
  simpa using World.var?_cell etypeG e5 0

theorem gText_ : Tryd.prog.globalNamed "nurserypy/api.ErrText" = some 4 := by kernel_rfl
theorem gTextt_ : (Tryd.prog.globals[4]?).map (·.type) = some 32 := by kernel_rfl
theorem gName_ : Tryd.prog.globalNamed "nurserypy/api.ErrName" = some 5 := by kernel_rfl
theorem gNamet_ : (Tryd.prog.globals[5]?).map (·.type) = some 32 := by kernel_rfl
theorem gNone_ : Tryd.prog.globalNamed "nurserypy/api.ErrNone" = some 6 := by kernel_rfl
theorem gNonet_ : (Tryd.prog.globals[6]?).map (·.type) = some 32 := by kernel_rfl
set_option maxRecDepth 100000 in
theorem env_of_laid {W : World} (h : laidMetH Tryd.prog laid8 W) : ∃ E, ErrEnv E W := by
  obtain ⟨a0, _, c0, _⟩ := one_of_laid (W := W) (n := "nurserypy/api.ErrText") (text := _) gText_ gTextt_ (h.filter fun x => x.1 == "nurserypy/api.ErrText")
  obtain ⟨a1, _, c1, _⟩ := one_of_laid (W := W) (n := "nurserypy/api.ErrBound") (text := _) gB gBt (h.filter fun x => x.1 == "nurserypy/api.ErrBound")
  obtain ⟨a2, _, c2, _⟩ := one_of_laid (W := W) (n := "nurserypy/api.ErrShape") (text := _) gS gSt (h.filter fun x => x.1 == "nurserypy/api.ErrShape")
  obtain ⟨a3, _, c3, _⟩ := one_of_laid (W := W) (n := "nurserypy/api.ErrName") (text := _) gName_ gNamet_ (h.filter fun x => x.1 == "nurserypy/api.ErrName")
  obtain ⟨a4, _, c4, _⟩ := one_of_laid (W := W) (n := "nurserypy/api.ErrPlace") (text := _) gP gPt (h.filter fun x => x.1 == "nurserypy/api.ErrPlace")
  obtain ⟨a5, _, c5, _⟩ := one_of_laid (W := W) (n := "nurserypy/api.ErrFull") (text := _) gF gFt (h.filter fun x => x.1 == "nurserypy/api.ErrFull")
  obtain ⟨a6, _, c6, _⟩ := one_of_laid (W := W) (n := "nurserypy/api.ErrNone") (text := _) gNone_ gNonet_ (h.filter fun x => x.1 == "nurserypy/api.ErrNone")
  have n01 : a0 ≠ a1 := two_of_laid (n := "nurserypy/api.ErrText") (m := "nurserypy/api.ErrBound") (tn := _) (tm := _) gText_ gTextt_ gB gBt (h.filter fun x => x.1 == "nurserypy/api.ErrText" || x.1 == "nurserypy/api.ErrBound") c0 c1
  have n02 : a0 ≠ a2 := two_of_laid (n := "nurserypy/api.ErrText") (m := "nurserypy/api.ErrShape") (tn := _) (tm := _) gText_ gTextt_ gS gSt (h.filter fun x => x.1 == "nurserypy/api.ErrText" || x.1 == "nurserypy/api.ErrShape") c0 c2
  have n03 : a0 ≠ a3 := two_of_laid (n := "nurserypy/api.ErrText") (m := "nurserypy/api.ErrName") (tn := _) (tm := _) gText_ gTextt_ gName_ gNamet_ (h.filter fun x => x.1 == "nurserypy/api.ErrText" || x.1 == "nurserypy/api.ErrName") c0 c3
  have n04 : a0 ≠ a4 := two_of_laid (n := "nurserypy/api.ErrText") (m := "nurserypy/api.ErrPlace") (tn := _) (tm := _) gText_ gTextt_ gP gPt (h.filter fun x => x.1 == "nurserypy/api.ErrText" || x.1 == "nurserypy/api.ErrPlace") c0 c4
  have n05 : a0 ≠ a5 := two_of_laid (n := "nurserypy/api.ErrText") (m := "nurserypy/api.ErrFull") (tn := _) (tm := _) gText_ gTextt_ gF gFt (h.filter fun x => x.1 == "nurserypy/api.ErrText" || x.1 == "nurserypy/api.ErrFull") c0 c5
  have n06 : a0 ≠ a6 := two_of_laid (n := "nurserypy/api.ErrText") (m := "nurserypy/api.ErrNone") (tn := _) (tm := _) gText_ gTextt_ gNone_ gNonet_ (h.filter fun x => x.1 == "nurserypy/api.ErrText" || x.1 == "nurserypy/api.ErrNone") c0 c6
  have n12 : a1 ≠ a2 := two_of_laid (n := "nurserypy/api.ErrBound") (m := "nurserypy/api.ErrShape") (tn := _) (tm := _) gB gBt gS gSt (h.filter fun x => x.1 == "nurserypy/api.ErrBound" || x.1 == "nurserypy/api.ErrShape") c1 c2
  have n13 : a1 ≠ a3 := two_of_laid (n := "nurserypy/api.ErrBound") (m := "nurserypy/api.ErrName") (tn := _) (tm := _) gB gBt gName_ gNamet_ (h.filter fun x => x.1 == "nurserypy/api.ErrBound" || x.1 == "nurserypy/api.ErrName") c1 c3
  have n14 : a1 ≠ a4 := two_of_laid (n := "nurserypy/api.ErrBound") (m := "nurserypy/api.ErrPlace") (tn := _) (tm := _) gB gBt gP gPt (h.filter fun x => x.1 == "nurserypy/api.ErrBound" || x.1 == "nurserypy/api.ErrPlace") c1 c4
  have n15 : a1 ≠ a5 := two_of_laid (n := "nurserypy/api.ErrBound") (m := "nurserypy/api.ErrFull") (tn := _) (tm := _) gB gBt gF gFt (h.filter fun x => x.1 == "nurserypy/api.ErrBound" || x.1 == "nurserypy/api.ErrFull") c1 c5
  have n16 : a1 ≠ a6 := two_of_laid (n := "nurserypy/api.ErrBound") (m := "nurserypy/api.ErrNone") (tn := _) (tm := _) gB gBt gNone_ gNonet_ (h.filter fun x => x.1 == "nurserypy/api.ErrBound" || x.1 == "nurserypy/api.ErrNone") c1 c6
  have n23 : a2 ≠ a3 := two_of_laid (n := "nurserypy/api.ErrShape") (m := "nurserypy/api.ErrName") (tn := _) (tm := _) gS gSt gName_ gNamet_ (h.filter fun x => x.1 == "nurserypy/api.ErrShape" || x.1 == "nurserypy/api.ErrName") c2 c3
  have n24 : a2 ≠ a4 := two_of_laid (n := "nurserypy/api.ErrShape") (m := "nurserypy/api.ErrPlace") (tn := _) (tm := _) gS gSt gP gPt (h.filter fun x => x.1 == "nurserypy/api.ErrShape" || x.1 == "nurserypy/api.ErrPlace") c2 c4
  have n25 : a2 ≠ a5 := two_of_laid (n := "nurserypy/api.ErrShape") (m := "nurserypy/api.ErrFull") (tn := _) (tm := _) gS gSt gF gFt (h.filter fun x => x.1 == "nurserypy/api.ErrShape" || x.1 == "nurserypy/api.ErrFull") c2 c5
  have n26 : a2 ≠ a6 := two_of_laid (n := "nurserypy/api.ErrShape") (m := "nurserypy/api.ErrNone") (tn := _) (tm := _) gS gSt gNone_ gNonet_ (h.filter fun x => x.1 == "nurserypy/api.ErrShape" || x.1 == "nurserypy/api.ErrNone") c2 c6
  have n34 : a3 ≠ a4 := two_of_laid (n := "nurserypy/api.ErrName") (m := "nurserypy/api.ErrPlace") (tn := _) (tm := _) gName_ gNamet_ gP gPt (h.filter fun x => x.1 == "nurserypy/api.ErrName" || x.1 == "nurserypy/api.ErrPlace") c3 c4
  have n35 : a3 ≠ a5 := two_of_laid (n := "nurserypy/api.ErrName") (m := "nurserypy/api.ErrFull") (tn := _) (tm := _) gName_ gNamet_ gF gFt (h.filter fun x => x.1 == "nurserypy/api.ErrName" || x.1 == "nurserypy/api.ErrFull") c3 c5
  have n36 : a3 ≠ a6 := two_of_laid (n := "nurserypy/api.ErrName") (m := "nurserypy/api.ErrNone") (tn := _) (tm := _) gName_ gNamet_ gNone_ gNonet_ (h.filter fun x => x.1 == "nurserypy/api.ErrName" || x.1 == "nurserypy/api.ErrNone") c3 c6
  have n45 : a4 ≠ a5 := two_of_laid (n := "nurserypy/api.ErrPlace") (m := "nurserypy/api.ErrFull") (tn := _) (tm := _) gP gPt gF gFt (h.filter fun x => x.1 == "nurserypy/api.ErrPlace" || x.1 == "nurserypy/api.ErrFull") c4 c5
  have n46 : a4 ≠ a6 := two_of_laid (n := "nurserypy/api.ErrPlace") (m := "nurserypy/api.ErrNone") (tn := _) (tm := _) gP gPt gNone_ gNonet_ (h.filter fun x => x.1 == "nurserypy/api.ErrPlace" || x.1 == "nurserypy/api.ErrNone") c4 c6
  have n56 : a5 ≠ a6 := two_of_laid (n := "nurserypy/api.ErrFull") (m := "nurserypy/api.ErrNone") (tn := _) (tm := _) gF gFt gNone_ gNonet_ (h.filter fun x => x.1 == "nurserypy/api.ErrFull" || x.1 == "nurserypy/api.ErrNone") c5 c6
  have b0 := blk_of_laid (W := W) (n := "nurserypy/api.ErrText") (text := _) gText_ gTextt_ (h.filter fun x => x.1 == "nurserypy/api.ErrText") c0
  have b1 := blk_of_laid (W := W) (n := "nurserypy/api.ErrBound") (text := _) gB gBt (h.filter fun x => x.1 == "nurserypy/api.ErrBound") c1
  have b2 := blk_of_laid (W := W) (n := "nurserypy/api.ErrShape") (text := _) gS gSt (h.filter fun x => x.1 == "nurserypy/api.ErrShape") c2
  have b3 := blk_of_laid (W := W) (n := "nurserypy/api.ErrName") (text := _) gName_ gNamet_ (h.filter fun x => x.1 == "nurserypy/api.ErrName") c3
  have b4 := blk_of_laid (W := W) (n := "nurserypy/api.ErrPlace") (text := _) gP gPt (h.filter fun x => x.1 == "nurserypy/api.ErrPlace") c4
  have b5 := blk_of_laid (W := W) (n := "nurserypy/api.ErrFull") (text := _) gF gFt (h.filter fun x => x.1 == "nurserypy/api.ErrFull") c5
  have b6 := blk_of_laid (W := W) (n := "nurserypy/api.ErrNone") (text := _) gNone_ gNonet_ (h.filter fun x => x.1 == "nurserypy/api.ErrNone") c6
  refine ⟨fun i => match i with | 0 => a0 | 1 => a1 | 2 => a2 | 3 => a3 | 4 => a4 | 5 => a5 | _ => a6, c0, c1, c2, c3, c4, c5, c6, etype_of_laid (h.filter fun x => x.1 == "errors.errorType"), ?_, ?_⟩
  · intro i hi
    match i, hi with
    | 0, _ => exact b0
    | 1, _ => exact b1
    | 2, _ => exact b2
    | 3, _ => exact b3
    | 4, _ => exact b4
    | 5, _ => exact b5
    | 6, _ => exact b6
  · intro i j hi hj hij
    match i, hi, j, hj, hij with
    | 0, _, 1, _, _ => exact n01
    | 0, _, 2, _, _ => exact n02
    | 0, _, 3, _, _ => exact n03
    | 0, _, 4, _, _ => exact n04
    | 0, _, 5, _, _ => exact n05
    | 0, _, 6, _, _ => exact n06
    | 1, _, 0, _, _ => exact n01.symm
    | 1, _, 2, _, _ => exact n12
    | 1, _, 3, _, _ => exact n13
    | 1, _, 4, _, _ => exact n14
    | 1, _, 5, _, _ => exact n15
    | 1, _, 6, _, _ => exact n16
    | 2, _, 0, _, _ => exact n02.symm
    | 2, _, 1, _, _ => exact n12.symm
    | 2, _, 3, _, _ => exact n23
    | 2, _, 4, _, _ => exact n24
    | 2, _, 5, _, _ => exact n25
    | 2, _, 6, _, _ => exact n26
    | 3, _, 0, _, _ => exact n03.symm
    | 3, _, 1, _, _ => exact n13.symm
    | 3, _, 2, _, _ => exact n23.symm
    | 3, _, 4, _, _ => exact n34
    | 3, _, 5, _, _ => exact n35
    | 3, _, 6, _, _ => exact n36
    | 4, _, 0, _, _ => exact n04.symm
    | 4, _, 1, _, _ => exact n14.symm
    | 4, _, 2, _, _ => exact n24.symm
    | 4, _, 3, _, _ => exact n34.symm
    | 4, _, 5, _, _ => exact n45
    | 4, _, 6, _, _ => exact n46
    | 5, _, 0, _, _ => exact n05.symm
    | 5, _, 1, _, _ => exact n15.symm
    | 5, _, 2, _, _ => exact n25.symm
    | 5, _, 3, _, _ => exact n35.symm
    | 5, _, 4, _, _ => exact n45.symm
    | 5, _, 6, _, _ => exact n56
    | 6, _, 0, _, _ => exact n06.symm
    | 6, _, 1, _, _ => exact n16.symm
    | 6, _, 2, _, _ => exact n26.symm
    | 6, _, 3, _, _ => exact n36.symm
    | 6, _, 4, _, _ => exact n46.symm
    | 6, _, 5, _, _ => exact n56.symm
    | 0, _, 0, _, hij => exact absurd rfl hij
    | 1, _, 1, _, hij => exact absurd rfl hij
    | 2, _, 2, _, hij => exact absurd rfl hij
    | 3, _, 3, _, hij => exact absurd rfl hij
    | 4, _, 4, _, hij => exact absurd rfl hij
    | 5, _, 5, _, hij => exact absurd rfl hij
    | 6, _, 6, _, hij => exact absurd rfl hij
end Go.Proofs.YtecbbbaafcoliaaDoor
/- The law MemAllocs: its contract: whatever it is given it answers true, and leaves what was there. -/
namespace Go.Proofs.YtecbbbaafcoliaaDoor.MemAllocs
open Go.ChangeShapes Go.WideShapes Go.ChangeAt Go.RowKit
open Go.ChangeMaps (open_string)
set_option linter.unusedVariables false
set_option linter.unusedSimpArgs false

set_option maxRecDepth 100000 in
theorem contract (H : Type) (enc : TypeId × Value → H) (W : World) (base : Nat) (args : Array Value) (ds gs : List (DataW H)) (before : List MemPlace)
    (hval : ∀ (j : Nat) t v, Tryd.f7.params[j]? = some t → args[j]? = some v → Value.okWide Tryd.prog W .any base t v)
    (hW : DataW.Whole enc Tryd.prog Tryd.f7.params.toList Rows.memAllocsSpec.vars false W args.toList ds gs before)
    (hsz : (DataW.weightsEach Tryd.prog (Tryd.f7.params.toList ++ (OpenSpec.ofChange Rows.memAllocsSpec).bare.plain.varTypes Tryd.prog) (ds ++ gs)).all (· ≤ reachBytes) = true) (hL : laidMetH Tryd.prog Rows.memAllocsRow.laid W) :
    Calls Tryd.prog 7 args W fun e W' => ∃ v, e = .returned v ∧ Rows.memAllocsSpec.post enc Tryd.prog Tryd.f7 false true false false W args v W' := by
  have hW' := hW
  obtain ⟨p, q, hA0, hV, rfl, hfz, hnd⟩ := hW
  have hA : DataW.TrodAll enc Tryd.prog W 0 (fun _ => true) true Tryd.f7.params.toList args.toList ds p := hA0
  rw [Tryd.params7] at hA hval
  obtain ⟨v0, vs0, d0, ds0, p0, q0, hargs, rfl, rfl, h0, r0⟩ := trodAll_cons hA
  obtain ⟨v1, vs1, d1, ds1, p1, q1, rfl, rfl, rfl, h1, r1⟩ := trodAll_cons r0
  obtain ⟨v2, vs2, d2, ds2, p2, q2, rfl, rfl, rfl, h2, r2⟩ := trodAll_cons r1
  obtain ⟨rfl, rfl, rfl⟩ := trodAll_nil r2
  obtain rfl : args = #[v0, v1, v2] := by cases args; simp_all
  obtain ⟨rfl, rfl⟩ := trodVars_none hV
  obtain ⟨x1, rfl, rfl, rfl, w1⟩ := open_int Tryd.underlying3 (hval 1 3 v1 rfl rfl) h1
  obtain ⟨pa2, pl2, pc2, rfl⟩ := okWide_slice Tryd.underlying35 (hval 2 35 v2 rfl rfl)
  obtain ⟨fuel2, hh2⟩ := id h2
  obtain ⟨a2, c2, x2, e2, hR2, hc2, hn2, hm2, hb2⟩ := read_u64s hh2
  obtain ⟨rfl, rfl, rfl⟩ := Value.slice.inj e2
  obtain ⟨E, hE⟩ := env_of_laid (W := W) (hL.filter fun x => laid8.any (·.1 == x.1))
  clear hA0
  obtain ⟨fuel0, hh0⟩ := id h0
  obtain ⟨pa0, rfl⟩ := okWide_pointer Tryd.underlying22 (hval 0 22 v0 rfl rfl)
  rcases read_mem hh0 with e0 | ⟨b0, o0, M0, S0, e0, hM0⟩
  · obtain rfl := Value.pointer.inj (List.singleton_inj.1 e0)
    refine (memAllocs_nil x1 pa2 pc2 x2 W hR2 hc2 hn2 hb2 E hE ).mono fun e W' ⟨he, hg⟩ => ?_
    subst he
    exact ⟨_, rfl, law_post rfl rfl hW' (by simp [Rows.memAllocsSpec]) (by decide +kernel) hg⟩
  · obtain rfl := Value.pointer.inj (List.singleton_inj.1 e0)
    refine (memAllocs_any b0 o0 M0 S0 x1 pa2 pc2 x2 W hR2 hc2 hn2 hb2 hM0 E hE ).mono fun e W' ⟨he, hg⟩ => ?_
    subst he
    exact ⟨_, rfl, law_post rfl rfl hW' (by simp [Rows.memAllocsSpec]) (by decide +kernel) hg⟩
end Go.Proofs.YtecbbbaafcoliaaDoor.MemAllocs
/- The law MemAllocs: its row's step, out of the contract; an input that fits. -/
namespace Go.Proofs.YtecbbbaafcoliaaDoor.MemAllocs
open Go.ChangeShapes Go.WideShapes Go.ChangeAt Go.RowKit

theorem laid_met (os : Os) : laidMetH Tryd.prog Rows.memAllocsRow.laid ((World.doorLaid Tryd.prog 200 os).forCall (fun _ _ => 0) ⟨#[], #[.pointer none, .int .i64 0, .slice none 0 0], []⟩).memory :=
  laidMetH_of_parts3 (fuel := 8) (laidMet_of_run' 8 (by kernel_rfl) (by kernel_rfl)) (by kernel_rfl) (by kernel_rfl)
theorem reads (os : Os) {H : Type} (enc : TypeId × Value → H) : ∃ places, DataW.whole enc Tryd.prog ((World.doorLaid Tryd.prog 200 os).forCall (fun _ _ => 0) ⟨#[], #[.pointer none, .int .i64 0, .slice none 0 0], []⟩).memory Tryd.f7.params.toList Rows.memAllocsSpec.vars false #[.pointer none, .int .i64 0, .slice none 0 0].toList 8 = some ([.nil, .lit (.int .i64 0), .nil], [], places) :=
  ⟨[], by kernel_rfl⟩

set_option maxRecDepth 100000 in
theorem lifted (os : Os) (started : os.Started) (H : Type) (enc : TypeId × Value → H) (F : Stop.Interp) :
    ReturnsInHanded {} Tryd.checked os 7 .any ((OpenSpec.ofChange Rows.memAllocsSpec).preRow enc Tryd.prog Tryd.f7 Rows.memAllocsRow.domain false Rows.memAllocsRow.laid) (((OpenSpec.ofChange Rows.memAllocsSpec).at F).post enc Tryd.prog Tryd.f7 false true false false) := by
  obtain ⟨places, hx⟩ := reads os enc
  refine returnsInHanded_of_row (C := Tryd.checked) (s := OpenSpec.ofChange Rows.memAllocsSpec) own started (by kernel_rfl) Tryd.func7
    (witness_row_atRef (enc := enc) (C := Tryd.checked) false (World.doorLaid Tryd.prog 200 os) #[.pointer none, .int .i64 0, .slice none 0 0] rfl (by kernel_rfl) (by kernel_rfl) (by kernel_rfl)
      (OpenSpec.preRow_of_cond 8 hx (by kernel_rfl) (fun k hk => by cases hk) (by kernel_rfl) (laid_met os))) ?_
  intro W base args ds gs before hval hW _ _ hsz hL _ _
  exact contract H enc W base args ds gs before hval hW hsz hL
end Go.Proofs.YtecbbbaafcoliaaDoor.MemAllocs
/- The law MemAllocs: the closed facts of its row, each by itself. -/
namespace Go.Proofs.YtecbbbaafcoliaaDoor.MemAllocs
open Go.ChangeShapes Go.WideShapes Go.ChangeAt Go.RowKit

set_option maxHeartbeats 40000000 in
theorem closed : joinedFacts Tryd.prog 7 Tryd.f7 (OpenSpec.ofChange Rows.memAllocsSpec).bare Rows.memAllocsRow = true := by
  unfold joinedFacts
  repeat' (with_reducible refine Bool.and_eq_true_iff.2 ⟨?_, ?_⟩)
  all_goals as_aux_lemma => kernel_rfl
end Go.Proofs.YtecbbbaafcoliaaDoor.MemAllocs
/- The law MemAllocs: the statement, closed. -/
namespace Go.Proofs.YtecbbbaafcoliaaDoor.MemAllocs
open Go.ChangeShapes Go.WideShapes Go.ChangeAt Go.RowKit

set_option maxRecDepth 100000 in
theorem said : Rows.MemAllocsSaid :=
  OpenClaim.holds_of_cond 7 Tryd.f7 rfl rfl rfl rfl rfl rfl rfl ⟨rfl, rfl, rfl, rfl, rfl⟩ rfl rfl rfl rfl rfl (by kernel_rfl) Tryd.func7 closed
    (of_decide_eq_true (by kernel_rfl)) (by unfold Func.isWrapper; first | (rw [if_pos (by decide +kernel)]; kernel_rfl) | (rw [if_neg (by decide +kernel)]; exact ⟨rfl, rfl⟩))
    (fun os started H enc _ F => by rw [OpenClaim.pre_eq_preRow]; exact lifted os started H enc F)

theorem looks0 : true = Tryd.pinned.checked.prog.looks [] := by kernel_rfl
/-- No parameter wants a stand-in; the looks are the program's own. -/
theorem plain (f : FuncId) (fn : Func) (hf : Tryd.pinned.checked.prog.funcNamed "nurserypy/nurserypylaw3.MemAllocs" = some f) (hfn : Tryd.pinned.checked.prog.funcs[f]? = some fn) :
    true = Tryd.pinned.checked.prog.looks [] ∧ ∀ (j : Nat) t, fn.params[j]? = some t → Tryd.pinned.checked.prog.wantsStandIn t = false := by
  obtain rfl : f = 7 := Option.some.inj ((show Tryd.prog.funcNamed "nurserypy/nurserypylaw3.MemAllocs" = some 7 by kernel_rfl).symm.trans hf) |>.symm
  obtain rfl : fn = Tryd.f7 := (Option.some.inj (Tryd.func7.symm.trans hfn)).symm
  refine ⟨looks0, fun j t ht => ?_⟩
  rw [Tryd.params7] at ht
  have hm := Array.mem_of_getElem? ht
  simp only [List.mem_toArray, List.mem_cons, List.not_mem_nil, or_false] at hm
  rcases hm with rfl | rfl | rfl
  · exact (show Tryd.prog.wantsStandIn 22 = false by kernel_rfl)
  · exact (show Tryd.prog.wantsStandIn 3 = false by kernel_rfl)
  · exact (show Tryd.prog.wantsStandIn 35 = false by kernel_rfl)
theorem wfT : Rows.memAllocsRow.wfByText (OpenSpec.ofChange Rows.memAllocsSpec) = true := by kernel_rfl
theorem goesB : false = Rows.memAllocsRow.goesBy Tryd.pinned.checked.prog := by kernel_rfl
theorem mainI : Tryd.pinned.checked.prog.mainIs = some (Rows.memAllocsCard.stood.harness.1, Rows.memAllocsCard.stood.harness.2.toList) := by kernel_rfl

/-- THE STATEMENT. -/
theorem memAllocs_holds : Rows.MemAllocsCardSaid :=
  Claim7.holds_tied_plain_at .later [] _ _ _ _ said (fun _ h => by cases h) wfT (fun _ h => by cases h) memAllocs_row_tie rfl ⟨rfl, rfl⟩ mainI rfl plain goesB
end Go.Proofs.YtecbbbaafcoliaaDoor.MemAllocs
