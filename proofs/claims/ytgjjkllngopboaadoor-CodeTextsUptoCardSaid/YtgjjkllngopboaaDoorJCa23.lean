/- From the rows' lists to the table of powers. -/
import Derived.Test.YtgjjkllngopboaaDoorJCa12
import Derived.Test.YtgjjkllngopboaaDoorJCa22
import Derived.LaidSub
namespace Go.Proofs.YtgjjkllngopboaaDoor
open Go.ChangeShapes Go.WideShapes Go.ChangeAt Go.RowKit
set_option linter.unusedVariables false
set_option linter.unusedSimpArgs false

theorem pow10G : Tryd.prog.globalNamed "internal/strconv.uint64pow10" = some 8 := by kernel_rfl
theorem pow10T : (Tryd.prog.globals[8]?).map (·.type) = some 136 := by kernel_rfl
theorem pow10D : (Rows.laid_internal_strconv_uint64pow10 : DataW Unit) = Lib.tabData .u64 Lib.pow10Tab := by kernel_rfl
theorem pow_of_laid {W : World} (h : laidMetH Tryd.prog [("internal/strconv.uint64pow10", Rows.laid_internal_strconv_uint64pow10)] W) : Lib.TabIs Tryd.prog W "internal/strconv.uint64pow10" .u64 Lib.pow10Tab := by
  rw [pow10D] at h
  replace h := (laidMetH_iff.1 h).1
  exact Lib.tabIs_of_head (t := 136) (e := 107) (n := 20) pow10G pow10T (by kernel_rfl) (by kernel_rfl) (by kernel_rfl) (by kernel_rfl) h
open Go.ChangeShapes Go.WideShapes Go.ChangeAt Go.RowKit

/-- The list that every law over error numbers bears. -/
def laid8 : List (String × DataW Unit) := [("errors.errorType", Rows.laid_errors_errorType), ("nurserypy/api.ErrText", Rows.laid_nurserypy_api_ErrText), ("nurserypy/api.ErrBound", Rows.laid_nurserypy_api_ErrBound), ("nurserypy/api.ErrShape", Rows.laid_nurserypy_api_ErrShape), ("nurserypy/api.ErrName", Rows.laid_nurserypy_api_ErrName), ("nurserypy/api.ErrPlace", Rows.laid_nurserypy_api_ErrPlace), ("nurserypy/api.ErrFull", Rows.laid_nurserypy_api_ErrFull), ("nurserypy/api.ErrNone", Rows.laid_nurserypy_api_ErrNone)]
theorem etypeG : Tryd.prog.globalNamed "errors.errorType" = some 7 := by kernel_rfl
theorem etypeR : (Tryd.prog.cutTypes.find? (·.1 == "internal/reflectlite.rtype")).map (·.2) = some 142 := by kernel_rfl
theorem typesSize : Tryd.prog.types.size = 190 := by kernel_rfl
theorem etypeRow : ((List.range 190).filter fun t => Tryd.prog.rowNamed t [101, 114, 114, 111, 114]) = [39] := by kernel_rfl
theorem etype_of_laid {W : World} (h : laidMetH Tryd.prog [("errors.errorType", Rows.laid_errors_errorType)] W) : GEType W := by
  have h' : laidMet Tryd.prog [] W ∧ handlesMet Tryd.prog [("errors.errorType", Rows.laid_errors_errorType)] W := h
  obtain ⟨name, u, ty, e1, e2, e3, e4, e5⟩ := h'.2 _ (List.mem_singleton.2 rfl)
  have en : name = [101, 114, 114, 111, 114] := (Option.some.inj e1).symm
  subst en
  obtain rfl := Option.some.inj (etypeR.symm.trans e2)
  have hm : ty ∈ (List.range 190).filter fun t => Tryd.prog.rowNamed t [101, 114, 114, 111, 114] := List.mem_filter.2 ⟨List.mem_range.2 (by rw [← typesSize]; exact e3), e4⟩
  rw [etypeRow] at hm
  obtain rfl := List.mem_singleton.1 hm
  have hh : typeHandle Tryd.prog 39 = .pointer (some ⟨12, 39, none⟩) := by kernel_rfl
  rw [hh] at e5
  simpa using World.var?_cell etypeG e5 0

theorem gText_ : Tryd.prog.globalNamed "nurserypy/api.ErrText" = some 2 := by kernel_rfl
theorem gTextt_ : (Tryd.prog.globals[2]?).map (·.type) = some 39 := by kernel_rfl
theorem gName_ : Tryd.prog.globalNamed "nurserypy/api.ErrName" = some 3 := by kernel_rfl
theorem gNamet_ : (Tryd.prog.globals[3]?).map (·.type) = some 39 := by kernel_rfl
theorem gNone_ : Tryd.prog.globalNamed "nurserypy/api.ErrNone" = some 6 := by kernel_rfl
theorem gNonet_ : (Tryd.prog.globals[6]?).map (·.type) = some 39 := by kernel_rfl
set_option maxRecDepth 100000 in
theorem env_of_laid {W : World} (h : laidMetH Tryd.prog laid8 W) : ∃ E, ErrEnv E W := by
  obtain ⟨a0, _, c0, _⟩ := one_of_laid (W := W) (n := "nurserypy/api.ErrText") (text := _) gText_ gTextt_ (h.filter fun x => x.1 == "nurserypy/api.ErrText")
  obtain ⟨a1, _, c1, _⟩ := one_of_laid (W := W) (n := "nurserypy/api.ErrBound") (text := _) gB gBt (h.filter fun x => x.1 == "nurserypy/api.ErrBound")
  obtain ⟨a2, _, c2, _⟩ := one_of_laid (W := W) (n := "nurserypy/api.ErrShape") (text := _) gS gSt (h.filter fun x => x.1 == "nurserypy/api.ErrShape")
  obtain ⟨a3, _, c3, _⟩ := one_of_laid (W := W) (n := "nurserypy/api.ErrName") (text := _) gName_ gNamet_ (h.filter fun x => x.1 == "nurserypy/api.ErrName")
  obtain ⟨a4, _, c4, _⟩ := one_of_laid (W := W) (n := "nurserypy/api.ErrPlace") (text := _) gP gPt (h.filter fun x => x.1 == "nurserypy/api.ErrPlace")
  obtain ⟨a5, _, c5, _⟩ := one_of_laid (W := W) (n := "nurserypy/api.ErrFull") (text := _) gF gFt (h.filter fun x => x.1 == "nurserypy/api.ErrFull")
  obtain ⟨a6, _, c6, _⟩ := one_of_laid (W := W) (n := "nurserypy/api.ErrNone") (text := _) gNone_ gNonet_ (h.filter fun x => x.1 == "nurserypy/api.ErrNone")
  have n01 : a0 ≠ a1 := two_of_laid (n := "nurserypy/api.ErrText") (m := "nurserypy/api.ErrBound") (tn := _) (tm := _) gText_ gTextt_ gB gBt (h.filter fun x => x.1 == "nurserypy/api.ErrText" || x.1 == "nurserypy/api.ErrBound") c0 c1
  have n02 : a0 ≠ a2 := two_of_laid (n := "nurserypy/api.ErrText") (m := "nurserypy/api.ErrShape") (tn := _) (tm := _) gText_ gTextt_ gS gSt (h.filter fun x => x.1 == "nurserypy/api.ErrText" || x.1 == "nurserypy/api.ErrShape") c0 c2
  have n03 : a0 ≠ a3 := two_of_laid (n := "nurserypy/api.ErrText") (m := "nurserypy/api.ErrName") (tn := _) (tm := _) gText_ gTextt_ gName_ gNamet_ (h.filter fun x => x.1 == "nurserypy/api.ErrText" || x.1 == "nurserypy/api.ErrName") c0 c3
  have n04 : a0 ≠ a4 := two_of_laid (n := "nurserypy/api.ErrText") (m := "nurserypy/api.ErrPlace") (tn := _) (tm := _) gText_ gTextt_ gP gPt (h.filter fun x => x.1 == "nurserypy/api.ErrText" || x.1 == "nurserypy/api.ErrPlace") c0 c4
  have n05 : a0 ≠ a5 := two_of_laid (n := "nurserypy/api.ErrText") (m := "nurserypy/api.ErrFull") (tn := _) (tm := _) gText_ gTextt_ gF gFt (h.filter fun x => x.1 == "nurserypy/api.ErrText" || x.1 == "nurserypy/api.ErrFull") c0 c5
  have n06 : a0 ≠ a6 := two_of_laid (n := "nurserypy/api.ErrText") (m := "nurserypy/api.ErrNone") (tn := _) (tm := _) gText_ gTextt_ gNone_ gNonet_ (h.filter fun x => x.1 == "nurserypy/api.ErrText" || x.1 == "nurserypy/api.ErrNone") c0 c6
  have n12 : a1 ≠ a2 := two_of_laid (n := "nurserypy/api.ErrBound") (m := "nurserypy/api.ErrShape") (tn := _) (tm := _) gB gBt gS gSt (h.filter fun x => x.1 == "nurserypy/api.ErrBound" || x.1 == "nurserypy/api.ErrShape") c1 c2
  have n13 : a1 ≠ a3 := two_of_laid (n := "nurserypy/api.ErrBound") (m := "nurserypy/api.ErrName") (tn := _) (tm := _) gB gBt gName_ gNamet_ (h.filter fun x => x.1 == "nurserypy/api.ErrBound" || x.1 == "nurserypy/api.ErrName") c1 c3
  have n14 : a1 ≠ a4 := two_of_laid (n := "nurserypy/api.ErrBound") (m := "nurserypy/api.ErrPlace") (tn := _) (tm := _) gB gBt gP gPt (h.filter fun x => x.1 == "nurserypy/api.ErrBound" || x.1 == "nurserypy/api.ErrPlace") c1 c4
  have n15 : a1 ≠ a5 := two_of_laid (n := "nurserypy/api.ErrBound") (m := "nurserypy/api.ErrFull") (tn := _) (tm := _) gB gBt gF gFt (h.filter fun x => x.1 == "nurserypy/api.ErrBound" || x.1 == "nurserypy/api.ErrFull") c1 c5
  have n16 : a1 ≠ a6 := two_of_laid (n := "nurserypy/api.ErrBound") (m := "nurserypy/api.ErrNone") (tn := _) (tm := _) gB gBt gNone_ gNonet_ (h.filter fun x => x.1 == "nurserypy/api.ErrBound" || x.1 == "nurserypy/api.ErrNone") c1 c6
  have n23 : a2 ≠ a3 := two_of_laid (n := "nurserypy/api.ErrShape") (m := "nurserypy/api.ErrName") (tn := _) (tm := _) gS gSt gName_ gNamet_ (h.filter fun x => x.1 == "nurserypy/api.ErrShape" || x.1 == "nurserypy/api.ErrName") c2 c3
  have n24 : a2 ≠ a4 := two_of_laid (n := "nurserypy/api.ErrShape") (m := "nurserypy/api.ErrPlace") (tn := _) (tm := _) gS gSt gP gPt (h.filter fun x => x.1 == "nurserypy/api.ErrShape" || x.1 == "nurserypy/api.ErrPlace") c2 c4
  have n25 : a2 ≠ a5 := two_of_laid (n := "nurserypy/api.ErrShape") (m := "nurserypy/api.ErrFull") (tn := _) (tm := _) gS gSt gF gFt (h.filter fun x => x.1 == "nurserypy/api.ErrShape" || x.1 == "nurserypy/api.ErrFull") c2 c5
  have n26 : a2 ≠ a6 := two_of_laid (n := "nurserypy/api.ErrShape") (m := "nurserypy/api.ErrNone") (tn := _) (tm := _) gS gSt gNone_ gNonet_ (h.filter fun x => x.1 == "nurserypy/api.ErrShape" || x.1 == "nurserypy/api.ErrNone") c2 c6
  have n34 : a3 ≠ a4 := two_of_laid (n := "nurserypy/api.ErrName") (m := "nurserypy/api.ErrPlace") (tn := _) (tm := _) gName_ gNamet_ gP gPt (h.filter fun x => x.1 == "nurserypy/api.ErrName" || x.1 == "nurserypy/api.ErrPlace") c3 c4
  have n35 : a3 ≠ a5 := two_of_laid (n := "nurserypy/api.ErrName") (m := "nurserypy/api.ErrFull") (tn := _) (tm := _) gName_ gNamet_ gF gFt (h.filter fun x => x.1 == "nurserypy/api.ErrName" || x.1 == "nurserypy/api.ErrFull") c3 c5
  have n36 : a3 ≠ a6 := two_of_laid (n := "nurserypy/api.ErrName") (m := "nurserypy/api.ErrNone") (tn := _) (tm := _) gName_ gNamet_ gNone_ gNonet_ (h.filter fun x => x.1 == "nurserypy/api.ErrName" || x.1 == "nurserypy/api.ErrNone") c3 c6
  have n45 : a4 ≠ a5 := two_of_laid (n := "nurserypy/api.ErrPlace") (m := "nurserypy/api.ErrFull") (tn := _) (tm := _) gP gPt gF gFt (h.filter fun x => x.1 == "nurserypy/api.ErrPlace" || x.1 == "nurserypy/api.ErrFull") c4 c5
  have n46 : a4 ≠ a6 := two_of_laid (n := "nurserypy/api.ErrPlace") (m := "nurserypy/api.ErrNone") (tn := _) (tm := _) gP gPt gNone_ gNonet_ (h.filter fun x => x.1 == "nurserypy/api.ErrPlace" || x.1 == "nurserypy/api.ErrNone") c4 c6
  have n56 : a5 ≠ a6 := two_of_laid (n := "nurserypy/api.ErrFull") (m := "nurserypy/api.ErrNone") (tn := _) (tm := _) gF gFt gNone_ gNonet_ (h.filter fun x => x.1 == "nurserypy/api.ErrFull" || x.1 == "nurserypy/api.ErrNone") c5 c6
  have b0 := blk_of_laid (W := W) (n := "nurserypy/api.ErrText") (text := _) gText_ gTextt_ (h.filter fun x => x.1 == "nurserypy/api.ErrText") c0
  have b1 := blk_of_laid (W := W) (n := "nurserypy/api.ErrBound") (text := _) gB gBt (h.filter fun x => x.1 == "nurserypy/api.ErrBound") c1
  have b2 := blk_of_laid (W := W) (n := "nurserypy/api.ErrShape") (text := _) gS gSt (h.filter fun x => x.1 == "nurserypy/api.ErrShape") c2
  have b3 := blk_of_laid (W := W) (n := "nurserypy/api.ErrName") (text := _) gName_ gNamet_ (h.filter fun x => x.1 == "nurserypy/api.ErrName") c3
  have b4 := blk_of_laid (W := W) (n := "nurserypy/api.ErrPlace") (text := _) gP gPt (h.filter fun x => x.1 == "nurserypy/api.ErrPlace") c4
  have b5 := blk_of_laid (W := W) (n := "nurserypy/api.ErrFull") (text := _) gF gFt (h.filter fun x => x.1 == "nurserypy/api.ErrFull") c5
  have b6 := blk_of_laid (W := W) (n := "nurserypy/api.ErrNone") (text := _) gNone_ gNonet_ (h.filter fun x => x.1 == "nurserypy/api.ErrNone") c6
  refine ⟨fun i => match i with | 0 => a0 | 1 => a1 | 2 => a2 | 3 => a3 | 4 => a4 | 5 => a5 | _ => a6, c0, c1, c2, c3, c4, c5, c6, etype_of_laid (h.filter fun x => x.1 == "errors.errorType"), ?_, ?_⟩
  · intro i hi
    match i, hi with
    | 0, _ => exact b0
    | 1, _ => exact b1
    | 2, _ => exact b2
    | 3, _ => exact b3
    | 4, _ => exact b4
    | 5, _ => exact b5
    | 6, _ => exact b6
  · intro i j hi hj hij
    match i, hi, j, hj, hij with
    | 0, _, 1, _, _ => exact n01
    | 0, _, 2, _, _ => exact n02
    | 0, _, 3, _, _ => exact n03
    | 0, _, 4, _, _ => exact n04
    | 0, _, 5, _, _ => exact n05
    | 0, _, 6, _, _ => exact n06
    | 1, _, 0, _, _ => exact n01.symm
    | 1, _, 2, _, _ => exact n12
    | 1, _, 3, _, _ => exact n13
    | 1, _, 4, _, _ => exact n14
    | 1, _, 5, _, _ => exact n15
    | 1, _, 6, _, _ => exact n16
    | 2, _, 0, _, _ => exact n02.symm
    | 2, _, 1, _, _ => exact n12.symm
    | 2, _, 3, _, _ => exact n23
    | 2, _, 4, _, _ => exact n24
    | 2, _, 5, _, _ => exact n25
    | 2, _, 6, _, _ => exact n26
    | 3, _, 0, _, _ => exact n03.symm
    | 3, _, 1, _, _ => exact n13.symm
    | 3, _, 2, _, _ => exact n23.symm
    | 3, _, 4, _, _ => exact n34
    | 3, _, 5, _, _ => exact n35
    | 3, _, 6, _, _ => exact n36
    | 4, _, 0, _, _ => exact n04.symm
    | 4, _, 1, _, _ => exact n14.symm
    | 4, _, 2, _, _ => exact n24.symm
    | 4, _, 3, _, _ => exact n34.symm
    | 4, _, 5, _, _ => exact n45
    | 4, _, 6, _, _ => exact n46
    | 5, _, 0, _, _ => exact n05.symm
    | 5, _, 1, _, _ => exact n15.symm
    | 5, _, 2, _, _ => exact n25.symm
    | 5, _, 3, _, _ => exact n35.symm
    | 5, _, 4, _, _ => exact n45.symm
    | 5, _, 6, _, _ => exact n56
    | 6, _, 0, _, _ => exact n06.symm
    | 6, _, 1, _, _ => exact n16.symm
    | 6, _, 2, _, _ => exact n26.symm
    | 6, _, 3, _, _ => exact n36.symm
    | 6, _, 4, _, _ => exact n46.symm
    | 6, _, 5, _, _ => exact n56.symm
    | 0, _, 0, _, hij => exact absurd rfl hij
    | 1, _, 1, _, hij => exact absurd rfl hij
    | 2, _, 2, _, hij => exact absurd rfl hij
    | 3, _, 3, _, hij => exact absurd rfl hij
    | 4, _, 4, _, hij => exact absurd rfl hij
    | 5, _, 5, _, hij => exact absurd rfl hij
    | 6, _, 6, _, hij => exact absurd rfl hij
end Go.Proofs.YtgjjkllngopboaaDoor
