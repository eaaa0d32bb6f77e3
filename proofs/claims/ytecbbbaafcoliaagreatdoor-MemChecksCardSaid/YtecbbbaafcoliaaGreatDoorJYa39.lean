/- From the rows' lists to the seven errors and errors.errorType. -/
import Derived.Test.YtecbbbaafcoliaaGreatDoorJYa38
import Derived.Test.YtecbbbaafcoliaaGreatDoorJYa35
import Derived.Test.YtecbbbaafcoliaaGreatDoorJYa20
import Derived.Test.YtecbbbaafcoliaaGreatDoorJYa28
import Derived.Test.YtecbbbaafcoliaaGreatDoorJYa29
namespace Go.Proofs.YtecbbbaafcoliaaGreatDoor
open Go.ChangeShapes Go.WideShapes Go.ChangeAt Go.RowKit
set_option linter.unusedVariables false
set_option linter.unusedSimpArgs false

/-- The list that every law over error numbers bears. -/
def laid8 : List (String × DataW Unit) := [("errors.errorType", Rows.laid_errors_errorType), ("nurserypy/api.ErrText", Rows.laid_nurserypy_api_ErrText), ("nurserypy/api.ErrBound", Rows.laid_nurserypy_api_ErrBound), ("nurserypy/api.ErrShape", Rows.laid_nurserypy_api_ErrShape), ("nurserypy/api.ErrName", Rows.laid_nurserypy_api_ErrName), ("nurserypy/api.ErrPlace", Rows.laid_nurserypy_api_ErrPlace), ("nurserypy/api.ErrFull", Rows.laid_nurserypy_api_ErrFull), ("nurserypy/api.ErrNone", Rows.laid_nurserypy_api_ErrNone)]
theorem etypeG : Tryz.prog.globalNamed "errors.errorType" = some 7 := by kernel_rfl
theorem etypeR : (Tryz.prog.cutTypes.find? (·.1 == "internal/reflectlite.rtype")).map (·.2) = some 194 := by kernel_rfl
theorem typesSize : Tryz.prog.types.size = 258 := by kernel_rfl
theorem etypeRow : ((List.range 258).filter fun t => Tryz.prog.rowNamed t [101, 114, 114, 111, 114]) = [34] := by kernel_rfl
theorem etype_of_laid {W : World} (h : laidMetH Tryz.prog [("errors.errorType", Rows.laid_errors_errorType)] W) : GEType W := by
  have h' : laidMet Tryz.prog [] W ∧ handlesMet Tryz.prog [("errors.errorType", Rows.laid_errors_errorType)] W := h
  obtain ⟨name, u, ty, e1, e2, e3, e4, e5⟩ := h'.2 _ (List.mem_singleton.2 rfl)
  have en : name = [101, 114, 114, 111, 114] := (Option.some.inj e1).symm
  subst en
  obtain rfl := Option.some.inj (etypeR.symm.trans e2)
  have hm : ty ∈ (List.range 258).filter fun t => Tryz.prog.rowNamed t [101, 114, 114, 111, 114] := List.mem_filter.2 ⟨List.mem_range.2 (by rw [← typesSize]; exact e3), e4⟩
  rw [etypeRow] at hm
  obtain rfl := List.mem_singleton.1 hm
  have hh : typeHandle Tryz.prog 34 = .pointer (some ⟨12, 34, none⟩) := by kernel_rfl
  rw [hh] at e5
  simpa using World.var?_cell etypeG e5 0

theorem gText_ : Tryz.prog.globalNamed "nurserypy/api.ErrText" = some 4 := by kernel_rfl
theorem gTextt_ : (Tryz.prog.globals[4]?).map (·.type) = some 34 := by kernel_rfl
theorem gName_ : Tryz.prog.globalNamed "nurserypy/api.ErrName" = some 5 := by kernel_rfl
theorem gNamet_ : (Tryz.prog.globals[5]?).map (·.type) = some 34 := by kernel_rfl
theorem gNone_ : Tryz.prog.globalNamed "nurserypy/api.ErrNone" = some 6 := by kernel_rfl
theorem gNonet_ : (Tryz.prog.globals[6]?).map (·.type) = some 34 := by kernel_rfl
set_option maxRecDepth 100000 in
theorem env_of_laid {W : World} (h : laidMetH Tryz.prog laid8 W) : ∃ E, ErrEnv E W := by
  obtain ⟨a0, _, c0, _⟩ := one_of_laid (W := W) (n := "nurserypy/api.ErrText") (text := _) gText_ gTextt_ (h.filter fun x => x.1 == "nurserypy/api.ErrText")
  obtain ⟨a1, _, c1, _⟩ := one_of_laid (W := W) (n := "nurserypy/api.ErrBound") (text := _) gB gBt (h.filter fun x => x.1 == "nurserypy/api.ErrBound")
  obtain ⟨a2, _, c2, _⟩ := one_of_laid (W := W) (n := "nurserypy/api.ErrShape") (text := _) gS gSt (h.filter fun x => x.1 == "nurserypy/api.ErrShape")
  obtain ⟨a3, _, c3, _⟩ := one_of_laid (W := W) (n := "nurserypy/api.ErrName") (text := _) gName_ gNamet_ (h.filter fun x => x.1 == "nurserypy/api.ErrName")
  obtain ⟨a4, _, c4, _⟩ := one_of_laid (W := W) (n := "nurserypy/api.ErrPlace") (text := _) gP gPt (h.filter fun x => x.1 == "nurserypy/api.ErrPlace")
  obtain ⟨a5, _, c5, _⟩ := one_of_laid (W := W) (n := "nurserypy/api.ErrFull") (text := _) gF gFt (h.filter fun x => x.1 == "nurserypy/api.ErrFull")
  obtain ⟨a6, _, c6, _⟩ := one_of_laid (W := W) (n := "nurserypy/api.ErrNone") (text := _) gNone_ gNonet_ (h.filter fun x => x.1 == "nurserypy/api.ErrNone")
  have n01 : a0 ≠ a1 := two_of_laid (n := "nurserypy/api.ErrText") (m := "nurserypy/api.ErrBound") (tn := _) (tm := _) gText_ gTextt_ gB gBt (h.filter fun x => x.1 == "nurserypy/api.ErrText" || x.1 == "nurserypy/api.ErrBound") c0 c1
  have n02 : a0 ≠ a2 := two_of_laid (n := "nurserypy/api.ErrText") (m := "nurserypy/api.ErrShape") (tn := _) (tm := _) gText_ gTextt_ gS gSt (h.filter fun x => x.1 == "nurserypy/api.ErrText" || x.1 == "nurserypy/api.ErrShape") c0 c2
  have n03 : a0 ≠ a3 := two_of_laid (n := "nurserypy/api.ErrText") (m := "nurserypy/api.ErrName") (tn := _) (tm := _) gText_ gTextt_ gName_ gNamet_ (h.filter fun x => x.1 == "nurserypy/api.ErrText" || x.1 == "nurserypy/api.ErrName") c0 c3
  have n04 : a0 ≠ a4 := two_of_laid (n := "nurserypy/api.ErrText") (m := "nurserypy/api.ErrPlace") (tn := _) (tm := _) gText_ gTextt_ gP gPt (h.filter fun x => x.1 == "nurserypy/api.ErrText" || x.1 == "nurserypy/api.ErrPlace") c0 c4
  have n05 : a0 ≠ a5 := two_of_laid (n := "nurserypy/api.ErrText") (m := "nurserypy/api.ErrFull") (tn := _) (tm := _) gText_ gTextt_ gF gFt (h.filter fun x => x.1 == "nurserypy/api.ErrText" || x.1 == "nurserypy/api.ErrFull") c0 c5
  have n06 : a0 ≠ a6 := two_of_laid (n := "nurserypy/api.ErrText") (m := "nurserypy/api.ErrNone") (tn := _) (tm := _) gText_ gTextt_ gNone_ gNonet_ (h.filter fun x => x.1 == "nurserypy/api.ErrText" || x.1 == "nurserypy/api.ErrNone") c0 c6
  have n12 : a1 ≠ a2 := two_of_laid (n := "nurserypy/api.ErrBound") (m := "nurserypy/api.ErrShape") (tn := _) (tm := _) gB gBt gS gSt (h.filter fun x => x.1 == "nurserypy/api.ErrBound" || x.1 == "nurserypy/api.ErrShape") c1 c2
  have n13 : a1 ≠ a3 := two_of_laid (n := "nurserypy/api.ErrBound") (m := "nurserypy/api.ErrName") (tn := _) (tm := _) gB gBt gName_ gNamet_ (h.filter fun x => x.1 == "nurserypy/api.ErrBound" || x.1 == "nurserypy/api.ErrName") c1 c3
  have n14 : a1 ≠ a4 := two_of_laid (n := "nurserypy/api.ErrBound") (m := "nurserypy/api.ErrPlace") (tn := _) (tm := _) gB gBt gP gPt (h.filter fun x => x.1 == "nurserypy/api.ErrBound" || x.1 == "nurserypy/api.ErrPlace") c1 c4
  have n15 : a1 ≠ a5 := two_of_laid (n := "nurserypy/api.ErrBound") (m := "nurserypy/api.ErrFull") (tn := _) (tm := _) gB gBt gF gFt (h.filter fun x => x.1 == "nurserypy/api.ErrBound" || x.1 == "nurserypy/api.ErrFull") c1 c5
  have n16 : a1 ≠ a6 := two_of_laid (n := "nurserypy/api.ErrBound") (m := "nurserypy/api.ErrNone") (tn := _) (tm := _) gB gBt gNone_ gNonet_ (h.filter fun x => x.1 == "nurserypy/api.ErrBound" || x.1 == "nurserypy/api.ErrNone") c1 c6
  have n23 : a2 ≠ a3 := two_of_laid (n := "nurserypy/api.ErrShape") (m := "nurserypy/api.ErrName") (tn := _) (tm := _) gS gSt gName_ gNamet_ (h.filter fun x => x.1 == "nurserypy/api.ErrShape" || x.1 == "nurserypy/api.ErrName") c2 c3
  have n24 : a2 ≠ a4 := two_of_laid (n := "nurserypy/api.ErrShape") (m := "nurserypy/api.ErrPlace") (tn := _) (tm := _) gS gSt gP gPt (h.filter fun x => x.1 == "nurserypy/api.ErrShape" || x.1 == "nurserypy/api.ErrPlace") c2 c4
  have n25 : a2 ≠ a5 := two_of_laid (n := "nurserypy/api.ErrShape") (m := "nurserypy/api.ErrFull") (tn := _) (tm := _) gS gSt gF gFt (h.filter fun x => x.1 == "nurserypy/api.ErrShape" || x.1 == "nurserypy/api.ErrFull") c2 c5
  have n26 : a2 ≠ a6 := two_of_laid (n := "nurserypy/api.ErrShape") (m := "nurserypy/api.ErrNone") (tn := _) (tm := _) gS gSt gNone_ gNonet_ (h.filter fun x => x.1 == "nurserypy/api.ErrShape" || x.1 == "nurserypy/api.ErrNone") c2 c6
  have n34 : a3 ≠ a4 := two_of_laid (n := "nurserypy/api.ErrName") (m := "nurserypy/api.ErrPlace") (tn := _) (tm := _) gName_ gNamet_ gP gPt (h.filter fun x => x.1 == "nurserypy/api.ErrName" || x.1 == "nurserypy/api.ErrPlace") c3 c4
  have n35 : a3 ≠ a5 := two_of_laid (n := "nurserypy/api.ErrName") (m := "nurserypy/api.ErrFull") (tn := _) (tm := _) gName_ gNamet_ gF gFt (h.filter fun x => x.1 == "nurserypy/api.ErrName" || x.1 == "nurserypy/api.ErrFull") c3 c5
  have n36 : a3 ≠ a6 := two_of_laid (n := "nurserypy/api.ErrName") (m := "nurserypy/api.ErrNone") (tn := _) (tm := _) gName_ gNamet_ gNone_ gNonet_ (h.filter fun x => x.1 == "nurserypy/api.ErrName" || x.1 == "nurserypy/api.ErrNone") c3 c6
  have n45 : a4 ≠ a5 := two_of_laid (n := "nurserypy/api.ErrPlace") (m := "nurserypy/api.ErrFull") (tn := _) (tm := _) gP gPt gF gFt (h.filter fun x => x.1 == "nurserypy/api.ErrPlace" || x.1 == "nurserypy/api.ErrFull") c4 c5
  have n46 : a4 ≠ a6 := two_of_laid (n := "nurserypy/api.ErrPlace") (m := "nurserypy/api.ErrNone") (tn := _) (tm := _) gP gPt gNone_ gNonet_ (h.filter fun x => x.1 == "nurserypy/api.ErrPlace" || x.1 == "nurserypy/api.ErrNone") c4 c6
  have n56 : a5 ≠ a6 := two_of_laid (n := "nurserypy/api.ErrFull") (m := "nurserypy/api.ErrNone") (tn := _) (tm := _) gF gFt gNone_ gNonet_ (h.filter fun x => x.1 == "nurserypy/api.ErrFull" || x.1 == "nurserypy/api.ErrNone") c5 c6
  have b0 := blk_of_laid (W := W) (n := "nurserypy/api.ErrText") (text := _) gText_ gTextt_ (h.filter fun x => x.1 == "nurserypy/api.ErrText") c0
  have b1 := blk_of_laid (W := W) (n := "nurserypy/api.ErrBound") (text := _) gB gBt (h.filter fun x => x.1 == "nurserypy/api.ErrBound") c1
  have b2 := blk_of_laid (W := W) (n := "nurserypy/api.ErrShape") (text := _) gS gSt (h.filter fun x => x.1 == "nurserypy/api.ErrShape") c2
  have b3 := blk_of_laid (W := W) (n := "nurserypy/api.ErrName") (text := _) gName_ gNamet_ (h.filter fun x => x.1 == "nurserypy/api.ErrName") c3
  have b4 := blk_of_laid (W := W) (n := "nurserypy/api.ErrPlace") (text := _) gP gPt (h.filter fun x => x.1 == "nurserypy/api.ErrPlace") c4
  have b5 := blk_of_laid (W := W) (n := "nurserypy/api.ErrFull") (text := _) gF gFt (h.filter fun x => x.1 == "nurserypy/api.ErrFull") c5
  have b6 := blk_of_laid (W := W) (n := "nurserypy/api.ErrNone") (text := _) gNone_ gNonet_ (h.filter fun x => x.1 == "nurserypy/api.ErrNone") c6
  refine ⟨fun i => match i with | 0 => a0 | 1 => a1 | 2 => a2 | 3 => a3 | 4 => a4 | 5 => a5 | _ => a6, c0, c1, c2, c3, c4, c5, c6, etype_of_laid (h.filter fun x => x.1 == "errors.errorType"), ?_, ?_⟩
  · intro i hi
    match i, hi with
    | 0, _ => exact b0
    | 1, _ => exact b1
    | 2, _ => exact b2
    | 3, _ => exact b3
    | 4, _ => exact b4
    | 5, _ => exact b5
    | 6, _ => exact b6
  · intro i j hi hj hij
    match i, hi, j, hj, hij with
    | 0, _, 1, _, _ => exact n01
    | 0, _, 2, _, _ => exact n02
    | 0, _, 3, _, _ => exact n03
    | 0, _, 4, _, _ => exact n04
    | 0, _, 5, _, _ => exact n05
    | 0, _, 6, _, _ => exact n06
    | 1, _, 0, _, _ => exact n01.symm
    | 1, _, 2, _, _ => exact n12
    | 1, _, 3, _, _ => exact n13
    | 1, _, 4, _, _ => exact n14
    | 1, _, 5, _, _ => exact n15
    | 1, _, 6, _, _ => exact n16
    | 2, _, 0, _, _ => exact n02.symm
    | 2, _, 1, _, _ => exact n12.symm
    | 2, _, 3, _, _ => exact n23
    | 2, _, 4, _, _ => exact n24
    | 2, _, 5, _, _ => exact n25
    | 2, _, 6, _, _ => exact n26
    | 3, _, 0, _, _ => exact n03.symm
    | 3, _, 1, _, _ => exact n13.symm
    | 3, _, 2, _, _ => exact n23.symm
    | 3, _, 4, _, _ => exact n34
    | 3, _, 5, _, _ => exact n35
    | 3, _, 6, _, _ => exact n36
    | 4, _, 0, _, _ => exact n04.symm
    | 4, _, 1, _, _ => exact n14.symm
    | 4, _, 2, _, _ => exact n24.symm
    | 4, _, 3, _, _ => exact n34.symm
    | 4, _, 5, _, _ => exact n45
    | 4, _, 6, _, _ => exact n46
    | 5, _, 0, _, _ => exact n05.symm
    | 5, _, 1, _, _ => exact n15.symm
    | 5, _, 2, _, _ => exact n25.symm
    | 5, _, 3, _, _ => exact n35.symm
    | 5, _, 4, _, _ => exact n45.symm
    | 5, _, 6, _, _ => exact n56
    | 6, _, 0, _, _ => exact n06.symm
    | 6, _, 1, _, _ => exact n16.symm
    | 6, _, 2, _, _ => exact n26.symm
    | 6, _, 3, _, _ => exact n36.symm
    | 6, _, 4, _, _ => exact n46.symm
    | 6, _, 5, _, _ => exact n56.symm
    | 0, _, 0, _, hij => exact absurd rfl hij
    | 1, _, 1, _, hij => exact absurd rfl hij
    | 2, _, 2, _, hij => exact absurd rfl hij
    | 3, _, 3, _, hij => exact absurd rfl hij
    | 4, _, 4, _, hij => exact absurd rfl hij
    | 5, _, 5, _, hij => exact absurd rfl hij
    | 6, _, 6, _, hij => exact absurd rfl hij
open Go.ChangeShapes Go.WideShapes Go.ChangeAt Go.RowKit

def laid4 : List (String × DataW Unit) := [("nurserypy/api.ErrBound", Rows.laid_nurserypy_api_ErrBound), ("nurserypy/api.ErrShape", Rows.laid_nurserypy_api_ErrShape), ("nurserypy/api.ErrPlace", Rows.laid_nurserypy_api_ErrPlace), ("nurserypy/api.ErrFull", Rows.laid_nurserypy_api_ErrFull)]
theorem g4_of_laid {W : World} (h : laidMetH Tryz.prog laid4 W) : ∃ E, G4 E W := by
  obtain ⟨a1, _, c1, _⟩ := one_of_laid (W := W) (n := "nurserypy/api.ErrBound") (text := _) gB gBt (h.filter fun x => x.1 == "nurserypy/api.ErrBound")
  obtain ⟨a2, _, c2, _⟩ := one_of_laid (W := W) (n := "nurserypy/api.ErrShape") (text := _) gS gSt (h.filter fun x => x.1 == "nurserypy/api.ErrShape")
  obtain ⟨a4, _, c4, _⟩ := one_of_laid (W := W) (n := "nurserypy/api.ErrPlace") (text := _) gP gPt (h.filter fun x => x.1 == "nurserypy/api.ErrPlace")
  obtain ⟨a5, _, c5, _⟩ := one_of_laid (W := W) (n := "nurserypy/api.ErrFull") (text := _) gF gFt (h.filter fun x => x.1 == "nurserypy/api.ErrFull")
  exact ⟨fun i => match i with | 1 => a1 | 2 => a2 | 4 => a4 | _ => a5, ⟨c1, c2, c4⟩, c5⟩
open Go.RowKit

/-- Where an object went. -/
def goC (M0 : Mem) (C : Col) (a : Nat) : Nat := if a ∈ (partO M0).1.map (·.a) then a else ((mlook C.mv (a : Int)).getD 0).toNat
def DomC (M0 : Mem) (C : Col) (a : Nat) : Prop := ∃ b, Img M0 C.mv a b
section
variable {M0 : Mem} {ten : Int} {C : Col}
theorem Fin_.go (h : Fin_ M0 ten C) (hr : Ready M0 ten) {a b : Nat} (hi : Img M0 C.mv a b) : goC M0 C a = b := by
  obtain ⟨D, hv⟩ := h.inv
  unfold goC
  rcases hi with ⟨rfl, hm⟩ | hm
  · rw [if_pos hm]
  · have hn : ¬ a ∈ (partO M0).1.map (·.a) := fun q => by
      obtain ⟨x, hx, ex⟩ := List.mem_map.1 q
      obtain ⟨y, hy, ey⟩ := hv.keyN hm
      have r1 := hr.inO hx
      have r2 := hr.inN hy
      obtain ⟨hh, e1, e2, e3, e4, e5, e6, e7, e8, e9, e10, e11, e12⟩ := hr.shp.nums
      rcases e3 with ⟨u1, u2, u3⟩ | ⟨u1, u2, u3⟩ <;> omega
    rw [if_neg hn, mlook_of hv.nodupI hm]; simp
theorem Fin_.img (h : Fin_ M0 ten C) (hr : Ready M0 ten) {a : Nat} (hd : DomC M0 C a) : Img M0 C.mv a (goC M0 C a) := by
  obtain ⟨b, hi⟩ := hd
  rw [h.go hr hi]; exact hi
theorem Fin_.corr (h : Fin_ M0 ten C) (hr : Ready M0 ten) {u v : Int} (hf : fldB (startsM M0) u = true) (hv : Fol M0 C.mv u v) : Cor (goC M0 C) (DomC M0 C) u v := by
  rcases h.cor hr hf hv with ⟨q, e⟩ | ⟨a, b, q1, q2, q3, q4, q5, q6, q7, ⟨x, hx, ex⟩, q8⟩
  · left
    refine ⟨?_, e⟩
    unfold ptsW
    rw [if_neg (fun r => by rcases q with q | q; exact q r.1; exact r.2.1 q)]; omega
  · right
    have hb := h.small hr q4
    have ha : a ≤ 1000000 := by
      have := (mem_in hr.shp hx).1
      have := len_small hr.shp
      omega
    have e1 : ptsW u = (a : Int) := by unfold ptsW; rw [if_pos ⟨q1, q2, by unfold placeW at q3; omega⟩]; exact q3
    have e2 : ptsW v = (b : Int) := by unfold ptsW; rw [if_pos ⟨q5, q6, by unfold placeW at q7; omega⟩]; exact q7
    exact ⟨a, e1, ⟨b, q4⟩, by rw [h.go hr q4]; exact e2, q1, q2, q5, q6⟩
theorem Fin_.morph (h : Fin_ M0 ten C) (hr : Ready M0 ten) : Morph M0.W (finM M0 C).W (DomC M0 C) (goC M0 C) := by
  obtain ⟨D, hv⟩ := h.inv
  refine ⟨fun a b ha hb e => ?_, fun a ha => (hv.hd hr (h.img hr ha)).2.2.1, fun a ha => ?_, fun a ha hq k hk => ?_, fun a ha hq k hk => (h.fld (h.img hr ha) hk).1 hq⟩
  · have h1 := h.img hr ha
    have h2 := h.img hr hb
    rw [e] at h1
    exact hv.inj hr h1 h2
  · obtain ⟨d1, d2, d3, d4, d5⟩ := hv.hd hr (h.img hr ha)
    have z1 := (hd_in (wat M0.W a) (wat_in hr.ok a).1).2.2.2.2.2.2
    have z2 := (hd_in (wat C.M.W (goC M0 C a)) (wat_in hv.ok _).1).2.2.2.2.2.2
    unfold szW at d4
    show hSize (wat C.M.W (goC M0 C a)) = _
    omega
  · exact h.corr hr (hv.fldB_ hr (h.img hr ha) hq hk) ((h.fld (h.img hr ha) hk).2 hq)
theorem Fin_.reach (h : Fin_ M0 ten C) (hr : Ready M0 ten) : reachP (finM M0 C) = (reachP M0).map (fun o => obW C.M.W (goC M0 C o.a)) ∧ InD M0.W (DomC M0 C) (reachP M0) := by
  have hg := (good_parts (chk_zero hr.chk).1).2.2.1
  unfold fieldsB at hg
  rw [List.all_eq_true] at hg
  have hl : (finM M0 C).W.length = M0.W.length := by obtain ⟨D, hv⟩ := h.inv; exact hv.like.lenW
  exact reach_sim (h.morph hr) hl h.rootsL.symm fun i hi => h.corr hr (getD_in hg hi) (h.roots i hi)
/-- What lies in the nursery, in words; no more than before. -/
theorem Fin_.words (h : Fin_ M0 ten C) (hr : Ready M0 ten) : (((objsAll (finM M0 C)).filter fun o => decide ((o.a : Int) < 2 * M0.half)).map fun o => 1 + o.n).sum = C.top.toNat ∧ 0 ≤ C.top ∧ C.top ≤ M0.top := by
  obtain ⟨p1, p2⟩ := h.parts hr
  obtain ⟨D, hv⟩ := h.inv
  have ht := hv.totle hr
  have h0 := hv.top0
  have h1 := hv.oldT
  refine ⟨?_, h0, by omega⟩
  obtain ⟨hh, e1, e2, e3, e4, e5, e6, e7, e8, e9, e10, e11, e12⟩ := hr.shp.nums
  unfold objsAll
  rw [p1, p2]
  simp only
  have f1 : ((LNl M0 C.mv).map (obW C.M.W)).filter (fun o => decide ((o.a : Int) < 2 * M0.half)) = (LNl M0 C.mv).map (obW C.M.W) := List.filter_eq_self.2 fun o ho => by
    obtain ⟨b, hb, rfl⟩ := List.mem_map.1 ho
    have := hv.layN.mem b hb
    refine decide_eq_true ?_
    show (b : Int) < _
    rcases e3 with ⟨u1, u2, u3⟩ | ⟨u1, u2, u3⟩ <;> omega
  have f2 : (((partO M0).1.map (·.a) ++ LOl M0 C.mv).map (obW C.M.W)).filter (fun o => decide ((o.a : Int) < 2 * M0.half)) = [] := List.filter_eq_nil_iff.2 fun o ho => by
    obtain ⟨b, hb, rfl⟩ := List.mem_map.1 ho
    have := (hv.olds hr).mem b hb
    rw [decide_eq_true_eq]
    show ¬ (b : Int) < _
    omega
  rw [List.filter_append, f1, f2, List.append_nil, List.map_map]
  have := hv.layN.sum
  have e : (LNl M0 C.mv).map ((fun o : Ob => 1 + o.n) ∘ obW C.M.W) = (LNl M0 C.mv).map fun b => 1 + szW C.M.W b := rfl
  rw [e]; omega
end
theorem ob_cells4 {W : World} {la : Option Addr} {l : List Ob} (h : RSl W la (ocells l)) {k : Nat} (hk : k < l.length) :
    ∃ ob oo, la = some ⟨ob, oo, none⟩ ∧ W.cell? ⟨ob, oo + k * 4, none⟩ = some (.int .i64 (l[k].a : Int)) ∧ W.cell? ⟨ob, oo + k * 4 + 1, none⟩ = some (.int .i64 (hKind l[k].w)) ∧ W.cell? ⟨ob, oo + k * 4 + 2, none⟩ = some (.int .i64 (hAge l[k].w)) ∧ W.cell? ⟨ob, oo + k * 4 + 3, none⟩ = some (.int .i64 (hSize l[k].w)) := by
  obtain ⟨p0, p1, p2, p3⟩ := ocells_at l k hk
  obtain ⟨ob, oo, rfl, c0⟩ := h _ _ p0
  have c1 := h.at_ p1
  have c2 := h.at_ p2
  have c3 := h.at_ p3
  rw [← Nat.add_assoc] at c1 c2 c3
  exact ⟨ob, oo, rfl, c0, c1, c2, c3⟩
section
variable {M : Mem} {ten : Int}
theorem collectC_few (hr : Ready M ten) (hf : Few M) : Few (collectC M ten) := by
  obtain ⟨_, _, _, _, _, _, D, h1, h2, h3, h4⟩ := collect_inv hr
  refine ⟨?_, ?_, ?_, ?_, ?_⟩
  · show (col4 M ten).M.W.length ≤ _
    rw [h1.like.lenW]; exact hf.W
  · show (col4 M ten).M.roots.length ≤ _
    rw [h3]; exact hf.R
  · show (weakC (col4 M ten)).length ≤ _
    unfold weakC
    rw [List.length_map, h1.like.weak]; exact hf.K
  · show (idsC (col4 M ten)).length ≤ _
    refine Nat.le_trans (List.length_filterMap_le _ _) ?_
    rw [h1.like.ids]; exact hf.I
  · show (col4 M ten).M.cards.length ≤ _
    rw [h1.like.lenC]; exact hf.C
end
end Go.Proofs.YtecbbbaafcoliaaGreatDoor
