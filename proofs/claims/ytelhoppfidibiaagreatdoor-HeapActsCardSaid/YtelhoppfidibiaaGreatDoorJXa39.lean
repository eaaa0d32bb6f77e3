/- From the rows' lists to the seven errors and errors.errorType. -/
import Derived.Test.YtelhoppfidibiaaGreatDoorJXa38
set_option linter.unusedSimpArgs false
set_option linter.unusedVariables false
set_option maxRecDepth 100000
namespace Go.Proofs.YtelhoppfidibiaaGreatDoor
open Go.ChangeShapes Go.WideShapes Go.ChangeAt Go.RowKit
def C7s:List (String × DataW Unit):=[("errors.errorType", Rows.laid_errors_errorType),("nurserypy/api.ErrText", Rows.laid_nurserypy_api_ErrText),("nurserypy/api.ErrBound", Rows.laid_nurserypy_api_ErrBound),("nurserypy/api.ErrShape", Rows.laid_nurserypy_api_ErrShape),("nurserypy/api.ErrName", Rows.laid_nurserypy_api_ErrName),("nurserypy/api.ErrPlace", Rows.laid_nurserypy_api_ErrPlace),("nurserypy/api.ErrFull", Rows.laid_nurserypy_api_ErrFull),("nurserypy/api.ErrNone", Rows.laid_nurserypy_api_ErrNone)]
theorem D9u:Tryz.prog.globalNamed "errors.errorType"=some 7:=by kernel_rfl
theorem D9v:(Tryz.prog.cutTypes.find? (·.1 == "internal/reflectlite.rtype")).map (·.2)=some 206:=by kernel_rfl
theorem F8a:Tryz.prog.types.size=291:=by kernel_rfl
theorem D9w:((List.range 291).filter fun t=>Tryz.prog.rowNamed t [101,114,114,111,114])=[26]:=by kernel_rfl
theorem D9x {W:World} (h:laidMetH Tryz.prog [("errors.errorType", Rows.laid_errors_errorType)] W):B9c W:=by
 have h':laidMet Tryz.prog [] W∧handlesMet Tryz.prog [("errors.errorType", Rows.laid_errors_errorType)] W:=h;obtain⟨name,u,ty,e1,e2,e3,e4,e5⟩:=h'.2 _ (List.mem_singleton.2 rfl);have en:name=[101,114,114,111,114]:=(Option.some.inj e1).symm;subst en;obtain rfl:=Option.some.inj (D9v.symm.trans e2);have hm:ty∈(List.range 291).filter fun t=>Tryz.prog.rowNamed t [101,114,114,111,114]:=List.mem_filter.2 ⟨List.mem_range.2 (by rw[←F8a];exact e3),e4⟩
 rw[D9w] at hm;obtain rfl:=List.mem_singleton.1 hm;have hh:typeHandle Tryz.prog 26=.pointer (some ⟨11,26,none⟩):=by kernel_rfl
 rw[hh] at e5;simpa using World.var?_cell D9u e5 0
theorem A9g:Tryz.prog.globalNamed "nurserypy/api.ErrText"=some 4:=by kernel_rfl
theorem A9h:(Tryz.prog.globals[4]?).map (·.type)=some 26:=by kernel_rfl
theorem A9c:Tryz.prog.globalNamed "nurserypy/api.ErrName"=some 5:=by kernel_rfl
theorem A9d:(Tryz.prog.globals[5]?).map (·.type)=some 26:=by kernel_rfl
theorem A9e:Tryz.prog.globalNamed "nurserypy/api.ErrNone"=some 6:=by kernel_rfl
theorem A9f:(Tryz.prog.globals[6]?).map (·.type)=some 26:=by kernel_rfl
theorem D9e {W:World} (h:laidMetH Tryz.prog C7s W):∃ E,A6s E W:=by
 obtain⟨a0,_,c0,_⟩:=A6m (W:=W) (n := "nurserypy/api.ErrText") (text:=_) A9g A9h (h.filter fun x=>x.1 == "nurserypy/api.ErrText");obtain⟨a1,_,c1,_⟩:=A6m (W:=W) (n := "nurserypy/api.ErrBound") (text:=_) gB gBt (h.filter fun x=>x.1 == "nurserypy/api.ErrBound");obtain⟨a2,_,c2,_⟩:=A6m (W:=W) (n := "nurserypy/api.ErrShape") (text:=_) gS gSt (h.filter fun x=>x.1 == "nurserypy/api.ErrShape");obtain⟨a3,_,c3,_⟩:=A6m (W:=W) (n := "nurserypy/api.ErrName") (text:=_) A9c A9d (h.filter fun x=>x.1 == "nurserypy/api.ErrName");obtain⟨a4,_,c4,_⟩:=A6m (W:=W) (n := "nurserypy/api.ErrPlace") (text:=_) gP gPt (h.filter fun x=>x.1 == "nurserypy/api.ErrPlace");obtain⟨a5,_,c5,_⟩:=A6m (W:=W) (n := "nurserypy/api.ErrFull") (text:=_) gF gFt (h.filter fun x=>x.1 == "nurserypy/api.ErrFull");obtain⟨a6,_,c6,_⟩:=A6m (W:=W) (n := "nurserypy/api.ErrNone") (text:=_) A9e A9f (h.filter fun x=>x.1 == "nurserypy/api.ErrNone");have n01:a0≠a1:=A0t (n := "nurserypy/api.ErrText") (m := "nurserypy/api.ErrBound") (tn:=_) (tm:=_) A9g A9h gB gBt (h.filter fun x=>x.1 == "nurserypy/api.ErrText"||x.1 == "nurserypy/api.ErrBound") c0 c1;have n02:a0≠a2:=A0t (n := "nurserypy/api.ErrText") (m := "nurserypy/api.ErrShape") (tn:=_) (tm:=_) A9g A9h gS gSt (h.filter fun x=>x.1 == "nurserypy/api.ErrText"||x.1 == "nurserypy/api.ErrShape") c0 c2;have n03:a0≠a3:=A0t (n := "nurserypy/api.ErrText") (m := "nurserypy/api.ErrName") (tn:=_) (tm:=_) A9g A9h A9c A9d (h.filter fun x=>x.1 == "nurserypy/api.ErrText"||x.1 == "nurserypy/api.ErrName") c0 c3;have n04:a0≠a4:=A0t (n := "nurserypy/api.ErrText") (m := "nurserypy/api.ErrPlace") (tn:=_) (tm:=_) A9g A9h gP gPt (h.filter fun x=>x.1 == "nurserypy/api.ErrText"||x.1 == "nurserypy/api.ErrPlace") c0 c4;have n05:a0≠a5:=A0t (n := "nurserypy/api.ErrText") (m := "nurserypy/api.ErrFull") (tn:=_) (tm:=_) A9g A9h gF gFt (h.filter fun x=>x.1 == "nurserypy/api.ErrText"||x.1 == "nurserypy/api.ErrFull") c0 c5;have n06:a0≠a6:=A0t (n := "nurserypy/api.ErrText") (m := "nurserypy/api.ErrNone") (tn:=_) (tm:=_) A9g A9h A9e A9f (h.filter fun x=>x.1 == "nurserypy/api.ErrText"||x.1 == "nurserypy/api.ErrNone") c0 c6;have n12:a1≠a2:=A0t (n := "nurserypy/api.ErrBound") (m := "nurserypy/api.ErrShape") (tn:=_) (tm:=_) gB gBt gS gSt (h.filter fun x=>x.1 == "nurserypy/api.ErrBound"||x.1 == "nurserypy/api.ErrShape") c1 c2;have n13:a1≠a3:=A0t (n := "nurserypy/api.ErrBound") (m := "nurserypy/api.ErrName") (tn:=_) (tm:=_) gB gBt A9c A9d (h.filter fun x=>x.1 == "nurserypy/api.ErrBound"||x.1 == "nurserypy/api.ErrName") c1 c3;have n14:a1≠a4:=A0t (n := "nurserypy/api.ErrBound") (m := "nurserypy/api.ErrPlace") (tn:=_) (tm:=_) gB gBt gP gPt (h.filter fun x=>x.1 == "nurserypy/api.ErrBound"||x.1 == "nurserypy/api.ErrPlace") c1 c4;have n15:a1≠a5:=A0t (n := "nurserypy/api.ErrBound") (m := "nurserypy/api.ErrFull") (tn:=_) (tm:=_) gB gBt gF gFt (h.filter fun x=>x.1 == "nurserypy/api.ErrBound"||x.1 == "nurserypy/api.ErrFull") c1 c5;have n16:a1≠a6:=A0t (n := "nurserypy/api.ErrBound") (m := "nurserypy/api.ErrNone") (tn:=_) (tm:=_) gB gBt A9e A9f (h.filter fun x=>x.1 == "nurserypy/api.ErrBound"||x.1 == "nurserypy/api.ErrNone") c1 c6;have n23:a2≠a3:=A0t (n := "nurserypy/api.ErrShape") (m := "nurserypy/api.ErrName") (tn:=_) (tm:=_) gS gSt A9c A9d (h.filter fun x=>x.1 == "nurserypy/api.ErrShape"||x.1 == "nurserypy/api.ErrName") c2 c3;have n24:a2≠a4:=A0t (n := "nurserypy/api.ErrShape") (m := "nurserypy/api.ErrPlace") (tn:=_) (tm:=_) gS gSt gP gPt (h.filter fun x=>x.1 == "nurserypy/api.ErrShape"||x.1 == "nurserypy/api.ErrPlace") c2 c4;have n25:a2≠a5:=A0t (n := "nurserypy/api.ErrShape") (m := "nurserypy/api.ErrFull") (tn:=_) (tm:=_) gS gSt gF gFt (h.filter fun x=>x.1 == "nurserypy/api.ErrShape"||x.1 == "nurserypy/api.ErrFull") c2 c5;have n26:a2≠a6:=A0t (n := "nurserypy/api.ErrShape") (m := "nurserypy/api.ErrNone") (tn:=_) (tm:=_) gS gSt A9e A9f (h.filter fun x=>x.1 == "nurserypy/api.ErrShape"||x.1 == "nurserypy/api.ErrNone") c2 c6;have n34:a3≠a4:=A0t (n := "nurserypy/api.ErrName") (m := "nurserypy/api.ErrPlace") (tn:=_) (tm:=_) A9c A9d gP gPt (h.filter fun x=>x.1 == "nurserypy/api.ErrName"||x.1 == "nurserypy/api.ErrPlace") c3 c4;have n35:a3≠a5:=A0t (n := "nurserypy/api.ErrName") (m := "nurserypy/api.ErrFull") (tn:=_) (tm:=_) A9c A9d gF gFt (h.filter fun x=>x.1 == "nurserypy/api.ErrName"||x.1 == "nurserypy/api.ErrFull") c3 c5;have n36:a3≠a6:=A0t (n := "nurserypy/api.ErrName") (m := "nurserypy/api.ErrNone") (tn:=_) (tm:=_) A9c A9d A9e A9f (h.filter fun x=>x.1 == "nurserypy/api.ErrName"||x.1 == "nurserypy/api.ErrNone") c3 c6;have n45:a4≠a5:=A0t (n := "nurserypy/api.ErrPlace") (m := "nurserypy/api.ErrFull") (tn:=_) (tm:=_) gP gPt gF gFt (h.filter fun x=>x.1 == "nurserypy/api.ErrPlace"||x.1 == "nurserypy/api.ErrFull") c4 c5;have n46:a4≠a6:=A0t (n := "nurserypy/api.ErrPlace") (m := "nurserypy/api.ErrNone") (tn:=_) (tm:=_) gP gPt A9e A9f (h.filter fun x=>x.1 == "nurserypy/api.ErrPlace"||x.1 == "nurserypy/api.ErrNone") c4 c6;have n56:a5≠a6:=A0t (n := "nurserypy/api.ErrFull") (m := "nurserypy/api.ErrNone") (tn:=_) (tm:=_) gF gFt A9e A9f (h.filter fun x=>x.1 == "nurserypy/api.ErrFull"||x.1 == "nurserypy/api.ErrNone") c5 c6;have b0:=B0j (W:=W) (n := "nurserypy/api.ErrText") (text:=_) A9g A9h (h.filter fun x=>x.1 == "nurserypy/api.ErrText") c0;have b1:=B0j (W:=W) (n := "nurserypy/api.ErrBound") (text:=_) gB gBt (h.filter fun x=>x.1 == "nurserypy/api.ErrBound") c1;have b2:=B0j (W:=W) (n := "nurserypy/api.ErrShape") (text:=_) gS gSt (h.filter fun x=>x.1 == "nurserypy/api.ErrShape") c2;have b3:=B0j (W:=W) (n := "nurserypy/api.ErrName") (text:=_) A9c A9d (h.filter fun x=>x.1 == "nurserypy/api.ErrName") c3;have b4:=B0j (W:=W) (n := "nurserypy/api.ErrPlace") (text:=_) gP gPt (h.filter fun x=>x.1 == "nurserypy/api.ErrPlace") c4;have b5:=B0j (W:=W) (n := "nurserypy/api.ErrFull") (text:=_) gF gFt (h.filter fun x=>x.1 == "nurserypy/api.ErrFull") c5;have b6:=B0j (W:=W) (n := "nurserypy/api.ErrNone") (text:=_) A9e A9f (h.filter fun x=>x.1 == "nurserypy/api.ErrNone") c6;refine⟨fun i=>match i with|0=>a0|1=>a1|2=>a2|3=>a3|4=>a4|5=>a5|_=>a6,c0,c1,c2,c3,c4,c5,c6,D9x (h.filter fun x=>x.1 == "errors.errorType"),?_,?_⟩
 ·intro i hi
  match i,hi with
  | 0,_=>exact b0
  | 1,_=>exact b1
  | 2,_=>exact b2
  | 3,_=>exact b3
  | 4,_=>exact b4
  | 5,_=>exact b5
  | 6,_=>exact b6
 ·intro i j hi hj hij
  match i,hi,j,hj,hij with
  | 0,_,1,_,_=>exact n01
  | 0,_,2,_,_=>exact n02
  | 0,_,3,_,_=>exact n03
  | 0,_,4,_,_=>exact n04
  | 0,_,5,_,_=>exact n05
  | 0,_,6,_,_=>exact n06
  | 1,_,0,_,_=>exact n01.symm
  | 1,_,2,_,_=>exact n12
  | 1,_,3,_,_=>exact n13
  | 1,_,4,_,_=>exact n14
  | 1,_,5,_,_=>exact n15
  | 1,_,6,_,_=>exact n16
  | 2,_,0,_,_=>exact n02.symm
  | 2,_,1,_,_=>exact n12.symm
  | 2,_,3,_,_=>exact n23
  | 2,_,4,_,_=>exact n24
  | 2,_,5,_,_=>exact n25
  | 2,_,6,_,_=>exact n26
  | 3,_,0,_,_=>exact n03.symm
  | 3,_,1,_,_=>exact n13.symm
  | 3,_,2,_,_=>exact n23.symm
  | 3,_,4,_,_=>exact n34
  | 3,_,5,_,_=>exact n35
  | 3,_,6,_,_=>exact n36
  | 4,_,0,_,_=>exact n04.symm
  | 4,_,1,_,_=>exact n14.symm
  | 4,_,2,_,_=>exact n24.symm
  | 4,_,3,_,_=>exact n34.symm
  | 4,_,5,_,_=>exact n45
  | 4,_,6,_,_=>exact n46
  | 5,_,0,_,_=>exact n05.symm
  | 5,_,1,_,_=>exact n15.symm
  | 5,_,2,_,_=>exact n25.symm
  | 5,_,3,_,_=>exact n35.symm
  | 5,_,4,_,_=>exact n45.symm
  | 5,_,6,_,_=>exact n56
  | 6,_,0,_,_=>exact n06.symm
  | 6,_,1,_,_=>exact n16.symm
  | 6,_,2,_,_=>exact n26.symm
  | 6,_,3,_,_=>exact n36.symm
  | 6,_,4,_,_=>exact n46.symm
  | 6,_,5,_,_=>exact n56.symm
  | 0,_,0,_,hij=>exact absurd rfl hij
  | 1,_,1,_,hij=>exact absurd rfl hij
  | 2,_,2,_,hij=>exact absurd rfl hij
  | 3,_,3,_,hij=>exact absurd rfl hij
  | 4,_,4,_,hij=>exact absurd rfl hij
  | 5,_,5,_,hij=>exact absurd rfl hij
  | 6,_,6,_,hij=>exact absurd rfl hij
open Go.ChangeShapes Go.WideShapes Go.ChangeAt Go.RowKit
theorem E9p:Tryz.prog.globalNamed "internal/strconv.uint64pow10"=some 8:=by kernel_rfl
theorem E9q:(Tryz.prog.globals[8]?).map (·.type)=some 245:=by kernel_rfl
theorem E9o:(Rows.laid_internal_strconv_uint64pow10:DataW Unit)=Lib.tabData .u64 Lib.pow10Tab:=by kernel_rfl
theorem D2u:Tryz.prog.globalNamed "math/bits.deBruijn64tab"=some 10:=by kernel_rfl
theorem F8c:(Tryz.prog.globals[10]?).map (·.type)=some 260:=by kernel_rfl
theorem F8b:(Rows.laid_math_bits_deBruijn64tab:DataW Unit)=Lib.tabData .u8 [0,1,56,2,57,49,28,3,61,58,42,50,38,29,17,4,62,47,59,36,45,43,51,22,53,39,33,30,24,18,12,5,63,55,48,27,60,41,37,16,46,35,44,21,52,32,23,11,54,26,40,15,34,20,31,10,25,14,19,9,13,8,7,6]:=by kernel_rfl
theorem E9r {W:World} (h:laidMetH Tryz.prog [("internal/strconv.uint64pow10", Rows.laid_internal_strconv_uint64pow10)] W):Lib.TabIs Tryz.prog W "internal/strconv.uint64pow10" .u64 Lib.pow10Tab:=by
 rw[E9o] at h
 replace h:=(laidMetH_iff.1 h).1
 exact Lib.tabIs_of_head (t:=245) (e:=78) (n:=20) E9p E9q (by kernel_rfl) (by kernel_rfl) (by kernel_rfl) (by kernel_rfl) h
theorem F8d {W:World} (h:laidMetH Tryz.prog [("math/bits.deBruijn64tab", Rows.laid_math_bits_deBruijn64tab)] W):C3v W:=by
 rw[F8b] at h
 replace h:=(laidMetH_iff.1 h).1
 exact (Lib.tabIs_of_head (t:=260) (e:=5) (n:=64) D2u F8c (by kernel_rfl) (by kernel_rfl) (by kernel_rfl) (by kernel_rfl) h).cell D2u 15 (by decide)
theorem D2d {W:World} (h:laidMetH Tryz.prog [("math/bits.deBruijn64tab", Rows.laid_math_bits_deBruijn64tab),("internal/strconv.uint64pow10", Rows.laid_internal_strconv_uint64pow10)] W):A3p W :=
 ⟨E9r (h.filter fun x=>x.1 == "internal/strconv.uint64pow10"),F8d (h.filter fun x=>x.1 == "math/bits.deBruijn64tab")⟩
end Go.Proofs.YtelhoppfidibiaaGreatDoor
