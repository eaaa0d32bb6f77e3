/- A builder among worlds. -/
import Derived.Test.YtelhoppfidibiaaGreatDoorJOa41
import Derived.Lib.OthersKept
import Derived.Test.YtelhoppfidibiaaGreatDoorCards
import Derived.Test.YtelhoppfidibiaaGreatDoorTie
import Derived.Test.YtelhoppfidibiaaGreatDoorJOa01
import Derived.ProofKit
import Derived.OpenShut
import Derived.LaidLaws
import Derived.LaidSub
import Derived.LaidMore
import Derived.Deep.DeepHandedRow
import Derived.Deep.DeepWitnessRowRef
import Derived.Test.YtelhoppfidibiaaGreatDoorJOa39
namespace Go.Proofs.YtelhoppfidibiaaGreatDoor
open Go.RowKit
set_option linter.unusedVariables false
set_option linter.unusedSimpArgs false

theorem Bld.lt {B b : Nat} {s : ByteArray} {w : World} (h : Bld B b s w) : b < w.heap.size := by
  rcases h with h | h <;> exact h.lt
theorem Bld.ext {B b : Nat} {s : ByteArray} {w w' : World} (h : Bld B b s w) (hx : Ext w w') : Bld B b s w' := by
  have key : ∀ p, Lib.BuilderAtF 109 5 B b p (Lib.strCells s) w → Lib.BuilderAtF 109 5 B b p (Lib.strCells s) w' := fun p hp => by
    have hl := hp.lt
    obtain ⟨hB, v, hb, hown, hne⟩ := hp
    obtain ⟨q1, q2, q3, q4, q5⟩ := hx
    exact ⟨hB, v, by rw [q5 b hl]; exact hb, hown.kept (row := none) ⟨q1, q2, q3, q4, fun k hk _ => q5 k hk⟩ (by cases hv : v.ownBlock <;> simp), hne⟩
  rcases h with h | h
  · exact Or.inl (key _ h)
  · exact Or.inr (key _ h)
theorem bld_new (w : World) : Bld w.heap.size w.heap.size ⟨#[]⟩ (w.alloc (.cells #[.pointer none, .slice none 0 0] 109)) := Lib.IsBuilderF.of (Lib.fresh_isBuilder _ _ w)
/-- What a write to a builder leaves: all below it; all that are no bytes. -/
structure Wrote (b : Nat) (w w' : World) : Prop where
  below : Below b w w'
  others : Lib.OthersKept 5 (some b) w w'
open Go.ChangeShapes Go.WideShapes Go.ChangeAt Go.RowKit

theorem own : ownKnob Tryz.prog.godebug = none := by kernel_rfl
theorem esStar : "*" ++ "errors.errorString" = "*errors.errorString" := by decide
theorem esRow (u : TypeId) (h : Tryz.prog.typeName? 3 u = some "*errors.errorString") : u = 261 :=
  typeName_ptr_named (nm := "errors.errorString") (by rw [esStar]; kernel_rfl) (by kernel_rfl) (by decide) u (by rw [esStar]; exact h)
theorem esCells : Tryz.prog.cellsOf 279 = 1 := by kernel_rfl
theorem strCells : Tryz.prog.cellsOf 9 = 1 := by kernel_rfl

/-- An error as errors.New makes it, as a datum. -/
abbrev errD (text : List UInt8) : DataW Unit := .iface "*errors.errorString" (.ptr (.agg [.lit (.string text)]))

set_option maxRecDepth 100000 in
/-- One listed error. -/
theorem one_of_laid {W : World} {n : String} {text : List UInt8} {g : Nat} (hg : Tryz.prog.globalNamed n = some g) (ht : (Tryz.prog.globals[g]?).map (·.type) = some 26)
    (h : laidMet Tryz.prog [(n, errD text)] W) : ∃ a s, W.cell? ⟨g, 0, none⟩ = some (errV a) ∧ W.cell? a = some (.string s) ∧ s.data.toList = text := by
  obtain ⟨ps, ⟨g0, t0, cs0, f0, p0, q0, hg0, ht0, hv0, hd0, _, e0⟩, hnd, hrows⟩ := h
  obtain rfl := Option.some.inj (hg.symm.trans hg0)
  obtain rfl := Option.some.inj (ht.symm.trans ht0)
  subst e0
  obtain ⟨l0⟩ := cs0
  have ok0 : ∀ u v, l0 = [.iface u v] → Value.okWide Tryz.prog W .any 0 u v := fun u v e => by
    subst e
    exact (hrows g 0 (by simp [MemPlace.row])).2 u v (by simpa using World.var?_cell hg0 hv0 0)
  obtain ⟨a0, s0, rfl, hc0, hs0, hz0, rfl⟩ := errorString_of_trod Tryz.underlying26 esRow Tryz.underlying261 Tryz.underlying279 rfl rfl Tryz.underlying9 esCells strCells hd0 ok0
  exact ⟨a0, s0, by simpa using World.var?_cell hg0 hv0 0, hc0, hs0⟩

set_option maxRecDepth 100000 in
/-- The block of a listed error. -/
theorem blk_of_laid {W : World} {n : String} {text : List UInt8} {g : Nat} (hg : Tryz.prog.globalNamed n = some g) (ht : (Tryz.prog.globals[g]?).map (·.type) = some 26)
    (h : laidMet Tryz.prog [(n, errD text)] W) {a : Addr} (ha : W.cell? ⟨g, 0, none⟩ = some (errV a)) : ∃ c t, W.heap[a.block]? = some (.cells c t (0, 0)) := by
  obtain ⟨ps, ⟨g0, t0, cs0, f0, p0, q0, hg0, ht0, hv0, hd0, _, e0⟩, hnd, hrows⟩ := h
  obtain rfl := Option.some.inj (hg.symm.trans hg0)
  obtain rfl := Option.some.inj (ht.symm.trans ht0)
  subst e0
  obtain ⟨l0⟩ := cs0
  have ok0 : ∀ u v, l0 = [.iface u v] → Value.okWide Tryz.prog W .any 0 u v := fun u v e => by
    subst e
    exact (hrows g 0 (by simp [MemPlace.row])).2 u v (by simpa using World.var?_cell hg0 hv0 0)
  obtain ⟨a0, s0, rfl, hc0, hs0, hz0, rfl⟩ := errorString_of_trod Tryz.underlying26 esRow Tryz.underlying261 Tryz.underlying279 rfl rfl Tryz.underlying9 esCells strCells hd0 ok0
  have e0 : W.cell? ⟨g, 0, none⟩ = some (errV a0) := by simpa using World.var?_cell hg0 hv0 0
  rw [e0] at ha
  have ea : a0 = a := by injection ha with ha; injection ha with _ ha; injection ha with ha; injection ha
  subst ea
  exact (hrows a0.block a0.off (by simp [MemPlace.row])).1

set_option maxRecDepth 100000 in
/-- Two listed errors are two. -/
theorem two_of_laid {W : World} {n m : String} {tn tm : List UInt8} {g k : Nat} (hg : Tryz.prog.globalNamed n = some g) (ht : (Tryz.prog.globals[g]?).map (·.type) = some 26)
    (hk : Tryz.prog.globalNamed m = some k) (hkt : (Tryz.prog.globals[k]?).map (·.type) = some 26)
    (h : laidMet Tryz.prog [(n, errD tn), (m, errD tm)] W) {a b : Addr} (ha : W.cell? ⟨g, 0, none⟩ = some (errV a)) (hb : W.cell? ⟨k, 0, none⟩ = some (errV b)) : a ≠ b := by
  obtain ⟨ps, ⟨g0, t0, cs0, f0, p0, q0, hg0, ht0, hv0, hd0, ⟨g1, t1, cs1, f1, p1, q1, hg1, ht1, hv1, hd1, hq1, e1⟩, e0⟩, hnd, hrows⟩ := h
  obtain rfl := Option.some.inj (hg.symm.trans hg0)
  obtain rfl := Option.some.inj (hk.symm.trans hg1)
  obtain rfl := Option.some.inj (ht.symm.trans ht0)
  obtain rfl := Option.some.inj (hkt.symm.trans ht1)
  have hq1' : q1 = [] := hq1
  subst hq1'
  subst e1
  subst e0
  obtain ⟨l0⟩ := cs0
  obtain ⟨l1⟩ := cs1
  have ok0 : ∀ u v, l0 = [.iface u v] → Value.okWide Tryz.prog W .any 0 u v := fun u v e => by
    subst e
    exact (hrows g 0 (by simp [MemPlace.row])).2 u v (by simpa using World.var?_cell hg0 hv0 0)
  have ok1 : ∀ u v, l1 = [.iface u v] → Value.okWide Tryz.prog W .any 0 u v := fun u v e => by
    subst e
    exact (hrows k 0 (by simp [MemPlace.row])).2 u v (by simpa using World.var?_cell hg1 hv1 0)
  obtain ⟨a0, s0, rfl, hc0, hs0, hz0, rfl⟩ := errorString_of_trod Tryz.underlying26 esRow Tryz.underlying261 Tryz.underlying279 rfl rfl Tryz.underlying9 esCells strCells hd0 ok0
  obtain ⟨a1, s1, rfl, hc1, hs1, hz1, rfl⟩ := errorString_of_trod Tryz.underlying26 esRow Tryz.underlying261 Tryz.underlying279 rfl rfl Tryz.underlying9 esCells strCells hd1 ok1
  have e0 : W.cell? ⟨g, 0, none⟩ = some (errV a0) := by simpa using World.var?_cell hg0 hv0 0
  have e1 : W.cell? ⟨k, 0, none⟩ = some (errV a1) := by simpa using World.var?_cell hg1 hv1 0
  rw [e0] at ha; rw [e1] at hb
  have ea : a0 = a := by injection ha with ha; injection ha with _ ha; injection ha with ha; injection ha
  have eb : a1 = b := by injection hb with hb; injection hb with _ hb; injection hb with hb; injection hb
  subst ea eb
  rintro rfl
  simp [MemPlace.row] at hnd

theorem gB : Tryz.prog.globalNamed "nurserypy/api.ErrBound" = some 0 := by kernel_rfl
theorem gBt : (Tryz.prog.globals[0]?).map (·.type) = some 26 := by kernel_rfl
theorem gS : Tryz.prog.globalNamed "nurserypy/api.ErrShape" = some 3 := by kernel_rfl
theorem gSt : (Tryz.prog.globals[3]?).map (·.type) = some 26 := by kernel_rfl
theorem gP : Tryz.prog.globalNamed "nurserypy/api.ErrPlace" = some 1 := by kernel_rfl
theorem gPt : (Tryz.prog.globals[1]?).map (·.type) = some 26 := by kernel_rfl
theorem gF : Tryz.prog.globalNamed "nurserypy/api.ErrFull" = some 2 := by kernel_rfl
theorem gFt : (Tryz.prog.globals[2]?).map (·.type) = some 26 := by kernel_rfl

theorem laidOut : laidOutB Tryz.prog = true := by kernel_rfl

/-- The arguments read behind the call as they did before. -/
theorem trodAll_stays {H : Type} {enc : TypeId × Value → H} {W W' : World} (hb : Ext W W') : ∀ {ts : List TypeId} {vs : List Value} {ds : List (DataW H)} {ps : List MemPlace},
    (∀ t ∈ ts, Tryz.prog.readableRec t = true ∧ t < Tryz.prog.types.size) → (∀ x ∈ ps, x.block < W.heap.size) →
    DataW.TrodAll enc Tryz.prog W 0 (fun _ => true) true ts vs ds ps → DataW.TrodAll enc Tryz.prog W' 0 (fun b => decide (b < W.heap.size)) true ts vs ds ps := by
  intro ts
  induction ts with
  | nil =>
    intro vs ds ps _ _ h
    obtain ⟨rfl, rfl, rfl⟩ := trodAll_nil h
    exact trodAll_mk0
  | cons t ts ih =>
    intro vs ds ps hr hlt h
    obtain ⟨v, vs', d, ds', p, q, rfl, rfl, rfl, h0, r0⟩ := trodAll_cons h
    have ht := hr t (by simp)
    exact trodAll_cons_mk (Below.trod laidOut ht.1 ht.2 h0 hb (fun x hx => hlt x (by simp [hx]))) (ih (fun t h => hr t (by simp [h])) (fun x hx => hlt x (by simp [hx])) r0)

/-- A law that answers true and leaves what was there. -/
theorem law_post {H : Type} {enc : TypeId × Value → H} {f : Func} {s : ChangeSpec} {W W' : World} {args : Array Value} {ds gs : List (DataW H)} {before : List MemPlace}
    (hrt : f.resultTypes = #[4]) (hsv : s.vars = []) (hW : DataW.Whole enc Tryz.prog f.params.toList s.vars false W args.toList ds gs before)
    (hfn : s.fn H (ds ++ gs) = { results := [.lit (.bool true)], args := ds }) (hr : ∀ t ∈ f.params.toList, Tryz.prog.readableRec t = true ∧ t < Tryz.prog.types.size) (hb : Ext W W') :
    s.post enc Tryz.prog f false true false false W args (.bool true) W' := by
  have hlt := fun x hx => hW.lt x hx
  obtain ⟨p, q, hA, hV, hpq, hfz, hnd⟩ := id hW
  rw [hsv] at hV
  obtain ⟨rfl, rfl⟩ := trodVars_none hV
  subst hpq
  refine ⟨ds, [], _, [], p, [], hW, ?_, ?_, ?_, ?_, fun h => by cases h⟩
  · rw [hfn, hrt]; exact trodAll_mk1 (shut_bool Tryz.underlying4 true)
  · rw [hfn]; exact trodAll_stays hb hr (fun x hx => by simpa using hlt x (by simp [hx])) hA
  · rw [hfn, hsv]; rfl
  · exact hb.frame _
open Go.ChangeShapes Go.WideShapes Go.ChangeAt Go.RowKit

/-- The list that every law over error numbers bears. -/
def laid8 : List (String × DataW Unit) := [("errors.errorType", Rows.laid_errors_errorType), ("nurserypy/api.ErrText", Rows.laid_nurserypy_api_ErrText), ("nurserypy/api.ErrBound", Rows.laid_nurserypy_api_ErrBound), ("nurserypy/api.ErrShape", Rows.laid_nurserypy_api_ErrShape), ("nurserypy/api.ErrName", Rows.laid_nurserypy_api_ErrName), ("nurserypy/api.ErrPlace", Rows.laid_nurserypy_api_ErrPlace), ("nurserypy/api.ErrFull", Rows.laid_nurserypy_api_ErrFull), ("nurserypy/api.ErrNone", Rows.laid_nurserypy_api_ErrNone)]
theorem etypeG : Tryz.prog.globalNamed "errors.errorType" = some 7 := by kernel_rfl
theorem etypeR : (Tryz.prog.cutTypes.find? (·.1 == "internal/reflectlite.rtype")).map (·.2) = some 206 := by kernel_rfl
theorem typesSize : Tryz.prog.types.size = 291 := by kernel_rfl
theorem etypeRow : ((List.range 291).filter fun t => Tryz.prog.rowNamed t [101, 114, 114, 111, 114]) = [26] := by kernel_rfl
theorem etype_of_laid {W : World} (h : laidMetH Tryz.prog [("errors.errorType", Rows.laid_errors_errorType)] W) : GEType W := by
  have h' : laidMet Tryz.prog [] W ∧ handlesMet Tryz.prog [("errors.errorType", Rows.laid_errors_errorType)] W := h
  obtain ⟨name, u, ty, e1, e2, e3, e4, e5⟩ := h'.2 _ (List.mem_singleton.2 rfl)
  have en : name = [101, 114, 114, 111, 114] := (Option.some.inj e1).symm
  subst en
  obtain rfl := Option.some.inj (etypeR.symm.trans e2)
  have hm : ty ∈ (List.range 291).filter fun t => Tryz.prog.rowNamed t [101, 114, 114, 111, 114] := List.mem_filter.2 ⟨List.mem_range.2 (by rw [← typesSize]; exact e3), e4⟩
  rw [etypeRow] at hm
  obtain rfl := List.mem_singleton.1 hm
  have hh : typeHandle Tryz.prog 26 = .pointer (some ⟨11, 26, none⟩) := by kernel_rfl
  rw [hh] at e5
  simpa using World.var?_cell etypeG e5 0

theorem gText_ : Tryz.prog.globalNamed "nurserypy/api.ErrText" = some 4 := by kernel_rfl
theorem gTextt_ : (Tryz.prog.globals[4]?).map (·.type) = some 26 := by kernel_rfl
theorem gName_ : Tryz.prog.globalNamed "nurserypy/api.ErrName" = some 5 := by kernel_rfl
theorem gNamet_ : (Tryz.prog.globals[5]?).map (·.type) = some 26 := by kernel_rfl
theorem gNone_ : Tryz.prog.globalNamed "nurserypy/api.ErrNone" = some 6 := by kernel_rfl
theorem gNonet_ : (Tryz.prog.globals[6]?).map (·.type) = some 26 := by kernel_rfl
set_option maxRecDepth 100000 in
theorem env_of_laid {W : World} (h : laidMetH Tryz.prog laid8 W) : ∃ E, ErrEnv E W := by
  obtain ⟨a0, _, c0, _⟩ := one_of_laid (W := W) (n := "nurserypy/api.ErrText") (text := _) gText_ gTextt_ (h.filter fun x => x.1 == "nurserypy/api.ErrText")
  obtain ⟨a1, _, c1, _⟩ := one_of_laid (W := W) (n := "nurserypy/api.ErrBound") (text := _) gB gBt (h.filter fun x => x.1 == "nurserypy/api.ErrBound")
  obtain ⟨a2, _, c2, _⟩ := one_of_laid (W := W) (n := "nurserypy/api.ErrShape") (text := _) gS gSt (h.filter fun x => x.1 == "nurserypy/api.ErrShape")
  obtain ⟨a3, _, c3, _⟩ := one_of_laid (W := W) (n := "nurserypy/api.ErrName") (text := _) gName_ gNamet_ (h.filter fun x => x.1 == "nurserypy/api.ErrName")
  obtain ⟨a4, _, c4, _⟩ := one_of_laid (W := W) (n := "nurserypy/api.ErrPlace") (text := _) gP gPt (h.filter fun x => x.1 == "nurserypy/api.ErrPlace")
  obtain ⟨a5, _, c5, _⟩ := one_of_laid (W := W) (n := "nurserypy/api.ErrFull") (text := _) gF gFt (h.filter fun x => x.1 == "nurserypy/api.ErrFull")
  obtain ⟨a6, _, c6, _⟩ := one_of_laid (W := W) (n := "nurserypy/api.ErrNone") (text := _) gNone_ gNonet_ (h.filter fun x => x.1 == "nurserypy/api.ErrNone")
  have n01 : a0 ≠ a1 := two_of_laid (n := "nurserypy/api.ErrText") (m := "nurserypy/api.ErrBound") (tn := _) (tm := _) gText_ gTextt_ gB gBt (h.filter fun x => x.1 == "nurserypy/api.ErrText" || x.1 == "nurserypy/api.ErrBound") c0 c1
  have n02 : a0 ≠ a2 := two_of_laid (n := "nurserypy/api.ErrText") (m := "nurserypy/api.ErrShape") (tn := _) (tm := _) gText_ gTextt_ gS gSt (h.filter fun x => x.1 == "nurserypy/api.ErrText" || x.1 == "nurserypy/api.ErrShape") c0 c2
  have n03 : a0 ≠ a3 := two_of_laid (n := "nurserypy/api.ErrText") (m := "nurserypy/api.ErrName") (tn := _) (tm := _) gText_ gTextt_ gName_ gNamet_ (h.filter fun x => x.1 == "nurserypy/api.ErrText" || x.1 == "nurserypy/api.ErrName") c0 c3
  have n04 : a0 ≠ a4 := two_of_laid (n := "nurserypy/api.ErrText") (m := "nurserypy/api.ErrPlace") (tn := _) (tm := _) gText_ gTextt_ gP gPt (h.filter fun x => x.1 == "nurserypy/api.ErrText" || x.1 == "nurserypy/api.ErrPlace") c0 c4
  have n05 : a0 ≠ a5 := two_of_laid (n := "nurserypy/api.ErrText") (m := "nurserypy/api.ErrFull") (tn := _) (tm := _) gText_ gTextt_ gF gFt (h.filter fun x => x.1 == "nurserypy/api.ErrText" || x.1 == "nurserypy/api.ErrFull") c0 c5
  have n06 : a0 ≠ a6 := two_of_laid (n := "nurserypy/api.ErrText") (m := "nurserypy/api.ErrNone") (tn := _) (tm := _) gText_ gTextt_ gNone_ gNonet_ (h.filter fun x => x.1 == "nurserypy/api.ErrText" || x.1 == "nurserypy/api.ErrNone") c0 c6
  have n12 : a1 ≠ a2 := two_of_laid (n := "nurserypy/api.ErrBound") (m := "nurserypy/api.ErrShape") (tn := _) (tm := _) gB gBt gS gSt (h.filter fun x => x.1 == "nurserypy/api.ErrBound" || x.1 == "nurserypy/api.ErrShape") c1 c2
  have n13 : a1 ≠ a3 := two_of_laid (n := "nurserypy/api.ErrBound") (m := "nurserypy/api.ErrName") (tn := _) (tm := _) gB gBt gName_ gNamet_ (h.filter fun x => x.1 == "nurserypy/api.ErrBound" || x.1 == "nurserypy/api.ErrName") c1 c3
  have n14 : a1 ≠ a4 := two_of_laid (n := "nurserypy/api.ErrBound") (m := "nurserypy/api.ErrPlace") (tn := _) (tm := _) gB gBt gP gPt (h.filter fun x => x.1 == "nurserypy/api.ErrBound" || x.1 == "nurserypy/api.ErrPlace") c1 c4
  have n15 : a1 ≠ a5 := two_of_laid (n := "nurserypy/api.ErrBound") (m := "nurserypy/api.ErrFull") (tn := _) (tm := _) gB gBt gF gFt (h.filter fun x => x.1 == "nurserypy/api.ErrBound" || x.1 == "nurserypy/api.ErrFull") c1 c5
  have n16 : a1 ≠ a6 := two_of_laid (n := "nurserypy/api.ErrBound") (m := "nurserypy/api.ErrNone") (tn := _) (tm := _) gB gBt gNone_ gNonet_ (h.filter fun x => x.1 == "nurserypy/api.ErrBound" || x.1 == "nurserypy/api.ErrNone") c1 c6
  have n23 : a2 ≠ a3 := two_of_laid (n := "nurserypy/api.ErrShape") (m := "nurserypy/api.ErrName") (tn := _) (tm := _) gS gSt gName_ gNamet_ (h.filter fun x => x.1 == "nurserypy/api.ErrShape" || x.1 == "nurserypy/api.ErrName") c2 c3
  have n24 : a2 ≠ a4 := two_of_laid (n := "nurserypy/api.ErrShape") (m := "nurserypy/api.ErrPlace") (tn := _) (tm := _) gS gSt gP gPt (h.filter fun x => x.1 == "nurserypy/api.ErrShape" || x.1 == "nurserypy/api.ErrPlace") c2 c4
  have n25 : a2 ≠ a5 := two_of_laid (n := "nurserypy/api.ErrShape") (m := "nurserypy/api.ErrFull") (tn := _) (tm := _) gS gSt gF gFt (h.filter fun x => x.1 == "nurserypy/api.ErrShape" || x.1 == "nurserypy/api.ErrFull") c2 c5
  have n26 : a2 ≠ a6 := two_of_laid (n := "nurserypy/api.ErrShape") (m := "nurserypy/api.ErrNone") (tn := _) (tm := _) gS gSt gNone_ gNonet_ (h.filter fun x => x.1 == "nurserypy/api.ErrShape" || x.1 == "nurserypy/api.ErrNone") c2 c6
  have n34 : a3 ≠ a4 := two_of_laid (n := "nurserypy/api.ErrName") (m := "nurserypy/api.ErrPlace") (tn := _) (tm := _) gName_ gNamet_ gP gPt (h.filter fun x => x.1 == "nurserypy/api.ErrName" || x.1 == "nurserypy/api.ErrPlace") c3 c4
  have n35 : a3 ≠ a5 := two_of_laid (n := "nurserypy/api.ErrName") (m := "nurserypy/api.ErrFull") (tn := _) (tm := _) gName_ gNamet_ gF gFt (h.filter fun x => x.1 == "nurserypy/api.ErrName" || x.1 == "nurserypy/api.ErrFull") c3 c5
  have n36 : a3 ≠ a6 := two_of_laid (n := "nurserypy/api.ErrName") (m := "nurserypy/api.ErrNone") (tn := _) (tm := _) gName_ gNamet_ gNone_ gNonet_ (h.filter fun x => x.1 == "nurserypy/api.ErrName" || x.1 == "nurserypy/api.ErrNone") c3 c6
  have n45 : a4 ≠ a5 := two_of_laid (n := "nurserypy/api.ErrPlace") (m := "nurserypy/api.ErrFull") (tn := _) (tm := _) gP gPt gF gFt (h.filter fun x => x.1 == "nurserypy/api.ErrPlace" || x.1 == "nurserypy/api.ErrFull") c4 c5
  have n46 : a4 ≠ a6 := two_of_laid (n := "nurserypy/api.ErrPlace") (m := "nurserypy/api.ErrNone") (tn := _) (tm := _) gP gPt gNone_ gNonet_ (h.filter fun x => x.1 == "nurserypy/api.ErrPlace" || x.1 == "nurserypy/api.ErrNone") c4 c6
  have n56 : a5 ≠ a6 := two_of_laid (n := "nurserypy/api.ErrFull") (m := "nurserypy/api.ErrNone") (tn := _) (tm := _) gF gFt gNone_ gNonet_ (h.filter fun x => x.1 == "nurserypy/api.ErrFull" || x.1 == "nurserypy/api.ErrNone") c5 c6
  have b0 := blk_of_laid (W := W) (n := "nurserypy/api.ErrText") (text := _) gText_ gTextt_ (h.filter fun x => x.1 == "nurserypy/api.ErrText") c0
  have b1 := blk_of_laid (W := W) (n := "nurserypy/api.ErrBound") (text := _) gB gBt (h.filter fun x => x.1 == "nurserypy/api.ErrBound") c1
  have b2 := blk_of_laid (W := W) (n := "nurserypy/api.ErrShape") (text := _) gS gSt (h.filter fun x => x.1 == "nurserypy/api.ErrShape") c2
  have b3 := blk_of_laid (W := W) (n := "nurserypy/api.ErrName") (text := _) gName_ gNamet_ (h.filter fun x => x.1 == "nurserypy/api.ErrName") c3
  have b4 := blk_of_laid (W := W) (n := "nurserypy/api.ErrPlace") (text := _) gP gPt (h.filter fun x => x.1 == "nurserypy/api.ErrPlace") c4
  have b5 := blk_of_laid (W := W) (n := "nurserypy/api.ErrFull") (text := _) gF gFt (h.filter fun x => x.1 == "nurserypy/api.ErrFull") c5
  have b6 := blk_of_laid (W := W) (n := "nurserypy/api.ErrNone") (text := _) gNone_ gNonet_ (h.filter fun x => x.1 == "nurserypy/api.ErrNone") c6
  refine ⟨fun i => match i with | 0 => a0 | 1 => a1 | 2 => a2 | 3 => a3 | 4 => a4 | 5 => a5 | _ => a6, c0, c1, c2, c3, c4, c5, c6, etype_of_laid (h.filter fun x => x.1 == "errors.errorType"), ?_, ?_⟩
  · intro i hi
    match i, hi with
    | 0, _ => exact b0
    | 1, _ => exact b1
    | 2, _ => exact b2
    | 3, _ => exact b3
    | 4, _ => exact b4
    | 5, _ => exact b5
    | 6, _ => exact b6
  · intro i j hi hj hij
    match i, hi, j, hj, hij with
    | 0, _, 1, _, _ => exact n01
    | 0, _, 2, _, _ => exact n02
    | 0, _, 3, _, _ => exact n03
    | 0, _, 4, _, _ => exact n04
    | 0, _, 5, _, _ => exact n05
    | 0, _, 6, _, _ => exact n06
    | 1, _, 0, _, _ => exact n01.symm
    | 1, _, 2, _, _ => exact n12
    | 1, _, 3, _, _ => exact n13
    | 1, _, 4, _, _ => exact n14
    | 1, _, 5, _, _ => exact n15
    | 1, _, 6, _, _ => exact n16
    | 2, _, 0, _, _ => exact n02.symm
    | 2, _, 1, _, _ => exact n12.symm
    | 2, _, 3, _, _ => exact n23
    | 2, _, 4, _, _ => exact n24
    | 2, _, 5, _, _ => exact n25
    | 2, _, 6, _, _ => exact n26
    | 3, _, 0, _, _ => exact n03.symm
    | 3, _, 1, _, _ => exact n13.symm
    | 3, _, 2, _, _ => exact n23.symm
    | 3, _, 4, _, _ => exact n34
    | 3, _, 5, _, _ => exact n35
    | 3, _, 6, _, _ => exact n36
    | 4, _, 0, _, _ => exact n04.symm
    | 4, _, 1, _, _ => exact n14.symm
    | 4, _, 2, _, _ => exact n24.symm
    | 4, _, 3, _, _ => exact n34.symm
    | 4, _, 5, _, _ => exact n45
    | 4, _, 6, _, _ => exact n46
    | 5, _, 0, _, _ => exact n05.symm
    | 5, _, 1, _, _ => exact n15.symm
    | 5, _, 2, _, _ => exact n25.symm
    | 5, _, 3, _, _ => exact n35.symm
    | 5, _, 4, _, _ => exact n45.symm
    | 5, _, 6, _, _ => exact n56
    | 6, _, 0, _, _ => exact n06.symm
    | 6, _, 1, _, _ => exact n16.symm
    | 6, _, 2, _, _ => exact n26.symm
    | 6, _, 3, _, _ => exact n36.symm
    | 6, _, 4, _, _ => exact n46.symm
    | 6, _, 5, _, _ => exact n56.symm
    | 0, _, 0, _, hij => exact absurd rfl hij
    | 1, _, 1, _, hij => exact absurd rfl hij
    | 2, _, 2, _, hij => exact absurd rfl hij
    | 3, _, 3, _, hij => exact absurd rfl hij
    | 4, _, 4, _, hij => exact absurd rfl hij
    | 5, _, 5, _, hij => exact absurd rfl hij
    | 6, _, 6, _, hij => exact absurd rfl hij
open Go.ChangeShapes Go.WideShapes Go.ChangeAt Go.RowKit

def laid4 : List (String × DataW Unit) := [("nurserypy/api.ErrBound", Rows.laid_nurserypy_api_ErrBound), ("nurserypy/api.ErrShape", Rows.laid_nurserypy_api_ErrShape), ("nurserypy/api.ErrPlace", Rows.laid_nurserypy_api_ErrPlace), ("nurserypy/api.ErrFull", Rows.laid_nurserypy_api_ErrFull)]
theorem g4_of_laid {W : World} (h : laidMetH Tryz.prog laid4 W) : ∃ E, G4 E W := by
  obtain ⟨a1, _, c1, _⟩ := one_of_laid (W := W) (n := "nurserypy/api.ErrBound") (text := _) gB gBt (h.filter fun x => x.1 == "nurserypy/api.ErrBound")
  obtain ⟨a2, _, c2, _⟩ := one_of_laid (W := W) (n := "nurserypy/api.ErrShape") (text := _) gS gSt (h.filter fun x => x.1 == "nurserypy/api.ErrShape")
  obtain ⟨a4, _, c4, _⟩ := one_of_laid (W := W) (n := "nurserypy/api.ErrPlace") (text := _) gP gPt (h.filter fun x => x.1 == "nurserypy/api.ErrPlace")
  obtain ⟨a5, _, c5, _⟩ := one_of_laid (W := W) (n := "nurserypy/api.ErrFull") (text := _) gF gFt (h.filter fun x => x.1 == "nurserypy/api.ErrFull")
  exact ⟨fun i => match i with | 1 => a1 | 2 => a2 | 4 => a4 | _ => a5, ⟨c1, c2, c4⟩, c5⟩
end Go.Proofs.YtelhoppfidibiaaGreatDoor
