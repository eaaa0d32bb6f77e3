/- A memory with more cards marked: plainly. -/
import Derived.Test.YtecbbbaafcoliaaDoorJFi08
import Derived.Test.YtecbbbaafcoliaaDoorJFi02
import Derived.IntWalk
import Derived.Deep.RegionHeld3
import Derived.Test.YtecbbbaafcoliaaDoorJFi03
import Derived.Test.YtecbbbaafcoliaaDoorJFi05
namespace Go.Proofs.YtecbbbaafcoliaaDoor
open Go.RowKit
set_option linter.unusedVariables false
set_option linter.unusedSimpArgs false

def withC (M : Mem) (C : List Bool) : Mem := { M with cards := C }
/-- Cards of the memory, and more. -/
def More (C : List Bool) (M : Mem) : Prop := C.length = M.cards.length ∧ ∀ j, M.cards.getD j false = true → C.getD j false = true
theorem More.refl (M : Mem) : More M.cards M := ⟨rfl, fun _ h => h⟩
theorem good_more {M : Mem} {C : List Bool} (h : C.length = M.cards.length) : goodB (withC M C) = goodB M := by
  have e : shapeB (withC M C) = shapeB M := by unfold shapeB withC; simp only [h]
  unfold goodB
  rw [e]
  rfl
theorem crd_more {M : Mem} {C : List Bool} (h : More C M) (x : Ob) (i : Nat) (hc : crd M x i = true) : crd (withC M C) x i = true := by
  have e1 : oldB (withC M C) (x.a : Int) = oldB M (x.a : Int) := rfl
  have e2 : youngB (withC M C) (wat (withC M C).W (x.a + 1 + i)) = youngB M (wat M.W (x.a + 1 + i)) := rfl
  have e3 : cardB M ((x.a : Int) + 1 + i) = true → cardB (withC M C) ((x.a : Int) + 1 + i) = true := fun g => h.2 _ g
  unfold crd at hc ⊢
  rw [e1, e2]
  cases h1 : (oldB M (x.a : Int) && youngB M (wat M.W (x.a + 1 + i))) with
  | false => rfl
  | true =>
    rw [h1] at hc
    have h2 : cardB M ((x.a : Int) + 1 + i) = true := by simpa using hc
    rw [e3 h2]; rfl
theorem chk_more {M : Mem} {C : List Bool} (hm : More C M) (h : chk M = 0) : chk (withC M C) = 0 := by
  obtain ⟨h1, h2⟩ := chk_zero h
  have h3 : cardsM (withC M C) = true := by
    unfold cardsM at h2 ⊢
    have e : objsAll (withC M C) = objsAll M := rfl
    rw [e, List.all_eq_true]
    rw [List.all_eq_true] at h2
    intro x hx
    have := h2 x hx
    unfold cardsO at this ⊢
    cases hr : rawB (hKind x.w) with
    | true => rfl
    | false =>
      rw [hr, Bool.false_or] at this
      rw [Bool.false_or]
      unfold cardsK at this ⊢
      rw [List.all_eq_true] at this ⊢
      exact fun i hi => crd_more hm x i (this i hi)
  unfold chk
  rw [good_more hm.1, h1, h3]; rfl
theorem withC_ok {M : Mem} (h : M.Ok) {C : List Bool} (hl : C.length = M.cards.length) : (withC M C).Ok :=
  ⟨h.half, h.old, h.card, h.used, h.top, h.oldTop, h.W, h.roots, h.weak, h.ids, h.lenW, h.lenR, h.lenK, h.lenI, by unfold withC; simp only; rw [hl]; exact h.lenC⟩
theorem mem_in {M : Mem} {x : Ob} (hs : Shp M) (hx : x ∈ objsAll M) : x.a + 1 + x.n ≤ M.W.length ∧ x.w = wat M.W x.a ∧ isHd x.w = true := by
  have h1 := hs.h1; have h2 := hs.t2; have h3 := hs.p2; have h4 := hs.w; have h5 := hs.base; have h6 := hs.o2; have h7 := hs.t1; have h8 := hs.p1
  rcases obM_of hx with h | h
  · have := h.to; exact ⟨by omega, h.w, h.hd⟩
  · have := h.to; exact ⟨by omega, h.w, h.hd⟩
theorem len_small {M : Mem} (hs : Shp M) : M.W.length ≤ 196608 := by have h1 := hs.w; have h2 := hs.h2; have h3 := hs.o2; omega
/-- A field of an object is found. -/
theorem found_at {M : Mem} (hok : M.Ok) (h : chk M = 0) {x : Ob} (hx : x ∈ objsAll M) {j : Nat} (hj : j < x.n) : Found M (addrW (x.a : Int)) (j : Int) x j := by
  obtain ⟨hs, -⟩ := good_parts (chk_zero h).1
  obtain ⟨m1, m2, m3⟩ := mem_in hs hx
  have hl := len_small hs
  have h00 := (hd_in x.w (by rw [m2]; exact (wat_in hok _).1)).2.2.2.2.2.2
  have hn : (x.n : Int) = hSize x.w := by unfold Ob.n; omega
  have hpl : placeW (addrW (x.a : Int)) = (x.a : Int) := placeW_addrW _ ⟨by omega, by omega⟩
  refine ⟨h, (addrW_wd _).2.2, ?_, hx, hpl, ?_, rfl, hj, hn, ((isHd_iff x.w).1 m3).2.2, m2, by omega⟩
  · unfold addrW; omega
  · exact List.contains_iff_mem.2 (List.mem_map_of_mem (f := fun o : Ob => (o.a : Int)) hx)
theorem getD_set_true (C : List Bool) (i j : Nat) (h : C.getD j false = true) : (C.set i true).getD j false = true := by
  rw [List.getD_eq_getElem?_getD] at h ⊢
  rw [List.getElem?_set]
  split
  · rename_i e; subst e
    split
    · rfl
    · rename_i hl
      rw [List.getElem?_eq_none (by omega)] at h
      simp at h
  · exact h
/-- A word is stored where it is. -/
theorem store_same {M : Mem} {C : List Bool} (hm : More C M) (j : Nat) (hj : j < M.W.length) : ∃ D, storeM (withC M C) j (wat M.W j) = withC M D ∧ More D M := by
  have e : M.W.set j (wat M.W j) = M.W := by
    unfold wat
    rw [List.getD_eq_getElem?_getD, List.getElem?_eq_getElem hj]
    exact List.set_getElem_self hj
  have e2 : setM (withC M C) j (wat M.W j) = withC M C := by
    unfold setM withC
    simp only
    rw [e]
  unfold storeM
  rw [e2]
  split
  · exact ⟨C.set (cardI (withC M C) (j : Int)) true, rfl, by rw [List.length_set]; exact hm.1, fun i hi => getD_set_true C _ i (hm.2 i hi)⟩
  · exact ⟨C, rfl, hm⟩
theorem found_n {M : Mem} (hok : M.Ok) (hs : Shp M) {x : Ob} (hx : x ∈ objsAll M) : (x.n : Int) = hSize x.w := by
  obtain ⟨_, m2, _⟩ := mem_in hs hx
  have h00 := (hd_in x.w (by rw [m2]; exact (wat_in hok _).1)).2.2.2.2.2.2
  unfold Ob.n; omega
theorem fld_ok {M : Mem} (h : (objsAll M).all (okFld M (startsM M)) = true) {x : Ob} (hx : x ∈ objsAll M) (hr : rawB (hKind x.w) = false) (j : Nat) (hj : j < x.n) : fldB (startsM M) (wat M.W (x.a + 1 + j)) = true := by
  rw [List.all_eq_true] at h
  have := h x hx
  unfold okFld at this
  rw [hr, Bool.false_or] at this
  exact fld_of this j hj
theorem ob_cells {W : World} {la : Option Addr} {l : List Ob} (h : RSl W la (ocells l)) {k : Nat} (hk : k < l.length) :
    ∃ ob oo, la = some ⟨ob, oo, none⟩ ∧ W.cell? ⟨ob, oo + k * 4, none⟩ = some (.int .i64 (l[k].a : Int)) ∧ W.cell? ⟨ob, oo + k * 4 + 1, none⟩ = some (.int .i64 (hKind l[k].w)) ∧ W.cell? ⟨ob, oo + k * 4 + 3, none⟩ = some (.int .i64 (hSize l[k].w)) := by
  obtain ⟨p0, p1, p2, p3⟩ := ocells_at l k hk
  obtain ⟨ob, oo, rfl, c0⟩ := h _ _ p0
  have c1 := h.at_ p1
  have c3 := h.at_ p3
  rw [← Nat.add_assoc] at c1 c3
  exact ⟨ob, oo, rfl, c0, c1, c3⟩
theorem not_own {w w' : World} {B bx : Nat} {tI : TypeId} {M : Mem} {S : Sls} (h : OMem w B bx tI M S) {la : Option Addr} {lc : Nat} {l : List Ob} (hl : OwnObjs w' w.heap.size la lc l) : ∀ y, la = some y → ¬ OwnL bx S y.block := fun y hy hk => by
  have h1 := (h.ownL hk).2
  rcases hl.2 with ⟨h2, _⟩ | ⟨g, cap, cur, h2, hg, _⟩
  · injection h2 with h2
    rw [hy] at h2; cases h2
  · injection h2 with h2
    rw [hy] at h2
    injection h2 with h2
    rw [h2] at h1
    simp only at h1
    omega
end Go.Proofs.YtecbbbaafcoliaaDoor
/- A word stored into an object's field: plainly. The memory stays right. -/
namespace Go.Proofs.YtecbbbaafcoliaaDoor
set_option linter.unusedVariables false
set_option linter.unusedSimpArgs false

theorem wat_set (W : List Int) (j : Nat) (v : Int) (i : Nat) (h : i ≠ j) : wat (W.set j v) i = wat W i := by
  unfold wat
  rw [List.getD_eq_getElem?_getD, List.getD_eq_getElem?_getD, List.getElem?_set_ne (Ne.symm h)]
theorem wat_set_same (W : List Int) (j : Nat) (v : Int) (h : j < W.length) : wat (W.set j v) j = v := by
  unfold wat
  rw [List.getD_eq_getElem?_getD, List.getElem?_set_self h]; rfl
/-- A store beside the headers leaves the objects. -/
theorem objs_set (W : List Int) (to j : Nat) (v : Int) : ∀ f a : Nat, (objs W to f a).2 = true → (∀ o ∈ (objs W to f a).1, o.a ≠ j) → objs (W.set j v) to f a = objs W to f a
  | 0, a, _, _ => rfl
  | f + 1, a, h, hn => by
    unfold objs at h hn ⊢
    by_cases h1 : a < to
    · rw [if_pos h1] at h hn ⊢
      rw [if_pos h1]
      by_cases h2 : (isHd (wat W a) && decide (a + 1 + (hSize (wat W a)).toNat ≤ to)) = true
      · rw [if_pos h2] at h hn ⊢
        have ha : a ≠ j := hn ⟨a, wat W a⟩ (by simp)
        rw [wat_set W j v a ha, if_pos h2, objs_set W to j v f _ h (fun o ho => hn o (by simp [ho]))]
      · rw [if_neg h2] at h; cases h
    · rw [if_neg h1, if_neg h1]
/-- Objects of a part lie one behind the other. -/
theorem objs_pair (W : List Int) (to : Nat) : ∀ f a : Nat, (objs W to f a).1.Pairwise fun x y => x.a + 1 + x.n ≤ y.a
  | 0, a => by simp [objs]
  | f + 1, a => by
    unfold objs
    split
    · split
      · rw [List.pairwise_cons]
        refine ⟨fun y hy => ?_, objs_pair W to f _⟩
        have := (objs_in W to f _ y hy).lo
        unfold Ob.n; omega
      · exact List.Pairwise.nil
    · exact List.Pairwise.nil
theorem part_apart {W : List Int} {a to : Nat} {x y : Ob} (hx : x ∈ (part W a to).1) (hy : y ∈ (part W a to).1) (k : Nat) (hk : k < x.n) : y.a ≠ x.a + 1 + k := fun e => by
  have hp := objs_pair W to (to - a) a
  unfold part at hx hy
  generalize (objs W to (to - a) a).1 = l at hx hy hp
  induction l with
  | nil => cases hx
  | cons z l ih =>
    rw [List.pairwise_cons] at hp
    rcases List.mem_cons.1 hx with h1 | h1
    · rcases List.mem_cons.1 hy with h2 | h2
      · rw [h1, h2] at e; omega
      · have := hp.1 y h2; rw [h1] at e; rw [h1] at hk; omega
    · rcases List.mem_cons.1 hy with h2 | h2
      · have := hp.1 x h1; rw [h2] at e; omega
      · exact ih h1 h2 hp.2
theorem all_apart {M : Mem} (hs : Shp M) {x y : Ob} (hx : x ∈ objsAll M) (hy : y ∈ objsAll M) (k : Nat) (hk : k < x.n) : y.a ≠ x.a + 1 + k := by
  have h1 := hs.h1; have h2 := hs.t2; have h5 := hs.base; have h7 := hs.t1
  unfold objsAll at hx hy
  rcases List.mem_append.1 hx with hx | hx
  · rcases List.mem_append.1 hy with hy | hy
    · exact part_apart hx hy k hk
    · have a1 := (part_in hx).to; have a2 := (part_in hy).lo; omega
  · rcases List.mem_append.1 hy with hy | hy
    · have a1 := (part_in hx).lo; have a2 := (part_in hy).to; omega
    · exact part_apart hx hy k hk
theorem parts_true {M : Mem} (h : objsB M (okHd M) = true) : (partN M).2 = true ∧ (partO M).2 = true := by
  simp only [objsB, Bool.and_eq_true] at h
  exact ⟨h.1.1, h.2.1⟩
theorem partN_set {M : Mem} (h : objsB M (okHd M) = true) (j : Nat) (v : Int) (hj : ∀ y ∈ objsAll M, y.a ≠ j) : partN (setM M j v) = partN M ∧ partO (setM M j v) = partO M := by
  obtain ⟨h1, h2⟩ := parts_true h
  have hb : (setM M j v).base = M.base := rfl
  constructor
  · unfold partN part at h1 ⊢
    exact objs_set M.W _ j v _ _ h1 (fun o ho => hj o (List.mem_append_left _ (by unfold partN part; exact ho)))
  · unfold partO part at h2 ⊢
    exact objs_set M.W _ j v _ _ h2 (fun o ho => hj o (List.mem_append_right _ (by unfold partO part; exact ho)))
theorem storeM_W (M : Mem) (j : Nat) (v : Int) : (storeM M j v).W = M.W.set j v := by unfold storeM; split <;> rfl
theorem storeM_same (M : Mem) (j : Nat) (v : Int) : (storeM M j v).half = M.half ∧ (storeM M j v).old = M.old ∧ (storeM M j v).card = M.card ∧ (storeM M j v).used = M.used ∧ (storeM M j v).top = M.top ∧ (storeM M j v).oldTop = M.oldTop ∧ (storeM M j v).roots = M.roots ∧ (storeM M j v).weak = M.weak ∧ (storeM M j v).ids = M.ids := by
  unfold storeM; split <;> exact ⟨rfl, rfl, rfl, rfl, rfl, rfl, rfl, rfl, rfl⟩
theorem storeM_cards (M : Mem) (j : Nat) (v : Int) : More (storeM M j v).cards M := by
  unfold storeM
  split
  · exact ⟨by unfold touchM setM; simp, fun i hi => getD_set_true M.cards _ i hi⟩
  · exact ⟨rfl, fun _ h => h⟩
/-- The memory as the store leaves it: cards aside. -/
theorem storeM_eq (M : Mem) (j : Nat) (v : Int) : storeM M j v = withC (setM M j v) (storeM M j v).cards := by
  unfold storeM; split <;> rfl
theorem flds_set {M : Mem} (j : Nat) (v : Int) (st : List Int) (y : Ob) (hf : fieldsB st (flds M y) = true) (hv : fldB st v = true) (hj : j < M.W.length) : fieldsB st (flds (setM M j v) y) = true := by
  unfold fieldsB at hf ⊢
  rw [List.all_eq_true] at hf ⊢
  intro z hz
  obtain ⟨i, hi, rfl⟩ := List.mem_map.1 hz
  have e : (setM M j v).W = M.W.set j v := rfl
  rw [e]
  by_cases h : y.a + 1 + i = j
  · rw [h, wat_set_same _ _ _ hj]; exact hv
  · rw [wat_set _ _ _ _ h]; exact hf _ (List.mem_map.2 ⟨i, hi, rfl⟩)
set_option maxHeartbeats 1000000 in
theorem store_chk {M : Mem} (hok : M.Ok) (h : chk M = 0) {x : Ob} (hx : x ∈ objsAll M) (k : Nat) (hk : k < x.n) (v : Int) (hv : fldB (startsM M) v = true) : chk (storeM M (x.a + 1 + k) v) = 0 := by
  obtain ⟨hg, hcm⟩ := chk_zero h
  obtain ⟨hs, hob, hr, hw, hfo, hid⟩ := good_parts hg
  obtain ⟨m1, m2, m3⟩ := mem_in hs hx
  have hj : x.a + 1 + k < M.W.length := by omega
  have hap : ∀ y ∈ objsAll M, y.a ≠ x.a + 1 + k := fun y hy => all_apart hs hx hy k hk
  obtain ⟨pN, pO⟩ := partN_set hob (x.a + 1 + k) v hap
  have hold : oldB M ((x.a + 1 + k : Nat) : Int) = oldB M (x.a : Int) := by
    have h1 := hs.h1; have h2 := hs.t2; have h5 := hs.base; have h7 := hs.t1
    unfold oldB
    rcases obM_of hx with g | g
    · have a1 := g.to
      rw [decide_eq_false (by omega), decide_eq_false (by omega)]
    · have a1 := g.lo
      rw [decide_eq_true (by omega), decide_eq_true (by omega)]
  have hmore := storeM_cards M (x.a + 1 + k) v
  have hcard : oldB M ((x.a + 1 + k : Nat) : Int) = true → youngB M v = true → cardB (storeM M (x.a + 1 + k) v) ((x.a + 1 + k : Nat) : Int) = true := fun h1 h2 => by
    have e : storeM M (x.a + 1 + k) v = touchM (setM M (x.a + 1 + k) v) ((x.a + 1 + k : Nat) : Int) := by unfold storeM; rw [h1, h2]; rfl
    have hin : 2 * M.half ≤ ((x.a + 1 + k : Nat) : Int) := of_decide_eq_true h1
    have := hs.w
    obtain ⟨i0, i1⟩ := hs.card ((x.a + 1 + k : Nat) : Int) hin (by omega)
    rw [e]
    have hc : cardI (setM M (x.a + 1 + k) v) ((x.a + 1 + k : Nat) : Int) < M.cards.length := by unfold cardI; show ((((x.a + 1 + k : Nat) : Int) - 2 * M.half) / M.card).toNat < _; omega
    show (M.cards.set (cardI (setM M (x.a + 1 + k) v) ((x.a + 1 + k : Nat) : Int)) true).getD (cardI (setM M (x.a + 1 + k) v) ((x.a + 1 + k : Nat) : Int)) false = true
    rw [List.getD_eq_getElem?_getD, List.getElem?_set_self hc]; rfl
  -- all is as it was, but for the word and the cards
  have eW := storeM_W M (x.a + 1 + k) v
  have eq := storeM_eq M (x.a + 1 + k) v
  generalize storeM M (x.a + 1 + k) v = N at *
  have eA : objsAll N = objsAll M := by
    rw [eq]; show (partN (setM M (x.a + 1 + k) v)).1 ++ (partO (setM M (x.a + 1 + k) v)).1 = _
    rw [pN, pO]; rfl
  have eS : startsM N = startsM M := by unfold startsM; rw [eA]
  have eB : objsB N (okHd N) = true := by
    rw [eq]
    show objsB (setM M (x.a + 1 + k) v) (okHd M) = true
    unfold objsB at hob ⊢
    rw [pN, pO]; exact hob
  have eH : shapeB N = true := by
    have e1 : shapeB M = true := by unfold goodB at hg; simp only [Bool.and_eq_true] at hg; exact hg.1.1.1.1.1
    rw [eq]
    unfold shapeB at e1 ⊢
    have l1 : (withC (setM M (x.a + 1 + k) v) N.cards).W.length = M.W.length := by unfold withC setM; simp
    have l2 : (withC (setM M (x.a + 1 + k) v) N.cards).cards.length = M.cards.length := hmore.1
    rw [l1, l2]; exact e1
  have eF : (objsAll N).all (okFld N (startsM N)) = true := by
    rw [eA, eS, List.all_eq_true]
    rw [List.all_eq_true] at hfo
    intro y hy
    have h1 := hfo y hy
    unfold okFld at h1 ⊢
    cases hraw : rawB (hKind y.w) with
    | true => rfl
    | false =>
      rw [hraw, Bool.false_or] at h1
      rw [Bool.false_or, eq]
      exact flds_set (x.a + 1 + k) v _ y h1 hv hj
  have eC : cardsM N = true := by
    unfold cardsM at hcm ⊢
    rw [eA, List.all_eq_true]
    rw [List.all_eq_true] at hcm
    intro y hy
    have h1 := hcm y hy
    unfold cardsO at h1 ⊢
    cases hraw : rawB (hKind y.w) with
    | true => rfl
    | false =>
      rw [hraw, Bool.false_or] at h1
      rw [Bool.false_or]
      unfold cardsK at h1 ⊢
      rw [List.all_eq_true] at h1 ⊢
      intro i hi
      have h2 := h1 i hi
      have o1 : oldB N (y.a : Int) = oldB M (y.a : Int) := by rw [eq]; rfl
      have y1 : ∀ z, youngB N z = youngB M z := fun z => by rw [eq]; rfl
      unfold crd at h2 ⊢
      rw [o1, y1, eW]
      cases hq : (oldB M (y.a : Int) && youngB M (wat (M.W.set (x.a + 1 + k) v) (y.a + 1 + i))) with
      | false => rfl
      | true =>
        rw [Bool.and_eq_true] at hq
        by_cases hp : y.a + 1 + i = x.a + 1 + k
        · have e2 : ((y.a : Int) + 1 + i) = ((x.a + 1 + k : Nat) : Int) := by omega
          rw [hp, wat_set_same _ _ _ hj] at hq
          have hyo : oldB M ((x.a + 1 + k : Nat) : Int) = true := by
            have := of_decide_eq_true hq.1
            exact decide_eq_true (by omega)
          rw [e2, hcard hyo hq.2]; rfl
        · rw [wat_set _ _ _ _ hp] at hq
          rw [hq.1, hq.2] at h2
          have h3 : cardB M ((y.a : Int) + 1 + i) = true := by simpa using h2
          have h4 : cardB N ((y.a : Int) + 1 + i) = true := by
            unfold cardB at h3 ⊢
            have e5 : (((y.a : Int) + 1 + i - 2 * N.half) / N.card).toNat = (((y.a : Int) + 1 + i - 2 * M.half) / M.card).toNat := by rw [eq]; rfl
            rw [e5]; exact hmore.2 _ h3
          rw [h4]; rfl
  have eR : N.roots = M.roots ∧ N.weak = M.weak ∧ N.ids = M.ids := by rw [eq]; exact ⟨rfl, rfl, rfl⟩
  have eG : goodB N = true := by
    unfold goodB
    rw [eH, eB, eF, eS, eR.1, eR.2.1, eR.2.2, hr, hw, hid]; rfl
  unfold chk
  rw [eG, eC]; rfl
end Go.Proofs.YtecbbbaafcoliaaDoor
/- The walk of the document's Shaped at a memory that is shaped. -/
namespace Go.Proofs.YtecbbbaafcoliaaDoor
open Go.RowKit
set_option linter.unusedVariables false
set_option linter.unusedSimpArgs false

theorem ceil_div (a c : Int) (ha : 1 ≤ a) (hc : 1 ≤ c) : (a + c - 1) / c = if a / c * c < a then a / c + 1 else a / c := by
  have h1 : a = c * (a / c) + a % c := (Int.mul_ediv_add_emod a c).symm
  have h2 := Int.emod_nonneg a (show c ≠ 0 by omega)
  have h3 := Int.emod_lt_of_pos a (show 0 < c by omega)
  have h4 : a / c * c = c * (a / c) := Int.mul_comm _ _
  generalize hq : a / c = q at *
  generalize hr : a % c = r at *
  have h5 : (a + c - 1) = (r + c - 1) + q * c := by rw [h4]; omega
  rw [h5, Int.add_mul_ediv_right _ _ (show c ≠ 0 by omega)]
  by_cases h : r = 0
  · have : (r + c - 1) / c = 0 := Int.ediv_eq_zero_of_lt (by omega) (by omega)
    rw [this, if_neg (by rw [h4]; omega)]; omega
  · have : (r + c - 1) / c = 1 := by
      rw [show r + c - 1 = (r - 1) + 1 * c by omega, Int.add_mul_ediv_right _ _ (show c ≠ 0 by omega), Int.ediv_eq_zero_of_lt (by omega) (by omega)]; rfl
    rw [this, if_pos (by rw [h4]; omega)]; omega
set_option maxRecDepth 100000 in
set_option maxHeartbeats 4000000 in
theorem kShaped_yes (b o : Nat) (M : Mem) (S : Sls) (hs : Shp M) (w : World) (hM : RMem w b o M S) :
    Calls Tryd.prog 46 #[.pointer (some ⟨b, o, none⟩)] w fun e w' => e = .returned (.bool true) ∧ Ext w w' := by
  obtain ⟨h1, h2, o1, o2, c1, c2, hw, u1, u2, t1, t2, p1, p2, cl⟩ := hs
  have n0 := hM.half
  have n1 := hM.old
  have n2 := hM.card
  have n3 := hM.W
  have n4 := hM.used
  have n5 := hM.top
  have n6 := hM.oldTop
  have n10 := hM.cards
  have hl := hM.ok.lenW
  have hl2 := hM.ok.lenC
  have e1 : M.old.tdiv M.card = M.old / M.card := Int.tdiv_eq_ediv_of_nonneg (by omega)
  have q0 : 0 ≤ M.old / M.card := Int.ediv_nonneg (by omega) (by omega)
  have q1 : M.old / M.card ≤ M.old := Int.ediv_le_self _ (by omega)
  have q2 : M.old / M.card * M.card ≤ M.old := Int.ediv_mul_le _ (by omega)
  have q3 : 0 ≤ M.old / M.card * M.card := Int.mul_nonneg q0 (by omega)
  have hcl := cl
  rw [ceil_div _ _ o1 c1] at hcl
  clear cl
  generalize M.old / M.card = q at *
  have e2 : IntKind.i64.wrap q = q := IntWalk.i64_in _ (by omega)
  have e3 : IntKind.i64.wrap (q * M.card) = q * M.card := IntWalk.i64_in _ (by omega)
  have e4 : IntKind.i64.wrap (2 * M.half) = 2 * M.half := IntWalk.i64_in _ (by omega)
  have e5 : IntKind.i64.wrap (2 * M.half + M.old) = 2 * M.half + M.old := IntWalk.i64_in _ (by omega)
  have e6 : ¬ M.card = 0 := by omega
  have e7 : (M.card == 0) = false := by simp; omega
  have d1 : ((M.W.length : Int) != 2 * M.half + M.old) = false := by simp; exact hw
  have d3 : decide (M.used < 0) = false := by simp; omega
  have d4 : decide (1 < M.used) = false := by simp; omega
  have d5 : decide (0 ≤ M.top) = true := by simp; omega
  have d6 : decide (M.top ≤ M.half) = true := by simp; omega
  have d8 : decide (M.oldTop ≤ M.old) = true := by simp; omega
  have d7 : decide (0 ≤ M.oldTop) = true := by simp; omega
  have HW := Lib.hid hw
  clear hw
  by_cases hlt : q * M.card < M.old
  · rw [if_pos hlt] at hcl
    have d2 : ((M.cards.length : Int) != q + 1) = false := by simp; exact hcl
    have HCL := Lib.hid hcl
    clear hcl hM
    go_enter Tryd.func46, Tryd.ntmps46
    go_wp2
    go_quiet (fail)
    go_wp2
    go_quiet (fail)
    go_wp2
    go_quiet (fail)
    go_wp2
    go_quiet (fail)
    go_wp2
    go_ret
    refine ⟨by simp [d8], ?_⟩
    repeat (first | exact Ext.refl _ | (refine Ext.drewN_ ?_ _))
  · rw [if_neg hlt] at hcl
    have d2 : ((M.cards.length : Int) != q) = false := by simp; exact hcl
    have HCL := Lib.hid hcl
    clear hcl hM
    go_enter Tryd.func46, Tryd.ntmps46
    go_wp2
    go_quiet (fail)
    go_wp2
    go_quiet (fail)
    go_wp2
    go_quiet (fail)
    go_wp2
    go_quiet (fail)
    go_wp2
    go_ret
    refine ⟨by simp [d8], ?_⟩
    repeat (first | exact Ext.refl _ | (refine Ext.drewN_ ?_ _))
end Go.Proofs.YtecbbbaafcoliaaDoor
/- The walk of the document's Shaped: where a length is wrong. -/
namespace Go.Proofs.YtecbbbaafcoliaaDoor
open Go.RowKit
set_option linter.unusedVariables false
set_option linter.unusedSimpArgs false

set_option maxRecDepth 100000 in
theorem kShaped_nil (w : World) : Calls Tryd.prog 46 #[.pointer none] w fun e w' => e = .returned (.bool false) ∧ Ext w w' := by
  go_enter Tryd.func46, Tryd.ntmps46
  go_wp2
  go_ret
  exact ⟨rfl, Ext.refl _⟩
set_option maxRecDepth 100000 in
set_option maxHeartbeats 4000000 in
theorem kShaped_no1 (b o : Nat) (M : Mem) (S : Sls) (w : World) (hM : RMem w b o M S)
    (h : M.half < 1 ∨ (¬ M.half < 1 ∧ 65536 < M.half) ∨ (¬ M.half < 1 ∧ ¬ 65536 < M.half ∧ M.old < 1) ∨ (¬ M.half < 1 ∧ ¬ 65536 < M.half ∧ ¬ M.old < 1 ∧ 65536 < M.old)
      ∨ (¬ M.half < 1 ∧ ¬ 65536 < M.half ∧ ¬ M.old < 1 ∧ ¬ 65536 < M.old ∧ M.card < 1) ∨ (¬ M.half < 1 ∧ ¬ 65536 < M.half ∧ ¬ M.old < 1 ∧ ¬ 65536 < M.old ∧ ¬ M.card < 1 ∧ 1024 < M.card)) :
    Calls Tryd.prog 46 #[.pointer (some ⟨b, o, none⟩)] w fun e w' => e = .returned (.bool false) ∧ Ext w w' := by
  have n0 := hM.half
  have n1 := hM.old
  have n2 := hM.card
  clear hM
  rcases h with h | ⟨h1, h⟩ | ⟨h1, h2, h⟩ | ⟨h1, h2, h3, h⟩ | ⟨h1, h2, h3, h4, h⟩ | ⟨h1, h2, h3, h4, h5, h⟩
  all_goals
    go_enter Tryd.func46, Tryd.ntmps46
    go_wp2
    go_ret
    exact ⟨rfl, Ext.refl _⟩
set_option maxRecDepth 100000 in
set_option maxHeartbeats 8000000 in
theorem kShaped_no2 (b o : Nat) (M : Mem) (S : Sls) (w : World) (hM : RMem w b o M S) (h1 : 1 ≤ M.half) (h2 : M.half ≤ 65536) (o1 : 1 ≤ M.old) (o2 : M.old ≤ 65536) (c1 : 1 ≤ M.card) (c2 : M.card ≤ 1024)
    (h : ¬ (M.W.length : Int) = 2 * M.half + M.old ∨ ((M.W.length : Int) = 2 * M.half + M.old ∧ ¬ (M.cards.length : Int) = (M.old + M.card - 1) / M.card) ∨ ((M.W.length : Int) = 2 * M.half + M.old ∧ (M.cards.length : Int) = (M.old + M.card - 1) / M.card ∧ M.used < 0) ∨
      ((M.W.length : Int) = 2 * M.half + M.old ∧ (M.cards.length : Int) = (M.old + M.card - 1) / M.card ∧ ¬ M.used < 0 ∧ 1 < M.used)) :
    Calls Tryd.prog 46 #[.pointer (some ⟨b, o, none⟩)] w fun e w' => e = .returned (.bool false) ∧ Ext w w' := by
  have n0 := hM.half
  have n1 := hM.old
  have n2 := hM.card
  have n3 := hM.W
  have n4 := hM.used
  have n10 := hM.cards
  have hl := hM.ok.lenW
  have hl2 := hM.ok.lenC
  have e1 : M.old.tdiv M.card = M.old / M.card := Int.tdiv_eq_ediv_of_nonneg (by omega)
  have q0 : 0 ≤ M.old / M.card := Int.ediv_nonneg (by omega) (by omega)
  have q1 : M.old / M.card ≤ M.old := Int.ediv_le_self _ (by omega)
  have q2 : M.old / M.card * M.card ≤ M.old := Int.ediv_mul_le _ (by omega)
  have q3 : 0 ≤ M.old / M.card * M.card := Int.mul_nonneg q0 (by omega)
  rw [ceil_div _ _ o1 c1] at h
  generalize M.old / M.card = q at *
  have e2 : IntKind.i64.wrap q = q := IntWalk.i64_in _ (by omega)
  have e3 : IntKind.i64.wrap (q * M.card) = q * M.card := IntWalk.i64_in _ (by omega)
  have e4 : IntKind.i64.wrap (2 * M.half) = 2 * M.half := IntWalk.i64_in _ (by omega)
  have e5 : IntKind.i64.wrap (2 * M.half + M.old) = 2 * M.half + M.old := IntWalk.i64_in _ (by omega)
  have e6 : ¬ M.card = 0 := by omega
  have e7 : (M.card == 0) = false := by simp; omega
  clear hM
  obtain ⟨z, hz⟩ : ∃ z : Int, z = if q * M.card < M.old then q + 1 else q := ⟨_, rfl⟩
  rw [← hz] at h
  by_cases hlt : q * M.card < M.old
  · rw [if_pos hlt] at hz
    rw [hz] at h
    clear hz
    have h' : ((M.W.length : Int) != 2 * M.half + M.old) = true ∨ (((M.W.length : Int) != 2 * M.half + M.old) = false ∧ ((M.cards.length : Int) != q + 1) = true) ∨ (((M.W.length : Int) != 2 * M.half + M.old) = false ∧ ((M.cards.length : Int) != q + 1) = false ∧ decide (M.used < 0) = true) ∨
      (((M.W.length : Int) != 2 * M.half + M.old) = false ∧ ((M.cards.length : Int) != q + 1) = false ∧ decide (M.used < 0) = false ∧ decide (1 < M.used) = true) := by
      rcases h with h | ⟨a1, h⟩ | ⟨a1, a2, h⟩ | ⟨a1, a2, a3, h⟩
      · exact Or.inl (by simpa using h)
      · exact Or.inr (Or.inl ⟨by simpa using a1, by simpa using h⟩)
      · exact Or.inr (Or.inr (Or.inl ⟨by simpa using a1, by simpa using a2, by simpa using h⟩))
      · exact Or.inr (Or.inr (Or.inr ⟨by simpa using a1, by simpa using a2, by simpa using a3, by simpa using h⟩))
    clear h
    rcases h' with d1 | ⟨d1, d2⟩ | ⟨d1, d2, d3⟩ | ⟨d1, d2, d3, d4⟩
    all_goals
      go_enter Tryd.func46, Tryd.ntmps46
      go_wp2
      go_quiet (fail)
      go_wp2
      go_quiet (fail)
      go_wp2
      go_quiet (fail)
      go_wp2
      go_ret
      exact ⟨rfl, by repeat (first | exact Ext.refl _ | (refine Ext.drewN_ ?_ _))⟩
  · rw [if_neg hlt] at hz
    rw [hz] at h
    clear hz
    have h' : ((M.W.length : Int) != 2 * M.half + M.old) = true ∨ (((M.W.length : Int) != 2 * M.half + M.old) = false ∧ ((M.cards.length : Int) != q) = true) ∨ (((M.W.length : Int) != 2 * M.half + M.old) = false ∧ ((M.cards.length : Int) != q) = false ∧ decide (M.used < 0) = true) ∨
      (((M.W.length : Int) != 2 * M.half + M.old) = false ∧ ((M.cards.length : Int) != q) = false ∧ decide (M.used < 0) = false ∧ decide (1 < M.used) = true) := by
      rcases h with h | ⟨a1, h⟩ | ⟨a1, a2, h⟩ | ⟨a1, a2, a3, h⟩
      · exact Or.inl (by simpa using h)
      · exact Or.inr (Or.inl ⟨by simpa using a1, by simpa using h⟩)
      · exact Or.inr (Or.inr (Or.inl ⟨by simpa using a1, by simpa using a2, by simpa using h⟩))
      · exact Or.inr (Or.inr (Or.inr ⟨by simpa using a1, by simpa using a2, by simpa using a3, by simpa using h⟩))
    clear h
    rcases h' with d1 | ⟨d1, d2⟩ | ⟨d1, d2, d3⟩ | ⟨d1, d2, d3, d4⟩
    all_goals
      go_enter Tryd.func46, Tryd.ntmps46
      go_wp2
      go_quiet (fail)
      go_wp2
      go_quiet (fail)
      go_wp2
      go_quiet (fail)
      go_wp2
      go_ret
      exact ⟨rfl, by repeat (first | exact Ext.refl _ | (refine Ext.drewN_ ?_ _))⟩
set_option maxRecDepth 100000 in
set_option maxHeartbeats 8000000 in
theorem kShaped_no3 (b o : Nat) (M : Mem) (S : Sls) (w : World) (hM : RMem w b o M S) (h1 : 1 ≤ M.half) (h2 : M.half ≤ 65536) (o1 : 1 ≤ M.old) (o2 : M.old ≤ 65536) (c1 : 1 ≤ M.card) (c2 : M.card ≤ 1024)
    (hw : (M.W.length : Int) = 2 * M.half + M.old) (cl : (M.cards.length : Int) = (M.old + M.card - 1) / M.card) (u1 : 0 ≤ M.used) (u2 : M.used ≤ 1)
    (h : decide (0 ≤ M.top) = false ∨ (decide (0 ≤ M.top) = true ∧ decide (M.top ≤ M.half) = false) ∨ (decide (0 ≤ M.top) = true ∧ decide (M.top ≤ M.half) = true ∧ decide (0 ≤ M.oldTop) = false) ∨
      (decide (0 ≤ M.top) = true ∧ decide (M.top ≤ M.half) = true ∧ decide (0 ≤ M.oldTop) = true ∧ decide (M.oldTop ≤ M.old) = false)) :
    Calls Tryd.prog 46 #[.pointer (some ⟨b, o, none⟩)] w fun e w' => e = .returned (.bool false) ∧ Ext w w' := by
  have n0 := hM.half
  have n1 := hM.old
  have n2 := hM.card
  have n3 := hM.W
  have n4 := hM.used
  have n5 := hM.top
  have n6 := hM.oldTop
  have n10 := hM.cards
  have hl := hM.ok.lenW
  have hl2 := hM.ok.lenC
  have e1 : M.old.tdiv M.card = M.old / M.card := Int.tdiv_eq_ediv_of_nonneg (by omega)
  have q0 : 0 ≤ M.old / M.card := Int.ediv_nonneg (by omega) (by omega)
  have q1 : M.old / M.card ≤ M.old := Int.ediv_le_self _ (by omega)
  have q2 : M.old / M.card * M.card ≤ M.old := Int.ediv_mul_le _ (by omega)
  have q3 : 0 ≤ M.old / M.card * M.card := Int.mul_nonneg q0 (by omega)
  have hcl := cl
  rw [ceil_div _ _ o1 c1] at hcl
  clear cl
  generalize M.old / M.card = q at *
  have e2 : IntKind.i64.wrap q = q := IntWalk.i64_in _ (by omega)
  have e3 : IntKind.i64.wrap (q * M.card) = q * M.card := IntWalk.i64_in _ (by omega)
  have e4 : IntKind.i64.wrap (2 * M.half) = 2 * M.half := IntWalk.i64_in _ (by omega)
  have e5 : IntKind.i64.wrap (2 * M.half + M.old) = 2 * M.half + M.old := IntWalk.i64_in _ (by omega)
  have e6 : ¬ M.card = 0 := by omega
  have e7 : (M.card == 0) = false := by simp; omega
  have d1 : ((M.W.length : Int) != 2 * M.half + M.old) = false := by simp; exact hw
  have d3 : decide (M.used < 0) = false := by simp; omega
  have d4 : decide (1 < M.used) = false := by simp; omega
  clear hw
  by_cases hlt : q * M.card < M.old
  · rw [if_pos hlt] at hcl
    have d2 : ((M.cards.length : Int) != q + 1) = false := by simp; exact hcl
    clear hcl hM
    rcases h with k1 | ⟨k1, k2⟩ | ⟨k1, k2, k3⟩ | ⟨k1, k2, k3, k4⟩
    all_goals
      go_enter Tryd.func46, Tryd.ntmps46
      go_wp2
      go_quiet (fail)
      go_wp2
      go_quiet (fail)
      go_wp2
      go_quiet (fail)
      go_wp2
      go_quiet (fail)
      go_wp2
      go_ret
      exact ⟨by first | rfl | simp [k4], by repeat (first | exact Ext.refl _ | (refine Ext.drewN_ ?_ _))⟩
  · rw [if_neg hlt] at hcl
    have d2 : ((M.cards.length : Int) != q) = false := by simp; exact hcl
    clear hcl hM
    rcases h with k1 | ⟨k1, k2⟩ | ⟨k1, k2, k3⟩ | ⟨k1, k2, k3, k4⟩
    all_goals
      go_enter Tryd.func46, Tryd.ntmps46
      go_wp2
      go_quiet (fail)
      go_wp2
      go_quiet (fail)
      go_wp2
      go_quiet (fail)
      go_wp2
      go_quiet (fail)
      go_wp2
      go_ret
      exact ⟨by first | rfl | simp [k4], by repeat (first | exact Ext.refl _ | (refine Ext.drewN_ ?_ _))⟩
theorem dec_or (p : Prop) [Decidable p] : p ∨ ¬ p := Decidable.em p
/-- Whatever the memory. -/
theorem kShaped_any (b o : Nat) (M : Mem) (S : Sls) (w : World) (hM : RMem w b o M S) :
    Calls Tryd.prog 46 #[.pointer (some ⟨b, o, none⟩)] w fun e w' => e = .returned (.bool (shapeB M)) ∧ Ext w w' := by
  cases hs : shapeB M with
  | true => exact kShaped_yes b o M S (shp_of hs) w hM
  | false =>
    have hn : ¬ Shp M := fun ⟨h1, h2, o1, o2, c1, c2, hw, u1, u2, t1, t2, p1, p2, cl⟩ => by
      have : shapeB M = true := by
        unfold shapeB
        rw [inR_true.2 ⟨h1, h2⟩, inR_true.2 ⟨o1, o2⟩, inR_true.2 ⟨c1, c2⟩, inR_true.2 ⟨u1, u2⟩, inR_true.2 ⟨t1, t2⟩, inR_true.2 ⟨p1, p2⟩, beq_iff_eq.2 hw, beq_iff_eq.2 cl]
        rfl
      rw [this] at hs; cases hs
    by_cases h1 : M.half < 1
    · exact kShaped_no1 b o M S w hM (Or.inl h1)
    by_cases h2 : 65536 < M.half
    · exact kShaped_no1 b o M S w hM (Or.inr (Or.inl ⟨h1, h2⟩))
    by_cases h3 : M.old < 1
    · exact kShaped_no1 b o M S w hM (Or.inr (Or.inr (Or.inl ⟨h1, h2, h3⟩)))
    by_cases h4 : 65536 < M.old
    · exact kShaped_no1 b o M S w hM (Or.inr (Or.inr (Or.inr (Or.inl ⟨h1, h2, h3, h4⟩))))
    by_cases h5 : M.card < 1
    · exact kShaped_no1 b o M S w hM (Or.inr (Or.inr (Or.inr (Or.inr (Or.inl ⟨h1, h2, h3, h4, h5⟩)))))
    by_cases h6 : 1024 < M.card
    · exact kShaped_no1 b o M S w hM (Or.inr (Or.inr (Or.inr (Or.inr (Or.inr ⟨h1, h2, h3, h4, h5, h6⟩)))))
    have g1 : 1 ≤ M.half := by omega
    have g2 : M.half ≤ 65536 := by omega
    have g3 : 1 ≤ M.old := by omega
    have g4 : M.old ≤ 65536 := by omega
    have g5 : 1 ≤ M.card := by omega
    have g6 : M.card ≤ 1024 := by omega
    by_cases hw : (M.W.length : Int) = 2 * M.half + M.old
    · by_cases hc : (M.cards.length : Int) = (M.old + M.card - 1) / M.card
      · by_cases u1 : M.used < 0
        · exact kShaped_no2 b o M S w hM g1 g2 g3 g4 g5 g6 (Or.inr (Or.inr (Or.inl ⟨hw, hc, u1⟩)))
        by_cases u2 : 1 < M.used
        · exact kShaped_no2 b o M S w hM g1 g2 g3 g4 g5 g6 (Or.inr (Or.inr (Or.inr ⟨hw, hc, u1, u2⟩)))
        have v1 : 0 ≤ M.used := by omega
        have v2 : M.used ≤ 1 := by omega
        refine kShaped_no3 b o M S w hM g1 g2 g3 g4 g5 g6 hw hc v1 v2 ?_
        by_cases t1 : 0 ≤ M.top
        · by_cases t2 : M.top ≤ M.half
          · by_cases p1 : 0 ≤ M.oldTop
            · by_cases p2 : M.oldTop ≤ M.old
              · exact absurd ⟨g1, g2, g3, g4, g5, g6, hw, v1, v2, t1, t2, p1, p2, hc⟩ hn
              · exact Or.inr (Or.inr (Or.inr ⟨by simpa using t1, by simpa using t2, by simpa using p1, by simpa using p2⟩))
            · exact Or.inr (Or.inr (Or.inl ⟨by simpa using t1, by simpa using t2, by simpa using p1⟩))
          · exact Or.inr (Or.inl ⟨by simpa using t1, by simpa using t2⟩)
        · exact Or.inl (by simpa using t1)
      · exact kShaped_no2 b o M S w hM g1 g2 g3 g4 g5 g6 (Or.inr (Or.inl ⟨hw, hc⟩))
    · exact kShaped_no2 b o M S w hM g1 g2 g3 g4 g5 g6 (Or.inl hw)
end Go.Proofs.YtecbbbaafcoliaaDoor
/- The walk of the document's CheckOf, where lengths, headers, roots or weak words are wrong. -/
namespace Go.Proofs.YtecbbbaafcoliaaDoor
open Go.RowKit
set_option linter.unusedVariables false
set_option linter.unusedSimpArgs false

set_option maxRecDepth 100000 in
set_option maxHeartbeats 8000000 in
theorem kCheck_nil (w : World) : Calls Tryd.prog 18 #[.pointer none] w fun e w' => e = .returned (.int .i64 3) ∧ Ext w w' := by
  go_enter Tryd.func18, Tryd.ntmps18
  go_wp2_with (go_at_call 46; refine (kShaped_nil w).mono ?_; rintro e w1 ⟨rfl, hq⟩; have HX1 := Lib.hid hq; clear hq)
  go_ret
  exact ⟨rfl, HX1.out⟩
set_option maxRecDepth 100000 in
set_option maxHeartbeats 8000000 in
theorem kCheck_1 (b o : Nat) (M : Mem) (S : Sls) (w : World) (hM : RMem w b o M S) (hs : shapeB M = false) :
    Calls Tryd.prog 18 #[.pointer (some ⟨b, o, none⟩)] w fun e w' => e = .returned (.int .i64 3) ∧ Ext w w' := by
  have HM := Lib.hid hM
  have hltb := hM.lt
  clear hM
  have HS := Lib.hid hs
  clear hs
  go_enter Tryd.func18, Tryd.ntmps18
  go_wp2_with (go_at_call 46; refine (kShaped_any b o M S w HM.out).mono ?_; rintro e w1 ⟨he, hq⟩; rw [HS.out] at he; subst he; have HX1 := Lib.hid hq; clear hq)
  go_ret
  exact ⟨rfl, HX1.out⟩
set_option maxRecDepth 100000 in
set_option maxHeartbeats 8000000 in
theorem kCheck_2 (b o : Nat) (M : Mem) (S : Sls) (w : World) (hM : RMem w b o M S) (hs : shapeB M = true) (hb : ((kN M).2 && (kO M).2) = false) :
    Calls Tryd.prog 18 #[.pointer (some ⟨b, o, none⟩)] w fun e w' => e = .returned (.int .i64 3) ∧ Ext w w' := by
  have HM := Lib.hid hM
  have hltb := hM.lt
  clear hM
  have HS := Lib.hid hs
  have HSH := Lib.hid (shp_of hs)
  have HB := Lib.hid hb
  clear hs hb
  go_enter Tryd.func18, Tryd.ntmps18
  go_wp2_with (first
    | (go_at_call 46; refine (kShaped_any b o M S w HM.out).mono ?_; rintro e w1 ⟨he, hq⟩; rw [HS.out] at he; subst he; have HX1 := Lib.hid hq; clear hq)
    | (go_at_call 19; refine (kAll_walk b o M S HSH.out _ (HM.out.ext HX1.out)).mono ?_; rintro e w2 ⟨la, lc, he, hown, hq⟩; rw [HB.out] at he; subst he; have HX2 : Hid (Ext w w2) := Ext.trans_ HX1.out hq; clear hq hown))
  go_ret
  exact ⟨rfl, HX2.out⟩
set_option maxRecDepth 100000 in
set_option maxHeartbeats 8000000 in
theorem kCheck_3 (b o : Nat) (M : Mem) (S : Sls) (w : World) (hM : RMem w b o M S) (hs : shapeB M = true) (hb : ((kN M).2 && (kO M).2) = true) (hr : fieldsB (startsM M) M.roots = false) :
    Calls Tryd.prog 18 #[.pointer (some ⟨b, o, none⟩)] w fun e w' => e = .returned (.int .i64 3) ∧ Ext w w' := by
  have HM := Lib.hid hM
  have hltb := hM.lt
  clear hM
  have HR := Lib.hid hr
  clear hr
  have HS := Lib.hid hs
  have hsh := shp_of hs
  have HSH := Lib.hid hsh
  obtain ⟨hl1, -, -, -⟩ := kAll_ok hb
  have HB := Lib.hid hb
  obtain ⟨l, hl⟩ : ∃ l, l = objsAll M := ⟨_, rfl⟩
  rw [← hl] at hl1
  have HLI := Lib.hid hl1
  have HL := Lib.hid hl
  have HATS : Hid (ats l = startsM M) := by unfold Hid; rw [hl]; rfl
  have hobm : ∀ x ∈ l, ObM M x := fun x hx => obM_of (by rw [← hl]; exact hx)
  have HOBM := Lib.hid hobm
  have HLT : Hid (∀ x ∈ l, (x.a : Int) < 1099511627776) := fun x hx => (starts_in M hsh _ (by rw [← HATS.out]; exact List.mem_map_of_mem hx)).2
  have HLL : Hid (l.length ≤ 9223372036854775807) := by
    have h1 := partK_len M.W M.base (M.base + M.top.toNat)
    have h2 := partK_len M.W (2 * M.half).toNat ((2 * M.half).toNat + M.oldTop.toNat)
    have h3 := congrArg List.length hl1
    rw [List.length_append] at h3
    have e1 : (kN M).1 = (partK M.W M.base (M.base + M.top.toNat)).1 := rfl
    have e2 : (kO M).1 = (partK M.W (2 * M.half).toNat ((2 * M.half).toNat + M.oldTop.toNat)).1 := rfl
    rw [e1, e2] at h3
    have h4 := hsh.t2; have h5 := hsh.p2; have h6 := hsh.h2; have h7 := hsh.o2; have h8 := hsh.t1; have h9 := hsh.p1
    unfold Hid; omega
  clear hs hsh hb hl hl1 hobm
  go_enter Tryd.func18, Tryd.ntmps18
  have n7 := HM.out.roots
  go_wp2_with (first
    | (go_at_call 46; refine (kShaped_any b o M S w HM.out).mono ?_; rintro e w1 ⟨he, hq⟩; rw [HS.out] at he; subst he; have HX1 := Lib.hid hq; clear hq)
    | ((go_at_call 19; refine (kAll_walk b o M S HSH.out _ (HM.out.ext HX1.out)).mono ?_; rintro e w2 ⟨la, lc, he, hown, hq⟩; rw [HB.out, HLI.out] at he; rw [HLI.out] at hown; subst he; have HX2 : Hid (Ext w w2) := Ext.trans_ HX1.out hq; have HLR := Lib.hid (own_rsl hown); have HLN := Lib.hid (own_nil hown); have hlc := own_cap hown; clear hq hown); have k7 := HX2.out.cell_ n7))
  refine (fieldsOK_any S.R.1 S.R.2 M.roots HM.out.ok.lenR HM.out.ok.roots la lc l _ HLL.out (HM.out.ext HX2.out).rR HLR.out HLT.out).mono ?_
  rintro e w' ⟨he, hw9⟩
  have hw9 := hw9.symm
  subst hw9
  rw [HATS.out, HR.out] at he
  subst he
  go_wp2
  go_ret
  exact ⟨rfl, HX2.out⟩
set_option maxRecDepth 100000 in
set_option maxHeartbeats 8000000 in
theorem kCheck_4 (b o : Nat) (M : Mem) (S : Sls) (w : World) (hM : RMem w b o M S) (hs : shapeB M = true) (hb : ((kN M).2 && (kO M).2) = true) (hr : fieldsB (startsM M) M.roots = true) (hk : fieldsB (startsM M) M.weak = false) :
    Calls Tryd.prog 18 #[.pointer (some ⟨b, o, none⟩)] w fun e w' => e = .returned (.int .i64 3) ∧ Ext w w' := by
  have HM := Lib.hid hM
  have hltb := hM.lt
  clear hM
  have HR := Lib.hid hr
  have HK := Lib.hid hk
  clear hr hk
  have HS := Lib.hid hs
  have hsh := shp_of hs
  have HSH := Lib.hid hsh
  obtain ⟨hl1, -, -, -⟩ := kAll_ok hb
  have HB := Lib.hid hb
  obtain ⟨l, hl⟩ : ∃ l, l = objsAll M := ⟨_, rfl⟩
  rw [← hl] at hl1
  have HLI := Lib.hid hl1
  have HL := Lib.hid hl
  have HATS : Hid (ats l = startsM M) := by unfold Hid; rw [hl]; rfl
  have hobm : ∀ x ∈ l, ObM M x := fun x hx => obM_of (by rw [← hl]; exact hx)
  have HOBM := Lib.hid hobm
  have HLT : Hid (∀ x ∈ l, (x.a : Int) < 1099511627776) := fun x hx => (starts_in M hsh _ (by rw [← HATS.out]; exact List.mem_map_of_mem hx)).2
  have HLL : Hid (l.length ≤ 9223372036854775807) := by
    have h1 := partK_len M.W M.base (M.base + M.top.toNat)
    have h2 := partK_len M.W (2 * M.half).toNat ((2 * M.half).toNat + M.oldTop.toNat)
    have h3 := congrArg List.length hl1
    rw [List.length_append] at h3
    have e1 : (kN M).1 = (partK M.W M.base (M.base + M.top.toNat)).1 := rfl
    have e2 : (kO M).1 = (partK M.W (2 * M.half).toNat ((2 * M.half).toNat + M.oldTop.toNat)).1 := rfl
    rw [e1, e2] at h3
    have h4 := hsh.t2; have h5 := hsh.p2; have h6 := hsh.h2; have h7 := hsh.o2; have h8 := hsh.t1; have h9 := hsh.p1
    unfold Hid; omega
  clear hs hsh hb hl hl1 hobm
  go_enter Tryd.func18, Tryd.ntmps18
  have n7 := HM.out.roots
  have n8 := HM.out.weak
  go_wp2_with (first
    | (go_at_call 46; refine (kShaped_any b o M S w HM.out).mono ?_; rintro e w1 ⟨he, hq⟩; rw [HS.out] at he; subst he; have HX1 := Lib.hid hq; clear hq)
    | ((go_at_call 19; refine (kAll_walk b o M S HSH.out _ (HM.out.ext HX1.out)).mono ?_; rintro e w2 ⟨la, lc, he, hown, hq⟩; rw [HB.out, HLI.out] at he; rw [HLI.out] at hown; subst he; have HX2 : Hid (Ext w w2) := Ext.trans_ HX1.out hq; have HLR := Lib.hid (own_rsl hown); have HLN := Lib.hid (own_nil hown); have hlc := own_cap hown; clear hq hown); have k7 := HX2.out.cell_ n7; have k8 := HX2.out.cell_ n8))
  refine (fieldsOK_any S.R.1 S.R.2 M.roots HM.out.ok.lenR HM.out.ok.roots la lc l _ HLL.out (HM.out.ext HX2.out).rR HLR.out HLT.out).mono ?_
  rintro e w' ⟨he, hw9⟩
  have hw9 := hw9.symm
  subst hw9
  rw [HATS.out, HR.out] at he
  subst he
  go_wp2_with fail
  refine (fieldsOK_any S.K.1 S.K.2 M.weak HM.out.ok.lenK HM.out.ok.weak la lc l _ HLL.out (HM.out.ext HX2.out).rK HLR.out HLT.out).mono ?_
  rintro e w' ⟨he, hw9⟩
  have hw9 := hw9.symm
  subst hw9
  rw [HATS.out, HK.out] at he
  subst he
  go_wp2
  go_ret
  exact ⟨rfl, HX2.out⟩
end Go.Proofs.YtecbbbaafcoliaaDoor
/- The walk of the document's CheckOf: the objects, the cards, the numbers. -/
namespace Go.Proofs.YtecbbbaafcoliaaDoor
open Go.RowKit
set_option linter.unusedVariables false
set_option linter.unusedSimpArgs false

set_option maxRecDepth 100000 in
set_option maxHeartbeats 16000000 in
theorem kCheck_5 (b o : Nat) (M : Mem) (S : Sls) (w : World) (hM : RMem w b o M S) (hs : shapeB M = true) (hb : ((kN M).2 && (kO M).2) = true) (hr : fieldsB (startsM M) M.roots = true) (hk : fieldsB (startsM M) M.weak = true) :
    Calls Tryd.prog 18 #[.pointer (some ⟨b, o, none⟩)] w fun e w' => e = .returned (.int .i64 (chk M)) ∧ Ext w w' := by
  have hchk := chk_of hs hb hr hk
  have HM := Lib.hid hM
  have hltb := hM.lt
  clear hM
  have HR := Lib.hid hr
  have HK := Lib.hid hk
  clear hr hk
  have HS := Lib.hid hs
  have hsh := shp_of hs
  have HSH := Lib.hid hsh
  obtain ⟨hl1, -, -, -⟩ := kAll_ok hb
  have HB := Lib.hid hb
  obtain ⟨l, hl⟩ : ∃ l, l = objsAll M := ⟨_, rfl⟩
  rw [← hl] at hl1
  have HLI := Lib.hid hl1
  have HL := Lib.hid hl
  have HATS : Hid (ats l = startsM M) := by unfold Hid; rw [hl]; rfl
  have hobm : ∀ x ∈ l, ObM M x := fun x hx => obM_of (by rw [← hl]; exact hx)
  have HOBM := Lib.hid hobm
  have HLT : Hid (∀ x ∈ l, (x.a : Int) < 1099511627776) := fun x hx => (starts_in M hsh _ (by rw [← HATS.out]; exact List.mem_map_of_mem hx)).2
  have HLL : Hid (l.length ≤ 9223372036854775807) := by
    have h1 := partK_len M.W M.base (M.base + M.top.toNat)
    have h2 := partK_len M.W (2 * M.half).toNat ((2 * M.half).toNat + M.oldTop.toNat)
    have h3 := congrArg List.length hl1
    rw [List.length_append] at h3
    have e1 : (kN M).1 = (partK M.W M.base (M.base + M.top.toNat)).1 := rfl
    have e2 : (kO M).1 = (partK M.W (2 * M.half).toNat ((2 * M.half).toNat + M.oldTop.toNat)).1 := rfl
    rw [e1, e2] at h3
    have h4 := hsh.t2; have h5 := hsh.p2; have h6 := hsh.h2; have h7 := hsh.o2; have h8 := hsh.t1; have h9 := hsh.p1
    unfold Hid; omega
  clear hs hsh hb hl hl1 hobm
  rw [← HL.out] at hchk
  have HCHK := Lib.hid hchk
  have hw0 : 0 < M.W.length := by have h1 := HSH.out.w; have h2 := HSH.out.h1; have h3 := HSH.out.o1; omega
  obtain ⟨wb, wo, hWa, -⟩ := HM.out.rW 0 _ (wcells_at M.W 0 hw0)
  have c_W := HM.out.W
  rw [hWa] at c_W
  have HWA := Lib.hid hWa
  have hcap := HM.out.capW
  clear hchk hWa
  go_enter Tryd.func18, Tryd.ntmps18
  have n7 := HM.out.roots
  have n8 := HM.out.weak
  go_wp2_with (first
    | (go_at_call 46; refine (kShaped_any b o M S w HM.out).mono ?_; rintro e w1 ⟨he, hq⟩; rw [HS.out] at he; subst he; have HX1 := Lib.hid hq; clear hq)
    | ((go_at_call 19; refine (kAll_walk b o M S HSH.out _ (HM.out.ext HX1.out)).mono ?_; rintro e w2 ⟨la, lc, he, hown, hq⟩; rw [HB.out, HLI.out] at he; rw [HLI.out] at hown; subst he; have HX2 : Hid (Ext w w2) := Ext.trans_ HX1.out hq; have HLR := Lib.hid (own_rsl hown); have HLN := Lib.hid (own_nil hown); have hlc := own_cap hown; clear hq hown); have k7 := HX2.out.cell_ n7; have k8 := HX2.out.cell_ n8; have HY2 : Hid (Ext w2 w2) := Ext.refl w2))
  refine (fieldsOK_any S.R.1 S.R.2 M.roots HM.out.ok.lenR HM.out.ok.roots la lc l _ HLL.out (HM.out.ext HX2.out).rR HLR.out HLT.out).mono ?_
  rintro e w' ⟨he, hw9⟩
  have hw9 := hw9.symm
  subst hw9
  rw [HATS.out, HR.out] at he
  subst he
  go_wp2_with fail
  refine (fieldsOK_any S.K.1 S.K.2 M.weak HM.out.ok.lenK HM.out.ok.weak la lc l _ HLL.out (HM.out.ext HX2.out).rK HLR.out HLT.out).mono ?_
  rintro e w' ⟨he, hw9⟩
  have hw9 := hw9.symm
  subst hw9
  rw [HATS.out, HK.out] at he
  subst he
  clear n7 n8 k7 k8
  have hllz := HLL.out
  go_wp2
  go_loopw [5, 6] (fun c i wr => ∃ (k : Nat) (q : Bool), k ≤ l.length ∧ i = .int .i64 (k : Int) ∧ c = .bool q ∧ Hid (q = (l.take k).all (cardsO M)) ∧ Hid ((l.take k).all (okK M) = true) ∧ Hid (Ext w wr) ∧ Hid (Ext w2 wr)) (fun _ i _ => l.length - (intOf i).toNat)
  case atStart => exact ⟨0, true, Nat.zero_le _, rfl, rfl, rfl, rfl, HX2.out, HY2.out⟩
  case round =>
    obtain ⟨k, q, hk, rfl, rfl, hQ, hA, hE, hE2⟩ := hrel
    have d0 := (HM.out.ext hE.out).half
    by_cases hlt : k < l.length
    · obtain ⟨p0, p1, p2, p3⟩ := ocells_at l k hlt
      obtain ⟨ob, oo, rfl, c0⟩ := HLR.out _ _ p0
      have c1 := HLR.out.at_ p1
      have c2 := HLR.out.at_ p2
      have c3 := HLR.out.at_ p3
      rw [← Nat.add_assoc] at c1 c2 c3
      replace c0 := hE2.out.cell_ c0
      replace c1 := hE2.out.cell_ c1
      replace c2 := hE2.out.cell_ c2
      replace c3 := hE2.out.cell_ c3
      have HD : Hid (l.take (k + 1) = l.take k ++ [l[k]]) := Lib.hid (List.take_succ_eq_append_getElem hlt)
      have HXM := Lib.hid (HOBM.out l[k] (List.getElem_mem hlt))
      have HMEM := Lib.hid (List.getElem_mem hlt)
      generalize l[k] = x at *
      obtain ⟨hx0, hx1, hx2, hx3, hx4⟩ := ob_bounds HM.out.ok HSH.out HXM.out
      have hltz : (k : Int) < (l.length : Int) := by omega
      have hzb : ob < wr.heap.size := cell_lt c0
      have hzo : b < wr.heap.size := by have := hE.out.size; omega
      have s2 := HSH.out.h2
      have s1 := HSH.out.h1
      have e2h : IntKind.i64.wrap (2 * M.half) = 2 * M.half := IntWalk.i64_in _ (by omega)
      clear p0 p1 p2 p3
      by_cases ho : 2 * M.half ≤ (x.a : Int)
      · have ho' : decide (2 * M.half ≤ (x.a : Int)) = true := decide_eq_true ho
        have HO : Hid (oldB M (x.a : Int) = true) := ho'
        cases ha : (hAge x.w != 0) with
        | true =>
          have HAG := Lib.hid ha
          go_wp2
          go_quiet (fail)
          go_wp2
          go_ret
          refine ⟨?_, by repeat (first | exact hE.out | (refine Ext.drew_ ?_) | (refine Ext.drewN_ ?_ _) | (refine Ext.alloc_ ?_ _))⟩
          have hf : l.all (okK M) = false := all_take_false HMEM.out (by unfold okK ageB; rw [HO.out, HAG.out]; rfl)
          rw [HCHK.out, hf]; rfl
        | false =>
          have HAG : Hid (ageB M x = true) := ageB_0 ha
          cases hraw : decide (hKind x.w < 8) with
          | true =>
            have HRW : Hid (rawB (hKind x.w) = true) := hraw
            go_wp2
            go_quiet (fail)
            go_wp2
            go_roundw
            case rel => exact ⟨k + 1, q, by omega, by go_num, rfl, Lib.hid (by rw [HD.out, List.all_append, ← hQ.out]; simp [cardsO_raw HRW.out]), Lib.hid (by rw [HD.out, List.all_append, hA.out]; simp [okK, HAG.out, okFld_raw HRW.out]), by repeat (first | exact hE.out | (refine Ext.drew_ ?_) | (refine Ext.drewN_ ?_ _) | (refine Ext.alloc_ ?_ _)), by repeat (first | exact hE2.out | (refine Ext.drew_ ?_) | (refine Ext.drewN_ ?_ _) | (refine Ext.alloc_ ?_ _))⟩
            case measure => simp [intOf]; omega
          | false =>
            have HRW : Hid (rawB (hKind x.w) = false) := hraw
            have d3 := hE.out.cell_ c_W
            go_wp2
            go_quiet (fail)
            go_wp2
            obtain ⟨A, C, hsl, hAC, hAn, hRA⟩ := run_part (P := Tryd.prog) undU64 sizeU64 wb wo M.W.length S.W.2 (x.a + 1) (x.a + 1 + x.n) ((x.a : Int) + 1) ((x.a : Int) + 1 + hSize x.w) (by omega) (by omega) (by omega) (by omega)
            have HRA : Hid (∀ W, Ext w W → RSl W A (wcells (flds M x))) := fun W hW => by
              have := hRA W _ (HWA.out ▸ (HM.out.ext hW).rW)
              rw [flds_cells M x (by omega)] at this
              exact this
            rw [show x.a + 1 + x.n - (x.a + 1) = x.n by omega] at hsl hAC
            clear hRA
            have hc1 : (x.a : Int) + 1 + hSize x.w ≤ (S.W.2 : Int) := by omega
            have hc2 : (0 : Int) ≤ (x.a : Int) + 1 := by omega
            have hc3 : (x.a : Int) + 1 ≤ (x.a : Int) + 1 + hSize x.w := by omega
            have hcall := fieldsOK_any A C (flds M x) (by rw [flds_len]; omega) (fun z hz => flds_in HM.out.ok x z hz) (some ⟨ob, oo, none⟩) lc l
            rw [flds_len] at hcall
            have HCALL := Lib.hid hcall
            clear hcall
            have e1 : IntKind.i64.wrap ((x.a : Int) + 1) = (x.a : Int) + 1 := IntWalk.i64_in _ (by omega)
            have e2 : IntKind.i64.wrap ((x.a : Int) + 1 + hSize x.w) = (x.a : Int) + 1 + hSize x.w := IntWalk.i64_in _ (by omega)
            go_quiet (fail)
            clear e1 e2 hsl
            go_wp2_with fail
            refine (HCALL.out _ HLL.out (HRA.out _ (by repeat (first | exact hE.out | (refine Ext.drew_ ?_) | (refine Ext.drewN_ ?_ _) | (refine Ext.alloc_ ?_ _)))) (HLR.out.ext (by repeat (first | exact hE2.out | (refine Ext.drew_ ?_) | (refine Ext.drewN_ ?_ _) | (refine Ext.alloc_ ?_ _)))) HLT.out).mono ?_
            rintro e w' ⟨he, hw9⟩
            have hw9 := hw9.symm
            subst hw9
            rw [HATS.out] at he
            cases hf : fieldsB (startsM M) (flds M x) with
            | false =>
              have HFF := Lib.hid hf
              rw [hf] at he
              subst he
              clear hf
              go_wp2
              go_ret
              refine ⟨?_, by repeat (first | exact hE.out | (refine Ext.drew_ ?_) | (refine Ext.drewN_ ?_ _) | (refine Ext.alloc_ ?_ _))⟩
              have hf : l.all (okK M) = false := all_take_false HMEM.out (by unfold okK okFld; rw [HRW.out, HFF.out, HAG.out]; rfl)
              rw [HCHK.out, hf]; rfl
            | true =>
              have HFT := Lib.hid hf
              rw [hf] at he
              subst he
              clear hf
              go_wp2
              refine named_world' (fun W5 hW5 => ?_)
              have hE5 : Ext wr W5 := by rw [hW5]; repeat (first | exact Ext.refl _ | (refine Ext.drew_ ?_) | (refine Ext.drewN_ ?_ _) | (refine Ext.alloc_ ?_ _))
              have HE5 := Lib.hid hE5
              have y0 : W5.cell? ⟨wr.heap.size, 0, none⟩ = some (.int .i64 (x.a : Int)) := by rw [hW5]; simp [go_sem]
              clear hW5 hE5
              have HOKX : Hid (okK M x = true) := by unfold Hid okK okFld; rw [HRW.out, HFT.out, HAG.out]; rfl
              have dC := HE5.out.cell_ (hE.out.cell_ HM.out.cards)
              have dD := HE5.out.cell_ (hE.out.cell_ HM.out.card)
              have dH := HE5.out.cell_ d0
              have hcc1 := HSH.out.c1
              have hcc2 := HSH.out.c2
              have hoo2 := HSH.out.o2
              have hcl : M.cards.length ≤ 9223372036854775807 := HM.out.ok.lenC
              have hccap := HM.out.capC
              clear c0 c1 c2 c3 d0 d3
              go_loopw [5, 10] (fun c j wq => ∃ (jn : Nat) (q2 : Bool), jn ≤ x.n ∧ j = .int .i64 (jn : Int) ∧ c = .bool q2 ∧ Hid (q2 = (q && cardsK M x jn)) ∧ Hid (Ext W5 wq)) (fun _ j _ => x.n - (intOf j).toNat)
              case atStart => exact ⟨0, q, Nat.zero_le _, rfl, rfl, Lib.hid (by simp [cardsK]), Ext.refl W5⟩
              case round =>
                obtain ⟨jn, q2, hjn, rfl, rfl, hQ2, hX⟩ := hrel
                by_cases hjl : jn < x.n
                · have hwq : Ext w wr := Ext.trans_ (Ext.trans_ hE.out HE5.out) hX.out
                  obtain ⟨ab, ao, hAe, hcell⟩ := HRA.out wr hwq jn _ (wcells_at (flds M x) jn (by rw [flds_len]; exact hjl))
                  rw [flds_at M x jn hjl] at hcell
                  have hin := wat_in HM.out.ok (x.a + 1 + jn)
                  have HYP := Lib.hid (young_pts M HSH.out _ hin.1 (fld_of HFT.out jn hjl))
                  have HCR : Hid (crd M x jn = !(youngB M (wat M.W (x.a + 1 + jn)) && !cardB M ((x.a : Int) + 1 + jn))) := by unfold Hid crd; rw [HO.out, Bool.true_and]
                  obtain ⟨J, hJ1, hJ2, hJ3⟩ := card_idx HSH.out ((x.a : Int) + 1 + jn) (by omega) (by have := hx3 ho; omega)
                  obtain ⟨cb, co, hCe, hccell⟩ := HM.out.rC J _ (bcells_at M.cards J hJ2)
                  have HJ3 := Lib.hid hJ3
                  have HP := fun W => points_any (wat M.W (x.a + 1 + jn)) hin.1 hin.2 W
                  generalize ptsW (wat M.W (x.a + 1 + jn)) = P at *
                  generalize wat M.W (x.a + 1 + jn) = v at *
                  rw [hJ3] at HCR
                  generalize hcq : M.cards.getD J false = cq at *
                  have HPT := Lib.hid HP
                  subst hAe
                  have yy0 := hX.out.cell_ y0
                  have yC := hX.out.cell_ dC
                  rw [hCe] at yC
                  have yD := hX.out.cell_ dD
                  have yH := hX.out.cell_ dH
                  have hcc := hwq.cell_ hccell
                  have hjz : (jn : Int) < (x.n : Int) := by omega
                  have hJz : (J : Int) < (M.cards.length : Int) := by omega
                  have hb1 : (x.a : Int) + 1 + jn - 2 * M.half ≤ 196608 := by omega
                  have hb0 : 0 ≤ (x.a : Int) + 1 + jn - 2 * M.half := by omega
                  have hne1 : (M.card == 0) = false := by simp; omega
                  have hne2 : ¬ M.card = 0 := by omega
                  have HJ1 := Lib.hid hJ1
                  clear hJ1 hJ2 hJ3 hCe hccell HP hcq hin
                  by_cases hP0 : 0 ≤ P
                  · by_cases hP1 : P < 2 * M.half
                    · have HYT : Hid (youngB M v = true) := by rw [Hid, HYP.out, decide_eq_true hP0, decide_eq_true hP1]; rfl
                      cases cq with
                      | true =>
                        have HCRD : Hid (crd M x jn = true) := by rw [Hid, HCR.out, HYT.out]; rfl
                        go_wp2_with (go_at_call 48; refine (HPT.out _).mono ?_; rintro e w' ⟨rfl, rfl⟩)
                        have e3 : IntKind.i64.wrap ((x.a : Int) + 1) = (x.a : Int) + 1 := IntWalk.i64_in _ (by omega)
                        have e4 : IntKind.i64.wrap ((x.a : Int) + 1 + (jn : Int)) = (x.a : Int) + 1 + (jn : Int) := IntWalk.i64_in _ (by omega)
                        have e6 : IntKind.i64.wrap ((x.a : Int) + 1 + (jn : Int) - 2 * M.half) = (x.a : Int) + 1 + (jn : Int) - 2 * M.half := IntWalk.i64_in _ (by omega)
                        have e7 : IntKind.i64.wrap (J : Int) = (J : Int) := IntWalk.i64_in _ (by omega)
                        have e8 := HJ1.out
                        go_quiet (fail)
                        clear e3 e4 e6 e7 e8
                        go_wp2
                        go_roundw
                        case rel => exact ⟨jn + 1, q2, by omega, by go_num, rfl, Lib.hid (by rw [cardsK_succ, ← Bool.and_assoc, ← hQ2.out, HCRD.out, Bool.and_true]), by repeat (first | exact hX.out | (refine Ext.drew_ ?_) | (refine Ext.drewN_ ?_ _))⟩
                        case measure => simp [intOf]; omega
                      | false =>
                        have HCRD : Hid (crd M x jn = false) := by rw [Hid, HCR.out, HYT.out]; rfl
                        go_wp2_with (go_at_call 48; refine (HPT.out _).mono ?_; rintro e w' ⟨rfl, rfl⟩)
                        have e3 : IntKind.i64.wrap ((x.a : Int) + 1) = (x.a : Int) + 1 := IntWalk.i64_in _ (by omega)
                        have e4 : IntKind.i64.wrap ((x.a : Int) + 1 + (jn : Int)) = (x.a : Int) + 1 + (jn : Int) := IntWalk.i64_in _ (by omega)
                        have e6 : IntKind.i64.wrap ((x.a : Int) + 1 + (jn : Int) - 2 * M.half) = (x.a : Int) + 1 + (jn : Int) - 2 * M.half := IntWalk.i64_in _ (by omega)
                        have e7 : IntKind.i64.wrap (J : Int) = (J : Int) := IntWalk.i64_in _ (by omega)
                        have e8 := HJ1.out
                        go_quiet (fail)
                        clear e3 e4 e6 e7 e8
                        go_wp2
                        go_roundw
                        case rel => exact ⟨jn + 1, false, by omega, by go_num, rfl, Lib.hid (by rw [cardsK_succ, HCRD.out]; simp), by repeat (first | exact hX.out | (refine Ext.drew_ ?_) | (refine Ext.drewN_ ?_ _))⟩
                        case measure => simp [intOf]; omega
                    · have HCRD : Hid (crd M x jn = true) := by rw [Hid, HCR.out, HYP.out, decide_eq_false hP1, Bool.and_false]; rfl
                      have b1 : decide (0 ≤ P) = true := decide_eq_true hP0
                      have b2 : decide (P < 2 * M.half) = false := decide_eq_false hP1
                      go_wp2_with (go_at_call 48; refine (HPT.out _).mono ?_; rintro e w' ⟨rfl, rfl⟩)
                      go_quiet (fail)
                      skip
                      go_wp2
                      go_roundw
                      case rel => exact ⟨jn + 1, q2, by omega, by go_num, rfl, Lib.hid (by rw [cardsK_succ, ← Bool.and_assoc, ← hQ2.out, HCRD.out, Bool.and_true]), by repeat (first | exact hX.out | (refine Ext.drew_ ?_) | (refine Ext.drewN_ ?_ _))⟩
                      case measure => simp [intOf]; omega
                  · have HCRD : Hid (crd M x jn = true) := by rw [Hid, HCR.out, HYP.out, decide_eq_false hP0]; rfl
                    have b1 : decide (0 ≤ P) = false := decide_eq_false hP0
                    go_wp2_with (go_at_call 48; refine (HPT.out _).mono ?_; rintro e w' ⟨rfl, rfl⟩)
                    go_quiet (fail)
                    skip
                    go_wp2
                    go_roundw
                    case rel => exact ⟨jn + 1, q2, by omega, by go_num, rfl, Lib.hid (by rw [cardsK_succ, ← Bool.and_assoc, ← hQ2.out, HCRD.out, Bool.and_true]), by repeat (first | exact hX.out | (refine Ext.drew_ ?_) | (refine Ext.drewN_ ?_ _))⟩
                    case measure => simp [intOf]; omega
                · have hjz : ¬ (jn : Int) < (x.n : Int) := by omega
                  obtain rfl : jn = x.n := by omega
                  have HCD : Hid (cardsO M x = cardsK M x x.n) := by unfold Hid; rw [cardsO_fld HRW.out]
                  go_wp2
                  go_roundw
                  case rel => exact ⟨k + 1, q2, by omega, by go_num, rfl, Lib.hid (by rw [HD.out, List.all_append, ← hQ.out, hQ2.out]; simp [HCD.out]), Lib.hid (by rw [HD.out, List.all_append, hA.out]; simp [HOKX.out]), Ext.trans_ (Ext.trans_ hE.out HE5.out) hX.out, Ext.trans_ (Ext.trans_ hE2.out HE5.out) hX.out⟩
                  case measure => simp [intOf]; omega
      · have ho' : decide (2 * M.half ≤ (x.a : Int)) = false := decide_eq_false ho
        have HO : Hid (oldB M (x.a : Int) = false) := ho'
        have HAG : Hid (ageB M x = true) := ageB_new HO.out
        cases hraw : decide (hKind x.w < 8) with
        | true =>
          have HRW : Hid (rawB (hKind x.w) = true) := hraw
          go_wp2
          go_quiet (fail)
          go_wp2
          go_roundw
          case rel => exact ⟨k + 1, q, by omega, by go_num, rfl, Lib.hid (by rw [HD.out, List.all_append, ← hQ.out]; simp [cardsO_raw HRW.out]), Lib.hid (by rw [HD.out, List.all_append, hA.out]; simp [okK, HAG.out, okFld_raw HRW.out]), by repeat (first | exact hE.out | (refine Ext.drew_ ?_) | (refine Ext.drewN_ ?_ _) | (refine Ext.alloc_ ?_ _)), by repeat (first | exact hE2.out | (refine Ext.drew_ ?_) | (refine Ext.drewN_ ?_ _) | (refine Ext.alloc_ ?_ _))⟩
          case measure => simp [intOf]; omega
        | false =>
          have HRW : Hid (rawB (hKind x.w) = false) := hraw
          have d3 := hE.out.cell_ c_W
          go_wp2
          go_quiet (fail)
          go_wp2
          obtain ⟨A, C, hsl, hAC, hAn, hRA⟩ := run_part (P := Tryd.prog) undU64 sizeU64 wb wo M.W.length S.W.2 (x.a + 1) (x.a + 1 + x.n) ((x.a : Int) + 1) ((x.a : Int) + 1 + hSize x.w) (by omega) (by omega) (by omega) (by omega)
          have HRA : Hid (∀ W, Ext w W → RSl W A (wcells (flds M x))) := fun W hW => by
            have := hRA W _ (HWA.out ▸ (HM.out.ext hW).rW)
            rw [flds_cells M x (by omega)] at this
            exact this
          rw [show x.a + 1 + x.n - (x.a + 1) = x.n by omega] at hsl hAC
          clear hRA
          have hc1 : (x.a : Int) + 1 + hSize x.w ≤ (S.W.2 : Int) := by omega
          have hc2 : (0 : Int) ≤ (x.a : Int) + 1 := by omega
          have hc3 : (x.a : Int) + 1 ≤ (x.a : Int) + 1 + hSize x.w := by omega
          have hcall := fieldsOK_any A C (flds M x) (by rw [flds_len]; omega) (fun z hz => flds_in HM.out.ok x z hz) (some ⟨ob, oo, none⟩) lc l
          rw [flds_len] at hcall
          have HCALL := Lib.hid hcall
          clear hcall
          have e1 : IntKind.i64.wrap ((x.a : Int) + 1) = (x.a : Int) + 1 := IntWalk.i64_in _ (by omega)
          have e2 : IntKind.i64.wrap ((x.a : Int) + 1 + hSize x.w) = (x.a : Int) + 1 + hSize x.w := IntWalk.i64_in _ (by omega)
          go_quiet (fail)
          clear e1 e2 hsl
          go_wp2_with fail
          refine (HCALL.out _ HLL.out (HRA.out _ (by repeat (first | exact hE.out | (refine Ext.drew_ ?_) | (refine Ext.drewN_ ?_ _) | (refine Ext.alloc_ ?_ _)))) (HLR.out.ext (by repeat (first | exact hE2.out | (refine Ext.drew_ ?_) | (refine Ext.drewN_ ?_ _) | (refine Ext.alloc_ ?_ _)))) HLT.out).mono ?_
          rintro e w' ⟨he, hw9⟩
          have hw9 := hw9.symm
          subst hw9
          rw [HATS.out] at he
          cases hf : fieldsB (startsM M) (flds M x) with
          | false =>
            have HFF := Lib.hid hf
            rw [hf] at he
            subst he
            clear hf
            go_wp2
            go_ret
            refine ⟨?_, by repeat (first | exact hE.out | (refine Ext.drew_ ?_) | (refine Ext.drewN_ ?_ _) | (refine Ext.alloc_ ?_ _))⟩
            have hf : l.all (okK M) = false := all_take_false HMEM.out (by unfold okK okFld; rw [HRW.out, HFF.out, HAG.out]; rfl)
            rw [HCHK.out, hf]; rfl
          | true =>
            have HFT := Lib.hid hf
            rw [hf] at he
            subst he
            clear hf
            go_wp2
            refine named_world' (fun W5 hW5 => ?_)
            have hE5 : Ext wr W5 := by rw [hW5]; repeat (first | exact Ext.refl _ | (refine Ext.drew_ ?_) | (refine Ext.drewN_ ?_ _) | (refine Ext.alloc_ ?_ _))
            have HE5 := Lib.hid hE5
            have y0 : W5.cell? ⟨wr.heap.size, 0, none⟩ = some (.int .i64 (x.a : Int)) := by rw [hW5]; simp [go_sem]
            clear hW5 hE5
            have HOKX : Hid (okK M x = true) := by unfold Hid okK okFld; rw [HRW.out, HFT.out, HAG.out]; rfl
            have HCD : Hid (cardsO M x = true) := by unfold Hid; rw [cardsO_fld HRW.out]; exact cardsK_new HO.out _
            go_loopw [5, 10] (fun c j wq => c = .bool q ∧ j = .int .i64 0 ∧ Hid (Ext W5 wq)) (fun _ _ _ => 0)
            case atStart => exact ⟨rfl, rfl, Ext.refl W5⟩
            case round =>
              obtain ⟨rfl, rfl, hX⟩ := hrel
              by_cases hn0 : (0 : Int) < (x.n : Int)
              · go_wp2
                go_roundw
                case rel => exact ⟨k + 1, q, by omega, by go_num, rfl, Lib.hid (by rw [HD.out, List.all_append, ← hQ.out]; simp [HCD.out]), Lib.hid (by rw [HD.out, List.all_append, hA.out]; simp [HOKX.out]), Ext.trans_ (Ext.trans_ hE.out HE5.out) hX.out, Ext.trans_ (Ext.trans_ hE2.out HE5.out) hX.out⟩
                case measure => simp [intOf]; omega
              · go_wp2
                go_roundw
                case rel => exact ⟨k + 1, q, by omega, by go_num, rfl, Lib.hid (by rw [HD.out, List.all_append, ← hQ.out]; simp [HCD.out]), Lib.hid (by rw [HD.out, List.all_append, hA.out]; simp [HOKX.out]), Ext.trans_ (Ext.trans_ hE.out HE5.out) hX.out, Ext.trans_ (Ext.trans_ hE2.out HE5.out) hX.out⟩
                case measure => simp [intOf]; omega
    · obtain rfl : k = l.length := by omega
      have hltz : ¬ (l.length : Int) < (l.length : Int) := by omega
      have HALL : Hid (l.all (okK M) = true) := by have := hA.out; rw [List.take_length] at this; exact this
      have HQC : Hid (q = cardsM M) := by rw [Hid, hQ.out, List.take_length]; unfold cardsM; rw [← HL.out]
      have HI := Lib.hid HM.out.rI
      have cI := HM.out.ids
      have hicap := HM.out.capI
      have hil : M.ids.length ≤ 9223372036854775807 := HM.out.ok.lenI
      clear hlt d0 hQ hA
      go_wp2
      go_loopw [12] (fun i wr => ∃ (k : Nat), k ≤ M.ids.length ∧ i = .int .i64 (k : Int) ∧ Hid (∀ j (hj : j < M.ids.length), j < k → idK (startsM M) (M.ids.take j) M.ids[j] = true) ∧ Hid (Ext w wr) ∧ Hid (Ext w2 wr)) (fun i _ => M.ids.length - (intOf i).toNat)
      case atStart => exact ⟨0, Nat.zero_le _, rfl, Lib.hid (fun j _ hj => absurd hj (Nat.not_lt_zero _)), hE, hE2⟩
      case round =>
        obtain ⟨k, hk, rfl, hI, hE, hE2⟩ := hrel
        have yI := hE.out.cell_ cI
        by_cases hlt : k < M.ids.length
        · obtain ⟨p1, p2⟩ := icells_at M.ids k hlt
          obtain ⟨ib, io, hIa, hc1⟩ := HI.out _ _ p1
          have hc2 := (hIa ▸ HI.out).at_ p2
          rw [← Nat.add_assoc] at hc2
          replace hc1 := hE.out.cell_ hc1
          replace hc2 := hE.out.cell_ hc2
          rw [hIa] at yI
          have HIA := Lib.hid hIa
          have HKL := Lib.hid hlt
          obtain ⟨⟨hb0, hb1⟩, -⟩ := HM.out.ok.ids M.ids[k] (List.getElem_mem hlt)
          generalize hx : M.ids[k] = x at hc1 hc2 hb0 hb1
          obtain ⟨x1, x2⟩ := x
          have HXX := Lib.hid hx.symm
          simp only at hc1 hc2 hb0 hb1
          have HP := fun W => points_any x1 hb0 hb1 W
          have HPE : Hid (∃ P, P = ptsW x1) := ⟨_, rfl⟩
          obtain ⟨P, hP⟩ := HPE.out
          rw [← hP] at HP
          have HPT := Lib.hid HP
          have HPQ := Lib.hid hP
          have HOA := Lib.hid (fun W hR => objectAt_any la lc l P W HLL.out hR)
          have HON : Hid (decide (0 ≤ objAt l P) = inSt (startsM M) P) := by rw [Hid, objAt_nonneg]; rw [← HATS.out]; rfl
          have hltz : (k : Int) < (M.ids.length : Int) := by omega
          have hzb : ib < wr.heap.size := cell_lt hc1
          have hzo : b < wr.heap.size := by have := hE.out.size; omega
          clear p1 p2 hIa hx HP hP HPE
          by_cases q1 : P < 0
          · go_wp2_with (go_at_call 48; refine (HPT.out _).mono ?_; rintro e w' ⟨rfl, hw9⟩; have hw9 := hw9.symm; subst hw9)
            go_ret
            refine ⟨?_, by repeat (first | exact hE.out | (refine Ext.drew_ ?_) | (refine Ext.drewN_ ?_ _) | (refine Ext.alloc_ ?_ _))⟩
            rw [HCHK.out, HALL.out, ids_bad HSH.out HM.out.ok k HKL.out (by have key := idK_a (st := startsM M) (pre := M.ids.take k) (x := (x1, x2)) (by show ptsW x1 < 0; rw [← HPQ.out]; exact q1); rw [HXX.out] at key; exact key)]; rfl
          · by_cases q2 : objAt l P < 0
            · go_wp2_with (first
                | (go_at_call 48; refine (HPT.out _).mono ?_; rintro e w' ⟨rfl, hw9⟩; have hw9 := hw9.symm; subst hw9)
                | (go_at_call 49; refine (HOA.out _ (HLR.out.ext (by repeat (first | exact hE2.out | (refine Ext.drew_ ?_) | (refine Ext.drewN_ ?_ _) | (refine Ext.alloc_ ?_ _))))).mono ?_; rintro e w' ⟨rfl, hw9⟩; have hw9 := hw9.symm; subst hw9))
              go_ret
              refine ⟨?_, by repeat (first | exact hE.out | (refine Ext.drew_ ?_) | (refine Ext.drewN_ ?_ _) | (refine Ext.alloc_ ?_ _))⟩
              rw [HCHK.out, HALL.out, ids_bad HSH.out HM.out.ok k HKL.out (by have key := idK_b (st := startsM M) (pre := M.ids.take k) (x := (x1, x2)) (by show inSt (startsM M) (ptsW x1) = false; rw [← HPQ.out, ← HON.out]; exact decide_eq_false (by omega)); rw [HXX.out] at key; exact key)]; rfl
            · by_cases q3 : x2 < 1
              · go_wp2_with (first
                  | (go_at_call 48; refine (HPT.out _).mono ?_; rintro e w' ⟨rfl, hw9⟩; have hw9 := hw9.symm; subst hw9)
                  | (go_at_call 49; refine (HOA.out _ (HLR.out.ext (by repeat (first | exact hE2.out | (refine Ext.drew_ ?_) | (refine Ext.drewN_ ?_ _) | (refine Ext.alloc_ ?_ _))))).mono ?_; rintro e w' ⟨rfl, hw9⟩; have hw9 := hw9.symm; subst hw9))
                go_ret
                refine ⟨?_, by repeat (first | exact hE.out | (refine Ext.drew_ ?_) | (refine Ext.drewN_ ?_ _) | (refine Ext.alloc_ ?_ _))⟩
                rw [HCHK.out, HALL.out, ids_bad HSH.out HM.out.ok k HKL.out (by have key := idK_c (st := startsM M) (pre := M.ids.take k) (x := (x1, x2)) q3; rw [HXX.out] at key; exact key)]; rfl
              · go_wp2_with (first
                  | (go_at_call 48; refine (HPT.out _).mono ?_; rintro e w' ⟨rfl, hw9⟩; have hw9 := hw9.symm; subst hw9)
                  | (go_at_call 49; refine (HOA.out _ (HLR.out.ext (by repeat (first | exact hE2.out | (refine Ext.drew_ ?_) | (refine Ext.drewN_ ?_ _) | (refine Ext.alloc_ ?_ _))))).mono ?_; rintro e w' ⟨rfl, hw9⟩; have hw9 := hw9.symm; subst hw9))
                refine named_world' (fun W5 hW5 => ?_)
                have hE5 : Ext wr W5 := by rw [hW5]; repeat (first | exact Ext.refl _ | (refine Ext.drew_ ?_) | (refine Ext.drewN_ ?_ _) | (refine Ext.alloc_ ?_ _))
                have HE5 := Lib.hid hE5
                have y0 : W5.cell? ⟨wr.heap.size, 0, none⟩ = some (.int .u64 x1) := by rw [hW5]; simp [go_sem]
                have y1 : W5.cell? ⟨wr.heap.size, 1, none⟩ = some (.int .i64 x2) := by rw [hW5]; simp [go_sem]
                have vI := hE5.cell_ yI
                have HOK3 : Hid (inSt (startsM M) (ptsW x1) = true) := by rw [Hid, ← HPQ.out, ← HON.out]; exact decide_eq_true (by omega)
                have HOK1 : Hid (¬ ptsW x1 < 0) := by rw [Hid, ← HPQ.out]; omega
                clear hW5 hE5 hc1 hc2 yI
                go_loopw [15] (fun j wr => ∃ (jn : Nat), jn ≤ k ∧ j = .int .i64 (jn : Int) ∧ Hid (∀ i (hi : i < M.ids.length), i < jn → twoB M.ids[i] (x1, x2) = false) ∧ Hid (Ext W5 wr)) (fun j _ => k - (intOf j).toNat)
                case atStart => exact ⟨0, Nat.zero_le _, rfl, Lib.hid (fun j _ hj => absurd hj (Nat.not_lt_zero _)), Ext.refl W5⟩
                case round =>
                  obtain ⟨jn, hjn, rfl, hJ, hX⟩ := hrel
                  by_cases hjl : jn < k
                  · have hjl2 : jn < M.ids.length := by omega
                    obtain ⟨p1, p2⟩ := icells_at M.ids jn hjl2
                    have hc1 := (HIA.out ▸ HI.out).at_ p1
                    have hc2 := (HIA.out ▸ HI.out).at_ p2
                    rw [← Nat.add_assoc] at hc2
                    replace hc1 := hX.out.cell_ (HE5.out.cell_ (hE.out.cell_ hc1))
                    replace hc2 := hX.out.cell_ (HE5.out.cell_ (hE.out.cell_ hc2))
                    have zI := hX.out.cell_ vI
                    have z0 := hX.out.cell_ y0
                    have z1 := hX.out.cell_ y1
                    have hjz : (jn : Int) < (k : Int) := by omega
                    have hjz2 : (jn : Int) < (M.ids.length : Int) := by omega
                    have HJL := Lib.hid hjl2
                    generalize hy : M.ids[jn] = y at hc1 hc2
                    obtain ⟨v1, v2⟩ := y
                    have HYY := Lib.hid hy.symm
                    simp only at hc1 hc2
                    clear p1 p2 hy
                    cases r1 : (v1 == x1) with
                    | true =>
                      have HTW : Hid (twoB (v1, v2) (x1, x2) = true) := by unfold Hid twoB; simp only; rw [r1]; rfl
                      go_wp2
                      go_quiet (fail)
                      go_wp2
                      go_ret
                      refine ⟨?_, Ext.trans_ (Ext.trans_ hE.out HE5.out) (by repeat (first | exact hX.out | (refine Ext.drew_ ?_) | (refine Ext.drewN_ ?_ _) | (refine Ext.alloc_ ?_ _)))⟩
                      rw [HCHK.out, HALL.out, ids_bad HSH.out HM.out.ok k HKL.out (by have key := idK_d (st := startsM M) (pre := M.ids.take k) (x := (x1, x2)) (y := (v1, v2)) (by rw [HYY.out, List.mem_iff_getElem]; exact ⟨jn, by simp; omega, by rw [List.getElem_take]; rfl⟩) HTW.out; rw [HXX.out] at key; exact key)]; rfl
                    | false =>
                      cases r2 : (v2 == x2) with
                      | true =>
                        have HTW : Hid (twoB (v1, v2) (x1, x2) = true) := by unfold Hid twoB; simp only; rw [r1, r2]; rfl
                        go_wp2
                        go_quiet (fail)
                        go_wp2
                        go_ret
                        refine ⟨?_, Ext.trans_ (Ext.trans_ hE.out HE5.out) (by repeat (first | exact hX.out | (refine Ext.drew_ ?_) | (refine Ext.drewN_ ?_ _) | (refine Ext.alloc_ ?_ _)))⟩
                        rw [HCHK.out, HALL.out, ids_bad HSH.out HM.out.ok k HKL.out (by have key := idK_d (st := startsM M) (pre := M.ids.take k) (x := (x1, x2)) (y := (v1, v2)) (by rw [HYY.out, List.mem_iff_getElem]; exact ⟨jn, by simp; omega, by rw [List.getElem_take]; rfl⟩) HTW.out; rw [HXX.out] at key; exact key)]; rfl
                      | false =>
                        have HTW : Hid (twoB (v1, v2) (x1, x2) = false) := by unfold Hid twoB; simp only; rw [r1, r2]; rfl
                        go_wp2
                        go_quiet (fail)
                        go_wp2
                        go_roundw
                        case rel => exact ⟨jn + 1, by omega, by go_num, Lib.hid (fun i hi hij => by
                          by_cases e : i = jn
                          · subst e; have key := HTW.out; rw [HYY.out] at key; exact key
                          · exact hJ.out i hi (by omega)), by repeat (first | exact hX.out | (refine Ext.drew_ ?_) | (refine Ext.drewN_ ?_ _) | (refine Ext.alloc_ ?_ _))⟩
                        case measure => simp [intOf]; omega
                  · have hjz : ¬ (jn : Int) < (k : Int) := by omega
                    obtain rfl : jn = k := by omega
                    go_wp2
                    go_roundw
                    case rel => exact ⟨jn + 1, by have := HKL.out; omega, by go_num, Lib.hid (fun i hi hij => by
                      by_cases e : i = jn
                      · subst e; have key := idK_yes (pre := M.ids.take i) (x := (x1, x2)) HOK1.out HOK3.out (by show ¬ x2 < 1; omega) (fun i2 hi2 => by rw [List.getElem_take]; exact hJ.out i2 _ (by have := hi2; simp at this; omega)); rw [HXX.out] at key; exact key
                      · exact hI.out i hi (by omega)), Ext.trans_ (Ext.trans_ hE.out HE5.out) hX.out, Ext.trans_ (Ext.trans_ hE2.out HE5.out) hX.out⟩
                    case measure => have := HKL.out; simp [intOf]; omega
        · obtain rfl : k = M.ids.length := by omega
          have hltz : ¬ (M.ids.length : Int) < (M.ids.length : Int) := by omega
          have HIG : Hid (idsB (startsM M) [] M.ids = true) := Lib.hid (ids_good HSH.out HM.out.ok (fun j hj => hI.out j hj hj))
          cases q with
          | true =>
            go_wp2
            go_ret
            exact ⟨by rw [HCHK.out, HALL.out, HIG.out, ← HQC.out]; rfl, hE.out⟩
          | false =>
            go_wp2
            go_ret
            exact ⟨by rw [HCHK.out, HALL.out, HIG.out, ← HQC.out]; rfl, hE.out⟩
end Go.Proofs.YtecbbbaafcoliaaDoor
