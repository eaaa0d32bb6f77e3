/- The document's CheckOf, plainly: it is the program's Check. -/
import Derived.Test.YtecbbbaafcoliaaDoorJWa08
import Derived.Test.YtecbbbaafcoliaaDoorJWa07
import Derived.Handy
namespace Go.Proofs.YtecbbbaafcoliaaDoor
set_option linter.unusedVariables false
set_option linter.unusedSimpArgs false

theorem kAll_ok {M : Mem} (h : ((kN M).2 && (kO M).2) = true) : (kN M).1 ++ (kO M).1 = objsAll M ∧ (partN M).2 = true ∧ (partO M).2 = true ∧ (objsAll M).all markB = true := by
  have key : ∀ a to, (partK M.W a to).2 = true → (partK M.W a to).1 = (part M.W a to).1 ∧ (part M.W a to).2 = true ∧ (part M.W a to).1.all markB = true := fun a to h => by
    unfold partK at h ⊢
    split at h
    · rename_i h1
      rw [if_pos h1]
      simp only [Bool.and_eq_true] at h1
      exact ⟨rfl, h1.1, h1.2⟩
    · cases h
  simp only [Bool.and_eq_true] at h
  obtain ⟨a1, a2, a3⟩ := key _ _ h.1
  obtain ⟨b1, b2, b3⟩ := key _ _ h.2
  refine ⟨?_, a2, b2, ?_⟩
  · unfold objsAll partN partO kN kO; rw [a1, b1]
  · unfold objsAll partN partO; rw [List.all_append, a3, b3]; rfl
theorem kAll_bad {M : Mem} (h : ((kN M).2 && (kO M).2) = false) : objsB M (okHd M) = false := by
  have key : ∀ a to, (partK M.W a to).2 = ((part M.W a to).2 && (part M.W a to).1.all markB) := fun a to => by
    unfold partK
    split
    · rename_i h1; rw [h1]
    · rename_i h1; simpa using h1
  unfold kN kO at h
  rw [key, key] at h
  cases hb : objsB M (okHd M) with
  | false => rfl
  | true =>
    simp only [objsB, Bool.and_eq_true] at hb
    have hm : ∀ l : List Ob, l.all (okHd M) = true → l.all markB = true := fun l hl => by
      rw [List.all_eq_true] at hl ⊢
      intro x hx
      have := hl x hx
      simp only [okHd, Bool.and_eq_true] at this
      exact this.1
    have h1 : (partN M).2 = true := hb.1.1
    have h2 : (partO M).2 = true := hb.2.1
    have h3 := hm _ hb.1.2
    have h4 := hm _ hb.2.2
    unfold partN at h1 h3
    unfold partO at h2 h4
    rw [h1, h2, h3, h4] at h
    cases h
/-- What the document asks of an object. -/
def ageB (M : Mem) (x : Ob) : Bool := !(oldB M (x.a : Int) && (hAge x.w != 0))
def okK (M : Mem) (x : Ob) : Bool := ageB M x && okFld M (startsM M) x
/-- What the document asks of a number. -/
def twoB (y x : Int × Int) : Bool := (y.1 == x.1) || (y.2 == x.2)
def idK (st : List Int) (pre : List (Int × Int)) (x : Int × Int) : Bool := (decide (0 ≤ ptsW x.1) && inSt st (ptsW x.1) && decide (1 ≤ x.2)) && !(pre.any fun y => twoB y x)
theorem pts_place (st : List Int) (a : Int) (h0 : 0 ≤ a) (hlt : ∀ s ∈ st, 0 ≤ s ∧ s < 1099511627776) : (decide (0 ≤ ptsW a) && inSt st (ptsW a)) = ((kindW a == 0) && (a != 0) && inSt st (placeW a)) := by
  unfold ptsW
  by_cases h1 : kindW a = 0
  · by_cases h2 : a = 0
    · rw [if_neg (by simp [h2])]; simp [h2]
    · by_cases h3 : a / 4 ≤ 1099511627776
      · rw [if_pos ⟨h1, h2, h3⟩]
        have h4 : 0 ≤ placeW a := by unfold placeW; unfold kindW at h1; omega
        simp [h1, h2, h4]
      · rw [if_neg (fun h => h3 h.2.2)]
        have h5 : inSt st (placeW a) = false := by
          cases hq : inSt st (placeW a) with
          | false => rfl
          | true =>
            have := hlt _ (List.contains_iff_mem.1 hq)
            unfold placeW at this
            omega
        simp [h5]
  · rw [if_neg (fun h => h1 h.1)]
    have : (kindW a == 0) = false := by simpa using h1
    simp [this]
theorem beq_swap (a b : Int) : (a == b) = (b == a) := by
  by_cases h : a = b
  · subst h; rfl
  · rw [beq_eq_false_iff_ne.2 h, beq_eq_false_iff_ne.2 (Ne.symm h)]
theorem idK_eq (st : List Int) (pre : List (Int × Int)) (x : Int × Int) (h0 : 0 ≤ x.1) (hlt : ∀ s ∈ st, 0 ≤ s ∧ s < 1099511627776) : idK st pre x = idOK st pre x := by
  unfold idK idOK
  rw [pts_place st x.1 h0 hlt]
  have e : (pre.any fun y => twoB y x) = (inSt (pre.map (·.1)) x.1 || inSt (pre.map (·.2)) x.2) := by
    induction pre with
    | nil => rfl
    | cons y pre ih =>
      simp only [List.any_cons, List.map_cons, inSt, List.contains_cons, twoB] at ih ⊢
      rw [ih, beq_swap x.1 y.1, beq_swap x.2 y.2]
      cases (y.1 == x.1) <;> cases (y.2 == x.2) <;> simp
  rw [e]
  have e2 : decide (1 ≤ x.2) = !decide (x.2 < 1) := by
    rcases Int.lt_or_le x.2 1 with h | h
    · rw [decide_eq_true h, decide_eq_false (by omega)]; rfl
    · rw [decide_eq_false (by omega : ¬ x.2 < 1), decide_eq_true h]; rfl
  rw [e2]
  by_cases h1 : kindW x.1 = 0
  · have b1 : (kindW x.1 == 0) = true := beq_iff_eq.2 h1
    have b2 : (kindW x.1 != 0) = false := by rw [bne, b1]; rfl
    by_cases h2 : x.1 = 0
    · have b3 : (x.1 == 0) = true := beq_iff_eq.2 h2
      have b4 : (x.1 != 0) = false := by rw [bne, b3]; rfl
      rw [b1, b2, b3, b4]; simp
    · have b3 : (x.1 == 0) = false := beq_eq_false_iff_ne.2 h2
      have b4 : (x.1 != 0) = true := by rw [bne, b3]; rfl
      have e3 : fldB st x.1 = inSt st (placeW x.1) := by simp [fldB, h1, h2]
      rw [e3, b1, b2, b3, b4]
      cases inSt st (placeW x.1) <;> cases decide (x.2 < 1) <;> cases inSt (pre.map (·.1)) x.1 <;> cases inSt (pre.map (·.2)) x.2 <;> rfl
  · have b1 : (kindW x.1 == 0) = false := beq_eq_false_iff_ne.2 h1
    have b2 : (kindW x.1 != 0) = true := by rw [bne, b1]; rfl
    rw [b1, b2]; simp
theorem idsK (st : List Int) (hlt : ∀ s ∈ st, 0 ≤ s ∧ s < 1099511627776) : ∀ (pre l : List (Int × Int)), (∀ x ∈ l, 0 ≤ x.1) → (idsB st pre l = true ↔ ∀ k (hk : k < l.length), idK st (pre ++ l.take k) l[k] = true)
  | pre, [], _ => by simp [idsB]
  | pre, x :: l, h => by
    rw [idsB, Bool.and_eq_true, idsK st hlt (pre ++ [x]) l (fun y hy => h y (by simp [hy])), ← idK_eq st pre x (h x (by simp)) hlt]
    constructor
    · rintro ⟨h1, h2⟩ k hk
      cases k with
      | zero => simpa using h1
      | succ k => simpa using h2 k (by simpa using hk)
    · intro h1
      refine ⟨?_, fun k hk => ?_⟩
      · have := h1 0 (by simp)
        rw [List.take_zero, List.append_nil] at this
        exact this
      · have := h1 (k + 1) (by simpa using hk)
        rw [List.take_succ_cons, List.append_cons] at this
        exact this
theorem starts_in (M : Mem) (hs : Shp M) : ∀ s ∈ startsM M, 0 ≤ s ∧ s < 1099511627776 := fun s h => by
  obtain ⟨o, ho, rfl⟩ := List.mem_map.1 h
  have h1 := hs.h1; have h2 := hs.t2; have h3 := hs.p2; have h4 := hs.w; have h5 := hs.base; have h6 := hs.o2; have h7 := hs.t1; have h8 := hs.p1; have h9 := hs.h2
  rcases obM_of ho with g | g
  · have := g.to; omega
  · have := g.to; omega
/-- Behind the fields' test a young pointer is a point below the old space. -/
theorem young_pts (M : Mem) (hs : Shp M) (a : Int) (h0 : 0 ≤ a) (hf : fldB (startsM M) a = true) : youngB M a = (decide (0 ≤ ptsW a) && decide (ptsW a < 2 * M.half)) := by
  unfold youngB oldB ptsW
  by_cases h1 : kindW a = 0
  · by_cases h2 : a = 0
    · rw [if_neg (by simp [h2])]; simp [h2]
    · have h3 : inSt (startsM M) (placeW a) = true := by simpa [fldB, h1, h2] using hf
      have h4 := starts_in M hs _ (List.contains_iff_mem.1 h3)
      rw [if_pos ⟨h1, h2, by unfold placeW at h4; omega⟩]
      have h5 : (kindW a == 0) = true := by simpa using h1
      have h6 : (a != 0) = true := by simpa using h2
      rw [h5, h6, decide_eq_true h4.1]
      by_cases h7 : 2 * M.half ≤ placeW a
      · rw [decide_eq_true h7, decide_eq_false (by omega)]; rfl
      · rw [decide_eq_false h7, decide_eq_true (by omega)]; rfl
  · rw [if_neg (fun h => h1 h.1)]
    have : (kindW a == 0) = false := by simpa using h1
    simp [this]
/-- THE CHECK, by the document's parts. -/
theorem chk_of {M : Mem} (hs : shapeB M = true) (h : ((kN M).2 && (kO M).2) = true) (hr : fieldsB (startsM M) M.roots = true) (hk : fieldsB (startsM M) M.weak = true) :
    chk M = if (objsAll M).all (okK M) = true then (if idsB (startsM M) [] M.ids = true then (if cardsM M = true then 0 else 5) else 3) else 3 := by
  obtain ⟨e1, e2, e3, e4⟩ := kAll_ok h
  have e5 : objsB M (okHd M) = (objsAll M).all (okHd M) := by unfold objsB objsAll; rw [e2, e3, List.all_append]; simp
  have e6 : ((objsAll M).all (okHd M) && (objsAll M).all (okFld M (startsM M))) = (objsAll M).all (okK M) := by
    revert e4
    generalize objsAll M = l
    intro e4
    induction l with
    | nil => rfl
    | cons x l ih =>
      simp only [List.all_cons, Bool.and_eq_true] at e4
      rw [List.all_cons, List.all_cons, List.all_cons, ← ih e4.2]
      have : okHd M x = ageB M x := by
        have h1 := e4.1
        unfold markB at h1
        unfold okHd ageB
        rw [h1]
        by_cases h2 : hAge x.w = 0
        · simp [h2]
        · have : (hAge x.w == 0) = false := by simpa using h2
          have h3 : (hAge x.w != 0) = true := by simpa using h2
          simp [this, h3]
      rw [this]
      unfold okK
      cases ageB M x <;> cases okFld M (startsM M) x <;> cases List.all l (okHd M) <;> cases List.all l (okFld M (startsM M)) <;> rfl
  have e7 : goodB M = ((objsAll M).all (okK M) && idsB (startsM M) [] M.ids) := by
    unfold goodB
    rw [hs, e5, hr, hk, ← e6]
    cases List.all (objsAll M) (okHd M) <;> cases List.all (objsAll M) (okFld M (startsM M)) <;> rfl
  unfold chk
  rw [e7]
  cases List.all (objsAll M) (okK M) <;> cases idsB (startsM M) [] M.ids <;> cases cardsM M <;> rfl
end Go.Proofs.YtecbbbaafcoliaaDoor
/- Facts for the walk of the document's CheckOf. -/
namespace Go.Proofs.YtecbbbaafcoliaaDoor
open Go.RowKit
set_option linter.unusedVariables false
set_option linter.unusedSimpArgs false

/-- Where an object of a memory lies. -/
theorem ob_bounds {M : Mem} (hok : M.Ok) (hs : Shp M) {x : Ob} (h : ObM M x) : (x.a : Int) + 1 + hSize x.w ≤ (M.W.length : Int) ∧ 0 ≤ hSize x.w ∧ (x.n : Int) = hSize x.w ∧ (2 * M.half ≤ (x.a : Int) → (x.a : Int) + 1 + hSize x.w ≤ 2 * M.half + M.old) ∧ (M.W.length : Int) ≤ 196608 := by
  have h1 := hs.h1; have h2 := hs.t2; have h3 := hs.p2; have h4 := hs.w; have h5 := hs.base; have h6 := hs.o2; have h7 := hs.t1; have h8 := hs.p1; have h9 := hs.h2
  have hz : 0 ≤ hSize x.w := by
    have hd : x.w = wat M.W x.a := by rcases h with h | h <;> exact h.w
    rw [hd]
    exact (hd_in _ (wat_in hok x.a).1).2.2.2.2.2.2
  have hn : (x.n : Int) = hSize x.w := by unfold Ob.n; omega
  rcases h with h | h
  · have := h.to
    refine ⟨by omega, hz, hn, by omega, by omega⟩
  · have := h.to
    refine ⟨by omega, hz, hn, by omega, by omega⟩
/-- The card of a field of the old space. -/
theorem card_idx {M : Mem} (hs : Shp M) (a : Int) (ha : 2 * M.half ≤ a) (hb : a < 2 * M.half + M.old) :
    ∃ J : Nat, (a - 2 * M.half).tdiv M.card = (J : Int) ∧ J < M.cards.length ∧ cardB M a = M.cards.getD J false := by
  obtain ⟨i0, i1⟩ := hs.card a ha hb
  refine ⟨((a - 2 * M.half) / M.card).toNat, ?_, by omega, rfl⟩
  rw [Int.tdiv_eq_ediv_of_nonneg (by omega)]; omega
theorem all_take_false {p : Ob → Bool} {l : List Ob} {x : Ob} (hx : x ∈ l) (h : p x = false) : l.all p = false := by
  rw [List.all_eq_false]; exact ⟨x, hx, by rw [h]; simp⟩
theorem okFld_raw {M : Mem} {x : Ob} (h : rawB (hKind x.w) = true) : okFld M (startsM M) x = true := by unfold okFld; rw [h]; rfl
theorem cardsO_raw {M : Mem} {x : Ob} (h : rawB (hKind x.w) = true) : cardsO M x = true := by unfold cardsO; rw [h]; rfl
theorem cardsO_fld {M : Mem} {x : Ob} (h : rawB (hKind x.w) = false) : cardsO M x = cardsK M x x.n := by unfold cardsO; rw [h]; rfl
theorem cardsK_new {M : Mem} {x : Ob} (h : oldB M (x.a : Int) = false) (n : Nat) : cardsK M x n = true := by
  unfold cardsK; rw [List.all_eq_true]; intro i _; simp [crd, h]
theorem ageB_new {M : Mem} {x : Ob} (h : oldB M (x.a : Int) = false) : ageB M x = true := by unfold ageB; rw [h]; rfl
theorem ageB_0 {M : Mem} {x : Ob} (h : (hAge x.w != 0) = false) : ageB M x = true := by unfold ageB; rw [h]; simp
theorem fld_of {M : Mem} {x : Ob} (h : fieldsB (startsM M) (flds M x) = true) (j : Nat) (hj : j < x.n) : fldB (startsM M) (wat M.W (x.a + 1 + j)) = true := by
  unfold fieldsB at h
  rw [List.all_eq_true] at h
  exact h _ (List.mem_map.2 ⟨j, List.mem_range.2 hj, rfl⟩)
theorem idK_a {st : List Int} {pre : List (Int × Int)} {x : Int × Int} (h : ptsW x.1 < 0) : idK st pre x = false := by unfold idK; rw [decide_eq_false (by omega : ¬ 0 ≤ ptsW x.1)]; rfl
theorem idK_b {st : List Int} {pre : List (Int × Int)} {x : Int × Int} (h : inSt st (ptsW x.1) = false) : idK st pre x = false := by unfold idK; rw [h]; simp
theorem idK_c {st : List Int} {pre : List (Int × Int)} {x : Int × Int} (h : x.2 < 1) : idK st pre x = false := by unfold idK; rw [decide_eq_false (by omega : ¬ 1 ≤ x.2)]; simp
theorem idK_d {st : List Int} {pre : List (Int × Int)} {x y : Int × Int} (hy : y ∈ pre) (h : twoB y x = true) : idK st pre x = false := by
  have : (pre.any fun y => twoB y x) = true := List.any_eq_true.2 ⟨y, hy, h⟩
  unfold idK; rw [this]; simp
theorem idK_yes {st : List Int} {pre : List (Int × Int)} {x : Int × Int} (h1 : ¬ ptsW x.1 < 0) (h2 : inSt st (ptsW x.1) = true) (h3 : ¬ x.2 < 1) (h4 : ∀ j (hj : j < pre.length), twoB pre[j] x = false) : idK st pre x = true := by
  have : (pre.any fun y => twoB y x) = false := by
    rw [List.any_eq_false]
    intro y hy
    obtain ⟨j, hj, rfl⟩ := List.mem_iff_getElem.1 hy
    rw [h4 j hj]; simp
  unfold idK; rw [this, h2, decide_eq_true (by omega : 0 ≤ ptsW x.1), decide_eq_true (by omega : 1 ≤ x.2)]; rfl
theorem ids_bad {M : Mem} (hs : Shp M) (hok : M.Ok) (k : Nat) (hk : k < M.ids.length) (h : idK (startsM M) (M.ids.take k) M.ids[k] = false) : idsB (startsM M) [] M.ids = false := by
  cases hb : idsB (startsM M) [] M.ids with
  | false => rfl
  | true =>
    have := (idsK (startsM M) (starts_in M hs) [] M.ids (fun x hx => (hok.ids x hx).1.1)).1 hb k hk
    rw [List.nil_append, h] at this
    cases this
theorem ids_good {M : Mem} (hs : Shp M) (hok : M.Ok) (h : ∀ k (hk : k < M.ids.length), idK (startsM M) (M.ids.take k) M.ids[k] = true) : idsB (startsM M) [] M.ids = true :=
  (idsK (startsM M) (starts_in M hs) [] M.ids (fun x hx => (hok.ids x hx).1.1)).2 (fun k hk => by rw [List.nil_append]; exact h k hk)
end Go.Proofs.YtecbbbaafcoliaaDoor
/- The walks of Memory.Touch and Memory.Store. -/
namespace Go.Proofs.YtecbbbaafcoliaaDoor
open Go.RowKit
set_option linter.unusedVariables false
set_option linter.unusedSimpArgs false

def cardI (M : Mem) (a : Int) : Nat := ((a - 2 * M.half) / M.card).toNat
def touchM (M : Mem) (a : Int) : Mem := { M with cards := M.cards.set (cardI M a) true }
def setM (M : Mem) (j : Nat) (v : Int) : Mem := { M with W := M.W.set j v }
def storeM (M : Mem) (j : Nat) (v : Int) : Mem := if oldB M (j : Int) && youngB M v then touchM (setM M j v) (j : Int) else setM M j v
theorem setM_ok {M : Mem} (h : M.Ok) (j : Nat) (v : Int) (h0 : 0 ≤ v) (h1 : v ≤ 18446744073709551615) : (setM M j v).Ok :=
  ⟨h.half, h.old, h.card, h.used, h.top, h.oldTop, fun x hx => by
    rcases List.mem_or_eq_of_mem_set hx with q | q
    · exact h.W x q
    · subst q; exact ⟨h0, h1⟩, h.roots, h.weak, h.ids, by unfold setM; simp only [List.length_set]; exact h.lenW, h.lenR, h.lenK, h.lenI, h.lenC⟩
theorem touchM_ok {M : Mem} (h : M.Ok) (a : Int) : (touchM M a).Ok :=
  ⟨h.half, h.old, h.card, h.used, h.top, h.oldTop, h.W, h.roots, h.weak, h.ids, h.lenW, h.lenR, h.lenK, h.lenI, by unfold touchM; simp only [List.length_set]; exact h.lenC⟩
theorem storeM_ok {M : Mem} (h : M.Ok) (j : Nat) (v : Int) (h0 : 0 ≤ v) (h1 : v ≤ 18446744073709551615) : (storeM M j v).Ok := by
  unfold storeM; split
  · exact touchM_ok (setM_ok h j v h0 h1) _
  · exact setM_ok h j v h0 h1
theorem setM_shp {M : Mem} (h : Shp M) (j : Nat) (v : Int) : Shp (setM M j v) :=
  ⟨h.h1, h.h2, h.o1, h.o2, h.c1, h.c2, by unfold setM; simp only [List.length_set]; exact h.w, h.u1, h.u2, h.t1, h.t2, h.p1, h.p2, h.cl⟩
theorem OMem.notW {w : World} {B b : Nat} {tI : TypeId} {M : Mem} {S : Sls} (h : OMem w B b tI M S) {g : Nat} (hg : S.W.1 = some ⟨g, 0, none⟩) : g ≠ b := fun e =>
  (h.fld ⟨3, 30, 1, S.W.1, M.W.length, S.W.2, wcells M.W⟩ (by simp [memFlds])).2.2 (by simp [Fld.val, hg, Value.ownBlock, e])
theorem OMem.notC {w : World} {B b : Nat} {tI : TypeId} {M : Mem} {S : Sls} (h : OMem w B b tI M S) {g : Nat} (hg : S.C.1 = some ⟨g, 0, none⟩) : g ≠ b := fun e =>
  (h.fld ⟨10, 4, 1, S.C.1, M.cards.length, S.C.2, bcells M.cards⟩ (by simp [memFlds])).2.2 (by simp [Fld.val, hg, Value.ownBlock, e])
def KeptPost (w : World) (B b : Nat) (M : Mem) (S : Sls) (v : Value) (e : Ending) (w' : World) : Prop := e = .returned v ∧ OMem w' B b 72 M S ∧ Keep (OwnL b S) w w'
set_option maxRecDepth 100000 in
set_option maxHeartbeats 4000000 in
theorem touch_obj (B b : Nat) (M : Mem) (S : Sls) (w : World) (hO : OMem w B b 72 M S) (hok : M.Ok) (hs : Shp M) (a : Int) (ha : 2 * M.half ≤ a) (hb : a < 2 * M.half + M.old) :
    Calls Tryd.prog 90 #[.pointer (some ⟨b, 0, none⟩), .int .i64 a] w (KeptPost w B b (touchM M a) S (.tuple #[])) := by
  obtain ⟨i0, i1⟩ := hs.card a ha hb
  have h1 := hs.h1
  have h2 := hs.h2
  have o2 := hs.o2
  have cc1 := hs.c1
  have cc2 := hs.c2
  have hq : (a - 2 * M.half).tdiv M.card = (a - 2 * M.half) / M.card := Int.tdiv_eq_ediv_of_nonneg (by omega)
  obtain ⟨J, hJ⟩ : ∃ J : Nat, (a - 2 * M.half) / M.card = (J : Int) := ⟨((a - 2 * M.half) / M.card).toNat, by omega⟩
  have HJ : Hid (cardI M a = J) := by unfold Hid cardI; rw [hJ]; rfl
  rw [hJ] at hq i1 i0
  have hJl : J < M.cards.length := by omega
  obtain ⟨g, hg, hgB, hgl, hgf, hgc, -⟩ := own_block hO.fC (by omega)
  have hM := hO.mem hok
  have c1 := hM.cards
  have c2 := hM.half
  have c3 := hM.card
  simp only [Nat.zero_add] at c1 c2 c3
  rw [hg] at c1
  have hcell : w.cell? ⟨g, J, none⟩ = some (.bool (M.cards.getD J false)) := by
    have := hM.rC
    rw [hg] at this
    simpa using this.at_ (bcells_at M.cards J hJl)
  have hfg := hgf J
  have hgb := hO.notC hg
  have e0 : IntKind.i64.wrap (2 * M.half) = 2 * M.half := IntWalk.i64_in _ (by omega)
  have e1 : IntKind.i64.wrap (a - 2 * M.half) = a - 2 * M.half := IntWalk.i64_in _ (by omega)
  have hcl : M.cards.length ≤ 9223372036854775807 := hok.lenC
  have e2 : IntKind.i64.wrap ((J : Nat) : Int) = (J : Int) := IntWalk.i64_in _ (by omega)
  have hne : (M.card == 0) = false := by simp; omega
  have hne2 : ¬ M.card = 0 := by omega
  have hjj : (J : Int) < (M.cards.length : Int) := by omega
  have HO := Lib.hid hO
  have HG := Lib.hid hg
  have HJL := Lib.hid hJl
  clear hJ hM hs hO hg hgf hok hJl
  go_enter Tryd.func90, Tryd.ntmps90
  go_region
  go_wp2
  go_returns
  refine ⟨rfl, ?_, ?_⟩
  · unfold touchM; rw [HJ.out]
    exact OM.ext (OMem.setC HO.out HG.out J HJL.out true) (Ext.refl _).drew_
  · exact Keep.drew_ (Keep.set_ (L := OwnL b S) (Keep.refl _ w) (p := ⟨g, J, none⟩) (Or.inl (Or.inr (Or.inr HG.out))) _)
set_option maxRecDepth 100000 in
set_option maxHeartbeats 4000000 in
theorem store_obj (B b : Nat) (M : Mem) (S : Sls) (w : World) (hO : OMem w B b 72 M S) (hok : M.Ok) (hs : Shp M) (at_ : Nat) (hat : at_ < M.W.length) (v : Int) (h0 : 0 ≤ v) (h1 : v ≤ 18446744073709551615) :
    Calls Tryd.prog 52 #[.pointer (some ⟨b, 0, none⟩), .int .i64 (at_ : Int), .int .u64 v] w (KeptPost w B b (storeM M at_ v) S (.tuple #[])) := by
  obtain ⟨g, hg, hgB, hgl, hgf, hgc, -⟩ := own_block hO.fW (by omega)
  have hM := hO.mem hok
  have c3 := hM.W
  simp only [Nat.zero_add] at c3
  rw [hg] at c3
  have hcell : w.cell? ⟨g, at_, none⟩ = some (.int .u64 (M.W.getD at_ 0)) := by
    have := hM.rW
    rw [hg] at this
    simpa using this.at_ (wcells_at M.W at_ hat)
  have hfg := hgf at_
  have hwl := hok.lenW
  have hltz : (at_ : Int) < (M.W.length : Int) := by omega
  have hsw := hs.w
  have hO1 : OMem (w.setCell ⟨g, at_, none⟩ (.int .u64 v)) B b 72 (setM M at_ v) S := OMem.setW hO hg at_ hat v
  have hK1 : Keep (OwnL b S) w (w.setCell ⟨g, at_, none⟩ (.int .u64 v)) := Keep.set_ (Keep.refl _ w) (p := ⟨g, at_, none⟩) (Or.inl (Or.inr (Or.inl hg))) _
  have hM1 := hO1.mem (setM_ok hok at_ v h0 h1)
  have HS1 := Lib.hid (setM_shp hs at_ v)
  have HOK1 := Lib.hid (setM_ok hok at_ v h0 h1)
  have hin : 2 * M.half ≤ (at_ : Int) → (at_ : Int) < 2 * M.half + M.old := fun _ => by omega
  have HIN := Lib.hid hin
  have HO1 := Lib.hid hO1
  have HK1 := Lib.hid hK1
  have HM1 := Lib.hid hM1
  have hso : storeM M at_ v = if oldB (setM M at_ v) (at_ : Int) && youngB (setM M at_ v) v then touchM (setM M at_ v) (at_ : Int) else setM M at_ v := rfl
  rw [hso]
  have HLW : Hid ((at_ : Int) < ((setM M at_ v).W.length : Int)) := by unfold Hid setM; simp only [List.length_set]; omega
  generalize setM M at_ v = M1 at *
  have HIN1 : Hid (oldB M1 (at_ : Int) = true → 2 * M1.half ≤ (at_ : Int) ∧ (at_ : Int) < 2 * M1.half + M1.old) := fun h => by
    have q1 := of_decide_eq_true h
    have q2 := HS1.out.w
    exact ⟨q1, by have := HLW.out; omega⟩
  clear hM hO hg hgf hok hs hat hsw hO1 hK1 hM1 hin hso
  cases ho : oldB M1 (at_ : Int) with
  | false =>
    have HOB := Lib.hid ho
    clear ho
    go_enter Tryd.func52, Tryd.ntmps52
    go_wp2_with (go_at_call 56; refine (inOld_any _ _ b 0 M1 S HM1.out HS1.out).mono ?_; rintro e w' ⟨he, rfl⟩; rw [HOB.out] at he; subst he)
    go_returns
    exact ⟨rfl, HO1.out, HK1.out⟩
  | true =>
    have HOB := Lib.hid ho
    clear ho
    cases hy : youngB M1 v with
    | false =>
      have HYB := Lib.hid hy
      clear hy
      go_enter Tryd.func52, Tryd.ntmps52
      go_wp2_with (first
        | (go_at_call 56; refine (inOld_any _ _ b 0 M1 S HM1.out HS1.out).mono ?_; rintro e w' ⟨he, rfl⟩; rw [HOB.out] at he; subst he)
        | (go_at_call 61; refine (young_any _ h0 h1 _ b 0 M1 S HM1.out HS1.out).mono ?_; rintro e w' ⟨he, rfl⟩; rw [HYB.out] at he; subst he))
      go_returns
      exact ⟨rfl, HO1.out, HK1.out⟩
    | true =>
      have HYB := Lib.hid hy
      clear hy
      obtain ⟨k1, k2⟩ := HIN1.out HOB.out
      go_enter Tryd.func52, Tryd.ntmps52
      go_wp2_with (first
        | (go_at_call 56; refine (inOld_any _ _ b 0 M1 S HM1.out HS1.out).mono ?_; rintro e w' ⟨he, rfl⟩; rw [HOB.out] at he; subst he)
        | (go_at_call 61; refine (young_any _ h0 h1 _ b 0 M1 S HM1.out HS1.out).mono ?_; rintro e w' ⟨he, rfl⟩; rw [HYB.out] at he; subst he)
        | (go_at_call 90; refine (touch_obj B b M1 S _ HO1.out HOK1.out HS1.out _ k1 k2).mono ?_; rintro e w2 ⟨rfl, hq1, hq2⟩; have HO2 := Lib.hid hq1; have HK2 := Lib.hid hq2; clear hq1 hq2))
      go_returns
      exact ⟨rfl, HO2.out, Keep.trans HK1.out HK2.out⟩
end Go.Proofs.YtecbbbaafcoliaaDoor
/- The walk of Memory.Put. -/
namespace Go.Proofs.YtecbbbaafcoliaaDoor
open Go.RowKit
set_option linter.unusedVariables false
set_option linter.unusedSimpArgs false

set_option maxRecDepth 100000 in
set_option maxHeartbeats 4000000 in
theorem put_no (b o : Nat) (M : Mem) (S : Sls) (E : Nat → Addr) (p f v : Int) (h0 : 0 ≤ p) (h1 : p ≤ 18446744073709551615) (w : World) (hM : RMem w b o M S) (hE : G3 E w) (h : findC M p f ≠ 0) :
    Calls Tryd.prog 22 #[.pointer (some ⟨b, o, none⟩), .int .u64 p, .int .i64 f, .int .u64 v] w fun e w' => e = .returned (errC E (findC M p f)) ∧ Ext w w' := by
  have HC := Lib.hid (find_err b o M S E p f h0 h1 w hM hE h)
  clear hM hE h
  go_enter Tryd.func22, Tryd.ntmps22
  go_wp2_with fail
  refine HC.out.mono ?_
  rintro e w1 ⟨a, ha, rfl, hq⟩
  have HA := Lib.hid ha
  have HX1 := Lib.hid hq
  clear ha hq
  go_wp2
  go_ret
  exact ⟨by rw [HA.out]; rfl, by repeat (first | exact HX1.out | (refine Ext.set_ ?_ (by have := HX1.out.size; simp; omega) _) | (refine Ext.alloc_ ?_ _))⟩
set_option maxRecDepth 100000 in
set_option maxHeartbeats 4000000 in
theorem put_shape (b o : Nat) (M : Mem) (S : Sls) (E : Nat → Addr) (p f v : Int) (h0 : 0 ≤ p) (h1 : p ≤ 18446744073709551615) (v0 : 0 ≤ v) (v1 : v ≤ 18446744073709551615) (w : World) (hM : RMem w b o M S) (hE : G3 E w) (x : Ob) (k : Nat) (h : Found M p f x k)
    (hb : rawB (hKind x.w) = true ∨ (rawB (hKind x.w) = false ∧ fldB (startsM M) v = false)) :
    Calls Tryd.prog 22 #[.pointer (some ⟨b, o, none⟩), .int .u64 p, .int .i64 f, .int .u64 v] w fun e w' => e = .returned (errV (E 2)) ∧ Ext w w' := by
  obtain ⟨hs, hob, -⟩ := good_parts (chk_zero h.chk).1
  have HC := Lib.hid (h.calls b o S E h0 h1 w hM hE)
  have HM := Lib.hid hM
  have HE := Lib.hid hE
  have HS := Lib.hid hs
  have HOB := Lib.hid (objs_true hob)
  clear hM hE h hs hob
  rcases hb with hr | ⟨hr, hf⟩
  · have HR := Lib.hid hr
    clear hr
    go_enter Tryd.func22, Tryd.ntmps22
    go_wp2_with (first
      | (go_at_call 51; refine HC.out.mono ?_; rintro e w1 ⟨he, hq⟩; unfold headV at he; subst he; have HX1 := Lib.hid hq; have k1 : _ = _ := (HE.out.ext hq).shape; have hgs := cell_lt k1; simp only at hgs; clear hq)
      | (go_at_call 40; refine (raw_any _ _).mono ?_; rintro e w' ⟨he, hw9⟩; have hw9 := hw9.symm; subst hw9; rw [HR.out] at he; subst he))
    go_ret
    exact ⟨rfl, by repeat (first | exact HX1.out | (refine Ext.set_ ?_ (by have := HX1.out.size; simp; omega) _) | (refine Ext.alloc_ ?_ _))⟩
  · have HR := Lib.hid hr
    have HF := Lib.hid hf
    clear hr hf
    go_enter Tryd.func22, Tryd.ntmps22
    go_wp2_with (first
      | (go_at_call 51; refine HC.out.mono ?_; rintro e w1 ⟨he, hq⟩; unfold headV at he; subst he; have HX1 := Lib.hid hq; have k1 : _ = _ := (HE.out.ext hq).shape; have hgs := cell_lt k1; simp only at hgs; clear hq)
      | (go_at_call 40; refine (raw_any _ _).mono ?_; rintro e w' ⟨he, hw9⟩; have hw9 := hw9.symm; subst hw9; rw [HR.out] at he; subst he)
      | (go_at_call 39; refine (starts_any b o M S HS.out (E 1) (E 2) _ (HM.out.ext (Ext.trans_ HX1.out ((Ext.refl w1).alloc_ _))) (HE.out.ext (Ext.trans_ HX1.out ((Ext.refl w1).alloc_ _))).bound (HE.out.ext (Ext.trans_ HX1.out ((Ext.refl w1).alloc_ _))).shape).mono ?_; rintro e w2 ⟨bm, rfl, hsm, hq⟩; have HX2 : Hid (Ext w w2) := Ext.trans_ (Ext.trans_ HX1.out ((Ext.refl w1).alloc_ _)) hq; have HSM := Lib.hid (hsm HOB.out); have k2 : _ = _ := (HE.out.ext HX2.out).shape; clear hq hsm)
      | (go_at_call 43; refine (field_any v v0 v1 bm (startsM M) _ HSM.out).mono ?_; rintro e w' ⟨he, hw9⟩; have hw9 := hw9.symm; subst hw9; rw [HF.out] at he; subst he))
    go_ret
    exact ⟨rfl, HX2.out⟩
set_option maxRecDepth 100000 in
set_option maxHeartbeats 4000000 in
theorem put_yes (B b : Nat) (M : Mem) (S : Sls) (E : Nat → Addr) (p f v : Int) (h0 : 0 ≤ p) (h1 : p ≤ 18446744073709551615) (v0 : 0 ≤ v) (v1 : v ≤ 18446744073709551615) (w : World) (hO : OMem w B b 72 M S) (hok : M.Ok) (hE : G3 E w) (x : Ob) (k : Nat) (h : Found M p f x k)
    (hr : rawB (hKind x.w) = false) (hf : fldB (startsM M) v = true) :
    Calls Tryd.prog 22 #[.pointer (some ⟨b, 0, none⟩), .int .u64 p, .int .i64 f, .int .u64 v] w (KeptPost w B b (storeM M (x.a + 1 + k) v) S .nilIface) := by
  obtain ⟨hs, hob, -⟩ := good_parts (chk_zero h.chk).1
  have hM := hO.mem hok
  have HC := Lib.hid (h.calls b 0 S E h0 h1 w hM hE)
  have HIN := Lib.hid h.into
  have HO := Lib.hid hO
  have HM := Lib.hid hM
  have HE := Lib.hid hE
  have HS := Lib.hid hs
  have HOK := Lib.hid hok
  have HOB := Lib.hid (objs_true hob)
  have HR := Lib.hid hr
  have HF := Lib.hid hf
  generalize x.a + 1 + k = at_ at *
  clear hM hE h hs hob hr hf hO hok
  go_enter Tryd.func22, Tryd.ntmps22
  go_wp2_with (first
    | (go_at_call 51; refine HC.out.mono ?_; rintro e w1 ⟨he, hq⟩; unfold headV at he; subst he; have HX1 := Lib.hid hq; have k1 : _ = _ := (HE.out.ext hq).shape; have hgs := cell_lt k1; simp only at hgs; clear hq)
    | (go_at_call 40; refine (raw_any _ _).mono ?_; rintro e w' ⟨he, hw9⟩; have hw9 := hw9.symm; subst hw9; rw [HR.out] at he; subst he)
    | (go_at_call 39; refine (starts_any b 0 M S HS.out (E 1) (E 2) _ (HM.out.ext (Ext.trans_ HX1.out ((Ext.refl w1).alloc_ _))) (HE.out.ext (Ext.trans_ HX1.out ((Ext.refl w1).alloc_ _))).bound (HE.out.ext (Ext.trans_ HX1.out ((Ext.refl w1).alloc_ _))).shape).mono ?_; rintro e w2 ⟨bm, rfl, hsm, hq⟩; have HX2 : Hid (Ext w w2) := Ext.trans_ (Ext.trans_ HX1.out ((Ext.refl w1).alloc_ _)) hq; have HSM := Lib.hid (hsm HOB.out); have k2 : _ = _ := (HE.out.ext HX2.out).shape; clear hq hsm)
    | (go_at_call 43; refine (field_any v v0 v1 bm (startsM M) _ HSM.out).mono ?_; rintro e w' ⟨he, hw9⟩; have hw9 := hw9.symm; subst hw9; rw [HF.out] at he; subst he)
    | (go_at_call 52; refine (store_obj B b M S _ (OM.ext HO.out HX2.out) HOK.out HS.out at_ HIN.out v v0 v1).mono ?_; rintro e w3 ⟨rfl, hq1, hq2⟩; have HO3 := Lib.hid hq1; have HK3 := Lib.hid hq2; clear hq1 hq2))
  go_ret
  exact ⟨rfl, HO3.out, Keep.trans (Keep.of_ext HX2.out) HK3.out⟩
end Go.Proofs.YtecbbbaafcoliaaDoor
/- A memory with more cards marked: plainly. -/
namespace Go.Proofs.YtecbbbaafcoliaaDoor
open Go.RowKit
set_option linter.unusedVariables false
set_option linter.unusedSimpArgs false

def withC (M : Mem) (C : List Bool) : Mem := { M with cards := C }
/-- Cards of the memory, and more. -/
def More (C : List Bool) (M : Mem) : Prop := C.length = M.cards.length ∧ ∀ j, M.cards.getD j false = true → C.getD j false = true
theorem More.refl (M : Mem) : More M.cards M := ⟨rfl, fun _ h => h⟩
theorem good_more {M : Mem} {C : List Bool} (h : C.length = M.cards.length) : goodB (withC M C) = goodB M := by
  have e : shapeB (withC M C) = shapeB M := by unfold shapeB withC; simp only [h]
  unfold goodB
  rw [e]
  rfl
theorem crd_more {M : Mem} {C : List Bool} (h : More C M) (x : Ob) (i : Nat) (hc : crd M x i = true) : crd (withC M C) x i = true := by
  have e1 : oldB (withC M C) (x.a : Int) = oldB M (x.a : Int) := rfl
  have e2 : youngB (withC M C) (wat (withC M C).W (x.a + 1 + i)) = youngB M (wat M.W (x.a + 1 + i)) := rfl
  have e3 : cardB M ((x.a : Int) + 1 + i) = true → cardB (withC M C) ((x.a : Int) + 1 + i) = true := fun g => h.2 _ g
  unfold crd at hc ⊢
  rw [e1, e2]
  cases h1 : (oldB M (x.a : Int) && youngB M (wat M.W (x.a + 1 + i))) with
  | false => rfl
  | true =>
    rw [h1] at hc
    have h2 : cardB M ((x.a : Int) + 1 + i) = true := by simpa using hc
    rw [e3 h2]; rfl
theorem chk_more {M : Mem} {C : List Bool} (hm : More C M) (h : chk M = 0) : chk (withC M C) = 0 := by
  obtain ⟨h1, h2⟩ := chk_zero h
  have h3 : cardsM (withC M C) = true := by
    unfold cardsM at h2 ⊢
    have e : objsAll (withC M C) = objsAll M := rfl
    rw [e, List.all_eq_true]
    rw [List.all_eq_true] at h2
    intro x hx
    have := h2 x hx
    unfold cardsO at this ⊢
    cases hr : rawB (hKind x.w) with
    | true => rfl
    | false =>
      rw [hr, Bool.false_or] at this
      rw [Bool.false_or]
      unfold cardsK at this ⊢
      rw [List.all_eq_true] at this ⊢
      exact fun i hi => crd_more hm x i (this i hi)
  unfold chk
  rw [good_more hm.1, h1, h3]; rfl
theorem withC_ok {M : Mem} (h : M.Ok) {C : List Bool} (hl : C.length = M.cards.length) : (withC M C).Ok :=
  ⟨h.half, h.old, h.card, h.used, h.top, h.oldTop, h.W, h.roots, h.weak, h.ids, h.lenW, h.lenR, h.lenK, h.lenI, by unfold withC; simp only; rw [hl]; exact h.lenC⟩
theorem mem_in {M : Mem} {x : Ob} (hs : Shp M) (hx : x ∈ objsAll M) : x.a + 1 + x.n ≤ M.W.length ∧ x.w = wat M.W x.a ∧ isHd x.w = true := by
  have h1 := hs.h1; have h2 := hs.t2; have h3 := hs.p2; have h4 := hs.w; have h5 := hs.base; have h6 := hs.o2; have h7 := hs.t1; have h8 := hs.p1
  rcases obM_of hx with h | h
  · have := h.to; exact ⟨by omega, h.w, h.hd⟩
  · have := h.to; exact ⟨by omega, h.w, h.hd⟩
theorem len_small {M : Mem} (hs : Shp M) : M.W.length ≤ 196608 := by have h1 := hs.w; have h2 := hs.h2; have h3 := hs.o2; omega
/-- A field of an object is found. -/
theorem found_at {M : Mem} (hok : M.Ok) (h : chk M = 0) {x : Ob} (hx : x ∈ objsAll M) {j : Nat} (hj : j < x.n) : Found M (addrW (x.a : Int)) (j : Int) x j := by
  obtain ⟨hs, -⟩ := good_parts (chk_zero h).1
  obtain ⟨m1, m2, m3⟩ := mem_in hs hx
  have hl := len_small hs
  have h00 := (hd_in x.w (by rw [m2]; exact (wat_in hok _).1)).2.2.2.2.2.2
  have hn : (x.n : Int) = hSize x.w := by unfold Ob.n; omega
  have hpl : placeW (addrW (x.a : Int)) = (x.a : Int) := placeW_addrW _ ⟨by omega, by omega⟩
  refine ⟨h, (addrW_wd _).2.2, ?_, hx, hpl, ?_, rfl, hj, hn, ((isHd_iff x.w).1 m3).2.2, m2, by omega⟩
  · unfold addrW; omega
  · exact List.contains_iff_mem.2 (List.mem_map_of_mem (f := fun o : Ob => (o.a : Int)) hx)
theorem getD_set_true (C : List Bool) (i j : Nat) (h : C.getD j false = true) : (C.set i true).getD j false = true := by
  rw [List.getD_eq_getElem?_getD] at h ⊢
  rw [List.getElem?_set]
  split
  · rename_i e; subst e
    split
    · rfl
    · rename_i hl
      rw [List.getElem?_eq_none (by omega)] at h
      simp at h
  · exact h
/-- A word is stored where it is. -/
theorem store_same {M : Mem} {C : List Bool} (hm : More C M) (j : Nat) (hj : j < M.W.length) : ∃ D, storeM (withC M C) j (wat M.W j) = withC M D ∧ More D M := by
  have e : M.W.set j (wat M.W j) = M.W := by
    unfold wat
    rw [List.getD_eq_getElem?_getD, List.getElem?_eq_getElem hj]
    exact List.set_getElem_self hj
  have e2 : setM (withC M C) j (wat M.W j) = withC M C := by
    unfold setM withC
    simp only
    rw [e]
  unfold storeM
  rw [e2]
  split
  · exact ⟨C.set (cardI (withC M C) (j : Int)) true, rfl, by rw [List.length_set]; exact hm.1, fun i hi => getD_set_true C _ i (hm.2 i hi)⟩
  · exact ⟨C, rfl, hm⟩
theorem found_n {M : Mem} (hok : M.Ok) (hs : Shp M) {x : Ob} (hx : x ∈ objsAll M) : (x.n : Int) = hSize x.w := by
  obtain ⟨_, m2, _⟩ := mem_in hs hx
  have h00 := (hd_in x.w (by rw [m2]; exact (wat_in hok _).1)).2.2.2.2.2.2
  unfold Ob.n; omega
theorem fld_ok {M : Mem} (h : (objsAll M).all (okFld M (startsM M)) = true) {x : Ob} (hx : x ∈ objsAll M) (hr : rawB (hKind x.w) = false) (j : Nat) (hj : j < x.n) : fldB (startsM M) (wat M.W (x.a + 1 + j)) = true := by
  rw [List.all_eq_true] at h
  have := h x hx
  unfold okFld at this
  rw [hr, Bool.false_or] at this
  exact fld_of this j hj
theorem ob_cells {W : World} {la : Option Addr} {l : List Ob} (h : RSl W la (ocells l)) {k : Nat} (hk : k < l.length) :
    ∃ ob oo, la = some ⟨ob, oo, none⟩ ∧ W.cell? ⟨ob, oo + k * 4, none⟩ = some (.int .i64 (l[k].a : Int)) ∧ W.cell? ⟨ob, oo + k * 4 + 1, none⟩ = some (.int .i64 (hKind l[k].w)) ∧ W.cell? ⟨ob, oo + k * 4 + 3, none⟩ = some (.int .i64 (hSize l[k].w)) := by
  obtain ⟨p0, p1, p2, p3⟩ := ocells_at l k hk
  obtain ⟨ob, oo, rfl, c0⟩ := h _ _ p0
  have c1 := h.at_ p1
  have c3 := h.at_ p3
  rw [← Nat.add_assoc] at c1 c3
  exact ⟨ob, oo, rfl, c0, c1, c3⟩
theorem not_own {w w' : World} {B bx : Nat} {tI : TypeId} {M : Mem} {S : Sls} (h : OMem w B bx tI M S) {la : Option Addr} {lc : Nat} {l : List Ob} (hl : OwnObjs w' w.heap.size la lc l) : ∀ y, la = some y → ¬ OwnL bx S y.block := fun y hy hk => by
  have h1 := (h.ownL hk).2
  rcases hl.2 with ⟨h2, _⟩ | ⟨g, cap, cur, h2, hg, _⟩
  · injection h2 with h2
    rw [hy] at h2; cases h2
  · injection h2 with h2
    rw [hy] at h2
    injection h2 with h2
    rw [h2] at h1
    simp only at h1
    omega
end Go.Proofs.YtecbbbaafcoliaaDoor
/- The walk of Memory.Alloc where it gives an object; whatever it answers. -/
namespace Go.Proofs.YtecbbbaafcoliaaDoor
open Go.RowKit
set_option linter.unusedVariables false
set_option linter.unusedSimpArgs false

theorem sizeF0 : (Tryd.prog.info? 30).map (·.size) = some 1 := by kernel_rfl
theorem run_tail {P : Program} {t e : TypeId} (ht : P.underlying t = some (.slice e)) (hz : ∀ w, (sizeOf e).run P w = .ok 1 w) (g len cap i : Nat) (x : Int) (hx : x = (i : Int)) (hi : i ≤ len) (hc : len ≤ cap) :
    ∃ A C, (∀ w' : World, (Instr.slice t (.slice (some ⟨g, 0, none⟩) len cap) (some (.int .i64 x)) none none).run P w' = .ok (.slice A (len - i) C) w') ∧ (i < cap → A = some ⟨g, i, none⟩) := by
  have he : P.elem t = e := by simp [Program.elem, ht]
  have ht' : P.underlying t = some (.slice (P.elem t)) := by rw [he]; exact ht
  refine ⟨if cap = i then some ⟨g, 0, none⟩ else some ⟨g, i, none⟩, cap - i, fun w' => ?_, fun h => by rw [if_neg (by omega)]⟩
  subst hx
  rw [run_slice_l w' t (some ⟨g, 0, none⟩) len cap ht' .i64 (i : Int) (by omega) (by omega), he, hz]
  simp [Result.andThen, sliced, Addr.add]
  split
  · rfl
  · split
    · rename_i h0; subst h0; simp
    · rfl
theorem wcells_splice (l fs : List Int) (off : Nat) : wcells (splice l off fs) = splice (wcells l) off (wcells fs) := by
  simp [wcells, splice, List.map_take, List.map_drop]
section
variable {w5 w6 : World} {B b : Nat} {M : Mem} {S : Sls} {kind size : Int} {g : Nat}
theorem fresh_n3 (h : OMem w5 B b 72 (freshM M kind size) S) (hg : S.W.1 = some ⟨g, 0, none⟩) : w5.cell? ⟨b, 3, none⟩ = some (.slice (some ⟨g, 0, none⟩) M.W.length S.W.2) := by
  have := (h.fld ⟨3, 30, 1, S.W.1, (freshM M kind size).W.length, S.W.2, wcells (freshM M kind size).W⟩ (by simp [memFlds])).1
  simp only [Fld.val, hg, freshM, List.length_set] at this
  exact this
theorem fresh_cur (h : OMem w5 B b 72 (freshM M kind size) S) (hg : S.W.1 = some ⟨g, 0, none⟩) {at_ : Nat} (hl : at_ < M.W.length) :
    ∃ cur : List Value, w5.heap[g]? = some (.cells cur.toArray 30 (0, 0)) ∧ M.W.length ≤ cur.length := by
  have hf := h.fW
  have e : (freshM M kind size).W.length = M.W.length := by simp [freshM]
  rw [e] at hf
  obtain ⟨g', hg', -, -, -, hc, cur, hh, hl', -⟩ := own_block hf (by omega)
  rw [hg] at hg'
  injection hg' with hg'
  injection hg' with hg'
  subst hg'
  exact ⟨cur, hh, by omega⟩
/-- What Alloc leaves where it gives an object. -/
def AYes (w : World) (B b : Nat) (M : Mem) (S : Sls) (kind : Int) (fs : List Int) (e : Ending) (w' : World) : Prop :=
  e = .returned (.tuple #[.int .u64 (addrW ((M.base + M.top.toNat : Nat) : Int)), .nilIface]) ∧ OMem w' B b 72 (allocM M kind fs) S ∧ Keep (OwnL b S) w w'
theorem alloc_fin {w : World} {fs : List Int} (h : OMem w5 B b 72 (freshM M kind (fs.length : Int)) S) (hk : Keep (OwnL b S) w w5) (hg : S.W.1 = some ⟨g, 0, none⟩) {at_ : Nat} (ha : M.base + M.top.toNat = at_) {cur : List Value}
    (hc : w5.heap[g]? = some (.cells cur.toArray 30 (0, 0)) ∧ M.W.length ≤ cur.length) (hb : But g w5 w6) (hw : w6.heap[g]? = some (.cells (splice cur (at_ + 1) (wcells fs)).toArray 30 (0, 0))) (hf : at_ + 1 + fs.length ≤ M.W.length) :
    AYes w B b M S kind fs (.returned (.tuple #[.int .u64 (addrW (at_ : Int)), .nilIface])) w6 := by
  have e : (freshM M kind (fs.length : Int)).W.length = M.W.length := by simp [freshM]
  have h1 := OMem.rowW h hg hb (splice (freshM M kind (fs.length : Int)).W (at_ + 1) fs) (by rw [length_splice]; omega)
    (by rw [wcells_splice]; exact own_splice h.fW hg hc.1 (at_ + 1) (wcells fs) (by rw [e]; simpa [wcells] using hf) hw)
  refine ⟨by rw [ha], ?_, hk.trans ((Keep.of_but hb).sub fun k hk => by subst hk; exact Or.inr (Or.inl hg))⟩
  unfold freshM at h1
  rw [ha] at h1
  unfold allocM
  rw [ha]
  exact h1
end
set_option maxRecDepth 100000 in
set_option maxHeartbeats 8000000 in
theorem alloc_yes (B b : Nat) (M : Mem) (S : Sls) (E : Nat → Addr) (kind : Int) (fa : Option Addr) (fs : List Int) (fc : Nat) (w : World) (hO : OMem w B b 72 M S) (hok : M.Ok) (hE : G4 E w) (h : chk M = 0)
    (h1 : ¬ kind < 0) (h2 : ¬ 255 < kind) (h3 : ¬ (4096 : Int) < (fs.length : Int)) (hf : rawB kind = true ∨ fieldsB (startsM M) fs = true) (hR : RSl w fa (wcells fs)) (hfb : ∀ x ∈ fs, 0 ≤ x ∧ x ≤ 18446744073709551615)
    (hno : ∀ x, fa = some x → ¬ OwnL b S x.block) (hfull : ¬ M.half < M.top + 1 + (fs.length : Int)) :
    Calls Tryd.prog 17 #[.pointer (some ⟨b, 0, none⟩), .int .i64 kind, .slice fa fs.length fc] w (AYes w B b M S kind fs) := by
  obtain ⟨hs, ho, -⟩ := good_parts (chk_zero h).1
  have HC : Hid (errC E (chk M) = .nilIface) := by rw [Hid, h]; rfl
  have hM := hO.mem hok
  have s3 := hs.t1
  have s4 := hs.t2
  have s2 := hs.h2
  have s7 := hs.o1
  have s8 := hs.w
  obtain ⟨hb, b0, b1⟩ := hs.base
  have e1 : IntKind.i64.wrap (M.top + 1) = M.top + 1 := IntWalk.i64_in _ (by omega)
  have e2 : IntKind.i64.wrap (M.top + 1 + (fs.length : Int)) = M.top + 1 + (fs.length : Int) := IntWalk.i64_in _ (by omega)
  obtain ⟨at_, hat⟩ : ∃ a : Nat, a = M.base + M.top.toNat := ⟨_, rfl⟩
  have hlen : at_ < M.W.length := by omega
  have hfit : at_ + 1 + fs.length ≤ M.W.length := by omega
  obtain ⟨g, hg, hgB, hgl, hgf, hgc, -⟩ := own_block hO.fW (by omega)
  obtain ⟨A, C, hsl, hA⟩ := run_tail (P := Tryd.prog) undU64 sizeU64 g M.W.length S.W.2 (at_ + 1) ((at_ : Int) + 1) (by omega) (by omega) hgc
  have e3 : IntKind.i64.wrap ((at_ : Int) + 1) = (at_ : Int) + 1 := IntWalk.i64_in _ (by omega)
  have HPOS : Hid (∀ W : World, RSl W fa (wcells fs) → 0 < (wcells fs).length → A = some ⟨g, at_ + 1, none⟩ ∧ ∃ ad, fa = some ad ∧ ∀ j v, (wcells fs)[j]? = some v → W.cell? (ad.add j) = some v) := fun W hW hp => by
    have hl : (wcells fs).length = fs.length := by simp [wcells]
    refine ⟨hA (by omega), ?_⟩
    obtain ⟨b', off, hfa, -⟩ := hW 0 _ (List.getElem?_eq_getElem hp)
    refine ⟨_, hfa, fun j v hv => ?_⟩
    obtain ⟨b2, off2, hfa2, hcell⟩ := hW j v hv
    rw [hfa] at hfa2
    injection hfa2 with hfa2
    injection hfa2 with q1 q2
    subst q1 q2
    by_cases e : j = 0
    · subst e; simpa [Addr.add] using hcell
    · simpa [Addr.add, e] using hcell
  have HMIN : Hid ((wcells fs).length = Nat.min fs.length (M.W.length - (at_ + 1))) := by
    have hl : (wcells fs).length = fs.length := by simp [wcells]
    unfold Hid; rw [hl]; exact (Nat.min_eq_left (by omega)).symm
  have HFIT : Hid (∀ cur : List Value, M.W.length ≤ cur.length → at_ + 1 + (wcells fs).length ≤ cur.length) := fun cur hc => by
    have hl : (wcells fs).length = fs.length := by simp [wcells]
    omega
  have HFITN := Lib.hid hfit
  have HATN : Hid (M.base + M.top.toNat = at_) := hat.symm
  have HAT : Hid (((M.base + M.top.toNat : Nat) : Int) = (at_ : Int)) := by unfold Hid; rw [hat]
  have HM := Lib.hid hM
  have HO := Lib.hid hO
  have HOK := Lib.hid hok
  have HG := Lib.hid hg
  have HE := Lib.hid hE
  have HS := Lib.hid hs
  have HOB := Lib.hid (objs_true ho)
  have HFR := Lib.hid hR
  have HFB := Lib.hid hfb
  have HNO := Lib.hid hno
  have HFL : Hid (fs.length ≤ 9223372036854775807) := by unfold Hid; omega
  clear hM hE h hs ho hR hfb hO hok hg hno hat hA hgf hb s8 hfit
  cases hr : rawB kind with
  | true =>
    have HR := Lib.hid hr
    clear hf hr
    go_enter Tryd.func17, Tryd.ntmps17
    go_wp2_with (first
      | (go_at_call 24; refine (check_c b 0 M S E w HM.out HE.out.toG3).mono ?_; rintro e w1 ⟨he, hq⟩; rw [HC.out] at he; subst he; have HX1 := Lib.hid hq; clear hq)
      | (go_at_call 39; refine (starts_any b 0 M S HS.out (E 1) (E 2) _ (HM.out.ext HX1.out) (HE.out.ext HX1.out).bound (HE.out.ext HX1.out).shape).mono ?_; rintro e w2 ⟨bm, rfl, hsm, hq⟩; have HX2 : Hid (Ext w w2) := Ext.trans_ HX1.out hq; have HSM := Lib.hid (hsm HOB.out); clear hq hsm)
      | (go_at_call 40; refine (raw_any _ _).mono ?_; rintro e w' ⟨he, rfl⟩; rw [HR.out] at he; subst he))
    refine named_world' (fun W3 hW3 => ?_)
    have hE3 : Ext w W3 := by rw [hW3]; (repeat (first | exact HX2.out | (refine Ext.set_ ?_ (by have := HX2.out.size; simp; omega) _) | (refine Ext.alloc_ ?_ _) | (refine Ext.drewN_ ?_ _)))
    have d5 := (HM.out.ext hE3).top
    have d0 := (HM.out.ext hE3).half
    have HX3 := Lib.hid hE3
    clear hW3 hE3
    go_region
    go_wp2_with (first
      | (go_at_call 44; refine (fresh_obj B b M S _ (OM.ext HO.out (by (repeat (first | exact HX3.out | (refine Ext.drew_ ?_) | (refine Ext.drewN_ ?_ _))))) HOK.out HS.out kind (fs.length : Int) ⟨by omega, by omega⟩ ⟨by omega, by omega⟩ (by omega)).mono ?_; rintro e w5 ⟨he, hq1, hq2⟩; rw [HAT.out] at he; subst he; have HK5 : Hid (Keep (OwnL b S) w w5) := Keep.trans (Keep.of_ext (by (repeat (first | exact HX3.out | (refine Ext.drew_ ?_) | (refine Ext.drewN_ ?_ _))))) hq2; have HO5 := Lib.hid hq1; clear hq1 hq2; have n3 := fresh_n3 HO5.out HG.out; obtain ⟨cur, hcur⟩ := fresh_cur HO5.out HG.out hlen; have HCUR := Lib.hid hcur; obtain ⟨w6, hrun, hg6, hb6⟩ := run_copy_but (P := Tryd.prog) 35 35 3 30 undU64 sizeF0 A fa (M.W.length - (at_ + 1)) C fs.length fc g (at_ + 1) cur 30 hcur.1 (wcells fs) HMIN.out (HPOS.out w5 (HFR.out.keep HK5.out HNO.out)) (HFIT.out cur hcur.2) (wcells_one fs); have HG6 := Lib.hid hg6; have HB6 := Lib.hid hb6; clear hcur hg6 hb6)
      | (go_at_call 45; refine (addr_any _ _).mono ?_; rintro e w' ⟨rfl, rfl⟩))
    go_ret2
    exact alloc_fin HO5.out HK5.out HG.out HATN.out HCUR.out HB6.out HG6.out (HFITN.out)
  | false =>
    have hf' : fieldsB (startsM M) fs = true := by rcases hf with q | q; (rw [hr] at q; cases q); exact q
    have HANY := Lib.hid (fields_any _ _ hf')
    have HR := Lib.hid hr
    clear hf hr hf'
    go_enter Tryd.func17, Tryd.ntmps17
    go_wp2_with (first
      | (go_at_call 24; refine (check_c b 0 M S E w HM.out HE.out.toG3).mono ?_; rintro e w1 ⟨he, hq⟩; rw [HC.out] at he; subst he; have HX1 := Lib.hid hq; clear hq)
      | (go_at_call 39; refine (starts_any b 0 M S HS.out (E 1) (E 2) _ (HM.out.ext HX1.out) (HE.out.ext HX1.out).bound (HE.out.ext HX1.out).shape).mono ?_; rintro e w2 ⟨bm, rfl, hsm, hq⟩; have HX2 : Hid (Ext w w2) := Ext.trans_ HX1.out hq; have HSM := Lib.hid (hsm HOB.out); clear hq hsm)
      | (go_at_call 40; refine (raw_any _ _).mono ?_; rintro e w' ⟨he, rfl⟩; rw [HR.out] at he; subst he)
      | (go_at_call 41; refine (containsF_walk (fun x => !fldB (startsM M) x) _ _ a1_enters fa fc fs _ HFL.out ?_ HFB.out ?_).mono ?_; (exact HFR.out.ext (by (repeat (first | exact HX2.out | (refine Ext.set_ ?_ (by have := HX2.out.size; simp; omega) _) | (refine Ext.alloc_ ?_ _) | (refine Ext.drewN_ ?_ _))))); (intro W x hx h0 h1; refine (a1_any x h0 h1 bm w2.heap.size (startsM M) W (HSM.out.ext (Ext.trans_ (by repeat (first | exact Ext.refl _ | (refine Ext.set_ ?_ (by simp) _) | (refine Ext.alloc_ ?_ _))) hx)) (hx.cell_ (by simp [go_sem]))).mono ?_; rintro e w' ⟨rfl, rfl⟩; exact ⟨rfl, hx⟩); rintro e w3 ⟨he, hq⟩; rw [HANY.out] at he; subst he; have HX3 : Hid (Ext w w3) := Ext.trans_ (by (repeat (first | exact HX2.out | (refine Ext.set_ ?_ (by have := HX2.out.size; simp; omega) _) | (refine Ext.alloc_ ?_ _) | (refine Ext.drewN_ ?_ _)))) hq; clear hq))
    have d5 := (HM.out.ext HX3.out).top
    have d0 := (HM.out.ext HX3.out).half
    go_region
    go_wp2_with (first
      | (go_at_call 44; refine (fresh_obj B b M S _ (OM.ext HO.out (by (repeat (first | exact HX3.out | (refine Ext.drew_ ?_) | (refine Ext.drewN_ ?_ _))))) HOK.out HS.out kind (fs.length : Int) ⟨by omega, by omega⟩ ⟨by omega, by omega⟩ (by omega)).mono ?_; rintro e w5 ⟨he, hq1, hq2⟩; rw [HAT.out] at he; subst he; have HK5 : Hid (Keep (OwnL b S) w w5) := Keep.trans (Keep.of_ext (by (repeat (first | exact HX3.out | (refine Ext.drew_ ?_) | (refine Ext.drewN_ ?_ _))))) hq2; have HO5 := Lib.hid hq1; clear hq1 hq2; have n3 := fresh_n3 HO5.out HG.out; obtain ⟨cur, hcur⟩ := fresh_cur HO5.out HG.out hlen; have HCUR := Lib.hid hcur; obtain ⟨w6, hrun, hg6, hb6⟩ := run_copy_but (P := Tryd.prog) 35 35 3 30 undU64 sizeF0 A fa (M.W.length - (at_ + 1)) C fs.length fc g (at_ + 1) cur 30 hcur.1 (wcells fs) HMIN.out (HPOS.out w5 (HFR.out.keep HK5.out HNO.out)) (HFIT.out cur hcur.2) (wcells_one fs); have HG6 := Lib.hid hg6; have HB6 := Lib.hid hb6; clear hcur hg6 hb6)
      | (go_at_call 45; refine (addr_any _ _).mono ?_; rintro e w' ⟨rfl, rfl⟩))
    go_ret2
    exact alloc_fin HO5.out HK5.out HG.out HATN.out HCUR.out HB6.out HG6.out (HFITN.out)
end Go.Proofs.YtecbbbaafcoliaaDoor
