/- The walk of the document's answer for the objects of a part. -/
import Derived.Test.YtbbiaepgenbloaaGreatDoorJHa06
import Derived.Test.YtbbiaepgenbloaaGreatDoorJHa04
import Derived.Deep.AppendLies
import Derived.Deep.RegionHeld3
import Derived.IntWalk
namespace Go.Proofs.YtbbiaepgenbloaaGreatDoor
open Go.RowKit
set_option linter.unusedVariables false
set_option linter.unusedSimpArgs false

def markB (o : Ob) : Bool := hMark o.w == 0
/-- The objects of a part, as the document has them. -/
def partK (W : List Int) (a to : Nat) : List Ob × Bool := if ((part W a to).2 && (part W a to).1.all markB) = true then ((part W a to).1, true) else ([], false)
theorem ocells_snoc (v : List Ob) (x : Ob) : ocells (v ++ [x]) = ocells v ++ [Value.int .i64 (x.a : Int), Value.int .i64 (hKind x.w), Value.int .i64 (hAge x.w), Value.int .i64 (hSize x.w)] := by simp [ocells]
theorem rsl_block {w : World} {B : Nat} {cs : List Value} {t : TypeId} {fr : Nat × Nat} (hb : w.heap[B]? = some (.cells cs.toArray t fr)) : RSl w (some ⟨B, 0, none⟩) cs := fun j u hu => ⟨B, 0, rfl, by
  rw [Nat.zero_add, cell_of_row w B j _ t fr hb]; simpa using hu⟩
theorem part_len (W : List Int) : ∀ f a to, (objs W to f a).1.length ≤ f
  | 0, _, _ => by simp [objs]
  | f + 1, a, to => by
    unfold objs
    split
    · split
      · have := part_len W f (a + 1 + (hSize (wat W a)).toNat) to
        simp; exact this
      · simp
    · simp
def kN (M : Mem) : List Ob × Bool := partK M.W M.base (M.base + M.top.toNat)
def kO (M : Mem) : List Ob × Bool := partK M.W (2 * M.half).toNat ((2 * M.half).toNat + M.oldTop.toNat)
theorem partK_len (W : List Int) (a to : Nat) : (partK W a to).1.length ≤ to - a := by
  unfold partK
  split
  · exact part_len W _ _ _
  · simp
theorem ocells_app (u v : List Ob) : ocells (u ++ v) = ocells u ++ ocells v := by simp [ocells]
theorem ocells_one (l : List Ob) : ∀ u ∈ ocells l, u.oneCell' = true := fun u hu => by
  obtain ⟨o, _, ho⟩ := List.mem_flatMap.1 hu
  simp at ho
  rcases ho with rfl | rfl | rfl | rfl <;> rfl
theorem kAll_ok {M : Mem} (h : ((kN M).2 && (kO M).2) = true) : (kN M).1 ++ (kO M).1 = objsAll M ∧ (partN M).2 = true ∧ (partO M).2 = true ∧ (objsAll M).all markB = true := by
  have key : ∀ a to, (partK M.W a to).2 = true → (partK M.W a to).1 = (part M.W a to).1 ∧ (part M.W a to).2 = true ∧ (part M.W a to).1.all markB = true := fun a to h => by
    unfold partK at h ⊢
    split at h
    · rename_i h1
      rw [if_pos h1]
      simp only [Bool.and_eq_true] at h1
      exact ⟨rfl, h1.1, h1.2⟩
    · cases h
  simp only [Bool.and_eq_true] at h
  obtain ⟨a1, a2, a3⟩ := key _ _ h.1
  obtain ⟨b1, b2, b3⟩ := key _ _ h.2
  refine ⟨?_, a2, b2, ?_⟩
  · unfold objsAll partN partO kN kO; rw [a1, b1]
  · unfold objsAll partN partO; rw [List.all_append, a3, b3]; rfl
theorem kAll_bad {M : Mem} (h : ((kN M).2 && (kO M).2) = false) : objsB M (okHd M) = false := by
  have key : ∀ a to, (partK M.W a to).2 = ((part M.W a to).2 && (part M.W a to).1.all markB) := fun a to => by
    unfold partK
    split
    · rename_i h1; rw [h1]
    · rename_i h1; simpa using h1
  unfold kN kO at h
  rw [key, key] at h
  cases hb : objsB M (okHd M) with
  | false => rfl
  | true =>
    simp only [objsB, Bool.and_eq_true] at hb
    have hm : ∀ l : List Ob, l.all (okHd M) = true → l.all markB = true := fun l hl => by
      rw [List.all_eq_true] at hl ⊢
      intro x hx
      have := hl x hx
      simp only [okHd, Bool.and_eq_true] at this
      exact this.1
    have h1 : (partN M).2 = true := hb.1.1
    have h2 : (partO M).2 = true := hb.2.1
    have h3 := hm _ hb.1.2
    have h4 := hm _ hb.2.2
    unfold partN at h1 h3
    unfold partO at h2 h4
    rw [h1, h2, h3, h4] at h
    cases h
/-- What the document asks of an object. -/
def ageB (M : Mem) (x : Ob) : Bool := !(oldB M (x.a : Int) && (hAge x.w != 0))
def okK (M : Mem) (x : Ob) : Bool := ageB M x && okFld M (startsM M) x
/-- What the document asks of a number. -/
def twoB (y x : Int × Int) : Bool := (y.1 == x.1) || (y.2 == x.2)
def idK (st : List Int) (pre : List (Int × Int)) (x : Int × Int) : Bool := (decide (0 ≤ ptsW x.1) && inSt st (ptsW x.1) && decide (1 ≤ x.2)) && !(pre.any fun y => twoB y x)
theorem pts_place (st : List Int) (a : Int) (h0 : 0 ≤ a) (hlt : ∀ s ∈ st, 0 ≤ s ∧ s < 1099511627776) : (decide (0 ≤ ptsW a) && inSt st (ptsW a)) = ((kindW a == 0) && (a != 0) && inSt st (placeW a)) := by
  unfold ptsW
  by_cases h1 : kindW a = 0
  · by_cases h2 : a = 0
    · rw [if_neg (by simp [h2])]; simp [h2]
    · by_cases h3 : a / 4 ≤ 1099511627776
      · rw [if_pos ⟨h1, h2, h3⟩]
        have h4 : 0 ≤ placeW a := by unfold placeW; unfold kindW at h1; omega
        simp [h1, h2, h4]
      · rw [if_neg (fun h => h3 h.2.2)]
        have h5 : inSt st (placeW a) = false := by
          cases hq : inSt st (placeW a) with
          | false => rfl
          | true =>
            have := hlt _ (List.contains_iff_mem.1 hq)
            unfold placeW at this
            omega
        simp [h5]
  · rw [if_neg (fun h => h1 h.1)]
    have : (kindW a == 0) = false := by simpa using h1
    simp [this]
theorem beq_swap (a b : Int) : (a == b) = (b == a) := by
  by_cases h : a = b
  · subst h; rfl
  · rw [beq_eq_false_iff_ne.2 h, beq_eq_false_iff_ne.2 (Ne.symm h)]
theorem idK_eq (st : List Int) (pre : List (Int × Int)) (x : Int × Int) (h0 : 0 ≤ x.1) (hlt : ∀ s ∈ st, 0 ≤ s ∧ s < 1099511627776) : idK st pre x = idOK st pre x := by
  unfold idK idOK
  rw [pts_place st x.1 h0 hlt]
  have e : (pre.any fun y => twoB y x) = (inSt (pre.map (·.1)) x.1 || inSt (pre.map (·.2)) x.2) := by
    induction pre with
    | nil => rfl
    | cons y pre ih =>
      simp only [List.any_cons, List.map_cons, inSt, List.contains_cons, twoB] at ih ⊢
      rw [ih, beq_swap x.1 y.1, beq_swap x.2 y.2]
      cases (y.1 == x.1) <;> cases (y.2 == x.2) <;> simp
  rw [e]
  have e2 : decide (1 ≤ x.2) = !decide (x.2 < 1) := by
    rcases Int.lt_or_le x.2 1 with h | h
    · rw [decide_eq_true h, decide_eq_false (by omega)]; rfl
    · rw [decide_eq_false (by omega : ¬ x.2 < 1), decide_eq_true h]; rfl
  rw [e2]
  by_cases h1 : kindW x.1 = 0
  · have b1 : (kindW x.1 == 0) = true := beq_iff_eq.2 h1
    have b2 : (kindW x.1 != 0) = false := by rw [bne, b1]; rfl
    by_cases h2 : x.1 = 0
    · have b3 : (x.1 == 0) = true := beq_iff_eq.2 h2
      have b4 : (x.1 != 0) = false := by rw [bne, b3]; rfl
      rw [b1, b2, b3, b4]; simp
    · have b3 : (x.1 == 0) = false := beq_eq_false_iff_ne.2 h2
      have b4 : (x.1 != 0) = true := by rw [bne, b3]; rfl
      have e3 : fldB st x.1 = inSt st (placeW x.1) := by simp [fldB, h1, h2]
      rw [e3, b1, b2, b3, b4]
      cases inSt st (placeW x.1) <;> cases decide (x.2 < 1) <;> cases inSt (pre.map (·.1)) x.1 <;> cases inSt (pre.map (·.2)) x.2 <;> rfl
  · have b1 : (kindW x.1 == 0) = false := beq_eq_false_iff_ne.2 h1
    have b2 : (kindW x.1 != 0) = true := by rw [bne, b1]; rfl
    rw [b1, b2]; simp
theorem idsK (st : List Int) (hlt : ∀ s ∈ st, 0 ≤ s ∧ s < 1099511627776) : ∀ (pre l : List (Int × Int)), (∀ x ∈ l, 0 ≤ x.1) → (idsB st pre l = true ↔ ∀ k (hk : k < l.length), idK st (pre ++ l.take k) l[k] = true)
  | pre, [], _ => by simp [idsB]
  | pre, x :: l, h => by
    rw [idsB, Bool.and_eq_true, idsK st hlt (pre ++ [x]) l (fun y hy => h y (by simp [hy])), ← idK_eq st pre x (h x (by simp)) hlt]
    constructor
    · rintro ⟨h1, h2⟩ k hk
      cases k with
      | zero => simpa using h1
      | succ k => simpa using h2 k (by simpa using hk)
    · intro h1
      refine ⟨?_, fun k hk => ?_⟩
      · have := h1 0 (by simp)
        rw [List.take_zero, List.append_nil] at this
        exact this
      · have := h1 (k + 1) (by simpa using hk)
        rw [List.take_succ_cons, List.append_cons] at this
        exact this
theorem starts_in (M : Mem) (hs : Shp M) : ∀ s ∈ startsM M, 0 ≤ s ∧ s < 1099511627776 := fun s h => by
  obtain ⟨o, ho, rfl⟩ := List.mem_map.1 h
  have h1 := hs.h1; have h2 := hs.t2; have h3 := hs.p2; have h4 := hs.w; have h5 := hs.base; have h6 := hs.o2; have h7 := hs.t1; have h8 := hs.p1; have h9 := hs.h2
  rcases obM_of ho with g | g
  · have := g.to; omega
  · have := g.to; omega
/-- Behind the fields' test a young pointer is a point below the old space. -/
theorem young_pts (M : Mem) (hs : Shp M) (a : Int) (h0 : 0 ≤ a) (hf : fldB (startsM M) a = true) : youngB M a = (decide (0 ≤ ptsW a) && decide (ptsW a < 2 * M.half)) := by
  unfold youngB oldB ptsW
  by_cases h1 : kindW a = 0
  · by_cases h2 : a = 0
    · rw [if_neg (by simp [h2])]; simp [h2]
    · have h3 : inSt (startsM M) (placeW a) = true := by simpa [fldB, h1, h2] using hf
      have h4 := starts_in M hs _ (List.contains_iff_mem.1 h3)
      rw [if_pos ⟨h1, h2, by unfold placeW at h4; omega⟩]
      have h5 : (kindW a == 0) = true := by simpa using h1
      have h6 : (a != 0) = true := by simpa using h2
      rw [h5, h6, decide_eq_true h4.1]
      by_cases h7 : 2 * M.half ≤ placeW a
      · rw [decide_eq_true h7, decide_eq_false (by omega)]; rfl
      · rw [decide_eq_false h7, decide_eq_true (by omega)]; rfl
  · rw [if_neg (fun h => h1 h.1)]
    have : (kindW a == 0) = false := by simpa using h1
    simp [this]
/-- THE CHECK, by the document's parts. -/
theorem chk_of {M : Mem} (hs : shapeB M = true) (h : ((kN M).2 && (kO M).2) = true) (hr : fieldsB (startsM M) M.roots = true) (hk : fieldsB (startsM M) M.weak = true) :
    chk M = if (objsAll M).all (okK M) = true then (if idsB (startsM M) [] M.ids = true then (if cardsM M = true then 0 else 5) else 3) else 3 := by
  obtain ⟨e1, e2, e3, e4⟩ := kAll_ok h
  have e5 : objsB M (okHd M) = (objsAll M).all (okHd M) := by unfold objsB objsAll; rw [e2, e3, List.all_append]; simp
  have e6 : ((objsAll M).all (okHd M) && (objsAll M).all (okFld M (startsM M))) = (objsAll M).all (okK M) := by
    revert e4
    generalize objsAll M = l
    intro e4
    induction l with
    | nil => rfl
    | cons x l ih =>
      simp only [List.all_cons, Bool.and_eq_true] at e4
      rw [List.all_cons, List.all_cons, List.all_cons, ← ih e4.2]
      have : okHd M x = ageB M x := by
        have h1 := e4.1
        unfold markB at h1
        unfold okHd ageB
        rw [h1]
        by_cases h2 : hAge x.w = 0
        · simp [h2]
        · have : (hAge x.w == 0) = false := by simpa using h2
          have h3 : (hAge x.w != 0) = true := by simpa using h2
          simp [this, h3]
      rw [this]
      unfold okK
      cases ageB M x <;> cases okFld M (startsM M) x <;> cases List.all l (okHd M) <;> cases List.all l (okFld M (startsM M)) <;> rfl
  have e7 : goodB M = ((objsAll M).all (okK M) && idsB (startsM M) [] M.ids) := by
    unfold goodB
    rw [hs, e5, hr, hk, ← e6]
    cases List.all (objsAll M) (okHd M) <;> cases List.all (objsAll M) (okFld M (startsM M)) <;> rfl
  unfold chk
  rw [e7]
  cases List.all (objsAll M) (okK M) <;> cases idsB (startsM M) [] M.ids <;> cases cardsM M <;> rfl
/-- Where an object of a memory lies. -/
theorem ob_bounds {M : Mem} (hok : M.Ok) (hs : Shp M) {x : Ob} (h : ObM M x) : (x.a : Int) + 1 + hSize x.w ≤ (M.W.length : Int) ∧ 0 ≤ hSize x.w ∧ (x.n : Int) = hSize x.w ∧ (2 * M.half ≤ (x.a : Int) → (x.a : Int) + 1 + hSize x.w ≤ 2 * M.half + M.old) ∧ (M.W.length : Int) ≤ 196608 := by
  have h1 := hs.h1; have h2 := hs.t2; have h3 := hs.p2; have h4 := hs.w; have h5 := hs.base; have h6 := hs.o2; have h7 := hs.t1; have h8 := hs.p1; have h9 := hs.h2
  have hz : 0 ≤ hSize x.w := by
    have hd : x.w = wat M.W x.a := by rcases h with h | h <;> exact h.w
    rw [hd]
    exact (hd_in _ (wat_in hok x.a).1).2.2.2.2.2.2
  have hn : (x.n : Int) = hSize x.w := by unfold Ob.n; omega
  rcases h with h | h
  · have := h.to
    refine ⟨by omega, hz, hn, by omega, by omega⟩
  · have := h.to
    refine ⟨by omega, hz, hn, by omega, by omega⟩
/-- The card of a field of the old space. -/
theorem card_idx {M : Mem} (hs : Shp M) (a : Int) (ha : 2 * M.half ≤ a) (hb : a < 2 * M.half + M.old) :
    ∃ J : Nat, (a - 2 * M.half).tdiv M.card = (J : Int) ∧ J < M.cards.length ∧ cardB M a = M.cards.getD J false := by
  obtain ⟨i0, i1⟩ := hs.card a ha hb
  refine ⟨((a - 2 * M.half) / M.card).toNat, ?_, by omega, rfl⟩
  rw [Int.tdiv_eq_ediv_of_nonneg (by omega)]; omega
theorem all_take_false {p : Ob → Bool} {l : List Ob} {x : Ob} (hx : x ∈ l) (h : p x = false) : l.all p = false := by
  rw [List.all_eq_false]; exact ⟨x, hx, by rw [h]; simp⟩
theorem okFld_raw {M : Mem} {x : Ob} (h : rawB (hKind x.w) = true) : okFld M (startsM M) x = true := by unfold okFld; rw [h]; rfl
theorem cardsO_raw {M : Mem} {x : Ob} (h : rawB (hKind x.w) = true) : cardsO M x = true := by unfold cardsO; rw [h]; rfl
theorem cardsO_fld {M : Mem} {x : Ob} (h : rawB (hKind x.w) = false) : cardsO M x = cardsK M x x.n := by unfold cardsO; rw [h]; rfl
theorem cardsK_new {M : Mem} {x : Ob} (h : oldB M (x.a : Int) = false) (n : Nat) : cardsK M x n = true := by
  unfold cardsK; rw [List.all_eq_true]; intro i _; simp [crd, h]
theorem ageB_new {M : Mem} {x : Ob} (h : oldB M (x.a : Int) = false) : ageB M x = true := by unfold ageB; rw [h]; rfl
theorem ageB_0 {M : Mem} {x : Ob} (h : (hAge x.w != 0) = false) : ageB M x = true := by unfold ageB; rw [h]; simp
theorem fld_of {M : Mem} {x : Ob} (h : fieldsB (startsM M) (flds M x) = true) (j : Nat) (hj : j < x.n) : fldB (startsM M) (wat M.W (x.a + 1 + j)) = true := by
  unfold fieldsB at h
  rw [List.all_eq_true] at h
  exact h _ (List.mem_map.2 ⟨j, List.mem_range.2 hj, rfl⟩)
theorem idK_a {st : List Int} {pre : List (Int × Int)} {x : Int × Int} (h : ptsW x.1 < 0) : idK st pre x = false := by unfold idK; rw [decide_eq_false (by omega : ¬ 0 ≤ ptsW x.1)]; rfl
theorem idK_b {st : List Int} {pre : List (Int × Int)} {x : Int × Int} (h : inSt st (ptsW x.1) = false) : idK st pre x = false := by unfold idK; rw [h]; simp
theorem idK_c {st : List Int} {pre : List (Int × Int)} {x : Int × Int} (h : x.2 < 1) : idK st pre x = false := by unfold idK; rw [decide_eq_false (by omega : ¬ 1 ≤ x.2)]; simp
theorem idK_d {st : List Int} {pre : List (Int × Int)} {x y : Int × Int} (hy : y ∈ pre) (h : twoB y x = true) : idK st pre x = false := by
  have : (pre.any fun y => twoB y x) = true := List.any_eq_true.2 ⟨y, hy, h⟩
  unfold idK; rw [this]; simp
theorem idK_yes {st : List Int} {pre : List (Int × Int)} {x : Int × Int} (h1 : ¬ ptsW x.1 < 0) (h2 : inSt st (ptsW x.1) = true) (h3 : ¬ x.2 < 1) (h4 : ∀ j (hj : j < pre.length), twoB pre[j] x = false) : idK st pre x = true := by
  have : (pre.any fun y => twoB y x) = false := by
    rw [List.any_eq_false]
    intro y hy
    obtain ⟨j, hj, rfl⟩ := List.mem_iff_getElem.1 hy
    rw [h4 j hj]; simp
  unfold idK; rw [this, h2, decide_eq_true (by omega : 0 ≤ ptsW x.1), decide_eq_true (by omega : 1 ≤ x.2)]; rfl
theorem ids_bad {M : Mem} (hs : Shp M) (hok : M.Ok) (k : Nat) (hk : k < M.ids.length) (h : idK (startsM M) (M.ids.take k) M.ids[k] = false) : idsB (startsM M) [] M.ids = false := by
  cases hb : idsB (startsM M) [] M.ids with
  | false => rfl
  | true =>
    have := (idsK (startsM M) (starts_in M hs) [] M.ids (fun x hx => (hok.ids x hx).1.1)).1 hb k hk
    rw [List.nil_append, h] at this
    cases this
theorem ids_good {M : Mem} (hs : Shp M) (hok : M.Ok) (h : ∀ k (hk : k < M.ids.length), idK (startsM M) (M.ids.take k) M.ids[k] = true) : idsB (startsM M) [] M.ids = true :=
  (idsK (startsM M) (starts_in M hs) [] M.ids (fun x hx => (hok.ids x hx).1.1)).2 (fun k hk => by rw [List.nil_append]; exact h k hk)
end Go.Proofs.YtbbiaepgenbloaaGreatDoor
