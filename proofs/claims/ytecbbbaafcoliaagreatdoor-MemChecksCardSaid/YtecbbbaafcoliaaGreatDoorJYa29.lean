/- What a collection keeps: roots, weak words, numbers: plainly. -/
import Derived.Test.YtecbbbaafcoliaaGreatDoorJYa28
import Derived.Test.YtecbbbaafcoliaaGreatDoorJYa20
import Derived.Test.YtecbbbaafcoliaaGreatDoorJYa08
import Derived.Test.YtecbbbaafcoliaaGreatDoorJYa07
import Derived.Deep.Cut
import Derived.Test.YtecbbbaafcoliaaGreatDoorJYa22
import Derived.StillTailTactics
import Derived.Test.YtecbbbaafcoliaaGreatDoorJYa18
namespace Go.Proofs.YtecbbbaafcoliaaGreatDoor
open Go.RowKit
set_option linter.unusedVariables false
set_option linter.unusedSimpArgs false

def pointedB (u : Int) : Bool := decide (u % 4 = 0) && decide (u ≠ 0)
def ledB (M : Mem) (u : Int) : Bool := decide (0 ≤ ptsW u) && inSt (ats (reachP M)) (ptsW u)
/-- A collection: what a word is behind it. -/
structure Kept (all : Bool) (M N : Mem) (go : Int → Int × Bool) (Dom : Nat → Prop) (f : Nat → Nat) : Prop where
  morph : Morph M.W N.W Dom f
  lenW : N.W.length = M.W.length
  lenR : M.roots.length = N.roots.length
  roots : ∀ i, i < M.roots.length → Cor f Dom (M.roots.getD i 0) (N.roots.getD i 0)
  weak : N.weak = M.weak.map fun a => if (go a).2 then (go a).1 else 2
  ids : N.ids = M.ids.filterMap fun x => if (go x.1).2 then some ((go x.1).1, x.2) else none
  yes : ∀ u, fldB (startsM M) u = true → (go u).2 = true → Cor f Dom u (go u).1
  no : ∀ u, fldB (startsM M) u = true → (go u).2 = false → pointedB u = true ∧ ledB M u = false
  all_ : all = true → ∀ u, fldB (startsM M) u = true → (go u).2 = true → pointedB u = true → ledB M u = true
  goodM : goodB M = true
  goodN : goodB N = true
/-- Weak words that point, and still do: what they were, what they are. -/
def wkPs (us vs : List Int) : Nat → List (Int × Int)
  | 0 => []
  | k + 1 => if pointedB (us.getD k 0) = true ∧ vs.getD k 0 ≠ 2 then wkPs us vs k ++ [(us.getD k 0, vs.getD k 0)] else wkPs us vs k
/-- Where a number stands (-1: nowhere). -/
def findI (ids : List (Int × Int)) (s : Int) : Nat → Int
  | 0 => -1
  | k + 1 => if (ids.getD k (0, 0)).2 = s then (k : Int) else findI ids s k
def idPs (is js : List (Int × Int)) : Nat → List (Int × Int)
  | 0 => []
  | k + 1 => if 0 ≤ findI js (is.getD k (0, 0)).2 js.length then idPs is js k ++ [((is.getD k (0, 0)).1, (js.getD (findI js (is.getD k (0, 0)).2 js.length).toNat (0, 0)).1)] else idPs is js k
def plusM (M : Mem) (l : List Int) : Mem := { M with roots := M.roots ++ l }
/-- What weakOK asks. -/
structure WeakOK (all : Bool) (M N : Mem) : Prop where
  len : N.weak.length = M.weak.length
  each : ∀ i, i < M.weak.length → (pointedB (M.weak.getD i 0) = false ∧ N.weak.getD i 0 = M.weak.getD i 0) ∨ (pointedB (M.weak.getD i 0) = true ∧ N.weak.getD i 0 = 2 ∧ ledB M (M.weak.getD i 0) = false) ∨ (pointedB (M.weak.getD i 0) = true ∧ N.weak.getD i 0 ≠ 2 ∧ (all = true → ledB M (M.weak.getD i 0) = true))
  goodA : goodB (plusM M ((wkPs M.weak N.weak M.weak.length).map (·.1))) = true
  goodB_ : goodB (plusM N ((wkPs M.weak N.weak M.weak.length).map (·.2))) = true
  graph : graphS (plusM N ((wkPs M.weak N.weak M.weak.length).map (·.2))) = graphS (plusM M ((wkPs M.weak N.weak M.weak.length).map (·.1)))
/-- What idsOK asks. -/
structure IdsOK (M N : Mem) : Prop where
  len : N.ids.length ≤ M.ids.length
  each : ∀ i, i < M.ids.length → ledB M (M.ids.getD i (0, 0)).1 = true → 0 ≤ findI N.ids (M.ids.getD i (0, 0)).2 N.ids.length
  goodA : goodB (plusM M ((idPs M.ids N.ids M.ids.length).map (·.1))) = true
  goodB_ : goodB (plusM N ((idPs M.ids N.ids M.ids.length).map (·.2))) = true
  graph : graphS (plusM N ((idPs M.ids N.ids M.ids.length).map (·.2))) = graphS (plusM M ((idPs M.ids N.ids M.ids.length).map (·.1)))
theorem good_plus {M : Mem} (hg : goodB M = true) (l : List Int) (hl : ∀ u ∈ l, fldB (startsM M) u = true) : goodB (plusM M l) = true := by
  have h : goodB M = (shapeB M && objsB M (okHd M) && fieldsB (startsM M) M.roots && fieldsB (startsM M) M.weak && (objsAll M).all (okFld M (startsM M)) && idsB (startsM M) [] M.ids) := rfl
  rw [h] at hg
  simp only [Bool.and_eq_true] at hg
  obtain ⟨⟨⟨⟨⟨h1, h2⟩, h3⟩, h4⟩, h5⟩, h6⟩ := hg
  have hr : fieldsB (startsM M) (M.roots ++ l) = true := by
    unfold fieldsB at h3 ⊢
    rw [List.all_append, h3, Bool.true_and, List.all_eq_true]
    exact hl
  show (shapeB M && objsB M (okHd M) && fieldsB (startsM M) (M.roots ++ l) && fieldsB (startsM M) M.weak && (objsAll M).all (okFld M (startsM M)) && idsB (startsM M) [] M.ids) = true
  rw [h1, h2, hr, h4, h5, h6]; rfl
theorem getD_app (a b : List Int) (i : Nat) : (a ++ b).getD i 0 = if i < a.length then a.getD i 0 else b.getD (i - a.length) 0 := by
  simp only [List.getD_eq_getElem?_getD]
  split
  · rename_i h; rw [List.getElem?_append_left h]
  · rename_i h; rw [List.getElem?_append_right (by omega)]
def PsOK (M N : Mem) (Dom : Nat → Prop) (f : Nat → Nat) (ps : List (Int × Int)) : Prop := ∀ p ∈ ps, fldB (startsM M) p.1 = true ∧ fldB (startsM N) p.2 = true ∧ Cor f Dom p.1 p.2
section
variable {all : Bool} {M N : Mem} {go : Int → Int × Bool} {Dom : Nat → Prop} {f : Nat → Nat}
theorem Kept.plus (h : Kept all M N go Dom f) {ps : List (Int × Int)} (hp : PsOK M N Dom f ps) :
    goodB (plusM M (ps.map (·.1))) = true ∧ goodB (plusM N (ps.map (·.2))) = true ∧ graphS (plusM N (ps.map (·.2))) = graphS (plusM M (ps.map (·.1))) := by
  refine ⟨good_plus h.goodM _ fun u hu => ?_, good_plus h.goodN _ fun u hu => ?_, ?_⟩
  · obtain ⟨p, hpm, rfl⟩ := List.mem_map.1 hu
    exact (hp p hpm).1
  · obtain ⟨p, hpm, rfl⟩ := List.mem_map.1 hu
    exact (hp p hpm).2.1
  · refine graph_map (M := plusM M (ps.map (·.1))) (N := plusM N (ps.map (·.2))) h.morph h.lenW (by show (M.roots ++ _).length = (N.roots ++ _).length; simp [h.lenR]) fun i hi => ?_
    have hi' : i < M.roots.length + ps.length := by have : i < (M.roots ++ ps.map (·.1)).length := hi; simpa using this
    show Cor f Dom ((M.roots ++ ps.map (·.1)).getD i 0) ((N.roots ++ ps.map (·.2)).getD i 0)
    rw [getD_app, getD_app]
    by_cases q : i < M.roots.length
    · rw [if_pos q, if_pos (by rw [← h.lenR]; exact q)]; exact h.roots i q
    · rw [if_neg q, if_neg (by rw [← h.lenR]; exact q), ← h.lenR]
      have hj : i - M.roots.length < ps.length := by omega
      have e1 : (ps.map (·.1)).getD (i - M.roots.length) 0 = (ps[i - M.roots.length]).1 := by simp [List.getD_eq_getElem?_getD, hj]
      have e2 : (ps.map (·.2)).getD (i - M.roots.length) 0 = (ps[i - M.roots.length]).2 := by simp [List.getD_eq_getElem?_getD, hj]
      rw [e1, e2]
      exact (hp _ (List.getElem_mem hj)).2.2
theorem fieldsB_at {st l : List Int} (h : fieldsB st l = true) {i : Nat} (hi : i < l.length) : fldB st (l.getD i 0) = true := by
  unfold fieldsB at h
  rw [List.all_eq_true] at h
  exact getD_in (P := fun u => fldB st u = true) h hi
theorem pointed_pts {M : Mem} (hg : goodB M = true) {u : Int} (hf : fldB (startsM M) u = true) (hp : pointedB u = true) : 0 ≤ ptsW u := by
  unfold pointedB at hp
  simp only [Bool.and_eq_true, decide_eq_true_eq] at hp
  have hk : kindW u = 0 := hp.1
  unfold fldB at hf
  rw [if_pos hk] at hf
  simp only [Bool.or_eq_true, beq_iff_eq] at hf
  rcases hf with q | q
  · exact absurd q hp.2
  · obtain ⟨x, hx, e⟩ := List.mem_map.1 (List.contains_iff_mem.1 q)
    have hs := (good_parts hg).1
    have h1 := (mem_in hs hx).1
    have h2 := len_small hs
    unfold ptsW
    rw [if_pos ⟨hk, hp.2, by unfold placeW at e; omega⟩]
    unfold placeW at e ⊢
    omega
theorem cor_kind {u v : Int} (h : Cor f Dom u v) (hp : 0 ≤ ptsW u) : v % 4 = 0 ∧ v ≠ 0 := by
  rcases h with ⟨h1, _⟩ | ⟨a, h1, h2, h3, h4, h5, h6, h7⟩
  · omega
  · exact ⟨h6, h7⟩
theorem Kept.weakOK (h : Kept all M N go Dom f) : WeakOK all M N := by
  obtain ⟨hs, hob, hro, hwk, hfo, hid⟩ := good_parts h.goodM
  obtain ⟨hs', hob', hro', hwk', hfo', hid'⟩ := good_parts h.goodN
  have hlen : N.weak.length = M.weak.length := by rw [h.weak, List.length_map]
  have hv : ∀ i, i < M.weak.length → N.weak.getD i 0 = if (go (M.weak.getD i 0)).2 then (go (M.weak.getD i 0)).1 else 2 := fun i hi => by
    rw [h.weak]
    simp [List.getD_eq_getElem?_getD, hi]
  have hps : ∀ k, k ≤ M.weak.length → PsOK M N Dom f (wkPs M.weak N.weak k) := fun k => by
    induction k with
    | zero => intro _ p hp; simp [wkPs] at hp
    | succ k ih =>
      intro hk p hp
      have ih := ih (by omega)
      unfold wkPs at hp
      split at hp
      · rename_i hc
        rcases List.mem_append.1 hp with q | q
        · exact ih p q
        · rw [List.mem_singleton.1 q]
          refine ⟨fieldsB_at hwk (by omega), fieldsB_at hwk' (by omega), ?_⟩
          have e := hv k (by omega)
          show Cor f Dom (M.weak.getD k 0) (N.weak.getD k 0)
          cases hg : (go (M.weak.getD k 0)).2 with
          | true =>
            rw [hg] at e
            rw [e]
            exact h.yes _ (fieldsB_at hwk (by omega)) hg
          | false =>
            rw [hg] at e
            exact absurd (by simpa using e) hc.2
      · exact ih p hp
  obtain ⟨g1, g2, g3⟩ := h.plus (hps _ (Nat.le_refl _))
  refine ⟨hlen, fun i hi => ?_, g1, g2, g3⟩
  have hf := fieldsB_at hwk hi
  have e := hv i hi
  cases hg : (go (M.weak.getD i 0)).2 with
  | true =>
    rw [hg] at e
    have e' : N.weak.getD i 0 = (go (M.weak.getD i 0)).1 := by simpa using e
    have hc := h.yes _ hf hg
    cases hp : pointedB (M.weak.getD i 0) with
    | true =>
      right; right
      have := cor_kind hc (pointed_pts h.goodM hf hp)
      exact ⟨rfl, by rw [e']; omega, fun ha => h.all_ ha _ hf hg hp⟩
    | false =>
      left
      refine ⟨rfl, ?_⟩
      rw [e']
      rcases hc with ⟨_, q⟩ | ⟨a, q1, q2, q3, q4, q5, q6, q7⟩
      · exact q
      · unfold kindW at q4
        unfold pointedB at hp
        rw [decide_eq_true q4, decide_eq_true q5] at hp
        cases hp
  | false =>
    rw [hg] at e
    obtain ⟨n1, n2⟩ := h.no _ hf hg
    exact Or.inr (Or.inl ⟨n1, by simpa using e, n2⟩)
theorem findI_in (ids : List (Int × Int)) (s : Int) : ∀ k : Nat, (findI ids s k = -1 ∧ ∀ j, j < k → (ids.getD j (0, 0)).2 ≠ s) ∨ (0 ≤ findI ids s k ∧ findI ids s k < (k : Int) ∧ (ids.getD (findI ids s k).toNat (0, 0)).2 = s)
  | 0 => Or.inl ⟨rfl, fun j hj => by omega⟩
  | k + 1 => by
    unfold findI
    split
    · rename_i hc
      right
      refine ⟨by omega, by omega, ?_⟩
      rw [Int.toNat_natCast]; exact hc
    · rename_i hc
      rcases findI_in ids s k with ⟨q1, q2⟩ | ⟨q1, q2, q3⟩
      · refine Or.inl ⟨q1, fun j hj => ?_⟩
        by_cases e : j = k
        · subst e; exact hc
        · exact q2 j (by omega)
      · exact Or.inr ⟨q1, by omega, q3⟩
theorem id_fld {st : List Int} {ids : List (Int × Int)} (h : idsB st [] ids = true) {x : Int × Int} (hx : x ∈ ids) : fldB st x.1 = true := by
  obtain ⟨⟨g1, g2, g3, g4⟩, -⟩ := ((idsB_iff _ _ _).1 h).1 x hx
  unfold fldB
  rw [if_pos g1, g3]; simp
theorem getD_mem {ids : List (Int × Int)} {i : Nat} (hi : i < ids.length) : ids.getD i (0, 0) ∈ ids := by
  rw [List.getD_eq_getElem?_getD, List.getElem?_eq_getElem hi]; exact List.getElem_mem hi
theorem Kept.idsOK (h : Kept all M N go Dom f) : IdsOK M N := by
  obtain ⟨hs, hob, hro, hwk, hfo, hid⟩ := good_parts h.goodM
  obtain ⟨hs', hob', hro', hwk', hfo', hid'⟩ := good_parts h.goodN
  have hnd : (M.ids.map (·.2)).Nodup := by
    unfold List.Nodup
    rw [List.pairwise_map]
    exact ((idsB_iff _ _ _).1 hid).2.imp fun hxy => hxy.2
  have hin : ∀ x ∈ M.ids, (go x.1).2 = true → 0 ≤ findI N.ids x.2 N.ids.length := fun x hx hg => by
    have hm : ((go x.1).1, x.2) ∈ N.ids := by
      rw [h.ids]
      exact List.mem_filterMap.2 ⟨x, hx, by rw [if_pos hg]⟩
    rcases findI_in N.ids x.2 N.ids.length with ⟨q1, q2⟩ | ⟨q1, q2, q3⟩
    · obtain ⟨j, hj, e⟩ := List.getElem_of_mem hm
      refine absurd ?_ (q2 j hj)
      rw [List.getD_eq_getElem?_getD, List.getElem?_eq_getElem hj, e]; rfl
    · exact q1
  have hof : ∀ x ∈ M.ids, 0 ≤ findI N.ids x.2 N.ids.length → (findI N.ids x.2 N.ids.length).toNat < N.ids.length ∧ (go x.1).2 = true ∧ (N.ids.getD (findI N.ids x.2 N.ids.length).toNat (0, 0)).1 = (go x.1).1 := fun x hx hk => by
    rcases findI_in N.ids x.2 N.ids.length with ⟨q1, q2⟩ | ⟨q1, q2, q3⟩
    · omega
    · have hlt : (findI N.ids x.2 N.ids.length).toNat < N.ids.length := by omega
      refine ⟨hlt, ?_⟩
      have hy := getD_mem hlt
      generalize N.ids.getD (findI N.ids x.2 N.ids.length).toNat (0, 0) = y at hy q3 ⊢
      rw [h.ids] at hy
      obtain ⟨z, hz, e⟩ := List.mem_filterMap.1 hy
      split at e
      · rename_i hg
        injection e with e
        subst e
        have : z = x := nodup_map_inj hnd hz hx q3
        subst this
        exact ⟨hg, rfl⟩
      · cases e
  have hps : ∀ k, k ≤ M.ids.length → PsOK M N Dom f (idPs M.ids N.ids k) := fun k => by
    induction k with
    | zero => intro _ p hp; simp [idPs] at hp
    | succ k ih =>
      intro hk p hp
      have ih := ih (by omega)
      unfold idPs at hp
      split at hp
      · rename_i hc
        rcases List.mem_append.1 hp with q | q
        · exact ih p q
        · rw [List.mem_singleton.1 q]
          have hx := getD_mem (ids := M.ids) (i := k) (by omega)
          obtain ⟨h1, h2, h3⟩ := hof _ hx hc
          refine ⟨(show fldB (startsM M) (M.ids.getD k (0, 0)).1 = true from id_fld hid hx), (show fldB (startsM N) (N.ids.getD (findI N.ids (M.ids.getD k (0, 0)).2 N.ids.length).toNat (0, 0)).1 = true from id_fld hid' (getD_mem h1)), ?_⟩
          show Cor f Dom (M.ids.getD k (0, 0)).1 _
          rw [h3]
          exact h.yes _ (id_fld hid hx) h2
      · exact ih p hp
  obtain ⟨g1, g2, g3⟩ := h.plus (hps _ (Nat.le_refl _))
  refine ⟨by rw [h.ids]; exact List.length_filterMap_le _ _, fun i hi hl => ?_, g1, g2, g3⟩
  have hx := getD_mem (ids := M.ids) (i := i) hi
  refine hin _ hx ?_
  cases hg : (go (M.ids.getD i (0, 0)).1).2 with
  | true => rfl
  | false =>
    have := (h.no _ (id_fld hid hx) hg).2
    rw [hl] at this; cases this
end
theorem wkPs_len (us vs : List Int) : ∀ k, (wkPs us vs k).length ≤ k
  | 0 => Nat.le_refl _
  | k + 1 => by
    have := wkPs_len us vs k
    unfold wkPs
    split
    · simp; omega
    · omega
theorem idPs_len (is js : List (Int × Int)) : ∀ k, (idPs is js k).length ≤ k
  | 0 => Nat.le_refl _
  | k + 1 => by
    have := idPs_len is js k
    unfold idPs
    split
    · simp; omega
    · omega
/-- What is gathered behind come: an own row. -/
def ComePost (w : World) (B : Nat) (oa : Option Addr) (oc n : Nat) (l : List Ob) (e : Ending) (w' : World) : Prop :=
  ∃ a c, e = .returned (.slice a l.length c) ∧ OwnObjs w' B a c l ∧ Keep (fun k => (Value.slice oa n oc).ownBlock = some k) w w' ∧ ∀ k, (Value.slice a l.length c).ownBlock = some k → (Value.slice oa n oc).ownBlock = some k ∨ w.heap.size ≤ k
set_option maxRecDepth 100000 in
set_option maxHeartbeats 4000000 in
theorem come_no (u : Int) (h0 : 0 ≤ u) (h1 : u ≤ 18446744073709551615) (B : Nat) (oa : Option Addr) (oc : Nat) (out : List Ob) (la : Value) (w : World) (hl : out.length ≤ 9223372036854775807) (hO : OwnObjs w B oa oc out)
    (hn : ¬ (0 ≤ ptsW u ∧ inSt (ats out) (ptsW u) = false)) :
    Calls Tryz.prog 90 #[.slice oa out.length oc, la, .int .u64 u] w (ComePost w B oa oc out.length out) := by
  have hfin : ComePost w B oa oc out.length out (.returned (.slice oa out.length oc)) w := ⟨oa, oc, rfl, hO, Keep.refl _ _, fun k hk => Or.inl hk⟩
  have HF := Lib.hid hfin
  have HR := Lib.hid (own_rsl hO)
  clear hfin hO
  by_cases hp : 0 ≤ ptsW u
  · have hin : inSt (ats out) (ptsW u) = true := by
      cases hq : inSt (ats out) (ptsW u) with
      | true => rfl
      | false => exact absurd ⟨hp, hq⟩ hn
    have hob : decide (0 ≤ objAt out (ptsW u)) = true := by rw [objAt_nonneg]; exact hin
    have hob' : 0 ≤ objAt out (ptsW u) := of_decide_eq_true hob
    clear hn hin
    go_enter Tryz.func90, Tryz.ntmps90
    go_wp2_with (first
      | (go_at_call 28; refine (points_any _ h0 h1 _).mono ?_; rintro e w' ⟨rfl, rfl⟩)
      | (go_at_call 29; refine (objectAt_any _ _ out _ _ hl HR.out).mono ?_; rintro e w' ⟨rfl, rfl⟩))
    go_ret
    exact HF.out
  · clear hn
    go_enter Tryz.func90, Tryz.ntmps90
    go_wp2_with (first
      | (go_at_call 28; refine (points_any _ h0 h1 _).mono ?_; rintro e w' ⟨rfl, rfl⟩))
    go_ret
    exact HF.out
set_option maxRecDepth 100000 in
set_option maxHeartbeats 4000000 in
theorem come_yes (u : Int) (h0 : 0 ≤ u) (h1 : u ≤ 18446744073709551615) (B : Nat) (oa : Option Addr) (oc : Nat) (out : List Ob) (la : Option Addr) (lc : Nat) (l : List Ob) (w : World) (hB : B ≤ w.heap.size) (hl : out.length ≤ 1000000) (hl2 : l.length ≤ 1000000) (hlc : l.length ≤ lc)
    (hO : OwnObjs w B oa oc out) (hR : RSl w la (ocells l)) (hp : 0 ≤ ptsW u) (hn : inSt (ats out) (ptsW u) = false) (i : Nat) (hi : i < l.length) (hi2 : objAt l (ptsW u) = (i : Int)) :
    Calls Tryz.prog 90 #[.slice oa out.length oc, .slice la l.length lc, .int .u64 u] w (ComePost w B oa oc out.length (out ++ [l[i]])) := by
  obtain ⟨i0, hif, hz0, hz1, hz2⟩ := info_parts infoObj
  obtain ⟨p0, p1, p2, p3⟩ := ocells_at l i hi
  obtain ⟨ob, oo, rfl, c0⟩ := hR _ _ p0
  have c1 := hR.at_ p1
  have c2 := hR.at_ p2
  have c3 := hR.at_ p3
  rw [← Nat.add_assoc] at c1 c2 c3
  have hob : ¬ 0 ≤ objAt out (ptsW u) := fun h => by
    have := decide_eq_true h
    rw [objAt_nonneg] at this
    have h2 : inSt (ats out) (ptsW u) = true := this
    rw [hn] at h2; cases h2
  have HO := Lib.hid hO
  have HR := Lib.hid hR
  have HRo := Lib.hid (own_rsl hO)
  have HI := Lib.hid hi2
  have hlo : out.length ≤ 9223372036854775807 := by omega
  have hll : l.length ≤ 9223372036854775807 := by omega
  have hiz : (i : Int) < (l.length : Int) := by omega
  generalize hx : l[i] = x at *
  clear hO hR hn p0 p1 p2 p3 hi2
  go_enter Tryz.func90, Tryz.ntmps90
  go_upto_region 4 with (first
    | (go_at_call 28; refine (points_any _ h0 h1 _).mono ?_; rintro e w' ⟨rfl, rfl⟩)
    | (go_at_call 29; refine (objectAt_any _ _ out _ _ hlo HRo.out).mono ?_; rintro e w' ⟨rfl, rfl⟩))
  go_wp2_with (first
    | (go_at_call 29; refine (objectAt_any _ _ l _ _ hll HR.out).mono ?_; rintro e w' ⟨he, rfl⟩; rw [HI.out] at he; subst he)
    | (at_builtin; (refine wpList_append_src rfl _ _ 57 rfl B 62 i0 (.agg #[.int .i64 0, .int .i64 0, .int .i64 0, .int .i64 0]) 4 32 undObjs hif hz0 hz1 hz2 rfl (by decide) _ out.length (ocells out) rfl (HO.out.alloc _) (some ⟨_, 0, none⟩) 1 1 [.int .i64 (x.a : Int), .int .i64 (hKind x.w), .int .i64 (hAge x.w), .int .i64 (hSize x.w)] rfl (fun h => by cases h) (Nat.le_refl _) rfl ?c1 ?c2 ?c3 ?c4 ?c5 ?_)))
  case c1 => exact rsl_block (heap_alloc_new _ _)
  case c2 => intro u hu; simp at hu; rcases hu with rfl | rfl | rfl | rfl <;> rfl
  case c3 => unfold maxLen; omega
  case c4 => omega
  case c5 => simp; omega
  · intro a' c' w2 hown hgrow hat'
    have HOW := Lib.hid hown
    have HGR := Lib.hid hgrow
    have HAT := Lib.hid hat'
    clear hown hgrow hat'
    go_wp2
    go_ret
    refine ⟨a', c', ?_, ?_, ?_, fun k hk => ?_⟩
    · simp
    · unfold OwnObjs
      rw [ocells_snoc, List.length_append]
      exact HOW.out
    · exact ((Keep.refl _ _).alloc_ _).trans (Keep.of_grown HGR.out fun k hk => Or.inl hk)
    · rw [List.length_append] at hk
      have hk' : (Value.slice a' (out.length + 1) c').ownBlock = some k := hk
      rcases HAT.out with q | q
      · exact Or.inl (by rw [← q]; exact hk')
      · rw [q] at hk'
        injection hk' with hk'
        right; exact (by have := hk'; omega)
theorem obs_w {M : Mem} {x : Ob} (hx : x ∈ objsAll M) : x = obW M.W x.a := by
  have hw : x.w = wat M.W x.a := by
    rcases obM_of hx with q | q
    · exact q.w
    · exact q.w
  unfold obW; rw [← hw]
theorem objs_len {M : Mem} (hs : Shp M) : (objsAll M).length ≤ M.W.length := by
  obtain ⟨hb, b0, b1⟩ := hs.base
  have s1 := hs.h1; have s2 := hs.t2; have s3 := hs.p2; have s4 := hs.w; have s5 := hs.t1; have s6 := hs.p1
  unfold objsAll
  rw [List.length_append]
  have l1 := part_len M.W (M.base + M.top.toNat - M.base) M.base (M.base + M.top.toNat)
  have l2 := part_len M.W ((2 * M.half).toNat + M.oldTop.toNat - (2 * M.half).toNat) (2 * M.half).toNat ((2 * M.half).toNat + M.oldTop.toNat)
  have e1 : (partN M).1.length ≤ M.base + M.top.toNat - M.base := l1
  have e2 : (partO M).1.length ≤ (2 * M.half).toNat + M.oldTop.toNat - (2 * M.half).toNat := l2
  omega
/-- come, whatever the word. -/
theorem come_any (M : Mem) (hg : goodB M = true) (u : Int) (hf : fldB (startsM M) u = true) (h0 : 0 ≤ u) (h1 : u ≤ 18446744073709551615) (B : Nat) (oa : Option Addr) (oc : Nat) (out : List Ob) (la : Option Addr) (lc : Nat) (w : World) (hB : B ≤ w.heap.size)
    (hG : Gath M out) (hlc : (objsAll M).length ≤ lc) (hO : OwnObjs w B oa oc out) (hR : RSl w la (ocells (objsAll M))) :
    Calls Tryz.prog 90 #[.slice oa out.length oc, .slice la (objsAll M).length lc, .int .u64 u] w (ComePost w B oa oc out.length (comeP M.W out u)) := by
  obtain ⟨hs, -⟩ := good_parts hg
  have hl := objs_len hs
  have hl2 := len_small hs
  have hl3 := hG.len
  unfold comeP
  by_cases hc : 0 ≤ ptsW u ∧ inSt (ats out) (ptsW u) = false
  · rw [if_pos hc]
    obtain ⟨x, hx, e1, e2⟩ := pts_ob hf hc.1
    obtain ⟨i, hi, e3, e4⟩ := objAt_found (l := objsAll M) (P := ptsW u) (List.contains_iff_mem.2 (List.mem_map.2 ⟨x, hx, e1⟩))
    have e5 : (objsAll M)[i] = obW M.W (ptsW u).toNat := by
      have h := obs_w (List.getElem_mem hi)
      rw [h, ← e4, Int.toNat_natCast]
    rw [← e5]
    exact come_yes u h0 h1 B oa oc out la lc (objsAll M) w hB (by omega) (by omega) hlc hO hR hc.1 hc.2 i hi e3
  · rw [if_neg hc]
    exact come_no u h0 h1 B oa oc out _ w (by omega) hO hc
theorem comesP_snoc (W : List Int) (out : List Ob) (us : List Int) (k : Nat) (hk : k < us.length) : comesP W out (us.take (k + 1)) = comeP W (comesP W out (us.take k)) (us.getD k 0) := by
  unfold comesP
  rw [List.take_add_one, List.getElem?_eq_getElem hk, List.foldl_append, List.getD_eq_getElem?_getD, List.getElem?_eq_getElem hk]
  rfl
theorem reachG_end (W : List Int) (f k : Nat) (out : List Ob) (h : out.length ≤ k) : reachG W f k out = out := by
  cases f with
  | zero => rfl
  | succ f => unfold reachG; rw [List.getElem?_eq_none h]
def ReachedPost (w : World) (M : Mem) (e : Ending) (w' : World) : Prop :=
  ∃ a c, e = .returned (.slice a (reachP M).length c) ∧ OwnObjs w' w.heap.size a c (reachP M) ∧ Ext w w'
set_option maxRecDepth 100000 in
set_option maxHeartbeats 8000000 in
theorem reached_walk (b o : Nat) (M : Mem) (S : Sls) (w : World) (hM : RMem w b o M S) (hg : goodB M = true) :
    Calls Tryz.prog 42 #[.pointer (some ⟨b, o, none⟩)] w (ReachedPost w M) := by
  obtain ⟨hs, hob, hro, hwk, hfo, hid⟩ := good_parts hg
  have hkk : (kN M).1 ++ (kO M).1 = objsAll M := by
    have h2 : ((kN M).2 && (kO M).2) = true := by
      cases hq : ((kN M).2 && (kO M).2) with
      | true => rfl
      | false => have := kAll_bad hq; rw [hob] at this; cases this
    exact (kAll_ok h2).1
  have hol := objs_len hs
  have hsm := len_small hs
  have HRO : Hid (∀ k, k < M.roots.length → fldB (startsM M) (M.roots.getD k 0) = true ∧ 0 ≤ M.roots.getD k 0 ∧ M.roots.getD k 0 ≤ 18446744073709551615) := fun k hk => by
    unfold fieldsB at hro
    rw [List.all_eq_true] at hro
    exact ⟨getD_in hro hk, getD_in (P := fun x => 0 ≤ x ∧ x ≤ 18446744073709551615) hM.ok.roots hk⟩
  have hlr := hM.ok.lenR
  have HM := Lib.hid hM
  have HG := Lib.hid hg
  have HS := Lib.hid hs
  have HFO := Lib.hid hfo
  have HKK := Lib.hid hkk
  clear hM hg hs hob hro hwk hfo hid hkk
  go_enter Tryz.func42, Tryz.ntmps42
  go_wp2_with (go_at_call 26; refine (kAll_walk b o M S HS.out _ HM.out).mono ?_; rintro e w1 ⟨la, lc, rfl, hOl, hE1⟩; have HOL := Lib.hid hOl; have HE1 := Lib.hid hE1; clear hOl hE1; rw [HKK.out] at HOL; rw [HKK.out])
  have HLC := Lib.hid (own_cap HOL.out)
  have HRL := Lib.hid (own_rsl HOL.out)
  clear HOL
  go_loopw [6, 5] (fun i out wr => ∃ (k : Nat) (v : List Ob) (oa : Option Addr) (oc : Nat), k ≤ M.roots.length ∧ i = .int .i64 (k : Int) ∧ out = .slice oa v.length oc ∧ Hid (OwnObjs wr w1.heap.size oa oc v) ∧ Hid (Gath M v) ∧
      Hid (v = comesP M.W [] (M.roots.take k)) ∧ Hid (Ext w1 wr))
    (fun i _ _ => M.roots.length - (intOf i).toNat)
  case atStart => exact ⟨0, [], none, 0, Nat.zero_le _, rfl, rfl, World.ownsRow_nil _ _ _ _, Gath.nil M, rfl, Ext.refl w1⟩
  case round =>
    obtain ⟨k, v, oa, oc, hk, rfl, rfl, hO, hGa, hV, hE⟩ := hrel
    have hMr : RMem wr b o M S := HM.out.ext (HE1.out.trans_ hE.out)
    have c_R := hMr.roots
    by_cases hlt : k < M.roots.length
    · have hltz : (k : Int) < (M.roots.length : Int) := by omega
      obtain ⟨rb, ro, hRa, hc⟩ := hMr.rR k _ (wcells_at M.roots k hlt)
      rw [hRa] at c_R
      obtain ⟨hu1, hu2, hu3⟩ := HRO.out k hlt
      have hsz := hE.out.size
      generalize hu : M.roots.getD k 0 = u at *
      have HU := Lib.hid hu
      have HU1 := Lib.hid hu1
      clear hMr hRa hu hu1
      go_wp2_with (go_at_call 90; refine (come_any M HG.out u HU1.out hu2 hu3 w1.heap.size oa oc v la lc wr hsz hGa.out HLC.out hO.out (HRL.out.ext hE.out)).mono ?_; rintro e w2 ⟨a2, c2, rfl, q1, q2, q3⟩; have Q1 := Lib.hid q1; have Q2 := Lib.hid q2; clear q1 q2 q3)
      go_roundw
      case rel =>
        refine ⟨k + 1, _, a2, c2, by omega, by go_num, rfl, Q1.out, hGa.out.come HU1.out, ?_, ?_⟩
        · show _ = _
          rw [comesP_snoc _ _ _ _ hlt, HU.out, ← hV.out]
        · exact Ext.keep hE.out Q2.out fun i hi => (hO.out.lt i hi).1
      case measure => simp [intOf]; omega
    · have hltz : ¬ (k : Int) < (M.roots.length : Int) := by omega
      obtain rfl : k = M.roots.length := by omega
      have hV' : v = comesP M.W [] M.roots := by have := hV.out; rw [List.take_length] at this; exact this
      have HV := Lib.hid hV'
      clear hV hV' hMr hlt
      go_wp2
      go_loopw [7, 5] (fun i out wr2 => ∃ (k : Nat) (v : List Ob) (oa : Option Addr) (oc : Nat), k ≤ v.length ∧ i = .int .i64 (k : Int) ∧ out = .slice oa v.length oc ∧ Hid (OwnObjs wr2 w1.heap.size oa oc v) ∧ Hid (Gath M v) ∧
          Hid (reachG M.W (M.W.length - k) k v = reachP M) ∧ Hid (Ext w1 wr2))
        (fun i _ _ => M.W.length + 1 - (intOf i).toNat)
      case atStart => exact ⟨0, v, oa, oc, Nat.zero_le _, rfl, rfl, hO, hGa, (by show reachG M.W (M.W.length - 0) 0 v = reachP M; rw [HV.out]; rfl), hE⟩
      case round =>
        clear HV hO hGa hE hltz
        obtain ⟨k, v, oa, oc, hk2, rfl, rfl, hO, hGa, hV, hE⟩ := hrel
        have hglen := hGa.out.len
        by_cases hlt : k < v.length
        · have hltz : (k : Int) < (v.length : Int) := by omega
          obtain ⟨ob, oo, rfl, c0, c1, c3⟩ := ob_cells (own_rsl hO.out) hlt
          have hmem := hGa.out.mem _ (List.getElem_mem hlt)
          obtain ⟨f, hf⟩ : ∃ f, M.W.length - k = f + 1 := ⟨M.W.length - k - 1, by omega⟩
          have hstep : reachG M.W f (k + 1) (stepP M.W v v[k]) = reachP M := by
            have := hV.out
            rw [hf] at this
            unfold reachG at this
            rw [List.getElem?_eq_getElem hlt] at this
            exact this
          have HST := Lib.hid hstep
          have hobn := found_n HM.out.ok HS.out hmem
          obtain ⟨m1, m2, m3⟩ := mem_in HS.out hmem
          have HGET : Hid (v[k]? = some v[k]) := List.getElem?_eq_getElem hlt
          generalize hx : v[k] = x at *
          have hkr : 0 ≤ hKind x.w ∧ hKind x.w ≤ 255 := by have := hd_in x.w (by rw [m2]; exact (wat_in HM.out.ok _).1); exact ⟨this.1, this.2.1⟩
          have HF := Lib.hid hf
          have HMEM := Lib.hid hmem
          have HM2 := Lib.hid m2
          clear hV hstep hf hmem hx m2 m3
          cases hraw : rawB (hKind x.w) with
          | true =>
            have hk8 : hKind x.w < 8 := by unfold rawB at hraw; exact of_decide_eq_true hraw
            have HRAW := Lib.hid hraw
            clear hraw
            go_wp2
            go_roundw
            case rel =>
              refine ⟨k + 1, v, some ⟨ob, oo, none⟩, oc, by omega, by go_num, rfl, hO, hGa, ?_, hE⟩
              show reachG M.W (M.W.length - (k + 1)) (k + 1) v = reachP M
              have := HST.out
              unfold stepP at this
              rw [HRAW.out] at this
              rw [show M.W.length - (k + 1) = f by have := HF.out; omega]
              exact this
            case measure => simp [intOf]; omega
          | false =>
            have hk8 : ¬ hKind x.w < 8 := by unfold rawB at hraw; exact of_decide_eq_false hraw
            have HRAW := Lib.hid hraw
            clear hraw
            have HKK2 : Hid (k < v.length) := hlt
            have HMW : Hid (x.a + 1 + x.n ≤ M.W.length) := m1
            have hfl : Hid (∀ j, j < x.n → fldB (startsM M) (wat M.W (x.a + 1 + j)) = true) := fun j hj => fld_ok HFO.out HMEM.out HRAW.out j hj
            have HXN : Hid ((x.n : Int) = hSize x.w) := hobn
            clear hobn
            go_wp2
            clear c0 c1 c3
            go_loopw [8, 5] (fun i out wr3 => ∃ (j : Nat) (v3 : List Ob) (oa : Option Addr) (oc : Nat), j ≤ x.n ∧ i = .int .i64 (j : Int) ∧ out = .slice oa v3.length oc ∧ Hid (OwnObjs wr3 w1.heap.size oa oc v3) ∧ Hid (Gath M v3) ∧
                Hid (v3 = comesP M.W v ((fldsW M.W x).take j)) ∧ Hid (v3[k]? = some x) ∧ Hid (Ext w1 wr3))
              (fun i _ _ => x.n - (intOf i).toNat)
            case atStart => exact ⟨0, v, some ⟨ob, oo, none⟩, oc, Nat.zero_le _, rfl, rfl, hO, hGa, rfl, HGET, hE⟩
            case round =>
              clear hO hGa hE
              obtain ⟨j, v3, oa3, oc3, hj, rfl, rfl, hO, hGa, hV, hX, hE⟩ := hrel
              obtain ⟨hk3, hx3⟩ := List.getElem?_eq_some_iff.1 hX.out
              obtain ⟨ob3, oo3, rfl, c0, c1, c3⟩ := ob_cells (own_rsl hO.out) hk3
              rw [hx3] at c0 c1 c3
              have hk3z : (k : Int) < (v3.length : Int) := by omega
              have HX3 := Lib.hid hx3
              clear hx3 c1
              by_cases hlt : j < x.n
              · have hltz : (j : Int) < hSize x.w := by rw [← HXN.out]; omega
                have hMr : RMem wr b o M S := HM.out.ext (HE1.out.trans_ hE.out)
                have c_W := hMr.W
                obtain ⟨idx, hidx⟩ : ∃ i : Nat, i = x.a + 1 + j := ⟨_, rfl⟩
                have hil : idx < M.W.length := by have := HMW.out; omega
                obtain ⟨wb, wo, hWa, hc⟩ := hMr.rW idx _ (wcells_at M.W idx hil)
                rw [hWa] at c_W
                have i1 : IntKind.i64.wrap ((x.a : Int) + 1) = (x.a : Int) + 1 := IntWalk.i64_in _ (by omega)
                have i2 : IntKind.i64.wrap ((x.a : Int) + 1 + (j : Int)) = (idx : Int) := by rw [IntWalk.i64_in _ (by omega)]; omega
                have hilz : (idx : Int) < (M.W.length : Int) := by omega
                have hu1 := hfl.out j hlt
                obtain ⟨hu2, hu3⟩ := wat_in HM.out.ok idx
                have hsz := hE.out.size
                change wr.cell? ⟨wb, wo + idx, none⟩ = some (.int .u64 (wat M.W idx)) at hc
                rw [← hidx] at hu1
                have HIDX := Lib.hid hidx
                generalize hu : wat M.W idx = u at *
                have HU := Lib.hid hu
                have HU1 := Lib.hid hu1
                have HLT := Lib.hid hlt
                clear hMr hWa hu hu1 hidx hlt
                go_wp2
                go_still_tail 16, (by kernel_rfl)
                change wpList _ _ _ _ _ wr.drew
                have hxd : Ext wr wr.drew := (Ext.refl _).drew_
                generalize wr.drew = wd at hxd ⊢
                have hEd := hE.out.trans_ hxd
                have hszd := hEd.size
                have HED := Lib.hid hEd
                have hOd : OwnObjs wd w1.heap.size (some ⟨ob3, oo3, none⟩) oc3 v3 := own_le hO.out (Nat.le_refl _) hxd
                have HOD := Lib.hid hOd
                clear hO hE hxd hEd hOd c0 c_W hc
                go_wp2_with (go_at_call 90; refine (come_any M HG.out u HU1.out hu2 hu3 w1.heap.size _ oc3 v3 la lc wd hszd hGa.out HLC.out HOD.out (HRL.out.ext HED.out)).mono ?_; rintro e w2 ⟨a2, c2, rfl, q1, q2, q3⟩; have Q1 := Lib.hid q1; have Q2 := Lib.hid q2; clear q1 q2 q3)
                go_roundw
                case rel =>
                  refine ⟨j + 1, _, a2, c2, by have := HLT.out; omega, by go_num, rfl, Q1.out, hGa.out.come HU1.out, ?_, ?_, ?_⟩
                  · show _ = _
                    have h1 := HLT.out
                    have h2 : (fldsW M.W x).getD j 0 = u := by
                      rw [← HU.out, HIDX.out]
                      simp [fldsW, List.getD_eq_getElem?_getD, h1]
                    rw [comesP_snoc _ _ _ _ (by simpa [fldsW] using h1), h2, ← hV.out]
                  · obtain ⟨t, ht⟩ := comeP_app M.W v3 u
                    show _ = _
                    rw [ht, List.getElem?_append_left (List.getElem?_eq_some_iff.1 hX.out).1]; exact hX.out
                  · exact Ext.keep HED.out Q2.out fun i hi => (HOD.out.lt i hi).1
                case measure =>
                  have h1 := HLT.out
                  simp [intOf]; omega
              · have hltz : ¬ (j : Int) < hSize x.w := by rw [← HXN.out]; omega
                obtain rfl : j = x.n := by omega
                have hV' : v3 = stepP M.W v x := by
                  have := hV.out
                  unfold stepP
                  rw [HRAW.out, this, List.take_of_length_le (by simp [fldsW])]; rfl
                have HV2 := Lib.hid hV'
                have HL2 : Hid (k < v3.length) := hk3
                clear hV hV' hlt c0
                go_wp2
                go_roundw
                case rel =>
                  refine ⟨k + 1, v3, _, oc3, by have := HL2.out; omega, by go_num, rfl, hO, hGa, ?_, hE⟩
                  show reachG M.W (M.W.length - (k + 1)) (k + 1) v3 = reachP M
                  rw [show M.W.length - (k + 1) = f by have := HF.out; omega, HV2.out]
                  exact HST.out
                case measure => simp [intOf]; omega
        · have hltz : ¬ (k : Int) < (v.length : Int) := by omega
          have hV' : v = reachP M := by have := hV.out; rw [reachG_end _ _ _ _ (by omega)] at this; exact this
          have HV := Lib.hid hV'
          clear hV hV' hlt
          go_wp2
          go_ret
          unfold ReachedPost
          rw [← HV.out]
          refine ⟨oa, oc, rfl, own_le hO.out HE1.out.size (Ext.refl _), HE1.out.trans_ hE.out⟩
def InO (out : List Ob) (u : Int) : Prop := 0 ≤ ptsW u → inSt (ats out) (ptsW u) = true
theorem inO_app {out t : List Ob} {u : Int} (h : InO out u) : InO (out ++ t) u := fun q => by
  have := h q
  unfold inSt ats at this ⊢
  rw [List.contains_iff_mem] at this ⊢
  rw [List.map_append]
  exact List.mem_append_left _ this
theorem inSt_obs {out : List Ob} {p : Int} : inSt (ats out) p = true ↔ ∃ o ∈ out, (o.a : Int) = p := by
  unfold inSt ats
  rw [List.contains_iff_mem, List.mem_map]
theorem comeP_in (W : List Int) (out : List Ob) (u : Int) : InO (comeP W out u) u := fun q => by
  unfold comeP
  split
  · refine inSt_obs.2 ⟨obW W (ptsW u).toNat, by simp, ?_⟩
    show (((ptsW u).toNat : Nat) : Int) = _
    omega
  · rename_i h
    cases e : inSt (ats out) (ptsW u) with
    | true => rfl
    | false => exact absurd ⟨q, e⟩ h
theorem comesP_in (W : List Int) : ∀ (us : List Int) (out : List Ob), ∀ u ∈ us, InO (comesP W out us) u
  | [], out, u, h => by simp at h
  | v :: us, out, u, h => by
    have e : comesP W out (v :: us) = comesP W (comeP W out v) us := rfl
    rw [e]
    rcases List.mem_cons.1 h with rfl | h
    · obtain ⟨t, ht⟩ := comesP_app W us (comeP W out u)
      rw [ht]
      exact inO_app (comeP_in W out u)
    · exact comesP_in W us _ u h
/-- An object's fields are there. -/
def Shut (W : List Int) (out : List Ob) (o : Ob) : Prop := rawB (hKind o.w) = true ∨ ∀ u ∈ fldsW W o, InO out u
theorem shut_app {W : List Int} {out t : List Ob} {o : Ob} (h : Shut W out o) : Shut W (out ++ t) o := by
  rcases h with h | h
  · exact Or.inl h
  · exact Or.inr fun u hu => inO_app (h u hu)
theorem stepP_shut (W : List Int) (out : List Ob) (o : Ob) : Shut W (stepP W out o) o := by
  unfold stepP
  split
  · rename_i h; exact Or.inl h
  · exact Or.inr fun u hu => comesP_in W _ _ u hu
theorem reachG_app (W : List Int) : ∀ (f k : Nat) (out : List Ob), ∃ t, reachG W f k out = out ++ t
  | 0, _, out => ⟨[], by simp [reachG]⟩
  | f + 1, k, out => by
    unfold reachG
    cases e : out[k]? with
    | none => exact ⟨[], by simp⟩
    | some o =>
      obtain ⟨t, ht⟩ := stepP_app W out o
      obtain ⟨s, hs⟩ := reachG_app W f (k + 1) (stepP W out o)
      exact ⟨t ++ s, by show reachG W f (k + 1) (stepP W out o) = _; rw [hs, ht, List.append_assoc]⟩
theorem reachG_shut (W : List Int) : ∀ (f k : Nat) (out : List Ob), (∀ j, j < k → ∀ o, out[j]? = some o → Shut W out o) → (reachG W f k out).length ≤ f + k → ∀ o ∈ reachG W f k out, Shut W (reachG W f k out) o
  | 0, k, out, hc, hl, o, ho => by
    have hl' : out.length ≤ 0 + k := hl
    have ho' : o ∈ out := ho
    obtain ⟨j, hj, e⟩ := List.getElem_of_mem ho'
    exact hc j (by omega) o (by rw [List.getElem?_eq_getElem hj, e])
  | f + 1, k, out, hc, hl, o, ho => by
    unfold reachG at hl ho ⊢
    cases e : out[k]? with
    | none =>
      rw [e] at ho
      simp only at ho ⊢
      obtain ⟨j, hj, e2⟩ := List.getElem_of_mem ho
      have : out.length ≤ k := by
        rcases Nat.lt_or_ge k out.length with q | q
        · rw [List.getElem?_eq_getElem q] at e; cases e
        · exact q
      exact hc j (by omega) o (by rw [List.getElem?_eq_getElem hj, e2])
    | some x =>
      rw [e] at ho hl
      simp only at ho hl ⊢
      refine reachG_shut W f (k + 1) _ (fun j hj y hy => ?_) (by omega) o ho
      by_cases q : j = k
      · subst q
        obtain ⟨t, ht⟩ := stepP_app W out x
        have : y = x := by
          have hlt := (List.getElem?_eq_some_iff.1 e).1
          rw [ht, List.getElem?_append_left hlt, e] at hy
          injection hy with hy; exact hy.symm
        subst this
        exact stepP_shut W out y
      · obtain ⟨t, ht⟩ := stepP_app W out x
        have hk := (List.getElem?_eq_some_iff.1 e).1
        rw [ht] at hy ⊢
        rw [List.getElem?_append_left (by omega)] at hy
        exact shut_app (hc j (by omega) y hy)
section
variable {M : Mem}
theorem words_len {M : Mem} (hg : goodB M = true) {l : List Ob} (h : Gath M l) : l.length ≤ M.W.length := by
  have h1 := h.len
  have h2 := objs_len (good_parts hg).1
  have hs := (good_parts hg).1
  have hw := hs.w
  have a1 := hs.h1; have a2 := hs.o1; have a3 := hs.t2; have a4 := hs.p2
  omega
theorem reachP_shut (hg : goodB M = true) : ∀ o ∈ reachP M, Shut M.W (reachP M) o := by
  refine reachG_shut M.W _ 0 _ (fun j hj => by omega) ?_
  have := words_len hg (reachP_gath hg)
  exact this
theorem reachP_roots (M : Mem) : ∀ u ∈ M.roots, InO (reachP M) u := fun u hu => by
  obtain ⟨t, ht⟩ := reachG_app M.W M.W.length 0 (comesP M.W [] M.roots)
  unfold reachP
  rw [ht]
  exact inO_app (comesP_in M.W _ _ u hu)
end
/-- By places: those of the old space ahead. -/
def ltM (hb x y : Nat) : Bool := if decide (hb ≤ x) = decide (hb ≤ y) then decide (x < y) else decide (hb ≤ x)
def leM (hb x y : Nat) : Bool := !ltM hb y x
theorem leM_iff (hb x y : Nat) : leM hb x y = true ↔ (hb ≤ x ∧ y < hb) ∨ ((hb ≤ x ↔ hb ≤ y) ∧ x ≤ y) := by
  unfold leM ltM
  by_cases h1 : hb ≤ x <;> by_cases h2 : hb ≤ y <;> simp [h1, h2] <;> omega
def ordP (M : Mem) : List Nat := ((reachP M).map (·.a)).mergeSort (leM (hbM M))
theorem ordP_mem (M : Mem) (a : Nat) : a ∈ ordP M ↔ a ∈ (reachP M).map (·.a) := (List.mergeSort_perm _ _).mem_iff
theorem ordP_nodup {M : Mem} (hg : goodB M = true) : (ordP M).Nodup := (List.mergeSort_perm _ _).nodup_iff.2 (reachP_gath hg).nodup
theorem ordP_len (M : Mem) : (ordP M).length = (reachP M).length := by
  show (List.mergeSort _ _).length = _
  rw [(List.mergeSort_perm _ _).length_eq, List.length_map]
/-- One lies ahead of the other. -/
def Ahead (hb x y : Nat) : Prop := (hb ≤ x ∧ y < hb) ∨ ((hb ≤ x ↔ hb ≤ y) ∧ x < y)
theorem ordP_pair {M : Mem} (hg : goodB M = true) : (ordP M).Pairwise (Ahead (hbM M)) := by
  have h1 : (ordP M).Pairwise fun a b => leM (hbM M) a b = true := List.pairwise_mergeSort (fun a b c => by simp only [leM_iff]; omega) (fun a b => by
    rw [Bool.or_eq_true, leM_iff, leM_iff]; omega) _
  have h2 := ordP_nodup hg
  unfold List.Nodup at h2
  refine (h1.and h2).imp fun hab => ?_
  obtain ⟨q1, q2⟩ := hab
  rw [leM_iff] at q1
  unfold Ahead
  omega
/-- Where each goes to. -/
def topsW (W : List Int) : Nat → List Nat → List (Nat × Nat)
  | _, [] => []
  | t, a :: l => (a, t) :: topsW W (t + 1 + szW W a) l
def endW (W : List Int) : Nat → List Nat → Nat
  | t, [] => t
  | t, a :: l => endW W (t + 1 + szW W a) l
theorem topsW_fst (W : List Int) : ∀ (l : List Nat) (t : Nat), (topsW W t l).map (·.1) = l
  | [], _ => rfl
  | a :: l, t => by rw [topsW, List.map_cons, topsW_fst W l]
theorem endW_sum (W : List Int) : ∀ (l : List Nat) (t : Nat), endW W t l = t + (l.map fun a => 1 + szW W a).sum
  | [], t => rfl
  | a :: l, t => by rw [endW, endW_sum W l, List.map_cons, List.sum_cons]; omega
theorem topsW_app (W : List Int) : ∀ (l k : List Nat) (t : Nat), topsW W t (l ++ k) = topsW W t l ++ topsW W (endW W t l) k
  | [], k, t => rfl
  | a :: l, k, t => by rw [List.cons_append, topsW, topsW_app W l k, topsW, endW, List.cons_append]
theorem topsW_ge (W : List Int) : ∀ (l : List Nat) (t : Nat), ∀ p ∈ topsW W t l, t ≤ p.2 ∧ p.2 + 1 + szW W p.1 ≤ endW W t l
  | [], _, p, h => by simp [topsW] at h
  | a :: l, t, p, h => by
    rw [topsW] at h
    rw [endW]
    have he := endW_sum W l (t + 1 + szW W a)
    rcases List.mem_cons.1 h with rfl | h
    · refine ⟨Nat.le_refl _, ?_⟩
      show t + 1 + szW W a ≤ _
      omega
    · obtain ⟨q1, q2⟩ := topsW_ge W l _ p h
      exact ⟨by omega, q2⟩
theorem topsW_pair (W : List Int) : ∀ (l : List Nat) (t : Nat), (topsW W t l).Pairwise fun p q => p.2 + 1 + szW W p.1 ≤ q.2
  | [], _ => List.Pairwise.nil
  | a :: l, t => by
    rw [topsW]
    refine List.Pairwise.cons (fun q hq => ?_) (topsW_pair W l _)
    exact (topsW_ge W l _ q hq).1
/-- Each object of the old space goes to the left. -/
theorem topsW_left (W : List Int) : ∀ (l : List Nat) (t hb : Nat), l.Pairwise (Ahead hb) → (∀ a ∈ l, hb ≤ a → t ≤ a) → (∀ a ∈ l, ∀ b ∈ l, hb ≤ a → a < b → a + 1 + szW W a ≤ b) → ∀ p ∈ topsW W t l, hb ≤ p.1 → p.2 ≤ p.1
  | [], _, _, _, _, _, p, h, _ => by simp [topsW] at h
  | a :: l, t, hb, hp, ht, hd, p, h, hq => by
    rw [topsW] at h
    rw [List.pairwise_cons] at hp
    rcases List.mem_cons.1 h with rfl | h
    · exact ht a (by simp) hq
    · refine topsW_left W l (t + 1 + szW W a) hb hp.2 (fun b hb1 hb2 => ?_) (fun b hb1 c hc => hd b (by simp [hb1]) c (by simp [hc])) p h hq
      have h1 := hp.1 b hb1
      unfold Ahead at h1
      have h2 : hb ≤ a := by omega
      have h3 := ht a (by simp) h2
      have h4 := hd a (by simp) b (by simp [hb1]) h2 (by omega)
      omega
def toM (M : Mem) : List (Nat × Nat) := topsW M.W (hbM M) (ordP M)
def endM (M : Mem) : Nat := endW M.W (hbM M) (ordP M)
def lookN (l : List (Nat × Nat)) (a : Nat) : Option Nat := (l.find? fun p => a == p.1).map (·.2)
theorem lookN_mem {l : List (Nat × Nat)} {a t : Nat} (h : lookN l a = some t) : (a, t) ∈ l := by
  unfold lookN at h
  cases hf : l.find? (fun p => a == p.1) with
  | none => rw [hf] at h; cases h
  | some q =>
    rw [hf] at h
    have h1 := List.find?_some hf
    have h2 := List.mem_of_find?_eq_some hf
    have e : q.2 = t := by simpa using h
    have e1 : a = q.1 := by simpa using h1
    rw [e1, ← e]; exact h2
theorem lookN_some {l : List (Nat × Nat)} {a : Nat} (h : a ∈ l.map (·.1)) : ∃ t, lookN l a = some t := by
  unfold lookN
  cases hf : l.find? (fun p => a == p.1) with
  | none =>
    obtain ⟨p, hp, e⟩ := List.mem_map.1 h
    have := List.find?_eq_none.1 hf p hp
    rw [← e] at this; simp at this
  | some q => exact ⟨q.2, rfl⟩
theorem lookN_of {l : List (Nat × Nat)} (hn : (l.map (·.1)).Nodup) {a t : Nat} (h : (a, t) ∈ l) : lookN l a = some t := by
  obtain ⟨s, hs⟩ := lookN_some (l := l) (a := a) (List.mem_map_of_mem (f := (·.1)) h)
  have hm := lookN_mem hs
  have := nodup_map_inj hn hm h rfl
  injection this with _ e
  rw [hs, e]
/-- Where an object goes to. -/
def toOf (M : Mem) (a : Nat) : Nat := (lookN (toM M) a).getD 0
def DomM (M : Mem) (a : Nat) : Prop := a ∈ (reachP M).map (·.a)
theorem toOf_mem {M : Mem} {a : Nat} (h : DomM M a) : (a, toOf M a) ∈ toM M := by
  obtain ⟨t, ht⟩ := lookN_some (l := toM M) (a := a) (by unfold toM; rw [topsW_fst]; exact (ordP_mem M a).2 h)
  unfold toOf
  rw [ht]
  exact lookN_mem ht
theorem toM_dom {M : Mem} {p : Nat × Nat} (h : p ∈ toM M) : DomM M p.1 := by
  have : p.1 ∈ (toM M).map (·.1) := List.mem_map_of_mem (f := (·.1)) h
  unfold toM at this
  rw [topsW_fst] at this
  exact (ordP_mem M _).1 this
theorem toM_of {M : Mem} (hg : goodB M = true) {p : Nat × Nat} (h : p ∈ toM M) : toOf M p.1 = p.2 := by
  unfold toOf
  rw [lookN_of (by unfold toM; rw [topsW_fst]; exact ordP_nodup hg) (show (p.1, p.2) ∈ toM M from h)]; rfl
/-- A word is followed. -/
def fwM (M : Mem) (u : Int) : Int × Bool :=
  if kindW u ≠ 0 ∨ u = 0 then (u, true) else if inSt (ats (reachP M)) (placeW u) = true then (addrW (toOf M (placeW u).toNat), true) else (2, false)
end Go.Proofs.YtecbbbaafcoliaaGreatDoor
