/- The walk of the document's Shaped: where a length is wrong. -/
import Derived.Test.YtecbbbaafcoliaaDoorJAl11
import Derived.Test.YtecbbbaafcoliaaDoorJAl08
import Derived.Deep.RegionHeld3
import Derived.Test.YtecbbbaafcoliaaDoorJAl03
import Derived.Test.YtecbbbaafcoliaaDoorJAl05
import Derived.Test.YtecbbbaafcoliaaDoorJAl07
import Derived.Test.YtecbbbaafcoliaaDoorJAl09
namespace Go.Proofs.YtecbbbaafcoliaaDoor
open Go.RowKit
set_option linter.unusedVariables false
set_option linter.unusedSimpArgs false

set_option maxRecDepth 100000 in
theorem kShaped_nil (w : World) : Calls Tryd.prog 46 #[.pointer none] w fun e w' => e = .returned (.bool false) ∧ Ext w w' := by
  go_enter Tryd.func46, Tryd.ntmps46
  go_wp2
  go_ret
  exact ⟨rfl, Ext.refl _⟩
set_option maxRecDepth 100000 in
set_option maxHeartbeats 4000000 in
theorem kShaped_no1 (b o : Nat) (M : Mem) (S : Sls) (w : World) (hM : RMem w b o M S)
    (h : M.half < 1 ∨ (¬ M.half < 1 ∧ 65536 < M.half) ∨ (¬ M.half < 1 ∧ ¬ 65536 < M.half ∧ M.old < 1) ∨ (¬ M.half < 1 ∧ ¬ 65536 < M.half ∧ ¬ M.old < 1 ∧ 65536 < M.old)
      ∨ (¬ M.half < 1 ∧ ¬ 65536 < M.half ∧ ¬ M.old < 1 ∧ ¬ 65536 < M.old ∧ M.card < 1) ∨ (¬ M.half < 1 ∧ ¬ 65536 < M.half ∧ ¬ M.old < 1 ∧ ¬ 65536 < M.old ∧ ¬ M.card < 1 ∧ 1024 < M.card)) :
    Calls Tryd.prog 46 #[.pointer (some ⟨b, o, none⟩)] w fun e w' => e = .returned (.bool false) ∧ Ext w w' := by
  have n0 := hM.half
  have n1 := hM.old
  have n2 := hM.card
  clear hM
  rcases h with h | ⟨h1, h⟩ | ⟨h1, h2, h⟩ | ⟨h1, h2, h3, h⟩ | ⟨h1, h2, h3, h4, h⟩ | ⟨h1, h2, h3, h4, h5, h⟩
  all_goals
    go_enter Tryd.func46, Tryd.ntmps46
    go_wp2
    go_ret
    exact ⟨rfl, Ext.refl _⟩
set_option maxRecDepth 100000 in
set_option maxHeartbeats 8000000 in
theorem kShaped_no2 (b o : Nat) (M : Mem) (S : Sls) (w : World) (hM : RMem w b o M S) (h1 : 1 ≤ M.half) (h2 : M.half ≤ 65536) (o1 : 1 ≤ M.old) (o2 : M.old ≤ 65536) (c1 : 1 ≤ M.card) (c2 : M.card ≤ 1024)
    (h : ¬ (M.W.length : Int) = 2 * M.half + M.old ∨ ((M.W.length : Int) = 2 * M.half + M.old ∧ ¬ (M.cards.length : Int) = (M.old + M.card - 1) / M.card) ∨ ((M.W.length : Int) = 2 * M.half + M.old ∧ (M.cards.length : Int) = (M.old + M.card - 1) / M.card ∧ M.used < 0) ∨
      ((M.W.length : Int) = 2 * M.half + M.old ∧ (M.cards.length : Int) = (M.old + M.card - 1) / M.card ∧ ¬ M.used < 0 ∧ 1 < M.used)) :
    Calls Tryd.prog 46 #[.pointer (some ⟨b, o, none⟩)] w fun e w' => e = .returned (.bool false) ∧ Ext w w' := by
  have n0 := hM.half
  have n1 := hM.old
  have n2 := hM.card
  have n3 := hM.W
  have n4 := hM.used
  have n10 := hM.cards
  have hl := hM.ok.lenW
  have hl2 := hM.ok.lenC
  have e1 : M.old.tdiv M.card = M.old / M.card := Int.tdiv_eq_ediv_of_nonneg (by omega)
  have q0 : 0 ≤ M.old / M.card := Int.ediv_nonneg (by omega) (by omega)
  have q1 : M.old / M.card ≤ M.old := Int.ediv_le_self _ (by omega)
  have q2 : M.old / M.card * M.card ≤ M.old := Int.ediv_mul_le _ (by omega)
  have q3 : 0 ≤ M.old / M.card * M.card := Int.mul_nonneg q0 (by omega)
  rw [ceil_div _ _ o1 c1] at h
  generalize M.old / M.card = q at *
  have e2 : IntKind.i64.wrap q = q := IntWalk.i64_in _ (by omega)
  have e3 : IntKind.i64.wrap (q * M.card) = q * M.card := IntWalk.i64_in _ (by omega)
  have e4 : IntKind.i64.wrap (2 * M.half) = 2 * M.half := IntWalk.i64_in _ (by omega)
  have e5 : IntKind.i64.wrap (2 * M.half + M.old) = 2 * M.half + M.old := IntWalk.i64_in _ (by omega)
  have e6 : ¬ M.card = 0 := by omega
  have e7 : (M.card == 0) = false := by simp; omega
  clear hM
  obtain ⟨z, hz⟩ : ∃ z : Int, z = if q * M.card < M.old then q + 1 else q := ⟨_, rfl⟩
  rw [← hz] at h
  by_cases hlt : q * M.card < M.old
  · rw [if_pos hlt] at hz
    rw [hz] at h
    clear hz
    have h' : ((M.W.length : Int) != 2 * M.half + M.old) = true ∨ (((M.W.length : Int) != 2 * M.half + M.old) = false ∧ ((M.cards.length : Int) != q + 1) = true) ∨ (((M.W.length : Int) != 2 * M.half + M.old) = false ∧ ((M.cards.length : Int) != q + 1) = false ∧ decide (M.used < 0) = true) ∨
      (((M.W.length : Int) != 2 * M.half + M.old) = false ∧ ((M.cards.length : Int) != q + 1) = false ∧ decide (M.used < 0) = false ∧ decide (1 < M.used) = true) := by
      rcases h with h | ⟨a1, h⟩ | ⟨a1, a2, h⟩ | ⟨a1, a2, a3, h⟩
      · exact Or.inl (by simpa using h)
      · exact Or.inr (Or.inl ⟨by simpa using a1, by simpa using h⟩)
      · exact Or.inr (Or.inr (Or.inl ⟨by simpa using a1, by simpa using a2, by simpa using h⟩))
      · exact Or.inr (Or.inr (Or.inr ⟨by simpa using a1, by simpa using a2, by simpa using a3, by simpa using h⟩))
    clear h
    rcases h' with d1 | ⟨d1, d2⟩ | ⟨d1, d2, d3⟩ | ⟨d1, d2, d3, d4⟩
    all_goals
      go_enter Tryd.func46, Tryd.ntmps46
      go_wp2
      go_quiet (fail)
      go_wp2
      go_quiet (fail)
      go_wp2
      go_quiet (fail)
      go_wp2
      go_ret
      exact ⟨rfl, by repeat (first | exact Ext.refl _ | (refine Ext.drewN_ ?_ _))⟩
  · rw [if_neg hlt] at hz
    rw [hz] at h
    clear hz
    have h' : ((M.W.length : Int) != 2 * M.half + M.old) = true ∨ (((M.W.length : Int) != 2 * M.half + M.old) = false ∧ ((M.cards.length : Int) != q) = true) ∨ (((M.W.length : Int) != 2 * M.half + M.old) = false ∧ ((M.cards.length : Int) != q) = false ∧ decide (M.used < 0) = true) ∨
      (((M.W.length : Int) != 2 * M.half + M.old) = false ∧ ((M.cards.length : Int) != q) = false ∧ decide (M.used < 0) = false ∧ decide (1 < M.used) = true) := by
      rcases h with h | ⟨a1, h⟩ | ⟨a1, a2, h⟩ | ⟨a1, a2, a3, h⟩
      · exact Or.inl (by simpa using h)
      · exact Or.inr (Or.inl ⟨by simpa using a1, by simpa using h⟩)
      · exact Or.inr (Or.inr (Or.inl ⟨by simpa using a1, by simpa using a2, by simpa using h⟩))
      · exact Or.inr (Or.inr (Or.inr ⟨by simpa using a1, by simpa using a2, by simpa using a3, by simpa using h⟩))
    clear h
    rcases h' with d1 | ⟨d1, d2⟩ | ⟨d1, d2, d3⟩ | ⟨d1, d2, d3, d4⟩
    all_goals
      go_enter Tryd.func46, Tryd.ntmps46
      go_wp2
      go_quiet (fail)
      go_wp2
      go_quiet (fail)
      go_wp2
      go_quiet (fail)
      go_wp2
      go_ret
      exact ⟨rfl, by repeat (first | exact Ext.refl _ | (refine Ext.drewN_ ?_ _))⟩
set_option maxRecDepth 100000 in
set_option maxHeartbeats 8000000 in
theorem kShaped_no3 (b o : Nat) (M : Mem) (S : Sls) (w : World) (hM : RMem w b o M S) (h1 : 1 ≤ M.half) (h2 : M.half ≤ 65536) (o1 : 1 ≤ M.old) (o2 : M.old ≤ 65536) (c1 : 1 ≤ M.card) (c2 : M.card ≤ 1024)
    (hw : (M.W.length : Int) = 2 * M.half + M.old) (cl : (M.cards.length : Int) = (M.old + M.card - 1) / M.card) (u1 : 0 ≤ M.used) (u2 : M.used ≤ 1)
    (h : decide (0 ≤ M.top) = false ∨ (decide (0 ≤ M.top) = true ∧ decide (M.top ≤ M.half) = false) ∨ (decide (0 ≤ M.top) = true ∧ decide (M.top ≤ M.half) = true ∧ decide (0 ≤ M.oldTop) = false) ∨
      (decide (0 ≤ M.top) = true ∧ decide (M.top ≤ M.half) = true ∧ decide (0 ≤ M.oldTop) = true ∧ decide (M.oldTop ≤ M.old) = false)) :
    Calls Tryd.prog 46 #[.pointer (some ⟨b, o, none⟩)] w fun e w' => e = .returned (.bool false) ∧ Ext w w' := by
  have n0 := hM.half
  have n1 := hM.old
  have n2 := hM.card
  have n3 := hM.W
  have n4 := hM.used
  have n5 := hM.top
  have n6 := hM.oldTop
  have n10 := hM.cards
  have hl := hM.ok.lenW
  have hl2 := hM.ok.lenC
  have e1 : M.old.tdiv M.card = M.old / M.card := Int.tdiv_eq_ediv_of_nonneg (by omega)
  have q0 : 0 ≤ M.old / M.card := Int.ediv_nonneg (by omega) (by omega)
  have q1 : M.old / M.card ≤ M.old := Int.ediv_le_self _ (by omega)
  have q2 : M.old / M.card * M.card ≤ M.old := Int.ediv_mul_le _ (by omega)
  have q3 : 0 ≤ M.old / M.card * M.card := Int.mul_nonneg q0 (by omega)
  have hcl := cl
  rw [ceil_div _ _ o1 c1] at hcl
  clear cl
  generalize M.old / M.card = q at *
  have e2 : IntKind.i64.wrap q = q := IntWalk.i64_in _ (by omega)
  have e3 : IntKind.i64.wrap (q * M.card) = q * M.card := IntWalk.i64_in _ (by omega)
  have e4 : IntKind.i64.wrap (2 * M.half) = 2 * M.half := IntWalk.i64_in _ (by omega)
  have e5 : IntKind.i64.wrap (2 * M.half + M.old) = 2 * M.half + M.old := IntWalk.i64_in _ (by omega)
  have e6 : ¬ M.card = 0 := by omega
  have e7 : (M.card == 0) = false := by simp; omega
  have d1 : ((M.W.length : Int) != 2 * M.half + M.old) = false := by simp; exact hw
  have d3 : decide (M.used < 0) = false := by simp; omega
  have d4 : decide (1 < M.used) = false := by simp; omega
  clear hw
  by_cases hlt : q * M.card < M.old
  · rw [if_pos hlt] at hcl
    have d2 : ((M.cards.length : Int) != q + 1) = false := by simp; exact hcl
    clear hcl hM
    rcases h with k1 | ⟨k1, k2⟩ | ⟨k1, k2, k3⟩ | ⟨k1, k2, k3, k4⟩
    all_goals
      go_enter Tryd.func46, Tryd.ntmps46
      go_wp2
      go_quiet (fail)
      go_wp2
      go_quiet (fail)
      go_wp2
      go_quiet (fail)
      go_wp2
      go_quiet (fail)
      go_wp2
      go_ret
      exact ⟨by first | rfl | simp [k4], by repeat (first | exact Ext.refl _ | (refine Ext.drewN_ ?_ _))⟩
  · rw [if_neg hlt] at hcl
    have d2 : ((M.cards.length : Int) != q) = false := by simp; exact hcl
    clear hcl hM
    rcases h with k1 | ⟨k1, k2⟩ | ⟨k1, k2, k3⟩ | ⟨k1, k2, k3, k4⟩
    all_goals
      go_enter Tryd.func46, Tryd.ntmps46
      go_wp2
      go_quiet (fail)
      go_wp2
      go_quiet (fail)
      go_wp2
      go_quiet (fail)
      go_wp2
      go_quiet (fail)
      go_wp2
      go_ret
      exact ⟨by first | rfl | simp [k4], by repeat (first | exact Ext.refl _ | (refine Ext.drewN_ ?_ _))⟩
theorem dec_or (p : Prop) [Decidable p] : p ∨ ¬ p := Decidable.em p
/-- Whatever the memory. -/
theorem kShaped_any (b o : Nat) (M : Mem) (S : Sls) (w : World) (hM : RMem w b o M S) :
    Calls Tryd.prog 46 #[.pointer (some ⟨b, o, none⟩)] w fun e w' => e = .returned (.bool (shapeB M)) ∧ Ext w w' := by
  cases hs : shapeB M with
  | true => exact kShaped_yes b o M S (shp_of hs) w hM
  | false =>
    have hn : ¬ Shp M := fun ⟨h1, h2, o1, o2, c1, c2, hw, u1, u2, t1, t2, p1, p2, cl⟩ => by
      have : shapeB M = true := by
        unfold shapeB
        rw [inR_true.2 ⟨h1, h2⟩, inR_true.2 ⟨o1, o2⟩, inR_true.2 ⟨c1, c2⟩, inR_true.2 ⟨u1, u2⟩, inR_true.2 ⟨t1, t2⟩, inR_true.2 ⟨p1, p2⟩, beq_iff_eq.2 hw, beq_iff_eq.2 cl]
        rfl
      rw [this] at hs; cases hs
    by_cases h1 : M.half < 1
    · exact kShaped_no1 b o M S w hM (Or.inl h1)
    by_cases h2 : 65536 < M.half
    · exact kShaped_no1 b o M S w hM (Or.inr (Or.inl ⟨h1, h2⟩))
    by_cases h3 : M.old < 1
    · exact kShaped_no1 b o M S w hM (Or.inr (Or.inr (Or.inl ⟨h1, h2, h3⟩)))
    by_cases h4 : 65536 < M.old
    · exact kShaped_no1 b o M S w hM (Or.inr (Or.inr (Or.inr (Or.inl ⟨h1, h2, h3, h4⟩))))
    by_cases h5 : M.card < 1
    · exact kShaped_no1 b o M S w hM (Or.inr (Or.inr (Or.inr (Or.inr (Or.inl ⟨h1, h2, h3, h4, h5⟩)))))
    by_cases h6 : 1024 < M.card
    · exact kShaped_no1 b o M S w hM (Or.inr (Or.inr (Or.inr (Or.inr (Or.inr ⟨h1, h2, h3, h4, h5, h6⟩)))))
    have g1 : 1 ≤ M.half := by omega
    have g2 : M.half ≤ 65536 := by omega
    have g3 : 1 ≤ M.old := by omega
    have g4 : M.old ≤ 65536 := by omega
    have g5 : 1 ≤ M.card := by omega
    have g6 : M.card ≤ 1024 := by omega
    by_cases hw : (M.W.length : Int) = 2 * M.half + M.old
    · by_cases hc : (M.cards.length : Int) = (M.old + M.card - 1) / M.card
      · by_cases u1 : M.used < 0
        · exact kShaped_no2 b o M S w hM g1 g2 g3 g4 g5 g6 (Or.inr (Or.inr (Or.inl ⟨hw, hc, u1⟩)))
        by_cases u2 : 1 < M.used
        · exact kShaped_no2 b o M S w hM g1 g2 g3 g4 g5 g6 (Or.inr (Or.inr (Or.inr ⟨hw, hc, u1, u2⟩)))
        have v1 : 0 ≤ M.used := by omega
        have v2 : M.used ≤ 1 := by omega
        refine kShaped_no3 b o M S w hM g1 g2 g3 g4 g5 g6 hw hc v1 v2 ?_
        by_cases t1 : 0 ≤ M.top
        · by_cases t2 : M.top ≤ M.half
          · by_cases p1 : 0 ≤ M.oldTop
            · by_cases p2 : M.oldTop ≤ M.old
              · exact absurd ⟨g1, g2, g3, g4, g5, g6, hw, v1, v2, t1, t2, p1, p2, hc⟩ hn
              · exact Or.inr (Or.inr (Or.inr ⟨by simpa using t1, by simpa using t2, by simpa using p1, by simpa using p2⟩))
            · exact Or.inr (Or.inr (Or.inl ⟨by simpa using t1, by simpa using t2, by simpa using p1⟩))
          · exact Or.inr (Or.inl ⟨by simpa using t1, by simpa using t2⟩)
        · exact Or.inl (by simpa using t1)
      · exact kShaped_no2 b o M S w hM g1 g2 g3 g4 g5 g6 (Or.inr (Or.inl ⟨hw, hc⟩))
    · exact kShaped_no2 b o M S w hM g1 g2 g3 g4 g5 g6 (Or.inl hw)
end Go.Proofs.YtecbbbaafcoliaaDoor
/- The walk of the document's CheckOf, where lengths, headers, roots or weak words are wrong. -/
namespace Go.Proofs.YtecbbbaafcoliaaDoor
open Go.RowKit
set_option linter.unusedVariables false
set_option linter.unusedSimpArgs false

set_option maxRecDepth 100000 in
set_option maxHeartbeats 8000000 in
theorem kCheck_nil (w : World) : Calls Tryd.prog 18 #[.pointer none] w fun e w' => e = .returned (.int .i64 3) ∧ Ext w w' := by
  go_enter Tryd.func18, Tryd.ntmps18
  go_wp2_with (go_at_call 46; refine (kShaped_nil w).mono ?_; rintro e w1 ⟨rfl, hq⟩; have HX1 := Lib.hid hq; clear hq)
  go_ret
  exact ⟨rfl, HX1.out⟩
set_option maxRecDepth 100000 in
set_option maxHeartbeats 8000000 in
theorem kCheck_1 (b o : Nat) (M : Mem) (S : Sls) (w : World) (hM : RMem w b o M S) (hs : shapeB M = false) :
    Calls Tryd.prog 18 #[.pointer (some ⟨b, o, none⟩)] w fun e w' => e = .returned (.int .i64 3) ∧ Ext w w' := by
  have HM := Lib.hid hM
  have hltb := hM.lt
  clear hM
  have HS := Lib.hid hs
  clear hs
  go_enter Tryd.func18, Tryd.ntmps18
  go_wp2_with (go_at_call 46; refine (kShaped_any b o M S w HM.out).mono ?_; rintro e w1 ⟨he, hq⟩; rw [HS.out] at he; subst he; have HX1 := Lib.hid hq; clear hq)
  go_ret
  exact ⟨rfl, HX1.out⟩
set_option maxRecDepth 100000 in
set_option maxHeartbeats 8000000 in
theorem kCheck_2 (b o : Nat) (M : Mem) (S : Sls) (w : World) (hM : RMem w b o M S) (hs : shapeB M = true) (hb : ((kN M).2 && (kO M).2) = false) :
    Calls Tryd.prog 18 #[.pointer (some ⟨b, o, none⟩)] w fun e w' => e = .returned (.int .i64 3) ∧ Ext w w' := by
  have HM := Lib.hid hM
  have hltb := hM.lt
  clear hM
  have HS := Lib.hid hs
  have HSH := Lib.hid (shp_of hs)
  have HB := Lib.hid hb
  clear hs hb
  go_enter Tryd.func18, Tryd.ntmps18
  go_wp2_with (first
    | (go_at_call 46; refine (kShaped_any b o M S w HM.out).mono ?_; rintro e w1 ⟨he, hq⟩; rw [HS.out] at he; subst he; have HX1 := Lib.hid hq; clear hq)
    | (go_at_call 19; refine (kAll_walk b o M S HSH.out _ (HM.out.ext HX1.out)).mono ?_; rintro e w2 ⟨la, lc, he, hown, hq⟩; rw [HB.out] at he; subst he; have HX2 : Hid (Ext w w2) := Ext.trans_ HX1.out hq; clear hq hown))
  go_ret
  exact ⟨rfl, HX2.out⟩
set_option maxRecDepth 100000 in
set_option maxHeartbeats 8000000 in
theorem kCheck_3 (b o : Nat) (M : Mem) (S : Sls) (w : World) (hM : RMem w b o M S) (hs : shapeB M = true) (hb : ((kN M).2 && (kO M).2) = true) (hr : fieldsB (startsM M) M.roots = false) :
    Calls Tryd.prog 18 #[.pointer (some ⟨b, o, none⟩)] w fun e w' => e = .returned (.int .i64 3) ∧ Ext w w' := by
  have HM := Lib.hid hM
  have hltb := hM.lt
  clear hM
  have HR := Lib.hid hr
  clear hr
  have HS := Lib.hid hs
  have hsh := shp_of hs
  have HSH := Lib.hid hsh
  obtain ⟨hl1, -, -, -⟩ := kAll_ok hb
  have HB := Lib.hid hb
  obtain ⟨l, hl⟩ : ∃ l, l = objsAll M := ⟨_, rfl⟩
  rw [← hl] at hl1
  have HLI := Lib.hid hl1
  have HL := Lib.hid hl
  have HATS : Hid (ats l = startsM M) := by unfold Hid; rw [hl]; rfl
  have hobm : ∀ x ∈ l, ObM M x := fun x hx => obM_of (by rw [← hl]; exact hx)
  have HOBM := Lib.hid hobm
  have HLT : Hid (∀ x ∈ l, (x.a : Int) < 1099511627776) := fun x hx => (starts_in M hsh _ (by rw [← HATS.out]; exact List.mem_map_of_mem hx)).2
  have HLL : Hid (l.length ≤ 9223372036854775807) := by
    have h1 := partK_len M.W M.base (M.base + M.top.toNat)
    have h2 := partK_len M.W (2 * M.half).toNat ((2 * M.half).toNat + M.oldTop.toNat)
    have h3 := congrArg List.length hl1
    rw [List.length_append] at h3
    have e1 : (kN M).1 = (partK M.W M.base (M.base + M.top.toNat)).1 := rfl
    have e2 : (kO M).1 = (partK M.W (2 * M.half).toNat ((2 * M.half).toNat + M.oldTop.toNat)).1 := rfl
    rw [e1, e2] at h3
    have h4 := hsh.t2; have h5 := hsh.p2; have h6 := hsh.h2; have h7 := hsh.o2; have h8 := hsh.t1; have h9 := hsh.p1
    unfold Hid; omega
  clear hs hsh hb hl hl1 hobm
  go_enter Tryd.func18, Tryd.ntmps18
  have n7 := HM.out.roots
  go_wp2_with (first
    | (go_at_call 46; refine (kShaped_any b o M S w HM.out).mono ?_; rintro e w1 ⟨he, hq⟩; rw [HS.out] at he; subst he; have HX1 := Lib.hid hq; clear hq)
    | ((go_at_call 19; refine (kAll_walk b o M S HSH.out _ (HM.out.ext HX1.out)).mono ?_; rintro e w2 ⟨la, lc, he, hown, hq⟩; rw [HB.out, HLI.out] at he; rw [HLI.out] at hown; subst he; have HX2 : Hid (Ext w w2) := Ext.trans_ HX1.out hq; have HLR := Lib.hid (own_rsl hown); have HLN := Lib.hid (own_nil hown); have hlc := own_cap hown; clear hq hown); have k7 := HX2.out.cell_ n7))
  refine (fieldsOK_any S.R.1 S.R.2 M.roots HM.out.ok.lenR HM.out.ok.roots la lc l _ HLL.out (HM.out.ext HX2.out).rR HLR.out HLT.out).mono ?_
  rintro e w' ⟨he, hw9⟩
  have hw9 := hw9.symm
  subst hw9
  rw [HATS.out, HR.out] at he
  subst he
  go_wp2
  go_ret
  exact ⟨rfl, HX2.out⟩
set_option maxRecDepth 100000 in
set_option maxHeartbeats 8000000 in
theorem kCheck_4 (b o : Nat) (M : Mem) (S : Sls) (w : World) (hM : RMem w b o M S) (hs : shapeB M = true) (hb : ((kN M).2 && (kO M).2) = true) (hr : fieldsB (startsM M) M.roots = true) (hk : fieldsB (startsM M) M.weak = false) :
    Calls Tryd.prog 18 #[.pointer (some ⟨b, o, none⟩)] w fun e w' => e = .returned (.int .i64 3) ∧ Ext w w' := by
  have HM := Lib.hid hM
  have hltb := hM.lt
  clear hM
  have HR := Lib.hid hr
  have HK := Lib.hid hk
  clear hr hk
  have HS := Lib.hid hs
  have hsh := shp_of hs
  have HSH := Lib.hid hsh
  obtain ⟨hl1, -, -, -⟩ := kAll_ok hb
  have HB := Lib.hid hb
  obtain ⟨l, hl⟩ : ∃ l, l = objsAll M := ⟨_, rfl⟩
  rw [← hl] at hl1
  have HLI := Lib.hid hl1
  have HL := Lib.hid hl
  have HATS : Hid (ats l = startsM M) := by unfold Hid; rw [hl]; rfl
  have hobm : ∀ x ∈ l, ObM M x := fun x hx => obM_of (by rw [← hl]; exact hx)
  have HOBM := Lib.hid hobm
  have HLT : Hid (∀ x ∈ l, (x.a : Int) < 1099511627776) := fun x hx => (starts_in M hsh _ (by rw [← HATS.out]; exact List.mem_map_of_mem hx)).2
  have HLL : Hid (l.length ≤ 9223372036854775807) := by
    have h1 := partK_len M.W M.base (M.base + M.top.toNat)
    have h2 := partK_len M.W (2 * M.half).toNat ((2 * M.half).toNat + M.oldTop.toNat)
    have h3 := congrArg List.length hl1
    rw [List.length_append] at h3
    have e1 : (kN M).1 = (partK M.W M.base (M.base + M.top.toNat)).1 := rfl
    have e2 : (kO M).1 = (partK M.W (2 * M.half).toNat ((2 * M.half).toNat + M.oldTop.toNat)).1 := rfl
    rw [e1, e2] at h3
    have h4 := hsh.t2; have h5 := hsh.p2; have h6 := hsh.h2; have h7 := hsh.o2; have h8 := hsh.t1; have h9 := hsh.p1
    unfold Hid; omega
  clear hs hsh hb hl hl1 hobm
  go_enter Tryd.func18, Tryd.ntmps18
  have n7 := HM.out.roots
  have n8 := HM.out.weak
  go_wp2_with (first
    | (go_at_call 46; refine (kShaped_any b o M S w HM.out).mono ?_; rintro e w1 ⟨he, hq⟩; rw [HS.out] at he; subst he; have HX1 := Lib.hid hq; clear hq)
    | ((go_at_call 19; refine (kAll_walk b o M S HSH.out _ (HM.out.ext HX1.out)).mono ?_; rintro e w2 ⟨la, lc, he, hown, hq⟩; rw [HB.out, HLI.out] at he; rw [HLI.out] at hown; subst he; have HX2 : Hid (Ext w w2) := Ext.trans_ HX1.out hq; have HLR := Lib.hid (own_rsl hown); have HLN := Lib.hid (own_nil hown); have hlc := own_cap hown; clear hq hown); have k7 := HX2.out.cell_ n7; have k8 := HX2.out.cell_ n8))
  refine (fieldsOK_any S.R.1 S.R.2 M.roots HM.out.ok.lenR HM.out.ok.roots la lc l _ HLL.out (HM.out.ext HX2.out).rR HLR.out HLT.out).mono ?_
  rintro e w' ⟨he, hw9⟩
  have hw9 := hw9.symm
  subst hw9
  rw [HATS.out, HR.out] at he
  subst he
  go_wp2_with fail
  refine (fieldsOK_any S.K.1 S.K.2 M.weak HM.out.ok.lenK HM.out.ok.weak la lc l _ HLL.out (HM.out.ext HX2.out).rK HLR.out HLT.out).mono ?_
  rintro e w' ⟨he, hw9⟩
  have hw9 := hw9.symm
  subst hw9
  rw [HATS.out, HK.out] at he
  subst he
  go_wp2
  go_ret
  exact ⟨rfl, HX2.out⟩
end Go.Proofs.YtecbbbaafcoliaaDoor
/- The walk of the document's CheckOf: the objects, the cards, the numbers. -/
namespace Go.Proofs.YtecbbbaafcoliaaDoor
open Go.RowKit
set_option linter.unusedVariables false
set_option linter.unusedSimpArgs false

set_option maxRecDepth 100000 in
set_option maxHeartbeats 16000000 in
theorem kCheck_5 (b o : Nat) (M : Mem) (S : Sls) (w : World) (hM : RMem w b o M S) (hs : shapeB M = true) (hb : ((kN M).2 && (kO M).2) = true) (hr : fieldsB (startsM M) M.roots = true) (hk : fieldsB (startsM M) M.weak = true) :
    Calls Tryd.prog 18 #[.pointer (some ⟨b, o, none⟩)] w fun e w' => e = .returned (.int .i64 (chk M)) ∧ Ext w w' := by
  have hchk := chk_of hs hb hr hk
  have HM := Lib.hid hM
  have hltb := hM.lt
  clear hM
  have HR := Lib.hid hr
  have HK := Lib.hid hk
  clear hr hk
  have HS := Lib.hid hs
  have hsh := shp_of hs
  have HSH := Lib.hid hsh
  obtain ⟨hl1, -, -, -⟩ := kAll_ok hb
  have HB := Lib.hid hb
  obtain ⟨l, hl⟩ : ∃ l, l = objsAll M := ⟨_, rfl⟩
  rw [← hl] at hl1
  have HLI := Lib.hid hl1
  have HL := Lib.hid hl
  have HATS : Hid (ats l = startsM M) := by unfold Hid; rw [hl]; rfl
  have hobm : ∀ x ∈ l, ObM M x := fun x hx => obM_of (by rw [← hl]; exact hx)
  have HOBM := Lib.hid hobm
  have HLT : Hid (∀ x ∈ l, (x.a : Int) < 1099511627776) := fun x hx => (starts_in M hsh _ (by rw [← HATS.out]; exact List.mem_map_of_mem hx)).2
  have HLL : Hid (l.length ≤ 9223372036854775807) := by
    have h1 := partK_len M.W M.base (M.base + M.top.toNat)
    have h2 := partK_len M.W (2 * M.half).toNat ((2 * M.half).toNat + M.oldTop.toNat)
    have h3 := congrArg List.length hl1
    rw [List.length_append] at h3
    have e1 : (kN M).1 = (partK M.W M.base (M.base + M.top.toNat)).1 := rfl
    have e2 : (kO M).1 = (partK M.W (2 * M.half).toNat ((2 * M.half).toNat + M.oldTop.toNat)).1 := rfl
    rw [e1, e2] at h3
    have h4 := hsh.t2; have h5 := hsh.p2; have h6 := hsh.h2; have h7 := hsh.o2; have h8 := hsh.t1; have h9 := hsh.p1
    unfold Hid; omega
  clear hs hsh hb hl hl1 hobm
  rw [← HL.out] at hchk
  have HCHK := Lib.hid hchk
  have hw0 : 0 < M.W.length := by have h1 := HSH.out.w; have h2 := HSH.out.h1; have h3 := HSH.out.o1; omega
  obtain ⟨wb, wo, hWa, -⟩ := HM.out.rW 0 _ (wcells_at M.W 0 hw0)
  have c_W := HM.out.W
  rw [hWa] at c_W
  have HWA := Lib.hid hWa
  have hcap := HM.out.capW
  clear hchk hWa
  go_enter Tryd.func18, Tryd.ntmps18
  have n7 := HM.out.roots
  have n8 := HM.out.weak
  go_wp2_with (first
    | (go_at_call 46; refine (kShaped_any b o M S w HM.out).mono ?_; rintro e w1 ⟨he, hq⟩; rw [HS.out] at he; subst he; have HX1 := Lib.hid hq; clear hq)
    | ((go_at_call 19; refine (kAll_walk b o M S HSH.out _ (HM.out.ext HX1.out)).mono ?_; rintro e w2 ⟨la, lc, he, hown, hq⟩; rw [HB.out, HLI.out] at he; rw [HLI.out] at hown; subst he; have HX2 : Hid (Ext w w2) := Ext.trans_ HX1.out hq; have HLR := Lib.hid (own_rsl hown); have HLN := Lib.hid (own_nil hown); have hlc := own_cap hown; clear hq hown); have k7 := HX2.out.cell_ n7; have k8 := HX2.out.cell_ n8; have HY2 : Hid (Ext w2 w2) := Ext.refl w2))
  refine (fieldsOK_any S.R.1 S.R.2 M.roots HM.out.ok.lenR HM.out.ok.roots la lc l _ HLL.out (HM.out.ext HX2.out).rR HLR.out HLT.out).mono ?_
  rintro e w' ⟨he, hw9⟩
  have hw9 := hw9.symm
  subst hw9
  rw [HATS.out, HR.out] at he
  subst he
  go_wp2_with fail
  refine (fieldsOK_any S.K.1 S.K.2 M.weak HM.out.ok.lenK HM.out.ok.weak la lc l _ HLL.out (HM.out.ext HX2.out).rK HLR.out HLT.out).mono ?_
  rintro e w' ⟨he, hw9⟩
  have hw9 := hw9.symm
  subst hw9
  rw [HATS.out, HK.out] at he
  subst he
  clear n7 n8 k7 k8
  have hllz := HLL.out
  go_wp2
  go_loopw [5, 6] (fun c i wr => ∃ (k : Nat) (q : Bool), k ≤ l.length ∧ i = .int .i64 (k : Int) ∧ c = .bool q ∧ Hid (q = (l.take k).all (cardsO M)) ∧ Hid ((l.take k).all (okK M) = true) ∧ Hid (Ext w wr) ∧ Hid (Ext w2 wr)) (fun _ i _ => l.length - (intOf i).toNat)
  case atStart => exact ⟨0, true, Nat.zero_le _, rfl, rfl, rfl, rfl, HX2.out, HY2.out⟩
  case round =>
    obtain ⟨k, q, hk, rfl, rfl, hQ, hA, hE, hE2⟩ := hrel
    have d0 := (HM.out.ext hE.out).half
    by_cases hlt : k < l.length
    · obtain ⟨p0, p1, p2, p3⟩ := ocells_at l k hlt
      obtain ⟨ob, oo, rfl, c0⟩ := HLR.out _ _ p0
      have c1 := HLR.out.at_ p1
      have c2 := HLR.out.at_ p2
      have c3 := HLR.out.at_ p3
      rw [← Nat.add_assoc] at c1 c2 c3
      replace c0 := hE2.out.cell_ c0
      replace c1 := hE2.out.cell_ c1
      replace c2 := hE2.out.cell_ c2
      replace c3 := hE2.out.cell_ c3
      have HD : Hid (l.take (k + 1) = l.take k ++ [l[k]]) := Lib.hid (List.take_succ_eq_append_getElem hlt)
      have HXM := Lib.hid (HOBM.out l[k] (List.getElem_mem hlt))
      have HMEM := Lib.hid (List.getElem_mem hlt)
      generalize l[k] = x at *
      obtain ⟨hx0, hx1, hx2, hx3, hx4⟩ := ob_bounds HM.out.ok HSH.out HXM.out
      have hltz : (k : Int) < (l.length : Int) := by omega
      have hzb : ob < wr.heap.size := cell_lt c0
      have hzo : b < wr.heap.size := by have := hE.out.size; omega
      have s2 := HSH.out.h2
      have s1 := HSH.out.h1
      have e2h : IntKind.i64.wrap (2 * M.half) = 2 * M.half := IntWalk.i64_in _ (by omega)
      clear p0 p1 p2 p3
      by_cases ho : 2 * M.half ≤ (x.a : Int)
      · have ho' : decide (2 * M.half ≤ (x.a : Int)) = true := decide_eq_true ho
        have HO : Hid (oldB M (x.a : Int) = true) := ho'
        cases ha : (hAge x.w != 0) with
        | true =>
          have HAG := Lib.hid ha
          go_wp2
          go_quiet (fail)
          go_wp2
          go_ret
          refine ⟨?_, by repeat (first | exact hE.out | (refine Ext.drew_ ?_) | (refine Ext.drewN_ ?_ _) | (refine Ext.alloc_ ?_ _))⟩
          have hf : l.all (okK M) = false := all_take_false HMEM.out (by unfold okK ageB; rw [HO.out, HAG.out]; rfl)
          rw [HCHK.out, hf]; rfl
        | false =>
          have HAG : Hid (ageB M x = true) := ageB_0 ha
          cases hraw : decide (hKind x.w < 8) with
          | true =>
            have HRW : Hid (rawB (hKind x.w) = true) := hraw
            go_wp2
            go_quiet (fail)
            go_wp2
            go_roundw
            case rel => exact ⟨k + 1, q, by omega, by go_num, rfl, Lib.hid (by rw [HD.out, List.all_append, ← hQ.out]; simp [cardsO_raw HRW.out]), Lib.hid (by rw [HD.out, List.all_append, hA.out]; simp [okK, HAG.out, okFld_raw HRW.out]), by repeat (first | exact hE.out | (refine Ext.drew_ ?_) | (refine Ext.drewN_ ?_ _) | (refine Ext.alloc_ ?_ _)), by repeat (first | exact hE2.out | (refine Ext.drew_ ?_) | (refine Ext.drewN_ ?_ _) | (refine Ext.alloc_ ?_ _))⟩
            case measure => simp [intOf]; omega
          | false =>
            have HRW : Hid (rawB (hKind x.w) = false) := hraw
            have d3 := hE.out.cell_ c_W
            go_wp2
            go_quiet (fail)
            go_wp2
            obtain ⟨A, C, hsl, hAC, hAn, hRA⟩ := run_part (P := Tryd.prog) undU64 sizeU64 wb wo M.W.length S.W.2 (x.a + 1) (x.a + 1 + x.n) ((x.a : Int) + 1) ((x.a : Int) + 1 + hSize x.w) (by omega) (by omega) (by omega) (by omega)
            have HRA : Hid (∀ W, Ext w W → RSl W A (wcells (flds M x))) := fun W hW => by
              have := hRA W _ (HWA.out ▸ (HM.out.ext hW).rW)
              rw [flds_cells M x (by omega)] at this
              exact this
            rw [show x.a + 1 + x.n - (x.a + 1) = x.n by omega] at hsl hAC
            clear hRA
            have hc1 : (x.a : Int) + 1 + hSize x.w ≤ (S.W.2 : Int) := by omega
            have hc2 : (0 : Int) ≤ (x.a : Int) + 1 := by omega
            have hc3 : (x.a : Int) + 1 ≤ (x.a : Int) + 1 + hSize x.w := by omega
            have hcall := fieldsOK_any A C (flds M x) (by rw [flds_len]; omega) (fun z hz => flds_in HM.out.ok x z hz) (some ⟨ob, oo, none⟩) lc l
            rw [flds_len] at hcall
            have HCALL := Lib.hid hcall
            clear hcall
            have e1 : IntKind.i64.wrap ((x.a : Int) + 1) = (x.a : Int) + 1 := IntWalk.i64_in _ (by omega)
            have e2 : IntKind.i64.wrap ((x.a : Int) + 1 + hSize x.w) = (x.a : Int) + 1 + hSize x.w := IntWalk.i64_in _ (by omega)
            go_quiet (fail)
            clear e1 e2 hsl
            go_wp2_with fail
            refine (HCALL.out _ HLL.out (HRA.out _ (by repeat (first | exact hE.out | (refine Ext.drew_ ?_) | (refine Ext.drewN_ ?_ _) | (refine Ext.alloc_ ?_ _)))) (HLR.out.ext (by repeat (first | exact hE2.out | (refine Ext.drew_ ?_) | (refine Ext.drewN_ ?_ _) | (refine Ext.alloc_ ?_ _)))) HLT.out).mono ?_
            rintro e w' ⟨he, hw9⟩
            have hw9 := hw9.symm
            subst hw9
            rw [HATS.out] at he
            cases hf : fieldsB (startsM M) (flds M x) with
            | false =>
              have HFF := Lib.hid hf
              rw [hf] at he
              subst he
              clear hf
              go_wp2
              go_ret
              refine ⟨?_, by repeat (first | exact hE.out | (refine Ext.drew_ ?_) | (refine Ext.drewN_ ?_ _) | (refine Ext.alloc_ ?_ _))⟩
              have hf : l.all (okK M) = false := all_take_false HMEM.out (by unfold okK okFld; rw [HRW.out, HFF.out, HAG.out]; rfl)
              rw [HCHK.out, hf]; rfl
            | true =>
              have HFT := Lib.hid hf
              rw [hf] at he
              subst he
              clear hf
              go_wp2
              refine named_world' (fun W5 hW5 => ?_)
              have hE5 : Ext wr W5 := by rw [hW5]; repeat (first | exact Ext.refl _ | (refine Ext.drew_ ?_) | (refine Ext.drewN_ ?_ _) | (refine Ext.alloc_ ?_ _))
              have HE5 := Lib.hid hE5
              have y0 : W5.cell? ⟨wr.heap.size, 0, none⟩ = some (.int .i64 (x.a : Int)) := by rw [hW5]; simp [go_sem]
              clear hW5 hE5
              have HOKX : Hid (okK M x = true) := by unfold Hid okK okFld; rw [HRW.out, HFT.out, HAG.out]; rfl
              have dC := HE5.out.cell_ (hE.out.cell_ HM.out.cards)
              have dD := HE5.out.cell_ (hE.out.cell_ HM.out.card)
              have dH := HE5.out.cell_ d0
              have hcc1 := HSH.out.c1
              have hcc2 := HSH.out.c2
              have hoo2 := HSH.out.o2
              have hcl : M.cards.length ≤ 9223372036854775807 := HM.out.ok.lenC
              have hccap := HM.out.capC
              clear c0 c1 c2 c3 d0 d3
              go_loopw [5, 10] (fun c j wq => ∃ (jn : Nat) (q2 : Bool), jn ≤ x.n ∧ j = .int .i64 (jn : Int) ∧ c = .bool q2 ∧ Hid (q2 = (q && cardsK M x jn)) ∧ Hid (Ext W5 wq)) (fun _ j _ => x.n - (intOf j).toNat)
              case atStart => exact ⟨0, q, Nat.zero_le _, rfl, rfl, Lib.hid (by simp [cardsK]), Ext.refl W5⟩
              case round =>
                obtain ⟨jn, q2, hjn, rfl, rfl, hQ2, hX⟩ := hrel
                by_cases hjl : jn < x.n
                · have hwq : Ext w wr := Ext.trans_ (Ext.trans_ hE.out HE5.out) hX.out
                  obtain ⟨ab, ao, hAe, hcell⟩ := HRA.out wr hwq jn _ (wcells_at (flds M x) jn (by rw [flds_len]; exact hjl))
                  rw [flds_at M x jn hjl] at hcell
                  have hin := wat_in HM.out.ok (x.a + 1 + jn)
                  have HYP := Lib.hid (young_pts M HSH.out _ hin.1 (fld_of HFT.out jn hjl))
                  have HCR : Hid (crd M x jn = !(youngB M (wat M.W (x.a + 1 + jn)) && !cardB M ((x.a : Int) + 1 + jn))) := by unfold Hid crd; rw [HO.out, Bool.true_and]
                  obtain ⟨J, hJ1, hJ2, hJ3⟩ := card_idx HSH.out ((x.a : Int) + 1 + jn) (by omega) (by have := hx3 ho; omega)
                  obtain ⟨cb, co, hCe, hccell⟩ := HM.out.rC J _ (bcells_at M.cards J hJ2)
                  have HJ3 := Lib.hid hJ3
                  have HP := fun W => points_any (wat M.W (x.a + 1 + jn)) hin.1 hin.2 W
                  generalize ptsW (wat M.W (x.a + 1 + jn)) = P at *
                  generalize wat M.W (x.a + 1 + jn) = v at *
                  rw [hJ3] at HCR
                  generalize hcq : M.cards.getD J false = cq at *
                  have HPT := Lib.hid HP
                  subst hAe
                  have yy0 := hX.out.cell_ y0
                  have yC := hX.out.cell_ dC
                  rw [hCe] at yC
                  have yD := hX.out.cell_ dD
                  have yH := hX.out.cell_ dH
                  have hcc := hwq.cell_ hccell
                  have hjz : (jn : Int) < (x.n : Int) := by omega
                  have hJz : (J : Int) < (M.cards.length : Int) := by omega
                  have hb1 : (x.a : Int) + 1 + jn - 2 * M.half ≤ 196608 := by omega
                  have hb0 : 0 ≤ (x.a : Int) + 1 + jn - 2 * M.half := by omega
                  have hne1 : (M.card == 0) = false := by simp; omega
                  have hne2 : ¬ M.card = 0 := by omega
                  have HJ1 := Lib.hid hJ1
                  clear hJ1 hJ2 hJ3 hCe hccell HP hcq hin
                  by_cases hP0 : 0 ≤ P
                  · by_cases hP1 : P < 2 * M.half
                    · have HYT : Hid (youngB M v = true) := by rw [Hid, HYP.out, decide_eq_true hP0, decide_eq_true hP1]; rfl
                      cases cq with
                      | true =>
                        have HCRD : Hid (crd M x jn = true) := by rw [Hid, HCR.out, HYT.out]; rfl
                        go_wp2_with (go_at_call 48; refine (HPT.out _).mono ?_; rintro e w' ⟨rfl, rfl⟩)
                        have e3 : IntKind.i64.wrap ((x.a : Int) + 1) = (x.a : Int) + 1 := IntWalk.i64_in _ (by omega)
                        have e4 : IntKind.i64.wrap ((x.a : Int) + 1 + (jn : Int)) = (x.a : Int) + 1 + (jn : Int) := IntWalk.i64_in _ (by omega)
                        have e6 : IntKind.i64.wrap ((x.a : Int) + 1 + (jn : Int) - 2 * M.half) = (x.a : Int) + 1 + (jn : Int) - 2 * M.half := IntWalk.i64_in _ (by omega)
                        have e7 : IntKind.i64.wrap (J : Int) = (J : Int) := IntWalk.i64_in _ (by omega)
                        have e8 := HJ1.out
                        go_quiet (fail)
                        clear e3 e4 e6 e7 e8
                        go_wp2
                        go_roundw
                        case rel => exact ⟨jn + 1, q2, by omega, by go_num, rfl, Lib.hid (by rw [cardsK_succ, ← Bool.and_assoc, ← hQ2.out, HCRD.out, Bool.and_true]), by repeat (first | exact hX.out | (refine Ext.drew_ ?_) | (refine Ext.drewN_ ?_ _))⟩
                        case measure => simp [intOf]; omega
                      | false =>
                        have HCRD : Hid (crd M x jn = false) := by rw [Hid, HCR.out, HYT.out]; rfl
                        go_wp2_with (go_at_call 48; refine (HPT.out _).mono ?_; rintro e w' ⟨rfl, rfl⟩)
                        have e3 : IntKind.i64.wrap ((x.a : Int) + 1) = (x.a : Int) + 1 := IntWalk.i64_in _ (by omega)
                        have e4 : IntKind.i64.wrap ((x.a : Int) + 1 + (jn : Int)) = (x.a : Int) + 1 + (jn : Int) := IntWalk.i64_in _ (by omega)
                        have e6 : IntKind.i64.wrap ((x.a : Int) + 1 + (jn : Int) - 2 * M.half) = (x.a : Int) + 1 + (jn : Int) - 2 * M.half := IntWalk.i64_in _ (by omega)
                        have e7 : IntKind.i64.wrap (J : Int) = (J : Int) := IntWalk.i64_in _ (by omega)
                        have e8 := HJ1.out
                        go_quiet (fail)
                        clear e3 e4 e6 e7 e8
                        go_wp2
                        go_roundw
                        case rel => exact ⟨jn + 1, false, by omega, by go_num, rfl, Lib.hid (by rw [cardsK_succ, HCRD.out]; simp), by repeat (first | exact hX.out | (refine Ext.drew_ ?_) | (refine Ext.drewN_ ?_ _))⟩
                        case measure => simp [intOf]; omega
                    · have HCRD : Hid (crd M x jn = true) := by rw [Hid, HCR.out, HYP.out, decide_eq_false hP1, Bool.and_false]; rfl
                      have b1 : decide (0 ≤ P) = true := decide_eq_true hP0
                      have b2 : decide (P < 2 * M.half) = false := decide_eq_false hP1
                      go_wp2_with (go_at_call 48; refine (HPT.out _).mono ?_; rintro e w' ⟨rfl, rfl⟩)
                      go_quiet (fail)
                      skip
                      go_wp2
                      go_roundw
                      case rel => exact ⟨jn + 1, q2, by omega, by go_num, rfl, Lib.hid (by rw [cardsK_succ, ← Bool.and_assoc, ← hQ2.out, HCRD.out, Bool.and_true]), by repeat (first | exact hX.out | (refine Ext.drew_ ?_) | (refine Ext.drewN_ ?_ _))⟩
                      case measure => simp [intOf]; omega
                  · have HCRD : Hid (crd M x jn = true) := by rw [Hid, HCR.out, HYP.out, decide_eq_false hP0]; rfl
                    have b1 : decide (0 ≤ P) = false := decide_eq_false hP0
                    go_wp2_with (go_at_call 48; refine (HPT.out _).mono ?_; rintro e w' ⟨rfl, rfl⟩)
                    go_quiet (fail)
                    skip
                    go_wp2
                    go_roundw
                    case rel => exact ⟨jn + 1, q2, by omega, by go_num, rfl, Lib.hid (by rw [cardsK_succ, ← Bool.and_assoc, ← hQ2.out, HCRD.out, Bool.and_true]), by repeat (first | exact hX.out | (refine Ext.drew_ ?_) | (refine Ext.drewN_ ?_ _))⟩
                    case measure => simp [intOf]; omega
                · have hjz : ¬ (jn : Int) < (x.n : Int) := by omega
                  obtain rfl : jn = x.n := by omega
                  have HCD : Hid (cardsO M x = cardsK M x x.n) := by unfold Hid; rw [cardsO_fld HRW.out]
                  go_wp2
                  go_roundw
                  case rel => exact ⟨k + 1, q2, by omega, by go_num, rfl, Lib.hid (by rw [HD.out, List.all_append, ← hQ.out, hQ2.out]; simp [HCD.out]), Lib.hid (by rw [HD.out, List.all_append, hA.out]; simp [HOKX.out]), Ext.trans_ (Ext.trans_ hE.out HE5.out) hX.out, Ext.trans_ (Ext.trans_ hE2.out HE5.out) hX.out⟩
                  case measure => simp [intOf]; omega
      · have ho' : decide (2 * M.half ≤ (x.a : Int)) = false := decide_eq_false ho
        have HO : Hid (oldB M (x.a : Int) = false) := ho'
        have HAG : Hid (ageB M x = true) := ageB_new HO.out
        cases hraw : decide (hKind x.w < 8) with
        | true =>
          have HRW : Hid (rawB (hKind x.w) = true) := hraw
          go_wp2
          go_quiet (fail)
          go_wp2
          go_roundw
          case rel => exact ⟨k + 1, q, by omega, by go_num, rfl, Lib.hid (by rw [HD.out, List.all_append, ← hQ.out]; simp [cardsO_raw HRW.out]), Lib.hid (by rw [HD.out, List.all_append, hA.out]; simp [okK, HAG.out, okFld_raw HRW.out]), by repeat (first | exact hE.out | (refine Ext.drew_ ?_) | (refine Ext.drewN_ ?_ _) | (refine Ext.alloc_ ?_ _)), by repeat (first | exact hE2.out | (refine Ext.drew_ ?_) | (refine Ext.drewN_ ?_ _) | (refine Ext.alloc_ ?_ _))⟩
          case measure => simp [intOf]; omega
        | false =>
          have HRW : Hid (rawB (hKind x.w) = false) := hraw
          have d3 := hE.out.cell_ c_W
          go_wp2
          go_quiet (fail)
          go_wp2
          obtain ⟨A, C, hsl, hAC, hAn, hRA⟩ := run_part (P := Tryd.prog) undU64 sizeU64 wb wo M.W.length S.W.2 (x.a + 1) (x.a + 1 + x.n) ((x.a : Int) + 1) ((x.a : Int) + 1 + hSize x.w) (by omega) (by omega) (by omega) (by omega)
          have HRA : Hid (∀ W, Ext w W → RSl W A (wcells (flds M x))) := fun W hW => by
            have := hRA W _ (HWA.out ▸ (HM.out.ext hW).rW)
            rw [flds_cells M x (by omega)] at this
            exact this
          rw [show x.a + 1 + x.n - (x.a + 1) = x.n by omega] at hsl hAC
          clear hRA
          have hc1 : (x.a : Int) + 1 + hSize x.w ≤ (S.W.2 : Int) := by omega
          have hc2 : (0 : Int) ≤ (x.a : Int) + 1 := by omega
          have hc3 : (x.a : Int) + 1 ≤ (x.a : Int) + 1 + hSize x.w := by omega
          have hcall := fieldsOK_any A C (flds M x) (by rw [flds_len]; omega) (fun z hz => flds_in HM.out.ok x z hz) (some ⟨ob, oo, none⟩) lc l
          rw [flds_len] at hcall
          have HCALL := Lib.hid hcall
          clear hcall
          have e1 : IntKind.i64.wrap ((x.a : Int) + 1) = (x.a : Int) + 1 := IntWalk.i64_in _ (by omega)
          have e2 : IntKind.i64.wrap ((x.a : Int) + 1 + hSize x.w) = (x.a : Int) + 1 + hSize x.w := IntWalk.i64_in _ (by omega)
          go_quiet (fail)
          clear e1 e2 hsl
          go_wp2_with fail
          refine (HCALL.out _ HLL.out (HRA.out _ (by repeat (first | exact hE.out | (refine Ext.drew_ ?_) | (refine Ext.drewN_ ?_ _) | (refine Ext.alloc_ ?_ _)))) (HLR.out.ext (by repeat (first | exact hE2.out | (refine Ext.drew_ ?_) | (refine Ext.drewN_ ?_ _) | (refine Ext.alloc_ ?_ _)))) HLT.out).mono ?_
          rintro e w' ⟨he, hw9⟩
          have hw9 := hw9.symm
          subst hw9
          rw [HATS.out] at he
          cases hf : fieldsB (startsM M) (flds M x) with
          | false =>
            have HFF := Lib.hid hf
            rw [hf] at he
            subst he
            clear hf
            go_wp2
            go_ret
            refine ⟨?_, by repeat (first | exact hE.out | (refine Ext.drew_ ?_) | (refine Ext.drewN_ ?_ _) | (refine Ext.alloc_ ?_ _))⟩
            have hf : l.all (okK M) = false := all_take_false HMEM.out (by unfold okK okFld; rw [HRW.out, HFF.out, HAG.out]; rfl)
            rw [HCHK.out, hf]; rfl
          | true =>
            have HFT := Lib.hid hf
            rw [hf] at he
            subst he
            clear hf
            go_wp2
            refine named_world' (fun W5 hW5 => ?_)
            have hE5 : Ext wr W5 := by rw [hW5]; repeat (first | exact Ext.refl _ | (refine Ext.drew_ ?_) | (refine Ext.drewN_ ?_ _) | (refine Ext.alloc_ ?_ _))
            have HE5 := Lib.hid hE5
            have y0 : W5.cell? ⟨wr.heap.size, 0, none⟩ = some (.int .i64 (x.a : Int)) := by rw [hW5]; simp [go_sem]
            clear hW5 hE5
            have HOKX : Hid (okK M x = true) := by unfold Hid okK okFld; rw [HRW.out, HFT.out, HAG.out]; rfl
            have HCD : Hid (cardsO M x = true) := by unfold Hid; rw [cardsO_fld HRW.out]; exact cardsK_new HO.out _
            go_loopw [5, 10] (fun c j wq => c = .bool q ∧ j = .int .i64 0 ∧ Hid (Ext W5 wq)) (fun _ _ _ => 0)
            case atStart => exact ⟨rfl, rfl, Ext.refl W5⟩
            case round =>
              obtain ⟨rfl, rfl, hX⟩ := hrel
              by_cases hn0 : (0 : Int) < (x.n : Int)
              · go_wp2
                go_roundw
                case rel => exact ⟨k + 1, q, by omega, by go_num, rfl, Lib.hid (by rw [HD.out, List.all_append, ← hQ.out]; simp [HCD.out]), Lib.hid (by rw [HD.out, List.all_append, hA.out]; simp [HOKX.out]), Ext.trans_ (Ext.trans_ hE.out HE5.out) hX.out, Ext.trans_ (Ext.trans_ hE2.out HE5.out) hX.out⟩
                case measure => simp [intOf]; omega
              · go_wp2
                go_roundw
                case rel => exact ⟨k + 1, q, by omega, by go_num, rfl, Lib.hid (by rw [HD.out, List.all_append, ← hQ.out]; simp [HCD.out]), Lib.hid (by rw [HD.out, List.all_append, hA.out]; simp [HOKX.out]), Ext.trans_ (Ext.trans_ hE.out HE5.out) hX.out, Ext.trans_ (Ext.trans_ hE2.out HE5.out) hX.out⟩
                case measure => simp [intOf]; omega
    · obtain rfl : k = l.length := by omega
      have hltz : ¬ (l.length : Int) < (l.length : Int) := by omega
      have HALL : Hid (l.all (okK M) = true) := by have := hA.out; rw [List.take_length] at this; exact this
      have HQC : Hid (q = cardsM M) := by rw [Hid, hQ.out, List.take_length]; unfold cardsM; rw [← HL.out]
      have HI := Lib.hid HM.out.rI
      have cI := HM.out.ids
      have hicap := HM.out.capI
      have hil : M.ids.length ≤ 9223372036854775807 := HM.out.ok.lenI
      clear hlt d0 hQ hA
      go_wp2
      go_loopw [12] (fun i wr => ∃ (k : Nat), k ≤ M.ids.length ∧ i = .int .i64 (k : Int) ∧ Hid (∀ j (hj : j < M.ids.length), j < k → idK (startsM M) (M.ids.take j) M.ids[j] = true) ∧ Hid (Ext w wr) ∧ Hid (Ext w2 wr)) (fun i _ => M.ids.length - (intOf i).toNat)
      case atStart => exact ⟨0, Nat.zero_le _, rfl, Lib.hid (fun j _ hj => absurd hj (Nat.not_lt_zero _)), hE, hE2⟩
      case round =>
        obtain ⟨k, hk, rfl, hI, hE, hE2⟩ := hrel
        have yI := hE.out.cell_ cI
        by_cases hlt : k < M.ids.length
        · obtain ⟨p1, p2⟩ := icells_at M.ids k hlt
          obtain ⟨ib, io, hIa, hc1⟩ := HI.out _ _ p1
          have hc2 := (hIa ▸ HI.out).at_ p2
          rw [← Nat.add_assoc] at hc2
          replace hc1 := hE.out.cell_ hc1
          replace hc2 := hE.out.cell_ hc2
          rw [hIa] at yI
          have HIA := Lib.hid hIa
          have HKL := Lib.hid hlt
          obtain ⟨⟨hb0, hb1⟩, -⟩ := HM.out.ok.ids M.ids[k] (List.getElem_mem hlt)
          generalize hx : M.ids[k] = x at hc1 hc2 hb0 hb1
          obtain ⟨x1, x2⟩ := x
          have HXX := Lib.hid hx.symm
          simp only at hc1 hc2 hb0 hb1
          have HP := fun W => points_any x1 hb0 hb1 W
          have HPE : Hid (∃ P, P = ptsW x1) := ⟨_, rfl⟩
          obtain ⟨P, hP⟩ := HPE.out
          rw [← hP] at HP
          have HPT := Lib.hid HP
          have HPQ := Lib.hid hP
          have HOA := Lib.hid (fun W hR => objectAt_any la lc l P W HLL.out hR)
          have HON : Hid (decide (0 ≤ objAt l P) = inSt (startsM M) P) := by rw [Hid, objAt_nonneg]; rw [← HATS.out]; rfl
          have hltz : (k : Int) < (M.ids.length : Int) := by omega
          have hzb : ib < wr.heap.size := cell_lt hc1
          have hzo : b < wr.heap.size := by have := hE.out.size; omega
          clear p1 p2 hIa hx HP hP HPE
          by_cases q1 : P < 0
          · go_wp2_with (go_at_call 48; refine (HPT.out _).mono ?_; rintro e w' ⟨rfl, hw9⟩; have hw9 := hw9.symm; subst hw9)
            go_ret
            refine ⟨?_, by repeat (first | exact hE.out | (refine Ext.drew_ ?_) | (refine Ext.drewN_ ?_ _) | (refine Ext.alloc_ ?_ _))⟩
            rw [HCHK.out, HALL.out, ids_bad HSH.out HM.out.ok k HKL.out (by have key := idK_a (st := startsM M) (pre := M.ids.take k) (x := (x1, x2)) (by show ptsW x1 < 0; rw [← HPQ.out]; exact q1); rw [HXX.out] at key; exact key)]; rfl
          · by_cases q2 : objAt l P < 0
            · go_wp2_with (first
                | (go_at_call 48; refine (HPT.out _).mono ?_; rintro e w' ⟨rfl, hw9⟩; have hw9 := hw9.symm; subst hw9)
                | (go_at_call 49; refine (HOA.out _ (HLR.out.ext (by repeat (first | exact hE2.out | (refine Ext.drew_ ?_) | (refine Ext.drewN_ ?_ _) | (refine Ext.alloc_ ?_ _))))).mono ?_; rintro e w' ⟨rfl, hw9⟩; have hw9 := hw9.symm; subst hw9))
              go_ret
              refine ⟨?_, by repeat (first | exact hE.out | (refine Ext.drew_ ?_) | (refine Ext.drewN_ ?_ _) | (refine Ext.alloc_ ?_ _))⟩
              rw [HCHK.out, HALL.out, ids_bad HSH.out HM.out.ok k HKL.out (by have key := idK_b (st := startsM M) (pre := M.ids.take k) (x := (x1, x2)) (by show inSt (startsM M) (ptsW x1) = false; rw [← HPQ.out, ← HON.out]; exact decide_eq_false (by omega)); rw [HXX.out] at key; exact key)]; rfl
            · by_cases q3 : x2 < 1
              · go_wp2_with (first
                  | (go_at_call 48; refine (HPT.out _).mono ?_; rintro e w' ⟨rfl, hw9⟩; have hw9 := hw9.symm; subst hw9)
                  | (go_at_call 49; refine (HOA.out _ (HLR.out.ext (by repeat (first | exact hE2.out | (refine Ext.drew_ ?_) | (refine Ext.drewN_ ?_ _) | (refine Ext.alloc_ ?_ _))))).mono ?_; rintro e w' ⟨rfl, hw9⟩; have hw9 := hw9.symm; subst hw9))
                go_ret
                refine ⟨?_, by repeat (first | exact hE.out | (refine Ext.drew_ ?_) | (refine Ext.drewN_ ?_ _) | (refine Ext.alloc_ ?_ _))⟩
                rw [HCHK.out, HALL.out, ids_bad HSH.out HM.out.ok k HKL.out (by have key := idK_c (st := startsM M) (pre := M.ids.take k) (x := (x1, x2)) q3; rw [HXX.out] at key; exact key)]; rfl
              · go_wp2_with (first
                  | (go_at_call 48; refine (HPT.out _).mono ?_; rintro e w' ⟨rfl, hw9⟩; have hw9 := hw9.symm; subst hw9)
                  | (go_at_call 49; refine (HOA.out _ (HLR.out.ext (by repeat (first | exact hE2.out | (refine Ext.drew_ ?_) | (refine Ext.drewN_ ?_ _) | (refine Ext.alloc_ ?_ _))))).mono ?_; rintro e w' ⟨rfl, hw9⟩; have hw9 := hw9.symm; subst hw9))
                refine named_world' (fun W5 hW5 => ?_)
                have hE5 : Ext wr W5 := by rw [hW5]; repeat (first | exact Ext.refl _ | (refine Ext.drew_ ?_) | (refine Ext.drewN_ ?_ _) | (refine Ext.alloc_ ?_ _))
                have HE5 := Lib.hid hE5
                have y0 : W5.cell? ⟨wr.heap.size, 0, none⟩ = some (.int .u64 x1) := by rw [hW5]; simp [go_sem]
                have y1 : W5.cell? ⟨wr.heap.size, 1, none⟩ = some (.int .i64 x2) := by rw [hW5]; simp [go_sem]
                have vI := hE5.cell_ yI
                have HOK3 : Hid (inSt (startsM M) (ptsW x1) = true) := by rw [Hid, ← HPQ.out, ← HON.out]; exact decide_eq_true (by omega)
                have HOK1 : Hid (¬ ptsW x1 < 0) := by rw [Hid, ← HPQ.out]; omega
                clear hW5 hE5 hc1 hc2 yI
                go_loopw [15] (fun j wr => ∃ (jn : Nat), jn ≤ k ∧ j = .int .i64 (jn : Int) ∧ Hid (∀ i (hi : i < M.ids.length), i < jn → twoB M.ids[i] (x1, x2) = false) ∧ Hid (Ext W5 wr)) (fun j _ => k - (intOf j).toNat)
                case atStart => exact ⟨0, Nat.zero_le _, rfl, Lib.hid (fun j _ hj => absurd hj (Nat.not_lt_zero _)), Ext.refl W5⟩
                case round =>
                  obtain ⟨jn, hjn, rfl, hJ, hX⟩ := hrel
                  by_cases hjl : jn < k
                  · have hjl2 : jn < M.ids.length := by omega
                    obtain ⟨p1, p2⟩ := icells_at M.ids jn hjl2
                    have hc1 := (HIA.out ▸ HI.out).at_ p1
                    have hc2 := (HIA.out ▸ HI.out).at_ p2
                    rw [← Nat.add_assoc] at hc2
                    replace hc1 := hX.out.cell_ (HE5.out.cell_ (hE.out.cell_ hc1))
                    replace hc2 := hX.out.cell_ (HE5.out.cell_ (hE.out.cell_ hc2))
                    have zI := hX.out.cell_ vI
                    have z0 := hX.out.cell_ y0
                    have z1 := hX.out.cell_ y1
                    have hjz : (jn : Int) < (k : Int) := by omega
                    have hjz2 : (jn : Int) < (M.ids.length : Int) := by omega
                    have HJL := Lib.hid hjl2
                    generalize hy : M.ids[jn] = y at hc1 hc2
                    obtain ⟨v1, v2⟩ := y
                    have HYY := Lib.hid hy.symm
                    simp only at hc1 hc2
                    clear p1 p2 hy
                    cases r1 : (v1 == x1) with
                    | true =>
                      have HTW : Hid (twoB (v1, v2) (x1, x2) = true) := by unfold Hid twoB; simp only; rw [r1]; rfl
                      go_wp2
                      go_quiet (fail)
                      go_wp2
                      go_ret
                      refine ⟨?_, Ext.trans_ (Ext.trans_ hE.out HE5.out) (by repeat (first | exact hX.out | (refine Ext.drew_ ?_) | (refine Ext.drewN_ ?_ _) | (refine Ext.alloc_ ?_ _)))⟩
                      rw [HCHK.out, HALL.out, ids_bad HSH.out HM.out.ok k HKL.out (by have key := idK_d (st := startsM M) (pre := M.ids.take k) (x := (x1, x2)) (y := (v1, v2)) (by rw [HYY.out, List.mem_iff_getElem]; exact ⟨jn, by simp; omega, by rw [List.getElem_take]; rfl⟩) HTW.out; rw [HXX.out] at key; exact key)]; rfl
                    | false =>
                      cases r2 : (v2 == x2) with
                      | true =>
                        have HTW : Hid (twoB (v1, v2) (x1, x2) = true) := by unfold Hid twoB; simp only; rw [r1, r2]; rfl
                        go_wp2
                        go_quiet (fail)
                        go_wp2
                        go_ret
                        refine ⟨?_, Ext.trans_ (Ext.trans_ hE.out HE5.out) (by repeat (first | exact hX.out | (refine Ext.drew_ ?_) | (refine Ext.drewN_ ?_ _) | (refine Ext.alloc_ ?_ _)))⟩
                        rw [HCHK.out, HALL.out, ids_bad HSH.out HM.out.ok k HKL.out (by have key := idK_d (st := startsM M) (pre := M.ids.take k) (x := (x1, x2)) (y := (v1, v2)) (by rw [HYY.out, List.mem_iff_getElem]; exact ⟨jn, by simp; omega, by rw [List.getElem_take]; rfl⟩) HTW.out; rw [HXX.out] at key; exact key)]; rfl
                      | false =>
                        have HTW : Hid (twoB (v1, v2) (x1, x2) = false) := by unfold Hid twoB; simp only; rw [r1, r2]; rfl
                        go_wp2
                        go_quiet (fail)
                        go_wp2
                        go_roundw
                        case rel => exact ⟨jn + 1, by omega, by go_num, Lib.hid (fun i hi hij => by
                          by_cases e : i = jn
                          · subst e; have key := HTW.out; rw [HYY.out] at key; exact key
                          · exact hJ.out i hi (by omega)), by repeat (first | exact hX.out | (refine Ext.drew_ ?_) | (refine Ext.drewN_ ?_ _) | (refine Ext.alloc_ ?_ _))⟩
                        case measure => simp [intOf]; omega
                  · have hjz : ¬ (jn : Int) < (k : Int) := by omega
                    obtain rfl : jn = k := by omega
                    go_wp2
                    go_roundw
                    case rel => exact ⟨jn + 1, by have := HKL.out; omega, by go_num, Lib.hid (fun i hi hij => by
                      by_cases e : i = jn
                      · subst e; have key := idK_yes (pre := M.ids.take i) (x := (x1, x2)) HOK1.out HOK3.out (by show ¬ x2 < 1; omega) (fun i2 hi2 => by rw [List.getElem_take]; exact hJ.out i2 _ (by have := hi2; simp at this; omega)); rw [HXX.out] at key; exact key
                      · exact hI.out i hi (by omega)), Ext.trans_ (Ext.trans_ hE.out HE5.out) hX.out, Ext.trans_ (Ext.trans_ hE2.out HE5.out) hX.out⟩
                    case measure => have := HKL.out; simp [intOf]; omega
        · obtain rfl : k = M.ids.length := by omega
          have hltz : ¬ (M.ids.length : Int) < (M.ids.length : Int) := by omega
          have HIG : Hid (idsB (startsM M) [] M.ids = true) := Lib.hid (ids_good HSH.out HM.out.ok (fun j hj => hI.out j hj hj))
          cases q with
          | true =>
            go_wp2
            go_ret
            exact ⟨by rw [HCHK.out, HALL.out, HIG.out, ← HQC.out]; rfl, hE.out⟩
          | false =>
            go_wp2
            go_ret
            exact ⟨by rw [HCHK.out, HALL.out, HIG.out, ← HQC.out]; rfl, hE.out⟩
end Go.Proofs.YtecbbbaafcoliaaDoor
/- The walk of the document's CheckOf, whatever the memory: it is the program's Check. -/
namespace Go.Proofs.YtecbbbaafcoliaaDoor
open Go.RowKit
set_option linter.unusedVariables false
set_option linter.unusedSimpArgs false

theorem kCheck_any (b o : Nat) (M : Mem) (S : Sls) (w : World) (hM : RMem w b o M S) :
    Calls Tryd.prog 18 #[.pointer (some ⟨b, o, none⟩)] w fun e w' => e = .returned (.int .i64 (chk M)) ∧ Ext w w' := by
  cases hs : shapeB M with
  | false =>
    have e : chk M = 3 := by unfold chk goodB; rw [hs]; rfl
    rw [e]; exact kCheck_1 b o M S w hM hs
  | true =>
    cases hb : ((kN M).2 && (kO M).2) with
    | false =>
      have e : chk M = 3 := by unfold chk goodB; rw [hs, kAll_bad hb]; rfl
      rw [e]; exact kCheck_2 b o M S w hM hs hb
    | true =>
      cases hr : fieldsB (startsM M) M.roots with
      | false =>
        have e : chk M = 3 := by unfold chk goodB; rw [hs, hr]; simp
        rw [e]; exact kCheck_3 b o M S w hM hs hb hr
      | true =>
        cases hk : fieldsB (startsM M) M.weak with
        | false =>
          have e : chk M = 3 := by unfold chk goodB; rw [hs, hr, hk]; simp
          rw [e]; exact kCheck_4 b o M S w hM hs hb hr hk
        | true => exact kCheck_5 b o M S w hM hs hb hr hk
end Go.Proofs.YtecbbbaafcoliaaDoor
/- The walks of the document's answer for words: those that only some statements reach. -/
namespace Go.Proofs.YtecbbbaafcoliaaDoor
open Go.RowKit
set_option linter.unusedVariables false
set_option linter.unusedSimpArgs false

theorem intK_bits (a : Int) : IntKind.u64.wrap (IntKind.u64.wrap (IntKind.u64.wrap a * 4) + 1) = intW a := by
  rw [IntKind.wrap_u64, IntKind.wrap_u64, IntKind.wrap_u64]; unfold intW; omega
theorem kAddrWord_any (a : Int) (w : World) :
    Calls Tryd.prog 21 #[.int .i64 a] w fun e w' => e = .returned (.int .u64 (addrW a)) ∧ w' = w := by
  rw [← addr_bits]
  go_enter Tryd.func21, Tryd.ntmps21
  go_wp2
  go_ret
  exact ⟨rfl, rfl⟩
theorem kHeadWord_any (k a m s : Int) (hk : 0 ≤ k ∧ k ≤ 255) (ha : 0 ≤ a ∧ a ≤ 15) (hm : 0 ≤ m ∧ m ≤ 1) (hs : 0 ≤ s ∧ s ≤ 4096) (w : World) :
    Calls Tryd.prog 32 #[.int .i64 k, .int .i64 a, .int .i64 m, .int .i64 s] w fun e w' => e = .returned (.int .u64 (headW k a m s)) ∧ w' = w := by
  obtain ⟨hk0, hk1⟩ := hk
  obtain ⟨ha0, ha1⟩ := ha
  obtain ⟨hm0, hm1⟩ := hm
  obtain ⟨hs0, hs1⟩ := hs
  go_enter Tryd.func32, Tryd.ntmps32
  go_wp2
  go_ret
  exact ⟨rfl, rfl⟩
end Go.Proofs.YtecbbbaafcoliaaDoor
/- The document's FieldsOK; coded at an error by its number; memOf and Alloc at nil; what was appended to nothing lies apart. -/
namespace Go.Proofs.YtecbbbaafcoliaaDoor
open Go.RowKit
set_option linter.unusedVariables false
set_option linter.unusedSimpArgs false

theorem coded_c {E : Nat → Addr} {w : World} (h : ErrEnv E w) (c : Int) (h1 : 1 ≤ c) (h2 : c ≤ 7) :
    Calls Tryd.prog 30 #[errC E c, .int .i64 c] w fun e w' => e = .returned (.bool true) ∧ Ext w w' := by
  rw [errC_pos E c (by omega)]
  refine (coded_env h (c - 1).toNat (by omega) c).mono fun e w' ⟨he, hx⟩ => ⟨?_, hx⟩
  rw [he, show ((((c - 1).toNat : Nat) : Int) + 1) = c by omega]
  simp
theorem memOf_nil (w : World) : Calls Tryd.prog 13 #[.pointer none] w fun e w' => e = .returned (.pointer none) ∧ w' = w := by
  go_enter Tryd.func13, Tryd.ntmps13
  go_wp2
  go_ret
  exact ⟨rfl, rfl⟩
set_option maxRecDepth 100000 in
theorem alloc_nil (kind : Int) (fa : Option Addr) (fn fc : Nat) (E : Nat → Addr) (w : World) (hE : G3 E w) :
    Calls Tryd.prog 17 #[.pointer none, .int .i64 kind, .slice fa fn fc] w fun e w' => e = .returned (.tuple #[.int .u64 0, errC E 3]) ∧ Ext w w' := by
  have HS := Lib.hid hE.shape
  clear hE
  go_enter Tryd.func17, Tryd.ntmps17
  go_wp2_with (go_at_call 24; refine (check_nil _ (E 2) HS.out).mono ?_; rintro e w1 ⟨rfl, hq⟩; have HX1 := Lib.hid hq; clear hq)
  go_ret2
  exact ⟨rfl, HX1.out⟩
theorem alloc_bad (B b : Nat) (M : Mem) (S : Sls) (E : Nat → Addr) (kind : Int) (fa : Option Addr) (fs : List Int) (fc : Nat) (w : World) (hO : OMem w B b 72 M S) (hok : M.Ok) (hE : G4 E w)
    (hfl : fs.length ≤ 9223372036854775807) (hR : RSl w fa (wcells fs)) (hfb : ∀ x ∈ fs, 0 ≤ x ∧ x ≤ 18446744073709551615) (hno : ∀ x, fa = some x → ¬ OwnL b S x.block) (c : Int) (hc : allocC M kind fs = c) (h0 : c ≠ 0) :
    Calls Tryd.prog 17 #[.pointer (some ⟨b, 0, none⟩), .int .i64 kind, .slice fa fs.length fc] w fun e w' => e = .returned (.tuple #[.int .u64 0, errC E c]) ∧ Ext w w' := by
  refine (alloc_any B b M S E kind fa fs fc w hO hok hE hfl hR hfb hno).mono ?_
  rintro e w' (⟨h1, h2, h3⟩ | ⟨h1, -⟩)
  · rw [hc] at h2; exact ⟨h2, h3⟩
  · exact absurd (hc ▸ h1) h0
set_option maxRecDepth 100000 in
theorem kFieldsOK_any (b o : Nat) (M : Mem) (S : Sls) (hg : goodB M = true) (fa : Option Addr) (fc : Nat) (fs : List Int) (hfl : fs.length ≤ 9223372036854775807) (hfb : ∀ x ∈ fs, 0 ≤ x ∧ x ≤ 18446744073709551615) (w : World) (hM : RMem w b o M S) (hR : RSl w fa (wcells fs)) :
    Calls Tryd.prog 29 #[.pointer (some ⟨b, o, none⟩), .slice fa fs.length fc] w fun e w' => e = .returned (.bool (fieldsB (startsM M) fs)) ∧ Ext w w' := by
  obtain ⟨hs, hob, -⟩ := good_parts hg
  have HKB : Hid (((kN M).2 && (kO M).2) = true) := by
    cases hb : ((kN M).2 && (kO M).2) with
    | true => rfl
    | false => have := kAll_bad hb; rw [this] at hob; cases hob
  obtain ⟨l, hl⟩ : ∃ l, l = objsAll M := ⟨_, rfl⟩
  have HLI : Hid ((kN M).1 ++ (kO M).1 = l) := by rw [Hid, hl]; exact (kAll_ok HKB.out).1
  have HATS : Hid (ats l = startsM M) := by rw [Hid, hl]; rfl
  have HLT : Hid (∀ x ∈ l, (x.a : Int) < 1099511627776) := fun x hx => (starts_in M hs _ (by rw [← HATS.out]; exact List.mem_map_of_mem hx)).2
  have HLN : Hid (l.length ≤ 9223372036854775807) := by
    have h1 := partK_len M.W M.base (M.base + M.top.toNat)
    have h2 := partK_len M.W (2 * M.half).toNat ((2 * M.half).toNat + M.oldTop.toNat)
    have h3 := congrArg List.length HLI.out
    rw [List.length_append] at h3
    have e1 : (kN M).1 = (partK M.W M.base (M.base + M.top.toNat)).1 := rfl
    have e2 : (kO M).1 = (partK M.W (2 * M.half).toNat ((2 * M.half).toNat + M.oldTop.toNat)).1 := rfl
    rw [e1, e2] at h3
    have h4 := hs.t2; have h5 := hs.p2; have h6 := hs.h2; have h7 := hs.o2; have h8 := hs.t1; have h9 := hs.p1
    unfold Hid; omega
  have HS := Lib.hid hs
  have HM := Lib.hid hM
  have HR := Lib.hid hR
  have HFB := Lib.hid hfb
  have HFL := Lib.hid hfl
  clear hs hob hl hM hR hfb hg hfl
  go_enter Tryd.func29, Tryd.ntmps29
  go_wp2_with (first
    | (go_at_call 19; refine (kAll_walk b o M S HS.out _ HM.out).mono ?_; rintro e w4 ⟨la, lc, he, hown, hq⟩; rw [HKB.out, HLI.out] at he; rw [HLI.out] at hown; subst he; have HB4 := Lib.hid hq; have HLR := Lib.hid (own_rsl hown); clear hq hown)
    | (go_at_call 47; refine (fieldsOK_any fa fc fs HFL.out HFB.out la lc l _ HLN.out (HR.out.ext HB4.out) HLR.out HLT.out).mono ?_; rintro e w' ⟨rfl, hw9⟩; have hw9 := hw9.symm; subst hw9))
  go_ret
  exact ⟨by rw [HATS.out]; rfl, HB4.out⟩
theorem not_ownW {w w' : World} {B bx : Nat} {tI : TypeId} {M : Mem} {S : Sls} (h : OMem w B bx tI M S) {la : Option Addr} {lc n : Nat} {e : TypeId} {size : Nat} {cs : List Value} (hl : w'.ownsRow w.heap.size e size (.slice la n lc) n cs) : ∀ y, la = some y → ¬ OwnL bx S y.block := fun y hy hk => by
  have h1 := (h.ownL hk).2
  rcases hl.2 with ⟨h2, _⟩ | ⟨g, cap, cur, h2, hg, _⟩
  · injection h2 with h2
    rw [hy] at h2; cases h2
  · injection h2 with h2
    rw [hy] at h2
    injection h2 with h2
    rw [h2] at h1
    simp only at h1
    omega
end Go.Proofs.YtecbbbaafcoliaaDoor
