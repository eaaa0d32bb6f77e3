/- The walk of the document's Shaped: where a length is wrong. -/
import Derived.Test.YtecbbbaafcoliaaGreatDoorJYa24
namespace Go.Proofs.YtecbbbaafcoliaaGreatDoor
open Go.RowKit
set_option linter.unusedVariables false
set_option linter.unusedSimpArgs false

set_option maxRecDepth 100000 in
theorem kShaped_nil (w : World) : Calls Tryz.prog 25 #[.pointer none] w fun e w' => e = .returned (.bool false) ∧ Ext w w' := by
  go_enter Tryz.func25, Tryz.ntmps25
  go_wp2
  go_ret
  exact ⟨rfl, Ext.refl _⟩
set_option maxRecDepth 100000 in
set_option maxHeartbeats 4000000 in
theorem kShaped_no1 (b o : Nat) (M : Mem) (S : Sls) (w : World) (hM : RMem w b o M S)
    (h : M.half < 1 ∨ (¬ M.half < 1 ∧ 65536 < M.half) ∨ (¬ M.half < 1 ∧ ¬ 65536 < M.half ∧ M.old < 1) ∨ (¬ M.half < 1 ∧ ¬ 65536 < M.half ∧ ¬ M.old < 1 ∧ 65536 < M.old)
      ∨ (¬ M.half < 1 ∧ ¬ 65536 < M.half ∧ ¬ M.old < 1 ∧ ¬ 65536 < M.old ∧ M.card < 1) ∨ (¬ M.half < 1 ∧ ¬ 65536 < M.half ∧ ¬ M.old < 1 ∧ ¬ 65536 < M.old ∧ ¬ M.card < 1 ∧ 1024 < M.card)) :
    Calls Tryz.prog 25 #[.pointer (some ⟨b, o, none⟩)] w fun e w' => e = .returned (.bool false) ∧ Ext w w' := by
  have n0 := hM.half
  have n1 := hM.old
  have n2 := hM.card
  clear hM
  rcases h with h | ⟨h1, h⟩ | ⟨h1, h2, h⟩ | ⟨h1, h2, h3, h⟩ | ⟨h1, h2, h3, h4, h⟩ | ⟨h1, h2, h3, h4, h5, h⟩
  all_goals
    go_enter Tryz.func25, Tryz.ntmps25
    go_wp2
    go_ret
    exact ⟨rfl, Ext.refl _⟩
set_option maxRecDepth 100000 in
set_option maxHeartbeats 8000000 in
theorem kShaped_no2 (b o : Nat) (M : Mem) (S : Sls) (w : World) (hM : RMem w b o M S) (h1 : 1 ≤ M.half) (h2 : M.half ≤ 65536) (o1 : 1 ≤ M.old) (o2 : M.old ≤ 65536) (c1 : 1 ≤ M.card) (c2 : M.card ≤ 1024)
    (h : ¬ (M.W.length : Int) = 2 * M.half + M.old ∨ ((M.W.length : Int) = 2 * M.half + M.old ∧ ¬ (M.cards.length : Int) = (M.old + M.card - 1) / M.card) ∨ ((M.W.length : Int) = 2 * M.half + M.old ∧ (M.cards.length : Int) = (M.old + M.card - 1) / M.card ∧ M.used < 0) ∨
      ((M.W.length : Int) = 2 * M.half + M.old ∧ (M.cards.length : Int) = (M.old + M.card - 1) / M.card ∧ ¬ M.used < 0 ∧ 1 < M.used)) :
    Calls Tryz.prog 25 #[.pointer (some ⟨b, o, none⟩)] w fun e w' => e = .returned (.bool false) ∧ Ext w w' := by
  have n0 := hM.half
  have n1 := hM.old
  have n2 := hM.card
  have n3 := hM.W
  have n4 := hM.used
  have n10 := hM.cards
  have hl := hM.ok.lenW
  have hl2 := hM.ok.lenC
  have e1 : M.old.tdiv M.card = M.old / M.card := Int.tdiv_eq_ediv_of_nonneg (by omega)
  have q0 : 0 ≤ M.old / M.card := Int.ediv_nonneg (by omega) (by omega)
  have q1 : M.old / M.card ≤ M.old := Int.ediv_le_self _ (by omega)
  have q2 : M.old / M.card * M.card ≤ M.old := Int.ediv_mul_le _ (by omega)
  have q3 : 0 ≤ M.old / M.card * M.card := Int.mul_nonneg q0 (by omega)
  rw [ceil_div _ _ o1 c1] at h
  generalize M.old / M.card = q at *
  have e2 : IntKind.i64.wrap q = q := IntWalk.i64_in _ (by omega)
  have e3 : IntKind.i64.wrap (q * M.card) = q * M.card := IntWalk.i64_in _ (by omega)
  have e4 : IntKind.i64.wrap (2 * M.half) = 2 * M.half := IntWalk.i64_in _ (by omega)
  have e5 : IntKind.i64.wrap (2 * M.half + M.old) = 2 * M.half + M.old := IntWalk.i64_in _ (by omega)
  have e6 : ¬ M.card = 0 := by omega
  have e7 : (M.card == 0) = false := by simp; omega
  clear hM
  obtain ⟨z, hz⟩ : ∃ z : Int, z = if q * M.card < M.old then q + 1 else q := ⟨_, rfl⟩
  rw [← hz] at h
  by_cases hlt : q * M.card < M.old
  · rw [if_pos hlt] at hz
    rw [hz] at h
    clear hz
    have h' : ((M.W.length : Int) != 2 * M.half + M.old) = true ∨ (((M.W.length : Int) != 2 * M.half + M.old) = false ∧ ((M.cards.length : Int) != q + 1) = true) ∨ (((M.W.length : Int) != 2 * M.half + M.old) = false ∧ ((M.cards.length : Int) != q + 1) = false ∧ decide (M.used < 0) = true) ∨
      (((M.W.length : Int) != 2 * M.half + M.old) = false ∧ ((M.cards.length : Int) != q + 1) = false ∧ decide (M.used < 0) = false ∧ decide (1 < M.used) = true) := by
      rcases h with h | ⟨a1, h⟩ | ⟨a1, a2, h⟩ | ⟨a1, a2, a3, h⟩
      · exact Or.inl (by simpa using h)
      · exact Or.inr (Or.inl ⟨by simpa using a1, by simpa using h⟩)
      · exact Or.inr (Or.inr (Or.inl ⟨by simpa using a1, by simpa using a2, by simpa using h⟩))
      · exact Or.inr (Or.inr (Or.inr ⟨by simpa using a1, by simpa using a2, by simpa using a3, by simpa using h⟩))
    clear h
    rcases h' with d1 | ⟨d1, d2⟩ | ⟨d1, d2, d3⟩ | ⟨d1, d2, d3, d4⟩
    all_goals
      go_enter Tryz.func25, Tryz.ntmps25
      go_wp2
      go_quiet (fail)
      go_wp2
      go_quiet (fail)
      go_wp2
      go_quiet (fail)
      go_wp2
      go_ret
      exact ⟨rfl, by repeat (first | exact Ext.refl _ | (refine Ext.drewN_ ?_ _))⟩
  · rw [if_neg hlt] at hz
    rw [hz] at h
    clear hz
    have h' : ((M.W.length : Int) != 2 * M.half + M.old) = true ∨ (((M.W.length : Int) != 2 * M.half + M.old) = false ∧ ((M.cards.length : Int) != q) = true) ∨ (((M.W.length : Int) != 2 * M.half + M.old) = false ∧ ((M.cards.length : Int) != q) = false ∧ decide (M.used < 0) = true) ∨
      (((M.W.length : Int) != 2 * M.half + M.old) = false ∧ ((M.cards.length : Int) != q) = false ∧ decide (M.used < 0) = false ∧ decide (1 < M.used) = true) := by
      rcases h with h | ⟨a1, h⟩ | ⟨a1, a2, h⟩ | ⟨a1, a2, a3, h⟩
      · exact Or.inl (by simpa using h)
      · exact Or.inr (Or.inl ⟨by simpa using a1, by simpa using h⟩)
      · exact Or.inr (Or.inr (Or.inl ⟨by simpa using a1, by simpa using a2, by simpa using h⟩))
      · exact Or.inr (Or.inr (Or.inr ⟨by simpa using a1, by simpa using a2, by simpa using a3, by simpa using h⟩))
    clear h
    rcases h' with d1 | ⟨d1, d2⟩ | ⟨d1, d2, d3⟩ | ⟨d1, d2, d3, d4⟩
    all_goals
      go_enter Tryz.func25, Tryz.ntmps25
      go_wp2
      go_quiet (fail)
      go_wp2
      go_quiet (fail)
      go_wp2
      go_quiet (fail)
      go_wp2
      go_ret
      exact ⟨rfl, by repeat (first | exact Ext.refl _ | (refine Ext.drewN_ ?_ _))⟩
set_option maxRecDepth 100000 in
set_option maxHeartbeats 8000000 in
theorem kShaped_no3 (b o : Nat) (M : Mem) (S : Sls) (w : World) (hM : RMem w b o M S) (h1 : 1 ≤ M.half) (h2 : M.half ≤ 65536) (o1 : 1 ≤ M.old) (o2 : M.old ≤ 65536) (c1 : 1 ≤ M.card) (c2 : M.card ≤ 1024)
    (hw : (M.W.length : Int) = 2 * M.half + M.old) (cl : (M.cards.length : Int) = (M.old + M.card - 1) / M.card) (u1 : 0 ≤ M.used) (u2 : M.used ≤ 1)
    (h : decide (0 ≤ M.top) = false ∨ (decide (0 ≤ M.top) = true ∧ decide (M.top ≤ M.half) = false) ∨ (decide (0 ≤ M.top) = true ∧ decide (M.top ≤ M.half) = true ∧ decide (0 ≤ M.oldTop) = false) ∨
      (decide (0 ≤ M.top) = true ∧ decide (M.top ≤ M.half) = true ∧ decide (0 ≤ M.oldTop) = true ∧ decide (M.oldTop ≤ M.old) = false)) :
    Calls Tryz.prog 25 #[.pointer (some ⟨b, o, none⟩)] w fun e w' => e = .returned (.bool false) ∧ Ext w w' := by
  have n0 := hM.half
  have n1 := hM.old
  have n2 := hM.card
  have n3 := hM.W
  have n4 := hM.used
  have n5 := hM.top
  have n6 := hM.oldTop
  have n10 := hM.cards
  have hl := hM.ok.lenW
  have hl2 := hM.ok.lenC
  have e1 : M.old.tdiv M.card = M.old / M.card := Int.tdiv_eq_ediv_of_nonneg (by omega)
  have q0 : 0 ≤ M.old / M.card := Int.ediv_nonneg (by omega) (by omega)
  have q1 : M.old / M.card ≤ M.old := Int.ediv_le_self _ (by omega)
  have q2 : M.old / M.card * M.card ≤ M.old := Int.ediv_mul_le _ (by omega)
  have q3 : 0 ≤ M.old / M.card * M.card := Int.mul_nonneg q0 (by omega)
  have hcl := cl
  rw [ceil_div _ _ o1 c1] at hcl
  clear cl
  generalize M.old / M.card = q at *
  have e2 : IntKind.i64.wrap q = q := IntWalk.i64_in _ (by omega)
  have e3 : IntKind.i64.wrap (q * M.card) = q * M.card := IntWalk.i64_in _ (by omega)
  have e4 : IntKind.i64.wrap (2 * M.half) = 2 * M.half := IntWalk.i64_in _ (by omega)
  have e5 : IntKind.i64.wrap (2 * M.half + M.old) = 2 * M.half + M.old := IntWalk.i64_in _ (by omega)
  have e6 : ¬ M.card = 0 := by omega
  have e7 : (M.card == 0) = false := by simp; omega
  have d1 : ((M.W.length : Int) != 2 * M.half + M.old) = false := by simp; exact hw
  have d3 : decide (M.used < 0) = false := by simp; omega
  have d4 : decide (1 < M.used) = false := by simp; omega
  clear hw
  by_cases hlt : q * M.card < M.old
  · rw [if_pos hlt] at hcl
    have d2 : ((M.cards.length : Int) != q + 1) = false := by simp; exact hcl
    clear hcl hM
    rcases h with k1 | ⟨k1, k2⟩ | ⟨k1, k2, k3⟩ | ⟨k1, k2, k3, k4⟩
    all_goals
      go_enter Tryz.func25, Tryz.ntmps25
      go_wp2
      go_quiet (fail)
      go_wp2
      go_quiet (fail)
      go_wp2
      go_quiet (fail)
      go_wp2
      go_quiet (fail)
      go_wp2
      go_ret
      exact ⟨by first | rfl | simp [k4], by repeat (first | exact Ext.refl _ | (refine Ext.drewN_ ?_ _))⟩
  · rw [if_neg hlt] at hcl
    have d2 : ((M.cards.length : Int) != q) = false := by simp; exact hcl
    clear hcl hM
    rcases h with k1 | ⟨k1, k2⟩ | ⟨k1, k2, k3⟩ | ⟨k1, k2, k3, k4⟩
    all_goals
      go_enter Tryz.func25, Tryz.ntmps25
      go_wp2
      go_quiet (fail)
      go_wp2
      go_quiet (fail)
      go_wp2
      go_quiet (fail)
      go_wp2
      go_quiet (fail)
      go_wp2
      go_ret
      exact ⟨by first | rfl | simp [k4], by repeat (first | exact Ext.refl _ | (refine Ext.drewN_ ?_ _))⟩
/-- Whatever the memory. -/
theorem kShaped_any (b o : Nat) (M : Mem) (S : Sls) (w : World) (hM : RMem w b o M S) :
    Calls Tryz.prog 25 #[.pointer (some ⟨b, o, none⟩)] w fun e w' => e = .returned (.bool (shapeB M)) ∧ Ext w w' := by
  cases hs : shapeB M with
  | true => exact kShaped_yes b o M S (shp_of hs) w hM
  | false =>
    have hn : ¬ Shp M := fun ⟨h1, h2, o1, o2, c1, c2, hw, u1, u2, t1, t2, p1, p2, cl⟩ => by
      have : shapeB M = true := by
        unfold shapeB
        rw [inR_true.2 ⟨h1, h2⟩, inR_true.2 ⟨o1, o2⟩, inR_true.2 ⟨c1, c2⟩, inR_true.2 ⟨u1, u2⟩, inR_true.2 ⟨t1, t2⟩, inR_true.2 ⟨p1, p2⟩, beq_iff_eq.2 hw, beq_iff_eq.2 cl]
        rfl
      rw [this] at hs; cases hs
    by_cases h1 : M.half < 1
    · exact kShaped_no1 b o M S w hM (Or.inl h1)
    by_cases h2 : 65536 < M.half
    · exact kShaped_no1 b o M S w hM (Or.inr (Or.inl ⟨h1, h2⟩))
    by_cases h3 : M.old < 1
    · exact kShaped_no1 b o M S w hM (Or.inr (Or.inr (Or.inl ⟨h1, h2, h3⟩)))
    by_cases h4 : 65536 < M.old
    · exact kShaped_no1 b o M S w hM (Or.inr (Or.inr (Or.inr (Or.inl ⟨h1, h2, h3, h4⟩))))
    by_cases h5 : M.card < 1
    · exact kShaped_no1 b o M S w hM (Or.inr (Or.inr (Or.inr (Or.inr (Or.inl ⟨h1, h2, h3, h4, h5⟩)))))
    by_cases h6 : 1024 < M.card
    · exact kShaped_no1 b o M S w hM (Or.inr (Or.inr (Or.inr (Or.inr (Or.inr ⟨h1, h2, h3, h4, h5, h6⟩)))))
    have g1 : 1 ≤ M.half := by omega
    have g2 : M.half ≤ 65536 := by omega
    have g3 : 1 ≤ M.old := by omega
    have g4 : M.old ≤ 65536 := by omega
    have g5 : 1 ≤ M.card := by omega
    have g6 : M.card ≤ 1024 := by omega
    by_cases hw : (M.W.length : Int) = 2 * M.half + M.old
    · by_cases hc : (M.cards.length : Int) = (M.old + M.card - 1) / M.card
      · by_cases u1 : M.used < 0
        · exact kShaped_no2 b o M S w hM g1 g2 g3 g4 g5 g6 (Or.inr (Or.inr (Or.inl ⟨hw, hc, u1⟩)))
        by_cases u2 : 1 < M.used
        · exact kShaped_no2 b o M S w hM g1 g2 g3 g4 g5 g6 (Or.inr (Or.inr (Or.inr ⟨hw, hc, u1, u2⟩)))
        have v1 : 0 ≤ M.used := by omega
        have v2 : M.used ≤ 1 := by omega
        refine kShaped_no3 b o M S w hM g1 g2 g3 g4 g5 g6 hw hc v1 v2 ?_
        by_cases t1 : 0 ≤ M.top
        · by_cases t2 : M.top ≤ M.half
          · by_cases p1 : 0 ≤ M.oldTop
            · by_cases p2 : M.oldTop ≤ M.old
              · exact absurd ⟨g1, g2, g3, g4, g5, g6, hw, v1, v2, t1, t2, p1, p2, hc⟩ hn
              · exact Or.inr (Or.inr (Or.inr ⟨by simpa using t1, by simpa using t2, by simpa using p1, by simpa using p2⟩))
            · exact Or.inr (Or.inr (Or.inl ⟨by simpa using t1, by simpa using t2, by simpa using p1⟩))
          · exact Or.inr (Or.inl ⟨by simpa using t1, by simpa using t2⟩)
        · exact Or.inl (by simpa using t1)
      · exact kShaped_no2 b o M S w hM g1 g2 g3 g4 g5 g6 (Or.inr (Or.inl ⟨hw, hc⟩))
    · exact kShaped_no2 b o M S w hM g1 g2 g3 g4 g5 g6 (Or.inl hw)
end Go.Proofs.YtecbbbaafcoliaaGreatDoor
