/- The walk of the document's Shaped at a memory that is shaped. -/
import Derived.Test.YtecbbbaafcoliaaGreatDoorJZn04
import Derived.IntWalk
namespace Go.Proofs.YtecbbbaafcoliaaGreatDoor
open Go.RowKit
set_option linter.unusedVariables false
set_option linter.unusedSimpArgs false

theorem ceil_div (a c : Int) (ha : 1 ≤ a) (hc : 1 ≤ c) : (a + c - 1) / c = if a / c * c < a then a / c + 1 else a / c := by
  have h1 : a = c * (a / c) + a % c := (Int.mul_ediv_add_emod a c).symm
  have h2 := Int.emod_nonneg a (show c ≠ 0 by omega)
  have h3 := Int.emod_lt_of_pos a (show 0 < c by omega)
  have h4 : a / c * c = c * (a / c) := Int.mul_comm _ _
  generalize hq : a / c = q at *
  generalize hr : a % c = r at *
  have h5 : (a + c - 1) = (r + c - 1) + q * c := by rw [h4]; omega
  rw [h5, Int.add_mul_ediv_right _ _ (show c ≠ 0 by omega)]
  by_cases h : r = 0
  · have : (r + c - 1) / c = 0 := Int.ediv_eq_zero_of_lt (by omega) (by omega)
    rw [this, if_neg (by rw [h4]; omega)]; omega
  · have : (r + c - 1) / c = 1 := by
      rw [show r + c - 1 = (r - 1) + 1 * c by omega, Int.add_mul_ediv_right _ _ (show c ≠ 0 by omega), Int.ediv_eq_zero_of_lt (by omega) (by omega)]; rfl
    rw [this, if_pos (by rw [h4]; omega)]; omega
set_option maxRecDepth 100000 in
set_option maxHeartbeats 4000000 in
theorem kShaped_yes (b o : Nat) (M : Mem) (S : Sls) (hs : Shp M) (w : World) (hM : RMem w b o M S) :
    Calls Tryz.prog 25 #[.pointer (some ⟨b, o, none⟩)] w fun e w' => e = .returned (.bool true) ∧ Ext w w' := by
  obtain ⟨h1, h2, o1, o2, c1, c2, hw, u1, u2, t1, t2, p1, p2, cl⟩ := hs
  have n0 := hM.half
  have n1 := hM.old
  have n2 := hM.card
  have n3 := hM.W
  have n4 := hM.used
  have n5 := hM.top
  have n6 := hM.oldTop
  have n10 := hM.cards
  have hl := hM.ok.lenW
  have hl2 := hM.ok.lenC
  have e1 : M.old.tdiv M.card = M.old / M.card := Int.tdiv_eq_ediv_of_nonneg (by omega)
  have q0 : 0 ≤ M.old / M.card := Int.ediv_nonneg (by omega) (by omega)
  have q1 : M.old / M.card ≤ M.old := Int.ediv_le_self _ (by omega)
  have q2 : M.old / M.card * M.card ≤ M.old := Int.ediv_mul_le _ (by omega)
  have q3 : 0 ≤ M.old / M.card * M.card := Int.mul_nonneg q0 (by omega)
  have hcl := cl
  rw [ceil_div _ _ o1 c1] at hcl
  clear cl
  generalize M.old / M.card = q at *
  have e2 : IntKind.i64.wrap q = q := IntWalk.i64_in _ (by omega)
  have e3 : IntKind.i64.wrap (q * M.card) = q * M.card := IntWalk.i64_in _ (by omega)
  have e4 : IntKind.i64.wrap (2 * M.half) = 2 * M.half := IntWalk.i64_in _ (by omega)
  have e5 : IntKind.i64.wrap (2 * M.half + M.old) = 2 * M.half + M.old := IntWalk.i64_in _ (by omega)
  have e6 : ¬ M.card = 0 := by omega
  have e7 : (M.card == 0) = false := by simp; omega
  have d1 : ((M.W.length : Int) != 2 * M.half + M.old) = false := by simp; exact hw
  have d3 : decide (M.used < 0) = false := by simp; omega
  have d4 : decide (1 < M.used) = false := by simp; omega
  have d5 : decide (0 ≤ M.top) = true := by simp; omega
  have d6 : decide (M.top ≤ M.half) = true := by simp; omega
  have d8 : decide (M.oldTop ≤ M.old) = true := by simp; omega
  have d7 : decide (0 ≤ M.oldTop) = true := by simp; omega
  have HW := Lib.hid hw
  clear hw
  by_cases hlt : q * M.card < M.old
  · rw [if_pos hlt] at hcl
    have d2 : ((M.cards.length : Int) != q + 1) = false := by simp; exact hcl
    have HCL := Lib.hid hcl
    clear hcl hM
    go_enter Tryz.func25, Tryz.ntmps25
    go_wp2
    go_quiet (fail)
    go_wp2
    go_quiet (fail)
    go_wp2
    go_quiet (fail)
    go_wp2
    go_quiet (fail)
    go_wp2
    go_ret
    refine ⟨by simp [d8], ?_⟩
    repeat (first | exact Ext.refl _ | (refine Ext.drewN_ ?_ _))
  · rw [if_neg hlt] at hcl
    have d2 : ((M.cards.length : Int) != q) = false := by simp; exact hcl
    have HCL := Lib.hid hcl
    clear hcl hM
    go_enter Tryz.func25, Tryz.ntmps25
    go_wp2
    go_quiet (fail)
    go_wp2
    go_quiet (fail)
    go_wp2
    go_quiet (fail)
    go_wp2
    go_quiet (fail)
    go_wp2
    go_ret
    refine ⟨by simp [d8], ?_⟩
    repeat (first | exact Ext.refl _ | (refine Ext.drewN_ ?_ _))
end Go.Proofs.YtecbbbaafcoliaaGreatDoor
