/- The walk of the document's Reaches. -/
import Derived.Test.YtecbbbaafcoliaaGreatDoorJZn39
import Derived.Test.YtecbbbaafcoliaaGreatDoorJZn31
namespace Go.Proofs.YtecbbbaafcoliaaGreatDoor
open Go.RowKit
set_option linter.unusedVariables false
set_option linter.unusedSimpArgs false

theorem words_lenB {M : Mem} (hg : goodB M = true) : (reachP M).length ≤ M.W.length := Nat.le_trans (reachP_gath hg).len (objs_len (good_parts hg).1)
set_option maxRecDepth 100000 in
set_option maxHeartbeats 4000000 in
theorem reaches_any (b o : Nat) (M : Mem) (S : Sls) (u : Int) (h0 : 0 ≤ u) (h1 : u ≤ 18446744073709551615) (w : World) (hM : RMem w b o M S) (hg : goodB M = true) :
    Calls Tryz.prog 47 #[.pointer (some ⟨b, o, none⟩), .int .u64 u] w fun e w' => e = .returned (.bool (ledB M u)) ∧ Ext w w' := by
  have hll : (reachP M).length ≤ 9223372036854775807 := by
    have h1 := words_lenB hg
    have h2 := len_small (good_parts hg).1
    omega
  have HM := Lib.hid hM
  have HG := Lib.hid hg
  clear hM hg
  by_cases hp : 0 ≤ ptsW u
  · have hd : ledB M u = decide (0 ≤ objAt (reachP M) (ptsW u)) := by
      rw [objAt_nonneg]
      unfold ledB ats
      rw [decide_eq_true hp, Bool.true_and]
    rw [hd]
    clear hd
    go_enter Tryz.func47, Tryz.ntmps47
    go_wp2_with (first
      | (go_at_call 28; refine (points_any _ h0 h1 _).mono ?_; rintro e w' ⟨rfl, hw9⟩; have hw9 := hw9.symm; subst hw9)
      | (go_at_call 42; refine (reached_walk b o M S _ HM.out HG.out).mono ?_; rintro e w1 ⟨la, lc, rfl, hq1, hq2⟩; have HL := Lib.hid (own_rsl hq1); have HX := Lib.hid hq2; clear hq1 hq2)
      | (go_at_call 29; refine (objectAt_any _ _ (reachP M) _ _ hll HL.out).mono ?_; rintro e w' ⟨rfl, hw9⟩; have hw9 := hw9.symm; subst hw9))
    go_ret
    exact ⟨rfl, HX.out⟩
  · have hd : ledB M u = false := by
      unfold ledB
      rw [decide_eq_false hp, Bool.false_and]
    rw [hd]
    clear hd
    go_enter Tryz.func47, Tryz.ntmps47
    go_wp2_with (go_at_call 28; refine (points_any _ h0 h1 _).mono ?_; rintro e w' ⟨rfl, hw9⟩; have hw9 := hw9.symm; subst hw9)
    go_ret
    exact ⟨rfl, Ext.refl _⟩
end Go.Proofs.YtecbbbaafcoliaaGreatDoor
