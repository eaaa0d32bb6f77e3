/- The closed fact on a new memory. -/
import Derived.Test.YtpbfhkkecbnieaaDoorNew
import Derived.Test.YtpbfhkkecbnieaaDoorCheck
import Derived.Test.YtpbfhkkecbnieaaDoorCoded
namespace Go.Proofs.YtpbfhkkecbnieaaDoor
open Go.RowKit
set_option linter.unusedVariables false
set_option linter.unusedSimpArgs false

theorem newM_ok (half old card : Int) (h : newOK half old card = true) : (newM half old card).Ok := by
  simp only [newOK, Bool.and_eq_true] at h
  obtain ⟨⟨h1, h2⟩, h3⟩ := h
  obtain ⟨a1, a2⟩ := inR_true.1 h1
  obtain ⟨a3, a4⟩ := inR_true.1 h2
  obtain ⟨a5, a6⟩ := inR_true.1 h3
  have q0 : 0 ≤ (old + card - 1) / card := Int.ediv_nonneg (by omega) (by omega)
  have q1 : (old + card - 1) / card ≤ old + card - 1 := Int.ediv_le_self _ (by omega)
  refine ⟨by simp only [newM]; omega, by simp only [newM]; omega, by simp only [newM]; omega, by simp [newM], by simp [newM], by simp [newM], ?_, by simp [newM], by simp [newM], by simp [newM], ?_, by simp [newM], by simp [newM], by simp [newM], ?_⟩
  · intro x hx; simp only [newM] at hx; have := (List.mem_replicate.1 hx).2; omega
  · simp only [newM, List.length_replicate]; omega
  · simp only [newM, List.length_replicate]; omega
theorem fresh_chk : goodB (newM 4 5 2) = true ∧ cardsM (newM 4 5 2) = true := by decide
set_option maxRecDepth 100000 in
theorem fresh_any (w : World) (E : Nat → Addr) (h : ErrEnv E w) : Calls Tryd.prog 27 #[] w fun e w' => e = .returned (.bool true) ∧ Ext w w' := by
  have H := Lib.hid h
  clear h
  go_enter Tryd.func27, Tryd.ntmps27
  go_wp2_with (first
    | (go_at_call 56; refine (new_yes 4 5 2 (by decide) _).mono ?_; rintro e w1 ⟨b, S, rfl, hom, hx⟩; have hM := hom.mem (newM_ok 4 5 2 (by decide)); have k3 : w1.cell? ⟨b, 3, none⟩ = some (.slice S.W.1 (13 : Nat) S.W.2) := hM.W; have k5 : w1.cell? ⟨b, 5, none⟩ = some (.int .i64 0) := hM.top; have k10 : w1.cell? ⟨b, 10, none⟩ = some (.slice S.C.1 (3 : Nat) S.C.2) := hM.cards; have HM := Lib.hid hM; have HX := Lib.hid hx; clear hom hM hx)
    | (go_at_call 40; refine (check_any b 0 (newM 4 5 2) S (E 1) (E 2) (E 4) _ HM.out (HX.out.cell_ H.out.bound) (HX.out.cell_ H.out.shape) (HX.out.cell_ H.out.place)).mono ?_; rintro e w2 ⟨he, hq⟩; rw [show chkV (newM 4 5 2) (E 2) (E 4) = .nilIface by unfold chkV; rw [fresh_chk.1, fresh_chk.2]; rfl] at he; subst he; have k6 := hq.cell_ k5; have HQ := Lib.hid hq; clear hq k5))
  go_ret
  exact ⟨rfl, Ext.trans_ HX.out HQ.out⟩
end Go.Proofs.YtpbfhkkecbnieaaDoor
