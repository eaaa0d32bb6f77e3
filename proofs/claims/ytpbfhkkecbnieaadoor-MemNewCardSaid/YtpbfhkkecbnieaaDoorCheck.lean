/- Memory.Check: what it answers of any memory. -/
import Derived.Test.YtpbfhkkecbnieaaDoorCheckE
namespace Go.Proofs.YtpbfhkkecbnieaaDoor
open Go.RowKit
set_option linter.unusedVariables false
set_option linter.unusedSimpArgs false

def chkV (M : Mem) (gs gp : Addr) : Value := if goodB M then (if cardsM M then .nilIface else errV gp) else errV gs
theorem check_nil (w : World) (gs : Addr) (hS : GShape w gs) : Calls Tryd.prog 40 #[.pointer none] w fun e w' => e = .returned (errV gs) ∧ Ext w w' := by
  have hltg := cell_lt hS
  simp only at hltg
  go_enter Tryd.func40, Tryd.ntmps40
  go_wp2
  go_ret
  exact ⟨rfl, (Ext.refl _).alloc_ _⟩
set_option maxRecDepth 100000 in
theorem check_0 (b o : Nat) (M : Mem) (S : Sls) (gs : Addr) (w : World) (hM : RMem w b o M S) (hS : GShape w gs) (hs : shapeB M = false) :
    Calls Tryd.prog 40 #[.pointer (some ⟨b, o, none⟩)] w fun e w' => e = .returned (errV gs) ∧ Ext w w' := by
  have HM := Lib.hid hM
  have hltb := hM.lt
  have hltg := cell_lt hS
  simp only at hltg
  clear hM
  go_enter Tryd.func40, Tryd.ntmps40
  go_wp2_with (first
    | (go_at_call 94; refine (shape_any _ b o M S ?_).mono ?_; (exact HM.out.ext ((Ext.refl w).alloc_ _)); rintro e w' ⟨rfl, n, rfl⟩; rw [hs]))
  go_ret
  exact ⟨rfl, ((Ext.refl w).alloc_ _).drewN_ _⟩
theorem check_any (b o : Nat) (M : Mem) (S : Sls) (gb gs gp : Addr) (w : World) (hM : RMem w b o M S) (hG : GBound w gb) (hS : GShape w gs) (hP : GPlace w gp) :
    Calls Tryd.prog 40 #[.pointer (some ⟨b, o, none⟩)] w fun e w' => e = .returned (chkV M gs gp) ∧ Ext w w' := by
  cases hs : shapeB M with
  | false =>
    have e : chkV M gs gp = errV gs := by unfold chkV goodB; rw [hs]; rfl
    rw [e]; exact check_0 b o M S gs w hM hS hs
  | true =>
    cases h1 : objsB M (okHd M) with
    | false =>
      have e : chkV M gs gp = errV gs := by unfold chkV goodB; rw [hs, h1]; rfl
      rw [e]; exact check_a b o M S gb gs gp w hM hG hS hs h1
    | true =>
      cases h2 : fieldsB (startsM M) M.roots with
      | false =>
        have e : chkV M gs gp = errV gs := by unfold chkV goodB; rw [hs, h1, h2]; rfl
        rw [e]; exact check_b1 b o M S gb gs gp w hM hG hS hP hs h1 h2
      | true =>
        cases h3 : fieldsB (startsM M) M.weak with
        | false =>
          have e : chkV M gs gp = errV gs := by unfold chkV goodB; rw [hs, h1, h2, h3]; rfl
          rw [e]; exact check_b2 b o M S gb gs gp w hM hG hS hP hs h1 h2 h3
        | true =>
          have h5 := objsB_all (q := okFld M (startsM M)) h1
          cases h4 : objsB M (okFld M (startsM M)) with
          | false =>
            have e : chkV M gs gp = errV gs := by unfold chkV goodB; rw [hs, h1, h2, h3, ← h5, h4]; rfl
            rw [e]; exact check_b3 b o M S gb gs gp w hM hG hS hP hs h1 h2 h3 h4
          | true =>
            have e : chkV M gs gp = idsRes M gs gp := by
              unfold chkV goodB idsRes
              rw [hs, h1, h2, h3, ← h5, h4]
              simp
            rw [e]; exact check_e b o M S gb gs gp w hM hG hS hP hs h1 h2 h3 h4
end Go.Proofs.YtpbfhkkecbnieaaDoor
