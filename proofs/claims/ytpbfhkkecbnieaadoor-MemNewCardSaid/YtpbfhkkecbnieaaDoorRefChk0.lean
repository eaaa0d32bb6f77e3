/- The walk of the document's CheckOf at an empty memory that is shaped. -/
import Derived.Test.YtpbfhkkecbnieaaDoorRefAll
import Derived.Test.YtpbfhkkecbnieaaDoorRefShape
namespace Go.Proofs.YtpbfhkkecbnieaaDoor
open Go.RowKit
set_option linter.unusedVariables false
set_option linter.unusedSimpArgs false

theorem partK_empty (W : List Int) (a : Nat) : partK W a a = ([], true) := by
  unfold partK; rw [part_done W a a (Nat.le_refl _)]; rfl
set_option maxRecDepth 100000 in
set_option maxHeartbeats 4000000 in
theorem checkOf0 (b o : Nat) (M : Mem) (S : Sls) (hs : Shp M) (w : World) (hM : RMem w b o M S) (ht : M.top = 0) (hp : M.oldTop = 0) (hr : M.roots = []) (hk : M.weak = []) (hi : M.ids = []) :
    Calls Tryd.prog 34 #[.pointer (some ⟨b, o, none⟩)] w fun e w' => e = .returned (.int .i64 0) ∧ Ext w w' := by
  have eN : kN M = ([], true) := by unfold kN; rw [ht]; exact partK_empty _ _
  have eO : kO M = ([], true) := by unfold kO; rw [hp]; exact partK_empty _ _
  have hall : ∀ W, RMem W b o M S → Calls Tryd.prog 35 #[.pointer (some ⟨b, o, none⟩)] W fun e w' => (∃ a c, e = .returned (.tuple #[.slice a 0 c, .bool true])) ∧ Ext W w' := fun W hW => by
    refine (kAll_walk b o M S hs W hW).mono ?_
    rintro e w' ⟨a, c, he, _, hx⟩
    rw [eN, eO] at he
    exact ⟨⟨a, c, he⟩, hx⟩
  have hfo : ∀ (ad za : Option Addr) (c zc : Nat) W, Calls Tryd.prog 88 #[.slice za 0 zc, .slice ad 0 c] W fun e w' => e = .returned (.bool true) ∧ w' = W := fun ad za c zc W =>
    fieldsOK_any za zc [] (by simp) (by simp) ad c [] W (by simp) (RSl.nil _ _) (RSl.nil _ _) (by simp)
  have n7 : w.cell? ⟨b, o + 7, none⟩ = some (.slice S.R.1 0 S.R.2) := by have := hM.roots; rw [hr] at this; exact this
  have n8 : w.cell? ⟨b, o + 8, none⟩ = some (.slice S.K.1 0 S.K.2) := by have := hM.weak; rw [hk] at this; exact this
  have n9 : w.cell? ⟨b, o + 9, none⟩ = some (.slice S.I.1 0 S.I.2) := by have := hM.ids; rw [hi] at this; exact this
  have HALL := Lib.hid hall
  have HFO := Lib.hid hfo
  have HM := Lib.hid hM
  have HSH := Lib.hid hs
  have N7 := Lib.hid n7
  have N8 := Lib.hid n8
  have N9 := Lib.hid n9
  have hb := Ext.refl w
  clear hall hfo hM hs ht hp hr hk hi eN eO n7 n8 n9
  go_enter Tryd.func34, Tryd.ntmps34
  go_wp2_with (first
    | (go_at_call 57; refine (kShaped_yes b o M S HSH.out _ HM.out).mono ?_; rintro e w1 ⟨rfl, hq⟩; replace hb := hb.trans_ hq; clear hq)
    | (go_at_call 35; refine (HALL.out _ (HM.out.ext hb)).mono ?_; rintro e w2 ⟨⟨a, c, rfl⟩, hq⟩; replace hb := hb.trans_ hq; clear hq; have m7 := hb.cell_ N7.out; have m8 := hb.cell_ N8.out; have m9 := hb.cell_ N9.out)
    | (go_at_call 88; refine (HFO.out _ _ _ _ _).mono ?_; rintro e w3 ⟨rfl, rfl⟩))
  go_loop [5, 6] (fun c i => c = .bool true ∧ i = .int .i64 0) (fun _ _ => 0)
  case atStart => exact ⟨rfl, rfl⟩
  case round =>
    obtain ⟨rfl, rfl⟩ := hrel
    go_wp2
    go_loop [12] (fun i => i = .int .i64 0) (fun _ => 0)
    case atStart => rfl
    case round =>
      obtain rfl := hrel
      go_wp2
      go_ret
      exact ⟨rfl, hb⟩
end Go.Proofs.YtpbfhkkecbnieaaDoor
