/- The walks of the document's answer for memories: fields. -/
import Derived.Test.YtpbfhkkecbnieaaDoorRefMem
namespace Go.Proofs.YtpbfhkkecbnieaaDoor
open Go.RowKit
set_option linter.unusedVariables false
set_option linter.unusedSimpArgs false

def ats (l : List Ob) : List Int := l.map fun o => (o.a : Int)
theorem fieldOK_any (a : Int) (h0 : 0 ≤ a) (h1 : a ≤ 18446744073709551615) (ad : Option Addr) (c : Nat) (l : List Ob) (w : World) (hl : l.length ≤ 9223372036854775807) (hR : RSl w ad (ocells l)) (hlt : ∀ o ∈ l, (o.a : Int) < 1099511627776) :
    Calls Tryd.prog 140 #[.int .u64 a, .slice ad l.length c] w fun e w' => e = .returned (.bool (fldB (ats l) a)) ∧ w' = w := by
  have HR := Lib.hid hR
  have HLT := Lib.hid hlt
  clear hR hlt
  by_cases hk : a % 4 = 0
  · have k1 : (a % 4 == 0) = true := by simpa using hk
    by_cases hz : a = 0
    · have k2 : (a == 0) = true := by simpa using hz
      have e : fldB (ats l) a = true := by unfold fldB kindW; rw [if_pos hk, k2]; rfl
      rw [e]
      clear hk hz
      go_enter Tryd.func140, Tryd.ntmps140
      go_wp2
      go_ret
      exact ⟨rfl, rfl⟩
    · have k2 : (a == 0) = false := by simpa using hz
      have e : fldB (ats l) a = inSt (ats l) (placeW a) := by unfold fldB; rw [if_pos (show kindW a = 0 from hk), k2]; rfl
      by_cases h3 : a / 4 ≤ 1099511627776
      · have hpt : ∀ w, Calls Tryd.prog 89 #[.int .u64 a] w fun e w' => e = .returned (.int .i64 (placeW a)) ∧ w' = w := fun w => by
          have := points_any a h0 h1 w
          rw [show ptsW a = placeW a by unfold ptsW kindW; rw [if_pos ⟨hk, hz, h3⟩]] at this
          exact this
        have hob : ∀ w, RSl w ad (ocells l) → Calls Tryd.prog 90 #[.slice ad l.length c, .int .i64 (placeW a)] w fun e w' => e = .returned (.int .i64 (objAt l (placeW a))) ∧ w' = w := fun w hr => objectAt_any ad c l (placeW a) w hl hr
        have hge : 0 ≤ placeW a := by unfold placeW; omega
        rw [e, ats, ← objAt_nonneg]
        have HPT := Lib.hid hpt
        have HOB := Lib.hid hob
        clear hk hz hpt hob e
        go_enter Tryd.func140, Tryd.ntmps140
        go_wp2_with (first
          | (go_at_call 89; refine (HPT.out _).mono ?_; rintro e w' ⟨rfl, rfl⟩)
          | (go_at_call 90; refine (HOB.out _ HR.out).mono ?_; rintro e w' ⟨rfl, rfl⟩))
        go_ret
        exact ⟨rfl, rfl⟩
      · have hpt : ∀ w, Calls Tryd.prog 89 #[.int .u64 a] w fun e w' => e = .returned (.int .i64 (-1)) ∧ w' = w := fun w => by
          have := points_any a h0 h1 w
          rw [show ptsW a = -1 by unfold ptsW; rw [if_neg (fun h => h3 h.2.2)]] at this
          exact this
        have e2 : inSt (ats l) (placeW a) = false := by
          unfold inSt ats
          rw [List.contains_eq_any_beq, List.any_eq_false]
          intro x hx
          obtain ⟨o, ho, rfl⟩ := List.mem_map.1 hx
          have := HLT.out o ho
          unfold placeW
          simp; omega
        rw [e, e2]
        have HPT := Lib.hid hpt
        clear hk hz hpt e e2
        go_enter Tryd.func140, Tryd.ntmps140
        go_wp2_with (first
          | (go_at_call 89; refine (HPT.out _).mono ?_; rintro e w' ⟨rfl, rfl⟩))
        go_ret
        exact ⟨rfl, rfl⟩
  · have k1 : (a % 4 == 0) = false := by simpa using hk
    by_cases hk1 : a % 4 = 1
    · have k2 : (a % 4 == 1) = true := by simpa using hk1
      have e : fldB (ats l) a = true := by unfold fldB kindW; rw [if_neg hk, if_pos hk1]
      rw [e]
      clear hk hk1
      go_enter Tryd.func140, Tryd.ntmps140
      go_wp2
      go_ret
      exact ⟨rfl, rfl⟩
    · have k2 : (a % 4 == 1) = false := by simpa using hk1
      by_cases hk2 : a % 4 = 2
      · have k3 : (a % 4 == 2) = true := by simpa using hk2
        have e : fldB (ats l) a = decide (a / 4 ≤ 2) := by unfold fldB kindW; rw [if_neg hk, if_neg hk1, if_pos hk2]
        rw [e]
        clear hk hk1 hk2
        go_enter Tryd.func140, Tryd.ntmps140
        go_wp2
        go_ret
        exact ⟨rfl, rfl⟩
      · have k3 : (a % 4 == 2) = false := by simpa using hk2
        have e : fldB (ats l) a = false := by unfold fldB kindW; rw [if_neg hk, if_neg hk1, if_neg hk2]
        rw [e]
        clear hk hk1 hk2
        go_enter Tryd.func140, Tryd.ntmps140
        go_wp2
        go_ret
        exact ⟨rfl, rfl⟩

set_option maxRecDepth 100000 in
theorem fieldsOK_any (za : Option Addr) (zc : Nat) (zs : List Int) (hz : zs.length ≤ 9223372036854775807) (hb : ∀ x ∈ zs, 0 ≤ x ∧ x ≤ 18446744073709551615) (ad : Option Addr) (c : Nat) (l : List Ob) (w : World) (hl : l.length ≤ 9223372036854775807)
    (hZ : RSl w za (wcells zs)) (hR : RSl w ad (ocells l)) (hlt : ∀ o ∈ l, (o.a : Int) < 1099511627776) :
    Calls Tryd.prog 88 #[.slice za zs.length zc, .slice ad l.length c] w fun e w' => e = .returned (.bool (fieldsB (ats l) zs)) ∧ w' = w := by
  have HR := Lib.hid hR
  have HZ := Lib.hid hZ
  have HB := Lib.hid hb
  have HLT := Lib.hid hlt
  clear hR hZ hb hlt
  go_enter Tryd.func88, Tryd.ntmps88
  go_wp2
  go_loop [5] (fun i => ∃ k : Nat, k ≤ zs.length ∧ i = .int .i64 (k : Int) ∧ Hid (∀ j (hj : j < zs.length), j < k → fldB (ats l) zs[j] = true)) (fun i => zs.length - (intOf i).toNat)
  case atStart => exact ⟨0, Nat.zero_le _, rfl, fun j _ hj => absurd hj (Nat.not_lt_zero _)⟩
  case round =>
    obtain ⟨k, hk, rfl, hA⟩ := hrel
    by_cases hltk : k < zs.length
    · obtain ⟨zb, zo, rfl, hc⟩ := HZ.out k (.int .u64 zs[k]) (by simp [wcells, hltk])
      have hin := HB.out zs[k] (List.getElem_mem hltk)
      have hf := fun W hr => fieldOK_any zs[k] hin.1 hin.2 ad c l W hl hr HLT.out
      have HF := Lib.hid hf
      clear hf
      cases hq : fldB (ats l) zs[k] with
      | true =>
        have HQ := Lib.hid hq
        go_wp2_with (go_at_call 140; refine (HF.out _ HR.out).mono ?_; rintro e w' ⟨rfl, rfl⟩)
        refine ⟨⟨k + 1, by omega, by go_num, fun j hj1 hj2 => ?_⟩, by simp [intOf]; omega⟩
        by_cases e : j = k
        · subst e; exact HQ.out
        · exact hA.out j hj1 (by omega)
      | false =>
        have HQ := Lib.hid hq
        go_wp2_with (go_at_call 140; refine (HF.out _ HR.out).mono ?_; rintro e w' ⟨rfl, rfl⟩)
        go_ret
        refine ⟨?_, rfl⟩
        have : fieldsB (ats l) zs = false := by
          unfold fieldsB
          rw [List.all_eq_false]
          exact ⟨_, List.getElem_mem hltk, by rw [HQ.out]; simp⟩
        rw [this]; rfl
    · go_wp2
      go_ret
      refine ⟨?_, rfl⟩
      have : fieldsB (ats l) zs = true := by
        unfold fieldsB
        rw [List.all_eq_true]
        intro x hx
        obtain ⟨j, hj, rfl⟩ := List.mem_iff_getElem.1 hx
        exact hA.out j hj (by omega)
      rw [this]; rfl
end Go.Proofs.YtpbfhkkecbnieaaDoor
