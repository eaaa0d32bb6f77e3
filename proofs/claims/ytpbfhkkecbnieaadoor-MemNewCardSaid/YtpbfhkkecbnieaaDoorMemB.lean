/- The walk of mem.field. -/
import Derived.Test.YtpbfhkkecbnieaaDoorMemA
namespace Go.Proofs.YtpbfhkkecbnieaaDoor
open Go.RowKit
set_option linter.unusedVariables false
set_option linter.unusedSimpArgs false

theorem undStarts : Tryd.prog.underlying 130 = some (.map 3 4) := by kernel_rfl
theorem undInt : Tryd.prog.underlying 3 = some (.int .i64) := by kernel_rfl
theorem zeroBool (w : World) : (zeroValue 4).run Tryd.prog w = .ok (.bool false) w := by kernel_rfl
/-- A look-up among addresses. -/
theorem smap_look {w : World} {bm : Nat} {st : List Int} (h : SMap w bm .i64 st) (a : Int) :
    (Instr.lookup 130 (.map (some bm)) (.int .i64 a) false).run Tryd.prog w = .ok (.bool (inSt st a)) w := by
  obtain ⟨es, hm, hg⟩ := h
  rw [run_lookup_mapi undStarts undInt (zeroBool w) hm a false, hg a]
  unfold inSt
  cases st.contains a <;> rfl
/-- A store among addresses. -/
theorem smap_put {w : World} {bm : Nat} {st : List Int} (h : SMap w bm .i64 st) (a : Int) :
    ∃ w', (Instr.mapUpdate 130 (.map (some bm)) (.int .i64 a) (.bool true)).run Tryd.prog w = .ok () w' ∧ SMap w' bm .i64 (st ++ [a]) ∧ But bm w w' := by
  obtain ⟨es, hm, hg⟩ := h
  obtain ⟨w', h1, h2, h3⟩ := run_update_mapi (P := Tryd.prog) undStarts undInt hm a (.bool true)
  exact ⟨w', h1, SMap.put a hg h2, h3⟩

theorem field_any (a : Int) (h0 : 0 ≤ a) (h1 : a ≤ 18446744073709551615) (bm : Nat) (st : List Int) (w : World) (hm : SMap w bm .i64 st) :
    Calls Tryd.prog 86 #[.int .u64 a, .map (some bm)] w fun e w' => e = .returned (.bool (fldB st a)) ∧ w' = w := by
  have hr : 0 ≤ kindW a ∧ kindW a ≤ 3 := by unfold kindW; omega
  have hlk := smap_look hm (placeW a)
  clear hm
  by_cases hk0 : kindW a = 0
  · have k1 : (kindW a == 0) = true := by simpa using hk0
    by_cases hz : a = 0
    · have k2 : (a == 0) = true := by simpa using hz
      have e : fldB st a = true := by simp [fldB, hk0, k2]
      rw [e]
      clear hk0 hz hlk
      go_enter Tryd.func86, Tryd.ntmps86
      go_wp2_with (first
        | (go_at_call 41; refine (kind_any _ h0 h1 _).mono ?_; rintro e w' ⟨rfl, rfl⟩))
      go_ret
      exact ⟨rfl, rfl⟩
    · have k2 : (a == 0) = false := by simpa using hz
      have e : fldB st a = inSt st (placeW a) := by simp [fldB, hk0, k2]
      rw [e]
      clear hk0 hz
      go_enter Tryd.func86, Tryd.ntmps86
      go_wp2_with (first
        | (go_at_call 41; refine (kind_any _ h0 h1 _).mono ?_; rintro e w' ⟨rfl, rfl⟩)
        | (go_at_call 78; refine (place_any _ h0 h1 _).mono ?_; rintro e w' ⟨rfl, rfl⟩))
      go_ret
      exact ⟨rfl, rfl⟩
  · have k1 : (kindW a == 0) = false := by simpa using hk0
    by_cases hk2 : kindW a = 2
    · have k2 : (kindW a == 2) = true := by simpa using hk2
      have e : fldB st a = decide (a / 4 ≤ 2) := by simp [fldB, hk2]
      rw [e]
      clear hk0 hk2 hlk
      go_enter Tryd.func86, Tryd.ntmps86
      go_wp2_with (first
        | (go_at_call 41; refine (kind_any _ h0 h1 _).mono ?_; rintro e w' ⟨rfl, rfl⟩))
      go_ret
      exact ⟨rfl, rfl⟩
    · have k2 : (kindW a == 2) = false := by simpa using hk2
      by_cases hk3 : kindW a = 1
      · have k3 : (kindW a == 1) = true := by simpa using hk3
        have e : fldB st a = true := by simp [fldB, hk3]
        rw [e]
        clear hk0 hk2 hk3 hlk
        go_enter Tryd.func86, Tryd.ntmps86
        go_wp2_with (first
          | (go_at_call 41; refine (kind_any _ h0 h1 _).mono ?_; rintro e w' ⟨rfl, rfl⟩))
        go_ret
        exact ⟨rfl, rfl⟩
      · have k3 : (kindW a == 1) = false := by simpa using hk3
        have e : fldB st a = false := by simp [fldB, hk0, hk2, hk3]
        rw [e]
        clear hk0 hk2 hk3 hlk
        go_enter Tryd.func86, Tryd.ntmps86
        go_wp2_with (first
          | (go_at_call 41; refine (kind_any _ h0 h1 _).mono ?_; rintro e w' ⟨rfl, rfl⟩))
        go_ret
        exact ⟨rfl, rfl⟩
end Go.Proofs.YtpbfhkkecbnieaaDoor
