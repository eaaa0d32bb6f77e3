/- The walks of package word: headers; the closed fact on the number 5. -/
import Derived.Test.YtpbfhkkecbnieaaDoorWord2
import Derived.Lib.Hide
namespace Go.Proofs.YtpbfhkkecbnieaaDoor
open Go.RowKit

theorem toAddr_yes (a : Int) (h0 : 0 ≤ a) (h1 : a ≤ 18446744073709551615) (hk : kindW a = 0) (h2 : 0 < a) (h3 : a / 4 ≤ 1099511627777) (w : World) :
    Calls Tryd.prog 25 #[.int .u64 a] w fun e w' => e = .returned (.tuple #[.int .i64 (placeW a), .nilIface]) ∧ w' = w := by
  have h4 : (a == 0) = false := by rw [beq_eq_false_iff_ne]; omega
  go_enter Tryd.func25, Tryd.ntmps25
  go_wp2_with (first
    | (go_at_call 41; refine (kind_any _ h0 h1 _).mono ?_; rintro e w' ⟨rfl, rfl⟩)
    | (go_at_call 78; refine (place_any _ h0 h1 _).mono ?_; rintro e w' ⟨rfl, rfl⟩))
  go_ret2
  exact ⟨rfl, rfl⟩
theorem toAddr_no (a : Int) (h0 : 0 ≤ a) (h1 : a ≤ 18446744073709551615) (h : ¬ (kindW a = 0 ∧ 0 < a ∧ a / 4 ≤ 1099511627777)) (w : World) (s : Addr) (hs : GShape w s) :
    Calls Tryd.prog 25 #[.int .u64 a] w fun e w' => e = .returned (.tuple #[.int .i64 0, errV s]) ∧ Ext w w' := by
  by_cases hk : kindW a = 0
  · by_cases h2 : 0 < a
    · have h3 : 1099511627777 < a / 4 := by omega
      have h4 : (a == 0) = false := by rw [beq_eq_false_iff_ne]; omega
      clear h
      go_enter Tryd.func25, Tryd.ntmps25
      go_wp2_with (first
        | (go_at_call 41; refine (kind_any _ h0 h1 _).mono ?_; rintro e w' ⟨rfl, rfl⟩))
      go_quiet (fail)
      go_wp2
      go_ret2
      exact ⟨rfl, ext_drewN _ _⟩
    · obtain rfl : a = 0 := by omega
      clear h
      go_enter Tryd.func25, Tryd.ntmps25
      go_wp2_with (first
        | (go_at_call 41; refine (kind_any _ h0 h1 _).mono ?_; rintro e w' ⟨rfl, rfl⟩))
      go_quiet (fail)
      go_wp2
      go_ret2
      exact ⟨rfl, ext_drewN _ _⟩
  · have hk' : (kindW a != 0) = true := by simpa using hk
    clear h
    go_enter Tryd.func25, Tryd.ntmps25
    go_wp2_with (first
      | (go_at_call 41; refine (kind_any _ h0 h1 _).mono ?_; rintro e w' ⟨rfl, rfl⟩))
    go_quiet (fail)
    go_wp2
    go_ret2
    exact ⟨rfl, ext_drewN _ _⟩
theorem ofHead_yes (k a m s : Int) (hk : inB k 255 = true) (ha : inB a 15 = true) (hm : inB m 1 = true) (hs : inB s 4096 = true) (w : World) :
    Calls Tryd.prog 23 #[.agg #[.int .i64 k, .int .i64 a, .int .i64 m, .int .i64 s]] w fun e w' => e = .returned (.tuple #[.int .u64 (headW k a m s), .nilIface]) ∧ Ext w w' := by
  go_enter Tryd.func23, Tryd.ntmps23
  go_wp2_with (first
    | (go_at_call 75; refine (in_any _ _ _).mono ?_; rintro e w' ⟨rfl, rfl⟩)
    | (go_at_call 76; refine (headWord_any k a m s (inB_true.1 hk) (inB_true.1 ha) (inB_true.1 hm) (inB_true.1 hs) _).mono ?_; rintro e w' ⟨rfl, hb⟩))
  go_ret2
  exact ⟨rfl, ((Ext.refl _).alloc_ _).trans_ hb⟩
set_option maxHeartbeats 1000000 in
theorem ofHead_no (k a m s : Int) (h : (inB k 255 && inB a 15 && inB m 1 && inB s 4096) = false) (w : World) (b : Addr) (hb : GBound w b) :
    Calls Tryd.prog 23 #[.agg #[.int .i64 k, .int .i64 a, .int .i64 m, .int .i64 s]] w fun e w' => e = .returned (.tuple #[.int .u64 0, errV b]) ∧ Ext w w' := by
  have hlt := cell_lt hb
  simp only at hlt
  have h5 : inB k 255 = false ∨ (inB k 255 = true ∧ inB a 15 = false) ∨ (inB k 255 = true ∧ inB a 15 = true ∧ inB m 1 = false) ∨ (inB k 255 = true ∧ inB a 15 = true ∧ inB m 1 = true ∧ inB s 4096 = false) := by
    revert h; cases inB k 255 <;> cases inB a 15 <;> cases inB m 1 <;> cases inB s 4096 <;> simp
  clear h
  rcases h5 with h1 | ⟨h1, h2⟩ | ⟨h1, h2, h3⟩ | ⟨h1, h2, h3, h4⟩
  all_goals
    go_enter Tryd.func23, Tryd.ntmps23
    go_wp2_with (go_at_call 75; refine (in_any _ _ _).mono ?_; rintro e w' ⟨rfl, rfl⟩)
    go_quiet (fail)
    go_wp2
    go_ret2
    exact ⟨rfl, ((Ext.refl _).alloc_ _).drewN_ _⟩
theorem five_any (w : World) : Calls Tryd.prog 20 #[] w fun e w' => e = .returned (.bool true) ∧ w' = w := by
  have e1 : intW 5 = 21 := by decide
  have e2 : kindW 21 = 1 := by decide
  go_enter Tryd.func20, Tryd.ntmps20
  go_wp2_with (first
    | (go_at_call 21; refine (ofInt_yes _ (by decide) _).mono ?_; rintro e w' ⟨rfl, rfl⟩)
    | (go_at_call 41; refine (kind_any _ (by omega) (by omega) _).mono ?_; rintro e w' ⟨rfl, rfl⟩))
  go_ret
  exact ⟨rfl, rfl⟩
end Go.Proofs.YtpbfhkkecbnieaaDoor
