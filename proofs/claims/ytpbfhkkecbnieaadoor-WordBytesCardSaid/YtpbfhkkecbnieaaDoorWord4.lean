/- The walks of package word: ints and addresses; the closed fact on the number 5. -/
import Derived.Test.YtpbfhkkecbnieaaDoorWord3
namespace Go.Proofs.YtpbfhkkecbnieaaDoor
open Go.RowKit
set_option linter.unusedVariables false
set_option linter.unusedSimpArgs false

theorem ofInt_yes (a : Int) (h : smallB a = true) (w : World) :
    Calls Tryd.prog 21 #[.int .i64 a] w fun e w' => e = .returned (.tuple #[.int .u64 (intW a), .nilIface]) ∧ w' = w := by
  go_enter Tryd.func21, Tryd.ntmps21
  go_wp2_with (first
    | (go_at_call 72; refine (isSmall_any _ _).mono ?_; rintro e w' ⟨rfl, rfl⟩)
    | (go_at_call 73; refine (int_any _ _).mono ?_; rintro e w' ⟨rfl, rfl⟩))
  go_ret2
  exact ⟨rfl, rfl⟩
theorem ofInt_no (a : Int) (h : smallB a = false) (w : World) (s : Addr) (hs : GBound w s) :
    Calls Tryd.prog 21 #[.int .i64 a] w fun e w' => e = .returned (.tuple #[.int .u64 0, errV s]) ∧ Ext w w' := by
  go_enter Tryd.func21, Tryd.ntmps21
  go_wp2_with (first
    | (go_at_call 72; refine (isSmall_any _ _).mono ?_; rintro e w' ⟨rfl, rfl⟩))
  go_quiet (fail)
  go_wp2
  go_ret2
  exact ⟨rfl, ext_drewN _ _⟩
theorem toInt_yes (a : Int) (h0 : 0 ≤ a) (h1 : a ≤ 18446744073709551615) (h : kindW a = 1) (w : World) :
    Calls Tryd.prog 24 #[.int .u64 a] w fun e w' => e = .returned (.tuple #[.int .i64 (numW a), .nilIface]) ∧ w' = w := by
  go_enter Tryd.func24, Tryd.ntmps24
  go_wp2_with (first
    | (go_at_call 41; refine (kind_any _ h0 h1 _).mono ?_; rintro e w' ⟨rfl, rfl⟩)
    | (go_at_call 77; refine (num_any _ h0 h1 _).mono ?_; rintro e w' ⟨rfl, rfl⟩))
  go_ret2
  exact ⟨rfl, rfl⟩
theorem toInt_no (a : Int) (h0 : 0 ≤ a) (h1 : a ≤ 18446744073709551615) (h : (kindW a != 1) = true) (w : World) (s : Addr) (hs : GShape w s) :
    Calls Tryd.prog 24 #[.int .u64 a] w fun e w' => e = .returned (.tuple #[.int .i64 0, errV s]) ∧ Ext w w' := by
  go_enter Tryd.func24, Tryd.ntmps24
  go_wp2_with (first
    | (go_at_call 41; refine (kind_any _ h0 h1 _).mono ?_; rintro e w' ⟨rfl, rfl⟩))
  go_quiet (fail)
  go_wp2
  go_ret2
  exact ⟨rfl, ext_drewN _ _⟩
theorem ofAddr_yes (a : Int) (h : 0 ≤ a ∧ a ≤ 1099511627776) (w : World) :
    Calls Tryd.prog 22 #[.int .i64 a] w fun e w' => e = .returned (.tuple #[.int .u64 (addrW a), .nilIface]) ∧ w' = w := by
  obtain ⟨h1, h2⟩ := h
  go_enter Tryd.func22, Tryd.ntmps22
  go_wp2_with (first
    | (go_at_call 74; refine (addr_any _ _).mono ?_; rintro e w' ⟨rfl, rfl⟩))
  go_ret2
  exact ⟨rfl, rfl⟩
theorem ofAddr_no (a : Int) (h : ¬ (0 ≤ a ∧ a ≤ 1099511627776)) (w : World) (s : Addr) (hs : GBound w s) :
    Calls Tryd.prog 22 #[.int .i64 a] w fun e w' => e = .returned (.tuple #[.int .u64 0, errV s]) ∧ Ext w w' := by
  by_cases h1 : a < 0
  · clear h
    go_enter Tryd.func22, Tryd.ntmps22
    go_wp2
    go_quiet (fail)
    go_wp2
    go_ret2
    exact ⟨rfl, ext_drewN _ _⟩
  · have h2 : 1099511627776 < a := by omega
    clear h
    go_enter Tryd.func22, Tryd.ntmps22
    go_wp2
    go_quiet (fail)
    go_wp2
    go_ret2
    exact ⟨rfl, ext_drewN _ _⟩
theorem toAddr_yes (a : Int) (h0 : 0 ≤ a) (h1 : a ≤ 18446744073709551615) (hk : kindW a = 0) (h2 : 0 < a) (h3 : a / 4 ≤ 1099511627777) (w : World) :
    Calls Tryd.prog 25 #[.int .u64 a] w fun e w' => e = .returned (.tuple #[.int .i64 (placeW a), .nilIface]) ∧ w' = w := by
  have h4 : (a == 0) = false := by rw [beq_eq_false_iff_ne]; omega
  go_enter Tryd.func25, Tryd.ntmps25
  go_wp2_with (first
    | (go_at_call 41; refine (kind_any _ h0 h1 _).mono ?_; rintro e w' ⟨rfl, rfl⟩)
    | (go_at_call 78; refine (place_any _ h0 h1 _).mono ?_; rintro e w' ⟨rfl, rfl⟩))
  go_ret2
  exact ⟨rfl, rfl⟩
theorem toAddr_no (a : Int) (h0 : 0 ≤ a) (h1 : a ≤ 18446744073709551615) (h : ¬ (kindW a = 0 ∧ 0 < a ∧ a / 4 ≤ 1099511627777)) (w : World) (s : Addr) (hs : GShape w s) :
    Calls Tryd.prog 25 #[.int .u64 a] w fun e w' => e = .returned (.tuple #[.int .i64 0, errV s]) ∧ Ext w w' := by
  by_cases hk : kindW a = 0
  · by_cases h2 : 0 < a
    · have h3 : 1099511627777 < a / 4 := by omega
      have h4 : (a == 0) = false := by rw [beq_eq_false_iff_ne]; omega
      clear h
      go_enter Tryd.func25, Tryd.ntmps25
      go_wp2_with (first
        | (go_at_call 41; refine (kind_any _ h0 h1 _).mono ?_; rintro e w' ⟨rfl, rfl⟩))
      go_quiet (fail)
      go_wp2
      go_ret2
      exact ⟨rfl, ext_drewN _ _⟩
    · obtain rfl : a = 0 := by omega
      clear h
      go_enter Tryd.func25, Tryd.ntmps25
      go_wp2_with (first
        | (go_at_call 41; refine (kind_any _ h0 h1 _).mono ?_; rintro e w' ⟨rfl, rfl⟩))
      go_quiet (fail)
      go_wp2
      go_ret2
      exact ⟨rfl, ext_drewN _ _⟩
  · have hk' : (kindW a != 0) = true := by simpa using hk
    clear h
    go_enter Tryd.func25, Tryd.ntmps25
    go_wp2_with (first
      | (go_at_call 41; refine (kind_any _ h0 h1 _).mono ?_; rintro e w' ⟨rfl, rfl⟩))
    go_quiet (fail)
    go_wp2
    go_ret2
    exact ⟨rfl, ext_drewN _ _⟩
theorem five_any (w : World) : Calls Tryd.prog 20 #[] w fun e w' => e = .returned (.bool true) ∧ w' = w := by
  have e1 : intW 5 = 21 := by decide
  have e2 : kindW 21 = 1 := by decide
  go_enter Tryd.func20, Tryd.ntmps20
  go_wp2_with (first
    | (go_at_call 21; refine (ofInt_yes _ (by decide) _).mono ?_; rintro e w' ⟨rfl, rfl⟩)
    | (go_at_call 41; refine (kind_any _ (by omega) (by omega) _).mono ?_; rintro e w' ⟨rfl, rfl⟩))
  go_ret
  exact ⟨rfl, rfl⟩
end Go.Proofs.YtpbfhkkecbnieaaDoor
