/- The walks of the document's answer for words. -/
import Derived.Test.YtpbfhkkecbnieaaDoorWord3
namespace Go.Proofs.YtpbfhkkecbnieaaDoor
open Go.RowKit
set_option linter.unusedVariables false
set_option linter.unusedSimpArgs false

theorem kIsSmall_any (a : Int) (w : World) :
    Calls Tryd.prog 42 #[.int .i64 a] w fun e w' => e = .returned (.bool (smallB a)) ∧ w' = w := by
  by_cases h : -2305843009213693952 ≤ a
  · have e : smallB a = decide (a < 2305843009213693952) := by simp [smallB, h]
    rw [e]
    go_enter Tryd.func42, Tryd.ntmps42
    go_wp2
    go_ret
    exact ⟨rfl, rfl⟩
  · have e : smallB a = false := by simp [smallB, h]
    rw [e]
    go_enter Tryd.func42, Tryd.ntmps42
    go_wp2
    go_ret
    exact ⟨rfl, rfl⟩
theorem kIntOf_any (a : Int) (h0 : 0 ≤ a) (h1 : a ≤ 18446744073709551615) (w : World) :
    Calls Tryd.prog 45 #[.int .u64 a] w fun e w' => e = .returned (.int .i64 (numW a)) ∧ w' = w := by
  rw [← num_bits a h0 h1]
  go_enter Tryd.func45, Tryd.ntmps45
  go_wp2
  go_ret
  exact ⟨rfl, rfl⟩
theorem constK_bits (a : Int) : IntKind.u64.wrap (IntKind.u64.wrap (IntKind.u64.wrap a * 4) + 2) = constW a := by
  rw [IntKind.wrap_u64, IntKind.wrap_u64, IntKind.wrap_u64]; unfold constW; omega
theorem kConstWord_any (a : Int) (w : World) :
    Calls Tryd.prog 51 #[.int .i64 a] w fun e w' => e = .returned (.int .u64 (constW a)) ∧ w' = w := by
  rw [← constK_bits]
  go_enter Tryd.func51, Tryd.ntmps51
  go_wp2
  go_ret
  exact ⟨rfl, rfl⟩
theorem kHeadOf_yes (a : Int) (h0 : 0 ≤ a) (h1 : a ≤ 18446744073709551615) (h : isHd a = true) (w : World) :
    Calls Tryd.prog 47 #[.int .u64 a] w fun e w' => e = .returned (.tuple #[.int .i64 (hKind a), .int .i64 (hAge a), .int .i64 (hMark a), .int .i64 (hSize a), .bool true]) ∧ w' = w := by
  obtain ⟨a1, a2, a3⟩ := (isHd_iff a).1 h
  clear h
  go_enter Tryd.func47, Tryd.ntmps47
  go_wp2
  exact bodyPost_ret (v := .tuple #[.int .i64 (hKind a), .int .i64 (hAge a), .int .i64 (hMark a), .int .i64 (hSize a), .bool true]) (by simp [results, Tryd.results47, go_sem, hKind, hAge, hMark, hSize]) rfl ⟨rfl, rfl⟩
theorem kHeadOf_no (a : Int) (h0 : 0 ≤ a) (h1 : a ≤ 18446744073709551615) (h : isHd a = false) (w : World) :
    Calls Tryd.prog 47 #[.int .u64 a] w fun e w' => e = .returned (.tuple #[.int .i64 0, .int .i64 0, .int .i64 0, .int .i64 0, .bool false]) ∧ w' = w := by
  have hn : ¬ (a % 4 = 3 ∧ a / 32768 % 2 = 0 ∧ a / 65536 ≤ 4096) := by rw [← isHd_iff, h]; simp
  clear h
  by_cases a1 : a % 4 = 3
  · by_cases a2 : a / 32768 % 2 = 0
    · have a3 : decide (a / 65536 ≤ 4096) = false := by simp; omega
      clear hn
      go_enter Tryd.func47, Tryd.ntmps47
      go_wp2
      exact bodyPost_ret (v := .tuple #[.int .i64 0, .int .i64 0, .int .i64 0, .int .i64 0, .bool false]) (by simp [results, Tryd.results47, go_sem]) rfl ⟨rfl, rfl⟩
    · have b2 : (a / 32768 % 2 == 0) = false := by simpa using a2
      clear hn a2
      go_enter Tryd.func47, Tryd.ntmps47
      go_wp2
      exact bodyPost_ret (v := .tuple #[.int .i64 0, .int .i64 0, .int .i64 0, .int .i64 0, .bool false]) (by simp [results, Tryd.results47, go_sem]) rfl ⟨rfl, rfl⟩
  · have b1 : (a % 4 == 3) = false := by simpa using a1
    clear hn a1
    go_enter Tryd.func47, Tryd.ntmps47
    go_wp2
    exact bodyPost_ret (v := .tuple #[.int .i64 0, .int .i64 0, .int .i64 0, .int .i64 0, .bool false]) (by simp [results, Tryd.results47, go_sem]) rfl ⟨rfl, rfl⟩
end Go.Proofs.YtpbfhkkecbnieaaDoor
