/- The walks of the document's answer for words: those that only some statements reach. -/
import Derived.Test.YtpbfhkkecbnieaaDoorRefWord
namespace Go.Proofs.YtpbfhkkecbnieaaDoor
open Go.RowKit
set_option linter.unusedVariables false
set_option linter.unusedSimpArgs false

theorem intK_bits (a : Int) : IntKind.u64.wrap (IntKind.u64.wrap (IntKind.u64.wrap a * 4) + 1) = intW a := by
  rw [IntKind.wrap_u64, IntKind.wrap_u64, IntKind.wrap_u64]; unfold intW; omega
theorem kIntWord_any (a : Int) (w : World) :
    Calls Tryd.prog 44 #[.int .i64 a] w fun e w' => e = .returned (.int .u64 (intW a)) ∧ w' = w := by
  rw [← intK_bits]
  go_enter Tryd.func44, Tryd.ntmps44
  go_wp2
  go_ret
  exact ⟨rfl, rfl⟩
theorem kAddrWord_any (a : Int) (w : World) :
    Calls Tryd.prog 37 #[.int .i64 a] w fun e w' => e = .returned (.int .u64 (addrW a)) ∧ w' = w := by
  rw [← addr_bits]
  go_enter Tryd.func37, Tryd.ntmps37
  go_wp2
  go_ret
  exact ⟨rfl, rfl⟩
theorem kHeadWord_any (k a m s : Int) (hk : 0 ≤ k ∧ k ≤ 255) (ha : 0 ≤ a ∧ a ≤ 15) (hm : 0 ≤ m ∧ m ≤ 1) (hs : 0 ≤ s ∧ s ≤ 4096) (w : World) :
    Calls Tryd.prog 46 #[.int .i64 k, .int .i64 a, .int .i64 m, .int .i64 s] w fun e w' => e = .returned (.int .u64 (headW k a m s)) ∧ w' = w := by
  obtain ⟨hk0, hk1⟩ := hk
  obtain ⟨ha0, ha1⟩ := ha
  obtain ⟨hm0, hm1⟩ := hm
  obtain ⟨hs0, hs1⟩ := hs
  go_enter Tryd.func46, Tryd.ntmps46
  go_wp2
  go_ret
  exact ⟨rfl, rfl⟩
end Go.Proofs.YtpbfhkkecbnieaaDoor
