/- The walks of package word: what each of its functions answers, as plain numbers. -/
import Derived.Test.YtpbfhkkecbnieaaDoorBase
import Derived.Test.YtpbfhkkecbnieaaDoorBits
import Derived.WalkKit
import Derived.Deep.QuietTactic
import Derived.BigQuiet
namespace Go.Proofs.YtpbfhkkecbnieaaDoor
open Go.RowKit
set_option linter.unusedVariables false
set_option linter.unusedSimpArgs false

theorem kind_any (a : Int) (h0 : 0 ≤ a) (h1 : a ≤ 18446744073709551615) (w : World) :
    Calls Tryd.prog 41 #[.int .u64 a] w fun e w' => e = .returned (.int .i64 (kindW a)) ∧ w' = w := by
  rw [← kind_bits a h0 h1]
  go_enter Tryd.func41, Tryd.ntmps41
  go_wp2
  go_ret
  exact ⟨rfl, rfl⟩
theorem isSmall_any (a : Int) (w : World) :
    Calls Tryd.prog 72 #[.int .i64 a] w fun e w' => e = .returned (.bool (smallB a)) ∧ w' = w := by
  by_cases h : -2305843009213693952 ≤ a
  · have e : smallB a = decide (a < 2305843009213693952) := by simp [smallB, h]
    rw [e]
    go_enter Tryd.func72, Tryd.ntmps72
    go_wp2
    go_ret
    exact ⟨rfl, rfl⟩
  · have e : smallB a = false := by simp [smallB, h]
    rw [e]
    go_enter Tryd.func72, Tryd.ntmps72
    go_wp2
    go_ret
    exact ⟨rfl, rfl⟩
theorem int_any (a : Int) (w : World) :
    Calls Tryd.prog 73 #[.int .i64 a] w fun e w' => e = .returned (.int .u64 (intW a)) ∧ w' = w := by
  rw [← int_bits]
  go_enter Tryd.func73, Tryd.ntmps73
  go_wp2
  go_ret
  exact ⟨rfl, rfl⟩
theorem num_any (a : Int) (h0 : 0 ≤ a) (h1 : a ≤ 18446744073709551615) (w : World) :
    Calls Tryd.prog 77 #[.int .u64 a] w fun e w' => e = .returned (.int .i64 (numW a)) ∧ w' = w := by
  rw [← num_bits a h0 h1]
  go_enter Tryd.func77, Tryd.ntmps77
  go_wp2
  go_ret
  exact ⟨rfl, rfl⟩
theorem place_any (a : Int) (h0 : 0 ≤ a) (h1 : a ≤ 18446744073709551615) (w : World) :
    Calls Tryd.prog 78 #[.int .u64 a] w fun e w' => e = .returned (.int .i64 (placeW a)) ∧ w' = w := by
  go_enter Tryd.func78, Tryd.ntmps78
  go_wp2
  go_ret
  exact ⟨rfl, rfl⟩
theorem addr_bits (a : Int) : IntKind.u64.wrap (IntKind.u64.wrap (wrap64 (a + 1)) * 4) = addrW a := by
  rw [IntKind.wrap_u64, IntKind.wrap_u64]; unfold wrap64 addrW; omega
theorem addr_any (a : Int) (w : World) :
    Calls Tryd.prog 74 #[.int .i64 a] w fun e w' => e = .returned (.int .u64 (addrW a)) ∧ w' = w := by
  rw [← addr_bits]
  go_enter Tryd.func74, Tryd.ntmps74
  go_wp2
  go_ret
  exact ⟨rfl, rfl⟩
theorem const_any (a : Int) (w : World) :
    Calls Tryd.prog 105 #[.int .i64 a] w fun e w' => e = .returned (.int .u64 (constW a)) ∧ w' = w := by
  rw [← const_bits]
  go_enter Tryd.func105, Tryd.ntmps105
  go_wp2
  go_ret
  exact ⟨rfl, rfl⟩
theorem in_yes (a b : Int) (h : 0 ≤ a ∧ a ≤ b) (w : World) : Calls Tryd.prog 75 #[.int .i64 a, .int .i64 b] w fun e w' => e = .returned (.bool true) ∧ w' = w := by
  obtain ⟨h1, h2⟩ := h
  go_enter Tryd.func75, Tryd.ntmps75
  go_wp2
  go_ret
  exact ⟨by simp, rfl⟩
theorem in_no (a b : Int) (h : ¬ (0 ≤ a ∧ a ≤ b)) (w : World) : Calls Tryd.prog 75 #[.int .i64 a, .int .i64 b] w fun e w' => e = .returned (.bool false) ∧ w' = w := by
  by_cases h1 : 0 ≤ a
  · have h2 : b < a := by omega
    clear h
    go_enter Tryd.func75, Tryd.ntmps75
    go_wp2
    go_ret
    exact ⟨by simp [h2], rfl⟩
  · clear h
    go_enter Tryd.func75, Tryd.ntmps75
    go_wp2
    go_ret
    exact ⟨rfl, rfl⟩
/-- Is a number from 0 to another one? -/
def inB (a b : Int) : Bool := decide (0 ≤ a ∧ a ≤ b)
theorem inB_true {a b : Int} : inB a b = true ↔ 0 ≤ a ∧ a ≤ b := by simp [inB]
theorem inB_false {a b : Int} : inB a b = false ↔ ¬ (0 ≤ a ∧ a ≤ b) := by simp [inB]
theorem in_any (a b : Int) (w : World) : Calls Tryd.prog 75 #[.int .i64 a, .int .i64 b] w fun e w' => e = .returned (.bool (inB a b)) ∧ w' = w := by
  by_cases h : 0 ≤ a ∧ a ≤ b
  · rw [inB_true.2 h]; exact in_yes a b h w
  · rw [inB_false.2 h]; exact in_no a b h w
theorem headWord_any (k a m s : Int) (hk : 0 ≤ k ∧ k ≤ 255) (ha : 0 ≤ a ∧ a ≤ 15) (hm : 0 ≤ m ∧ m ≤ 1) (hs : 0 ≤ s ∧ s ≤ 4096) (w : World) :
    Calls Tryd.prog 76 #[.agg #[.int .i64 k, .int .i64 a, .int .i64 m, .int .i64 s]] w fun e w' => e = .returned (.int .u64 (headW k a m s)) ∧ Ext w w' := by
  rw [← head_bits k a m s hk ha hm hs]
  obtain ⟨hk0, hk1⟩ := hk
  obtain ⟨ha0, ha1⟩ := ha
  obtain ⟨hm0, hm1⟩ := hm
  obtain ⟨hs0, hs1⟩ := hs
  go_enter Tryd.func76, Tryd.ntmps76
  go_wp2
  go_ret
  exact ⟨rfl, (Below.refl _ _).alloc (Nat.le_refl _) _⟩
end Go.Proofs.YtpbfhkkecbnieaaDoor
