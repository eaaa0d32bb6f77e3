/- Plain facts on bits of 64-bit words: what the masks, joins and shifts of package word come to as numbers. -/
import Derived.WalkKit
import Derived.Test.YtpbfhkkecbnieaaDoorPlain
namespace Go.Proofs.YtpbfhkkecbnieaaDoor
open Go.RowKit
set_option linter.unusedVariables false
set_option linter.unusedSimpArgs false

theorem wraps_u64 (n : Int) (h₀ : 0 ≤ n) (h₁ : n < 2 ^ 64) : IntKind.u64.wrap n = n := by rw [IntKind.wrap_u64]; omega
theorem and_u64 (i : Nat) (hi : i ≤ 64) (x : Int) (h₀ : 0 ≤ x) (h₁ : x < 2 ^ 64) : bits .and .u64 x (2 ^ i - 1) = x % 2 ^ i :=
  bits_mask .u64 64 (by decide) wraps_u64 i hi x h₀ h₁
theorem or_u64 (i : Nat) (x y : Int) (hx₀ : 0 ≤ x) (hx : x % 2 ^ i = 0) (hx₁ : x < 2 ^ 64) (hy₀ : 0 ≤ y) (hy : y < 2 ^ i) (hy₁ : y < 2 ^ 64) : bits .or .u64 x y = x + y :=
  bits_join .u64 64 (by decide) wraps_u64 i x y hx₀ hx hx₁ hy₀ hy hy₁
theorem and3 (x : Int) (h₀ : 0 ≤ x) (h₁ : x ≤ 18446744073709551615) : bits .and .u64 x 3 = x % 4 := and_u64 2 (by decide) x h₀ (by omega)
theorem and255 (x : Int) (h₀ : 0 ≤ x) (h₁ : x ≤ 18446744073709551615) : bits .and .u64 x 255 = x % 256 := and_u64 8 (by decide) x h₀ (by omega)
theorem and15 (x : Int) (h₀ : 0 ≤ x) (h₁ : x ≤ 18446744073709551615) : bits .and .u64 x 15 = x % 16 := and_u64 4 (by decide) x h₀ (by omega)
theorem and1 (x : Int) (h₀ : 0 ≤ x) (h₁ : x ≤ 18446744073709551615) : bits .and .u64 x 1 = x % 2 := and_u64 1 (by decide) x h₀ (by omega)
theorem and8191 (x : Int) (h₀ : 0 ≤ x) (h₁ : x ≤ 18446744073709551615) : bits .and .u64 x 8191 = x % 8192 := and_u64 13 (by decide) x h₀ (by omega)
theorem or4 (x y : Int) (hx₀ : 0 ≤ x) (hx : x % 4 = 0) (hx₁ : x ≤ 18446744073709551615) (hy₀ : 0 ≤ y) (hy : y < 4) : bits .or .u64 x y = x + y :=
  or_u64 2 x y hx₀ hx (by omega) hy₀ hy (by omega)
theorem bits_or_comm (x y : Int) : bits .or .u64 x y = bits .or .u64 y x := by
  simp only [bits]
  rw [BitVec.or_comm]
theorem kind_bits (a : Int) (h0 : 0 ≤ a) (h1 : a ≤ 18446744073709551615) : wrap64 (bits .and .u64 a 3) = kindW a := by
  rw [and3 a h0 h1, IntWalk.wrap64_in _ (by omega)]; rfl
theorem int_bits (a : Int) : bits .or .u64 (IntKind.u64.wrap (IntKind.u64.wrap a * 4)) 1 = intW a := by
  rw [IntKind.wrap_u64, IntKind.wrap_u64, or4 _ _ (by omega) (by omega) (by omega) (by omega) (by omega)]; unfold intW; omega
theorem const_bits (a : Int) : bits .or .u64 (IntKind.u64.wrap (IntKind.u64.wrap a * 4)) 2 = constW a := by
  rw [IntKind.wrap_u64, IntKind.wrap_u64, or4 _ _ (by omega) (by omega) (by omega) (by omega) (by omega)]; unfold constW; omega
theorem num_bits (a : Int) (h0 : 0 ≤ a) (h1 : a ≤ 18446744073709551615) : wrap64 a / 4 = numW a := by
  unfold wrap64 numW; split <;> omega
theorem head_bits (k a m s : Int) (hk : 0 ≤ k ∧ k ≤ 255) (ha : 0 ≤ a ∧ a ≤ 15) (hm : 0 ≤ m ∧ m ≤ 1) (hs : 0 ≤ s ∧ s ≤ 4096) :
    bits .or .u64 (bits .or .u64 (bits .or .u64 (bits .or .u64 (k * 4) (a * 1024)) (m * 16384)) (s * 65536)) 3 = headW k a m s := by
  rw [bits_or_comm (k * 4), or_u64 10 (a * 1024) (k * 4) (by omega) (by omega) (by omega) (by omega) (by omega) (by omega)]
  rw [bits_or_comm (a * 1024 + k * 4), or_u64 14 (m * 16384) _ (by omega) (by omega) (by omega) (by omega) (by omega) (by omega)]
  rw [bits_or_comm (m * 16384 + _), or_u64 16 (s * 65536) _ (by omega) (by omega) (by omega) (by omega) (by omega) (by omega)]
  rw [or_u64 2 _ 3 (by omega) (by omega) (by omega) (by omega) (by omega) (by omega)]
  unfold headW; omega
theorem wf_u64 {a : Int} (h : (Lit.int .u64 a).wf = true) : 0 ≤ a ∧ a ≤ 18446744073709551615 := by
  have h1 : IntKind.u64.min = 0 := rfl
  have h2 : IntKind.u64.max = 18446744073709551615 := by decide
  simp only [Lit.wf, Bool.and_eq_true, decide_eq_true_eq, h1, h2] at h; exact h
theorem wf_i64 {a : Int} (h : (Lit.int .i64 a).wf = true) : -9223372036854775808 ≤ a ∧ a ≤ 9223372036854775807 := by
  have h1 : IntKind.i64.min = -9223372036854775808 := by decide
  have h2 : IntKind.i64.max = 9223372036854775807 := by decide
  simp only [Lit.wf, Bool.and_eq_true, decide_eq_true_eq, h1, h2] at h; exact h
end Go.Proofs.YtpbfhkkecbnieaaDoor
