/- The text of a text's words: plainly. -/
import Derived.Test.YtpbfhkkecbnieaaDoorTextY
import Derived.Lib.Strings
namespace Go.Proofs.YtpbfhkkecbnieaaDoor
open Go.RowKit
set_option linter.unusedVariables false
set_option linter.unusedSimpArgs false

/-- The first `n` bytes of the words of a text. -/
def textN (s : ByteArray) (n : Nat) : ByteArray := strOfNums (textP (bytesW (bnums s)) n n)
theorem textN_size (s : ByteArray) (n : Nat) : (textN s n).size = n := by
  unfold textN; rw [strOfNums_size]; simp [textP]
theorem bytesW_len (s : List Int) : (bytesW s).length = (s.length + 7) / 8 := by simp [bytesW]
theorem bytesW_getD (s : List Int) (i : Nat) (h : i < (s.length + 7) / 8) : (bytesW s).getD i 0 = byteW s i := by
  simp [bytesW, List.getD_eq_getElem?_getD, h]
theorem tbyte_bytesW (s : List Int) (h : ∀ b ∈ s, 0 ≤ b ∧ b ≤ 255) (k : Nat) (hk : k < 8 * ((s.length + 7) / 8)) : tbyte (bytesW s) k = s.getD k 0 := by
  unfold tbyte
  rw [bytesW_getD _ _ (by omega)]
  exact byteW_byte s h k
theorem textN_extract (s : ByteArray) (n j : Nat) (hj : j ≤ n) (hs : j ≤ s.size) (hn : n ≤ 8 * ((s.size + 7) / 8)) : (textN s n).extract 0 j = s.extract 0 j := by
  apply ByteArray.ext
  apply Array.toList_inj.1
  rw [Lib.extract_data, Lib.extract_data]
  simp only [List.drop_zero, Nat.sub_zero]
  apply List.ext_getElem?
  intro i
  rw [List.getElem?_take, List.getElem?_take]
  by_cases hi : i < j
  · rw [if_pos hi, if_pos hi]
    unfold textN
    rw [strOfNums_data]
    have hi' : i < s.data.toList.length := Nat.lt_of_lt_of_le hi hs
    have h1 := tbyte_bytesW (bnums s) (bnums_bound s) i (by rw [bnums_len]; omega)
    rw [bnums_at s i (by omega)] at h1
    rw [List.getElem?_map, textP, List.getElem?_map, List.getElem?_range (by omega)]
    rw [List.getElem?_eq_getElem hi']
    simp only [Option.map_some, show i < n from by omega, if_true, h1]
    congr 1
    rw [Int.toNat_natCast]
    exact UInt8.ofNat_toNat
  · rw [if_neg hi, if_neg hi]
end Go.Proofs.YtpbfhkkecbnieaaDoor
