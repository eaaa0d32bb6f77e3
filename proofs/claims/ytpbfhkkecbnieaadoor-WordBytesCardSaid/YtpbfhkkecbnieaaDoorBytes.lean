/- Bytes as words, plainly: little-endian words of at most eight bytes each. -/
import Derived.Test.YtpbfhkkecbnieaaDoorBits
namespace Go.Proofs.YtpbfhkkecbnieaaDoor
open Go.RowKit
set_option linter.unusedVariables false
set_option linter.unusedSimpArgs false

/-- Bytes as one number, the first the least. -/
def leW : List Int → Int
  | [] => 0
  | b :: l => b + 256 * leW l
/-- The powers. -/
def p8 (n : Nat) : Int := 2 ^ (8 * n)
theorem p8_zero : p8 0 = 1 := rfl
theorem p8_succ (n : Nat) : p8 (n + 1) = 256 * p8 n := by
  unfold p8
  rw [show 8 * (n + 1) = 8 * n + 8 from by omega, Int.pow_add]
  show _ * 256 = _
  omega
theorem p8_pos (n : Nat) : 0 < p8 n := by
  induction n with
  | zero => decide
  | succ n ih => rw [p8_succ]; omega
theorem leW_bound : ∀ l : List Int, (∀ b ∈ l, 0 ≤ b ∧ b ≤ 255) → 0 ≤ leW l ∧ leW l < p8 l.length
  | [], _ => by decide
  | b :: l, h => by
    have h1 := leW_bound l fun x hx => h x (by simp [hx])
    have h2 := h b (by simp)
    have h3 := p8_succ l.length
    simp only [leW, List.length_cons]
    omega
theorem leW_snoc (l : List Int) (c : Int) : leW (l ++ [c]) = leW l + c * p8 l.length := by
  induction l with
  | nil => simp [leW, p8_zero]
  | cons b l ih =>
    have h3 := p8_succ l.length
    simp only [List.cons_append, leW, List.length_cons, ih, h3]
    rw [Int.mul_add, Int.mul_left_comm]
    omega
theorem leW_byte : ∀ (l : List Int) (j : Nat), (∀ b ∈ l, 0 ≤ b ∧ b ≤ 255) → leW l / p8 j % 256 = l.getD j 0
  | [], j, _ => by simp [leW]
  | b :: l, 0, h => by
    have h2 := h b (by simp)
    simp only [leW, p8_zero, List.getD_cons_zero]
    omega
  | b :: l, j + 1, h => by
    have h1 := leW_byte l j fun x hx => h x (by simp [hx])
    have h2 := h b (by simp)
    simp only [leW, List.getD_cons_succ]
    rw [p8_succ, ← Int.ediv_ediv_of_nonneg (by omega), show (b + 256 * leW l) / 256 = leW l from by omega]
    exact h1

/-- The word at an index of the bytes' words. -/
def byteW (s : List Int) (i : Nat) : Int := leW ((s.drop (8 * i)).take 8)
/-- Bytes as words. -/
def bytesW (s : List Int) : List Int := (List.range ((s.length + 7) / 8)).map (byteW s)
theorem byteW_bound (s : List Int) (h : ∀ b ∈ s, 0 ≤ b ∧ b ≤ 255) (i : Nat) : 0 ≤ byteW s i ∧ byteW s i ≤ 18446744073709551615 := by
  have h1 := leW_bound ((s.drop (8 * i)).take 8) fun b hb => h b (List.mem_of_mem_drop (List.mem_of_mem_take hb))
  have hm : ∀ a b : Nat, a ≤ b → p8 a ≤ p8 b := fun a b hab => by
    induction hab with
    | refl => exact Int.le_refl _
    | @step m _ ih => have h1 := p8_succ m; have h2 := p8_pos m; simp only [Nat.succ_eq_add_one] at *; omega
  have h2 := hm _ 8 (List.length_take_le 8 (s.drop (8 * i)))
  have h3 : p8 8 = 18446744073709551616 := by decide
  unfold byteW; omega
/-- The byte at a place of the words: the text's, or nought behind its end. -/
theorem byteW_byte (s : List Int) (h : ∀ b ∈ s, 0 ≤ b ∧ b ≤ 255) (k : Nat) : byteW s (k / 8) / p8 (k % 8) % 256 = s.getD k 0 := by
  unfold byteW
  rw [leW_byte _ _ fun b hb => h b (List.mem_of_mem_drop (List.mem_of_mem_take hb))]
  simp only [List.getD_eq_getElem?_getD, List.getElem?_take, List.getElem?_drop]
  rw [if_pos (by omega), show 8 * (k / 8) + k % 8 = k from by omega]

/-- The words when the first `k` bytes are in. -/
def byteP (s : List Int) (k i : Nat) : Int := leW (((s.take k).drop (8 * i)).take 8)
def bytesP (s : List Int) (k m : Nat) : List Int := (List.range m).map (byteP s k)
theorem bytesP_zero (s : List Int) (m : Nat) : bytesP s 0 m = List.replicate m 0 := by
  unfold bytesP
  apply List.ext_getElem?
  intro j
  by_cases hj : j < m
  · simp [hj, byteP, leW]
  · simp [hj]
theorem bytesP_all (s : List Int) : bytesP s s.length ((s.length + 7) / 8) = bytesW s := by
  unfold bytesP bytesW byteP byteW
  simp
theorem byteP_bound (s : List Int) (h : ∀ b ∈ s, 0 ≤ b ∧ b ≤ 255) (k i : Nat) : 0 ≤ byteP s k i ∧ byteP s k i ≤ 18446744073709551615 :=
  byteW_bound (s.take k) (fun b hb => h b (List.mem_of_mem_take hb)) i
theorem byteP_here (s : List Int) (k : Nat) (hk : k < s.length) : byteP s (k + 1) (k / 8) = byteP s k (k / 8) + s.getD k 0 * p8 (k % 8) := by
  unfold byteP
  have e1 : ((s.take (k + 1)).drop (8 * (k / 8))).take 8 = (s.take k).drop (8 * (k / 8)) ++ [s.getD k 0] := by
    rw [show s.take (k + 1) = s.take k ++ s[k]?.toList from List.take_add_one, List.drop_append_of_le_length (by simp; omega)]
    rw [List.take_of_length_le (by simp [hk]; omega)]
    simp [List.getD_eq_getElem?_getD, hk]
  have e2 : ((s.take k).drop (8 * (k / 8))).take 8 = (s.take k).drop (8 * (k / 8)) := List.take_of_length_le (by simp; omega)
  have e3 : ((s.take k).drop (8 * (k / 8))).length = k % 8 := by simp; omega
  rw [e1, e2, leW_snoc, e3]
theorem byteP_there (s : List Int) (k i : Nat) (hk : k < s.length) (hi : i ≠ k / 8) : byteP s (k + 1) i = byteP s k i := by
  unfold byteP
  congr 1
  apply List.ext_getElem?
  intro j
  simp only [List.getElem?_take, List.getElem?_drop]
  split
  · by_cases h : 8 * i + j < k
    · rw [if_pos h, if_pos (by omega)]
    · rw [if_neg h, if_neg (by omega)]
  · rfl
theorem bytesP_step (s : List Int) (k m : Nat) (hk : k < s.length) : (bytesP s k m).set (k / 8) (byteP s k (k / 8) + s.getD k 0 * p8 (k % 8)) = bytesP s (k + 1) m := by
  apply List.ext_getElem?
  intro j
  unfold bytesP
  rw [List.getElem?_set]
  by_cases hj : j < m
  · by_cases he : k / 8 = j
    · subst he
      simp [hj, byteP_here s k hk]
    · simp [hj, he, byteP_there s k j hk (fun e => he e.symm)]
  · simp [hj]; omega
end Go.Proofs.YtpbfhkkecbnieaaDoor
