/- Words as numbers, in plain Lean: no Go in sight. -/
namespace Go.Proofs.YtpbfhkkecbnieaaDoor

/-- The word of a small int, of an address, of a constant, of a header. -/
def intW (n : Int) : Int := (n * 4) % 18446744073709551616 + 1
def addrW (n : Int) : Int := (n * 4 + 4) % 18446744073709551616
def constW (n : Int) : Int := (n * 4) % 18446744073709551616 + 2
def headW (k a m s : Int) : Int := s * 65536 + m * 16384 + a * 1024 + k * 4 + 3
/-- What a word tells. -/
def kindW (a : Int) : Int := a % 4
def numW (a : Int) : Int := (if a < 9223372036854775808 then a else a - 18446744073709551616) / 4
def placeW (a : Int) : Int := a / 4 - 1
def hKind (a : Int) : Int := a / 4 % 256
def hAge (a : Int) : Int := a / 1024 % 16
def hMark (a : Int) : Int := a / 16384 % 2
def hSize (a : Int) : Int := a / 65536
def isHd (a : Int) : Bool := decide (a % 4 = 3) && decide (a / 32768 % 2 = 0) && decide (a / 65536 ≤ 4096)
def smallB (n : Int) : Bool := decide (-2305843009213693952 ≤ n) && decide (n < 2305843009213693952)

theorem isHd_iff (a : Int) : isHd a = true ↔ a % 4 = 3 ∧ a / 32768 % 2 = 0 ∧ a / 65536 ≤ 4096 := by
  simp [isHd, and_assoc]
theorem hd_in (a : Int) (h0 : 0 ≤ a) : 0 ≤ hKind a ∧ hKind a ≤ 255 ∧ 0 ≤ hAge a ∧ hAge a ≤ 15 ∧ 0 ≤ hMark a ∧ hMark a ≤ 1 ∧ 0 ≤ hSize a := by
  unfold hKind hAge hMark hSize; omega
theorem headW_back (a : Int) (h : isHd a = true) : headW (hKind a) (hAge a) (hMark a) (hSize a) = a := by
  rw [isHd_iff] at h; unfold headW hKind hAge hMark hSize; omega
theorem headW_only (a : Int) (h : headW (hKind a) (hAge a) (hMark a) (hSize a % 8192) = a) (hs : hSize a % 8192 ≤ 4096) : isHd a = true := by
  rw [isHd_iff]; unfold headW hKind hAge hMark hSize at *; omega
theorem headW_in (k a m s : Int) (hk : 0 ≤ k ∧ k ≤ 255) (ha : 0 ≤ a ∧ a ≤ 15) (hm : 0 ≤ m ∧ m ≤ 1) (hs : 0 ≤ s ∧ s ≤ 4096) : 0 ≤ headW k a m s ∧ headW k a m s ≤ 18446744073709551615 := by
  unfold headW; omega
theorem headW_hd (k a m s : Int) (hk : 0 ≤ k ∧ k ≤ 255) (ha : 0 ≤ a ∧ a ≤ 15) (hm : 0 ≤ m ∧ m ≤ 1) (hs : 0 ≤ s ∧ s ≤ 4096) :
    isHd (headW k a m s) = true ∧ hKind (headW k a m s) = k ∧ hAge (headW k a m s) = a ∧ hMark (headW k a m s) = m ∧ hSize (headW k a m s) = s := by
  rw [isHd_iff]; unfold headW hKind hAge hMark hSize; omega
theorem intW_wd (n : Int) : 0 ≤ intW n ∧ intW n ≤ 18446744073709551615 ∧ intW n % 4 = 1 := by unfold intW; omega
theorem constW_wd (n : Int) : 0 ≤ constW n ∧ constW n ≤ 18446744073709551615 ∧ constW n % 4 = 2 := by unfold constW; omega
theorem addrW_wd (n : Int) : 0 ≤ addrW n ∧ addrW n ≤ 18446744073709551615 ∧ addrW n % 4 = 0 := by unfold addrW; omega
theorem numW_intW (n : Int) (h : smallB n = true) : numW (intW n) = n := by
  simp only [smallB, Bool.and_eq_true, decide_eq_true_eq] at h; unfold numW intW; split <;> omega
theorem placeW_addrW (n : Int) (h : 0 ≤ n ∧ n ≤ 1099511627776) : placeW (addrW n) = n := by unfold placeW addrW; omega
end Go.Proofs.YtpbfhkkecbnieaaDoor
