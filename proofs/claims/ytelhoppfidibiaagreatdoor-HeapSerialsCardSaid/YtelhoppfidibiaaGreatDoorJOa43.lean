/- From the rows' lists to the library's tables that texts of numbers read. -/
import Derived.Test.YtelhoppfidibiaaGreatDoorJOa41
import Derived.Test.YtelhoppfidibiaaGreatDoorJOa42
import Derived.LaidSub
namespace Go.Proofs.YtelhoppfidibiaaGreatDoor
open Go.ChangeShapes Go.WideShapes Go.ChangeAt Go.RowKit
set_option linter.unusedVariables false
set_option linter.unusedSimpArgs false

theorem pow10G : Tryz.prog.globalNamed "internal/strconv.uint64pow10" = some 8 := by kernel_rfl
theorem pow10T : (Tryz.prog.globals[8]?).map (·.type) = some 245 := by kernel_rfl
theorem pow10D : (Rows.laid_internal_strconv_uint64pow10 : DataW Unit) = Lib.tabData .u64 Lib.pow10Tab := by kernel_rfl
theorem tz64G : Tryz.prog.globalNamed "math/bits.deBruijn64tab" = some 10 := by kernel_rfl
theorem tz64T : (Tryz.prog.globals[10]?).map (·.type) = some 260 := by kernel_rfl
theorem tz64D : (Rows.laid_math_bits_deBruijn64tab : DataW Unit) = Lib.tabData .u8 [0, 1, 56, 2, 57, 49, 28, 3, 61, 58, 42, 50, 38, 29, 17, 4, 62, 47, 59, 36, 45, 43, 51, 22, 53, 39, 33, 30, 24, 18, 12, 5, 63, 55, 48, 27, 60, 41, 37, 16, 46, 35, 44, 21, 52, 32, 23, 11, 54, 26, 40, 15, 34, 20, 31, 10, 25, 14, 19, 9, 13, 8, 7, 6] := by kernel_rfl
theorem pow_of_laid {W : World} (h : laidMetH Tryz.prog [("internal/strconv.uint64pow10", Rows.laid_internal_strconv_uint64pow10)] W) : Lib.TabIs Tryz.prog W "internal/strconv.uint64pow10" .u64 Lib.pow10Tab := by
  rw [pow10D] at h
  replace h := (laidMetH_iff.1 h).1
  exact Lib.tabIs_of_head (t := 245) (e := 78) (n := 20) pow10G pow10T (by kernel_rfl) (by kernel_rfl) (by kernel_rfl) (by kernel_rfl) h
theorem tz_of_laid {W : World} (h : laidMetH Tryz.prog [("math/bits.deBruijn64tab", Rows.laid_math_bits_deBruijn64tab)] W) : Tz16 W := by
  rw [tz64D] at h
  replace h := (laidMetH_iff.1 h).1
  exact (Lib.tabIs_of_head (t := 260) (e := 5) (n := 64) tz64G tz64T (by kernel_rfl) (by kernel_rfl) (by kernel_rfl) (by kernel_rfl) h).cell tz64G 15 (by decide)
theorem tabs_of_laid {W : World} (h : laidMetH Tryz.prog [("math/bits.deBruijn64tab", Rows.laid_math_bits_deBruijn64tab), ("internal/strconv.uint64pow10", Rows.laid_internal_strconv_uint64pow10)] W) : Tabs W :=
  ⟨pow_of_laid (h.filter fun x => x.1 == "internal/strconv.uint64pow10"), tz_of_laid (h.filter fun x => x.1 == "math/bits.deBruijn64tab")⟩
end Go.Proofs.YtelhoppfidibiaaGreatDoor
