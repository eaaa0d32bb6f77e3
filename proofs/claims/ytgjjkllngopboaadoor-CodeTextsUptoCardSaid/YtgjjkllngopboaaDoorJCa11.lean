/- The walks of Memory.Check's closures: what is asked of a header, of a word, of words. -/
import Derived.Test.YtgjjkllngopboaaDoorJCa10
import Derived.Shelf.Abstract
import Derived.Laws.BytesArg
import Derived.IntWalk
namespace Go.Proofs.YtgjjkllngopboaaDoor
open Go.RowKit
set_option linter.unusedVariables false
set_option linter.unusedSimpArgs false
/- Is a memory right? Plainly. -/
/- The walks of the document's answer for memories: its small functions. -/
/-- A byte as a text; a number's digits; a number as a text. -/
def byteS (n : Int) : ByteArray := strOfNums [n % 256]
def belowS : Nat → Int → ByteArray
  | 0, n => byteS (48 - n)
  | f + 1, n => if -10 < n then byteS (48 - n) else belowS f (n.tdiv 10) ++ byteS (48 - n.tmod 10)
def decS (n : Int) : ByteArray := if n < 0 then ⟨#[45]⟩ ++ belowS 20 n else belowS 20 (-n)
theorem tdiv10 (n : Int) (h : n ≤ 0) : n.tdiv 10 = -((-n) / 10) := by
  have h1 : (-n).tdiv 10 = (-n) / 10 := Int.tdiv_eq_ediv_of_nonneg (by omega)
  rw [← h1, Int.neg_tdiv, Int.neg_neg]
end Go.Proofs.YtgjjkllngopboaaDoor
