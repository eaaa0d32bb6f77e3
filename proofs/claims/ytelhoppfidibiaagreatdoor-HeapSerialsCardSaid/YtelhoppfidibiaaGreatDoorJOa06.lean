/- Is a memory right? Plainly. -/
import Derived.Test.YtelhoppfidibiaaGreatDoorJOa05
import Derived.Test.YtelhoppfidibiaaGreatDoorJOa03
namespace Go.Proofs.YtelhoppfidibiaaGreatDoor
set_option linter.unusedVariables false
set_option linter.unusedSimpArgs false

/-- The two parts. -/
def partN (M : Mem) : List Ob × Bool := part M.W M.base (M.base + M.top.toNat)
def partO (M : Mem) : List Ob × Bool := part M.W (2 * M.half).toNat ((2 * M.half).toNat + M.oldTop.toNat)
def objsAll (M : Mem) : List Ob := (partN M).1 ++ (partO M).1
/-- Do the parts hold objects, each of which is as it is asked? -/
def objsB (M : Mem) (see : Ob → Bool) : Bool := ((partN M).2 && (partN M).1.all see) && ((partO M).2 && (partO M).1.all see)
def startsM (M : Mem) : List Int := (objsAll M).map fun o => (o.a : Int)
/-- An object of a memory. -/
def ObM (M : Mem) (x : Ob) : Prop := ObIn M.W M.base (M.base + M.top.toNat) x ∨ ObIn M.W (2 * M.half).toNat ((2 * M.half).toNat + M.oldTop.toNat) x
theorem obM_of {M : Mem} {x : Ob} (h : x ∈ objsAll M) : ObM M x := by
  unfold objsAll at h
  rcases List.mem_append.1 h with h | h
  · exact Or.inl (part_in h)
  · exact Or.inr (part_in h)
/-- An object's fields. -/
def flds (M : Mem) (x : Ob) : List Int := (List.range x.n).map fun i => wat M.W (x.a + 1 + i)
def okFld (M : Mem) (st : List Int) (x : Ob) : Bool := rawB (hKind x.w) || fieldsB st (flds M x)
/-- Is the card of an object's field marked, if it must be? -/
def crd (M : Mem) (x : Ob) (i : Nat) : Bool := !((oldB M (x.a : Int) && youngB M (wat M.W (x.a + 1 + i))) && !cardB M ((x.a : Int) + 1 + i))
def cardsK (M : Mem) (x : Ob) (k : Nat) : Bool := (List.range k).all (crd M x)
def cardsO (M : Mem) (x : Ob) : Bool := rawB (hKind x.w) || cardsK M x x.n
theorem cardsK_succ (M : Mem) (x : Ob) (k : Nat) : cardsK M x (k + 1) = (cardsK M x k && crd M x k) := by
  simp [cardsK, List.range_succ]
/-- Numbers. -/
def idOK (st : List Int) (pre : List (Int × Int)) (x : Int × Int) : Bool :=
  !(((((kindW x.1 != 0) || (x.1 == 0)) || !fldB st x.1) || decide (x.2 < 1)) || inSt (pre.map (·.1)) x.1) && !inSt (pre.map (·.2)) x.2
def idsB (st : List Int) : List (Int × Int) → List (Int × Int) → Bool
  | _, [] => true
  | pre, x :: l => idOK st pre x && idsB st (pre ++ [x]) l
/-- THE CHECK. -/
def goodB (M : Mem) : Bool :=
  shapeB M && objsB M (okHd M) && fieldsB (startsM M) M.roots && fieldsB (startsM M) M.weak && (objsAll M).all (okFld M (startsM M)) && idsB (startsM M) [] M.ids
def cardsM (M : Mem) : Bool := (objsAll M).all (cardsO M)
def chk (M : Mem) : Int := if goodB M then (if cardsM M then 0 else 5) else 3
theorem objsB_all {M : Mem} {p q : Ob → Bool} (h : objsB M p = true) : objsB M q = (objsAll M).all q := by
  simp only [objsB, Bool.and_eq_true] at h
  obtain ⟨⟨h1, _⟩, h2, _⟩ := h
  simp [objsB, objsAll, h1, h2, List.all_append]
open Go.RowKit

/-- Where a word points to; -1: nowhere. -/
def ptsW (a : Int) : Int := if kindW a = 0 ∧ a ≠ 0 ∧ a / 4 ≤ 1099511627776 then placeW a else -1
def objAt (l : List Ob) (p : Int) : Int := ((l.findIdx? fun o => (o.a : Int) == p).map fun i => (i : Int)).getD (-1)
def ats (l : List Ob) : List Int := l.map fun o => (o.a : Int)
/- The walks of the document's answer for words. -/
end Go.Proofs.YtelhoppfidibiaaGreatDoor
