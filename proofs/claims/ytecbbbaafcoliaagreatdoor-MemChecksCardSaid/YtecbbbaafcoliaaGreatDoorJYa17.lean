/- The walk of Memory.Object. -/
import Derived.Test.YtecbbbaafcoliaaGreatDoorJYa12
import Derived.Test.YtecbbbaafcoliaaGreatDoorJYa09
namespace Go.Proofs.YtecbbbaafcoliaaGreatDoor
open Go.RowKit
set_option linter.unusedVariables false
set_option linter.unusedSimpArgs false

theorem named_body {P : Program} {f : Func} {Q : Ending → World → Prop} {x : Exit} {a : Act} {W : World} (h : ∀ W9, W9 = W → bodyPost P f Q x a W9) : bodyPost P f Q x a W := h W rfl
/- The walk of Memory.find. -/
/-- Where find finds. -/
structure Found (M : Mem) (p f : Int) (x : Ob) (k : Nat) : Prop where
  chk : chk M = 0
  kind : kindW p = 0
  nz : p ≠ 0
  mem : x ∈ objsAll M
  place : placeW p = (x.a : Int)
  inst : inSt (startsM M) (x.a : Int) = true
  fld : f = (k : Int)
  lt : k < x.n
  size : (x.n : Int) = hSize x.w
  small : hSize x.w ≤ 4096
  word : x.w = wat M.W x.a
  into : x.a + 1 + k < M.W.length
/- The walk of Memory.Put. -/
end Go.Proofs.YtecbbbaafcoliaaGreatDoor
