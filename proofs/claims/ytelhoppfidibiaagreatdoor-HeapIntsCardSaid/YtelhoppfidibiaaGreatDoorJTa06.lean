/- The walks of the document's answer for words. -/
import Derived.Test.YtelhoppfidibiaaGreatDoorJTa03
import Derived.Test.YtelhoppfidibiaaGreatDoorJTa05
import Derived.Test.YtelhoppfidibiaaGreatDoorJTa04
import Derived.Deep.AppendLies
import Derived.Deep.RegionHeld3
import Derived.IntWalk
set_option linter.unusedSimpArgs false
set_option linter.unusedVariables false
namespace Go.Proofs.YtelhoppfidibiaaGreatDoor
open Go.RowKit
theorem rsl_block {w:World} {B:Nat} {cs:List Value} {t:TypeId} {fr:Nat × Nat} (hb:w.heap[B]?=some (.cells cs.toArray t fr)):RSl w (some ⟨B,0,none⟩) cs:=fun j u hu=>⟨B,0,rfl,by
 rw[Nat.zero_add,cell_of_row w B j _ t fr hb];simpa using hu⟩
theorem part_len (W:List Int):∀ f a to,(objs W to f a).1.length≤f
 | 0,_,_=>by simp[objs]
 | f+1,a,to=>by
  unfold objs
  split
  ·split
   ·have:=part_len W f (a+1+(hSize (wat W a)).toNat) to
    simp;exact this
   ·simp
  ·simp
theorem fld_of {M:Mem} {x:Ob} (h:fieldsB (startsM M) (flds M x)=true) (j:Nat) (hj:j<x.n):fldB (startsM M) (wat M.W (x.a+1+j))=true:=by
 unfold fieldsB at h
 rw[List.all_eq_true] at h
 exact h _ (List.mem_map.2 ⟨j,List.mem_range.2 hj,rfl⟩)
end Go.Proofs.YtelhoppfidibiaaGreatDoor
