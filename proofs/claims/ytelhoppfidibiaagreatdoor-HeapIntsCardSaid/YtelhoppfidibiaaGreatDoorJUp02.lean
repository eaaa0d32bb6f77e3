/- What the joined texts below want, and the base does not keep. -/
import Derived.Test.YtelhoppfidibiaaGreatDoorJTa01
import Derived.Test.YtelhoppfidibiaaGreatDoorJTa02
import Derived.Test.YtelhoppfidibiaaGreatDoorJTa03
import Derived.Test.YtelhoppfidibiaaGreatDoorJTa04
import Derived.Test.YtelhoppfidibiaaGreatDoorJTa05
import Derived.Test.YtelhoppfidibiaaGreatDoorJTa06
import Derived.Test.YtelhoppfidibiaaGreatDoorJTa07
import Derived.Test.YtelhoppfidibiaaGreatDoorJTa08
import Derived.Test.YtelhoppfidibiaaGreatDoorJTa09
import Derived.Test.YtelhoppfidibiaaGreatDoorJTa10
import Derived.Test.YtelhoppfidibiaaGreatDoorJTa11
import Derived.Test.YtelhoppfidibiaaGreatDoorJTa12
import Derived.Test.YtelhoppfidibiaaGreatDoorJTa13
import Derived.Test.YtelhoppfidibiaaGreatDoorJTa14
import Derived.Test.YtelhoppfidibiaaGreatDoorJTa15
import Derived.Test.YtelhoppfidibiaaGreatDoorJTa16
import Derived.Test.YtelhoppfidibiaaGreatDoorJTa17
import Derived.Test.YtelhoppfidibiaaGreatDoorJTa18
import Derived.Test.YtelhoppfidibiaaGreatDoorJTa19
import Derived.Test.YtelhoppfidibiaaGreatDoorJTa20
import Derived.Test.YtelhoppfidibiaaGreatDoorJTa21
import Derived.Test.YtelhoppfidibiaaGreatDoorJTa22
import Derived.Test.YtelhoppfidibiaaGreatDoorJTa23
import Derived.Test.YtelhoppfidibiaaGreatDoorJTa24
import Derived.Test.YtelhoppfidibiaaGreatDoorJTa25
import Derived.Test.YtelhoppfidibiaaGreatDoorJTa26
import Derived.Test.YtelhoppfidibiaaGreatDoorJTa27
import Derived.Test.YtelhoppfidibiaaGreatDoorJTa28
import Derived.Test.YtelhoppfidibiaaGreatDoorJTa29
import Derived.Test.YtelhoppfidibiaaGreatDoorJTa30
import Derived.Test.YtelhoppfidibiaaGreatDoorJTa31
import Derived.Test.YtelhoppfidibiaaGreatDoorJTa32
import Derived.Test.YtelhoppfidibiaaGreatDoorJTa33
import Derived.Test.YtelhoppfidibiaaGreatDoorJTa34
import Derived.Test.YtelhoppfidibiaaGreatDoorJTa35
import Derived.Test.YtelhoppfidibiaaGreatDoorJTa36
import Derived.Test.YtelhoppfidibiaaGreatDoorJTa37
import Derived.Test.YtelhoppfidibiaaGreatDoorJTa38
import Derived.Test.YtelhoppfidibiaaGreatDoorJTa39
import Derived.Test.YtelhoppfidibiaaGreatDoorJTa40
import Derived.Test.YtelhoppfidibiaaGreatDoorJTa41
import Derived.Test.YtelhoppfidibiaaGreatDoorJTa42
import Derived.Test.YtelhoppfidibiaaGreatDoorJTa43
set_option linter.unusedSimpArgs false
set_option linter.unusedVariables false
namespace Go.Proofs.YtelhoppfidibiaaGreatDoor
open Go.RowKit
section
variable {I:Ideal} {M:Mem} {D:Nat→Prop} {f:Nat→Nat} {ten nx:Int}
theorem reachI_roots (I:Ideal) {u:Int} (hu:u∈I.roots) {a:Nat} (h:ptsW u=(a:Int)):a∈(reachI I).map (·.a):=by
 obtain⟨t,ht⟩:=reachG_app I.V I.V.length 0 (comesP I.V [] I.roots)
 have hin:InO (reachI I) u:=by
  unfold reachI
  rw[ht]
  exact inO_app (comesP_in I.V _ _ u hu)
 have:=hin (by omega)
 rw[h] at this
 obtain⟨o,ho,e⟩:=List.mem_map.1 (List.contains_iff_mem.1 this)
 exact List.mem_map.2 ⟨o,ho,by omega⟩
end
end Go.Proofs.YtelhoppfidibiaaGreatDoor
