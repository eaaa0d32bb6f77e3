/- The walk of Memory.Check: where a header is wrong. -/
import Derived.Test.YtpbfhkkecbnieaaDoorObjects2
import Derived.Test.YtpbfhkkecbnieaaDoorShape
namespace Go.Proofs.YtpbfhkkecbnieaaDoor
open Go.RowKit
set_option linter.unusedVariables false
set_option linter.unusedSimpArgs false

theorem SMap.made_ {w w' : World} {b : Nat} (q : IntKind) (hb : w.heap.size = b) (hx : Ext (w.alloc (.map #[] 0)) w') : SMap w' b q [] := by
  subst hb; exact (SMap.made w q).ext hx

set_option maxRecDepth 100000 in
set_option maxHeartbeats 4000000 in
theorem check_a (b o : Nat) (M : Mem) (S : Sls) (gb gs gp : Addr) (w : World) (hM : RMem w b o M S) (hG : GBound w gb) (hS : GShape w gs) (hs : shapeB M = true) (h1 : objsB M (okHd M) = false) :
    Calls Tryd.prog 40 #[.pointer (some ⟨b, o, none⟩)] w fun e w' => e = .returned (errV gs) ∧ Ext w w' := by
  have hh := shp_of hs
  have hmm := @run_makeMap Tryd.prog
  have HM := Lib.hid hM
  have HG := Lib.hid hG
  have HH := Lib.hid hh
  have hltb := hM.lt
  have hltg := cell_lt hS
  simp only at hltg
  clear hM hG hh
  go_enter Tryd.func40, Tryd.ntmps40
  go_wp2_with (first
    | (go_at_call 94; refine (shape_any _ b o M S ?_).mono ?_; (exact HM.out.ext ((Ext.refl w).alloc_ _)); rintro e w' ⟨rfl, n, rfl⟩; rw [hs]))
  refine (objects_c1 w b o M S HH.out HM.out gb gs HG.out hS (w.heap.size + 1) (w.heap.size + 1 + 1) w.heap.size _ ?_ (by omega) (by omega) (by omega) ?_ ?_ ?_).mono ?_
  · repeat (first | exact Ext.refl _ | (refine Ext.set_ ?_ (by simp) _) | (refine Ext.alloc_ ?_ _) | (refine Ext.drewN_ ?_ _))
  · exact SMap.made_ (w := (w.alloc _).drewN n) _ (by simp) (by repeat (first | exact Ext.refl _ | (refine Ext.set_ ?_ (by simp) _) | (refine Ext.alloc_ ?_ _)))
  · simp [go_sem]
  · simp [go_sem]
  rintro e w1 ⟨rfl, hsm, hK⟩
  rw [h1]
  have hx : Ext w w1 := Ext.keep (by repeat (first | exact Ext.refl _ | (refine Ext.set_ ?_ (by simp) _) | (refine Ext.alloc_ ?_ _) | (refine Ext.drewN_ ?_ _))) hK (fun i hi => by omega)
  have hS1 : GShape w1 gs := hx.cell_ hS
  clear hsm hK
  go_wp2
  go_ret
  exact ⟨rfl, hx⟩
end Go.Proofs.YtpbfhkkecbnieaaDoor
