/- The document's Shape. -/
import Derived.Test.YtgjjkllngopboaaDoorJCa03
import Derived.Test.YtgjjkllngopboaaDoorJCd02
namespace Go.Proofs.YtgjjkllngopboaaDoor
open Go.RowKit
set_option linter.unusedVariables false
set_option linter.unusedSimpArgs false

theorem results_tmp4 {fn : Func} {t u v x : Tmp} (h : fn.results = #[.tmp t, .tmp u, .tmp v, .tmp x]) (tmps : Array Value) (P : Program) (w : World) :
    (results fn tmps).run P w = .ok (.tuple #[tmps.getD t undef, tmps.getD u undef, tmps.getD v undef, tmps.getD x undef]) w := by
  simp [results, h]
def KShape (nm : ByteArray) (a : Int) (w : World) (e : Ending) (w' : World) : Prop :=
  (∃ t, e = .returned (.tuple #[.int .i64 t, .int .i64 (putsP ⟨nm, a⟩), .string (kindP ⟨nm, a⟩), .bool (shapeP nm).isSome]) ∧ (0 ≤ a → a ≤ 1000000 → t = takesP ⟨nm, a⟩)) ∧ Ext w w'
set_option maxRecDepth 100000 in
set_option maxHeartbeats 4000000 in
theorem kShape_const (a : Int) (w : World) : Calls Tryd.prog 28 #[.agg #[.string ⟨#[99, 111, 110, 115, 116]⟩, .int .i64 a]] w (KShape ⟨#[99, 111, 110, 115, 116]⟩ a w) := by
  unfold KShape
  rw [puts_const, kind_const, shape_const]
  go_enter Tryd.func28, Tryd.ntmps28
  go_wp2
  (try simp only [Exit.inBlock, Exit.then])
  refine bodyPost_ret (results_tmp4 rfl _ _ _) rfl ?_
  exact ⟨⟨_, rfl, fun h0 h1 => by rw [takes_const]⟩, (by repeat (first | exact Ext.refl _ | (refine Ext.drew_ ?_) | (refine Ext.drewN_ ?_ _) | (refine Ext.alloc_ ?_ _)))⟩
set_option maxRecDepth 100000 in
set_option maxHeartbeats 4000000 in
theorem kShape_int (a : Int) (w : World) : Calls Tryd.prog 28 #[.agg #[.string ⟨#[105, 110, 116]⟩, .int .i64 a]] w (KShape ⟨#[105, 110, 116]⟩ a w) := by
  unfold KShape
  rw [puts_int, kind_int, shape_int]
  go_enter Tryd.func28, Tryd.ntmps28
  go_upto_region 9 with fail
  go_quiet (fail)
  go_wp2
  (try simp only [Exit.inBlock, Exit.then])
  refine bodyPost_ret (results_tmp4 rfl _ _ _) rfl ?_
  exact ⟨⟨_, rfl, fun h0 h1 => by rw [takes_int]⟩, (by repeat (first | exact Ext.refl _ | (refine Ext.drew_ ?_) | (refine Ext.drewN_ ?_ _) | (refine Ext.alloc_ ?_ _)))⟩
set_option maxRecDepth 100000 in
set_option maxHeartbeats 4000000 in
theorem kShape_str (a : Int) (w : World) : Calls Tryd.prog 28 #[.agg #[.string ⟨#[115, 116, 114]⟩, .int .i64 a]] w (KShape ⟨#[115, 116, 114]⟩ a w) := by
  unfold KShape
  rw [puts_str, kind_str, shape_str]
  go_enter Tryd.func28, Tryd.ntmps28
  go_upto_region 9 with fail
  go_quiet (fail)
  go_wp2
  (try simp only [Exit.inBlock, Exit.then])
  refine bodyPost_ret (results_tmp4 rfl _ _ _) rfl ?_
  exact ⟨⟨_, rfl, fun h0 h1 => by rw [takes_str]⟩, (by repeat (first | exact Ext.refl _ | (refine Ext.drew_ ?_) | (refine Ext.drewN_ ?_ _) | (refine Ext.alloc_ ?_ _)))⟩
set_option maxRecDepth 100000 in
set_option maxHeartbeats 4000000 in
theorem kShape_load (a : Int) (w : World) : Calls Tryd.prog 28 #[.agg #[.string ⟨#[108, 111, 97, 100]⟩, .int .i64 a]] w (KShape ⟨#[108, 111, 97, 100]⟩ a w) := by
  unfold KShape
  rw [puts_load, kind_load, shape_load]
  go_enter Tryd.func28, Tryd.ntmps28
  go_wp2
  (try simp only [Exit.inBlock, Exit.then])
  refine bodyPost_ret (results_tmp4 rfl _ _ _) rfl ?_
  exact ⟨⟨_, rfl, fun h0 h1 => by rw [takes_load]⟩, (by repeat (first | exact Ext.refl _ | (refine Ext.drew_ ?_) | (refine Ext.drewN_ ?_ _) | (refine Ext.alloc_ ?_ _)))⟩
set_option maxRecDepth 100000 in
set_option maxHeartbeats 4000000 in
theorem kShape_store (a : Int) (w : World) : Calls Tryd.prog 28 #[.agg #[.string ⟨#[115, 116, 111, 114, 101]⟩, .int .i64 a]] w (KShape ⟨#[115, 116, 111, 114, 101]⟩ a w) := by
  unfold KShape
  rw [puts_store, kind_store, shape_store]
  go_enter Tryd.func28, Tryd.ntmps28
  go_wp2
  (try simp only [Exit.inBlock, Exit.then])
  refine bodyPost_ret (results_tmp4 rfl _ _ _) rfl ?_
  exact ⟨⟨_, rfl, fun h0 h1 => by rw [takes_store]⟩, (by repeat (first | exact Ext.refl _ | (refine Ext.drew_ ?_) | (refine Ext.drewN_ ?_ _) | (refine Ext.alloc_ ?_ _)))⟩
set_option maxRecDepth 100000 in
set_option maxHeartbeats 4000000 in
theorem kShape_cell (a : Int) (w : World) : Calls Tryd.prog 28 #[.agg #[.string ⟨#[99, 101, 108, 108]⟩, .int .i64 a]] w (KShape ⟨#[99, 101, 108, 108]⟩ a w) := by
  unfold KShape
  rw [puts_cell, kind_cell, shape_cell]
  go_enter Tryd.func28, Tryd.ntmps28
  go_wp2
  (try simp only [Exit.inBlock, Exit.then])
  refine bodyPost_ret (results_tmp4 rfl _ _ _) rfl ?_
  exact ⟨⟨_, rfl, fun h0 h1 => by rw [takes_cell]⟩, (by repeat (first | exact Ext.refl _ | (refine Ext.drew_ ?_) | (refine Ext.drewN_ ?_ _) | (refine Ext.alloc_ ?_ _)))⟩
set_option maxRecDepth 100000 in
set_option maxHeartbeats 4000000 in
theorem kShape_fill (a : Int) (w : World) : Calls Tryd.prog 28 #[.agg #[.string ⟨#[102, 105, 108, 108]⟩, .int .i64 a]] w (KShape ⟨#[102, 105, 108, 108]⟩ a w) := by
  unfold KShape
  rw [puts_fill, kind_fill, shape_fill]
  go_enter Tryd.func28, Tryd.ntmps28
  go_wp2
  (try simp only [Exit.inBlock, Exit.then])
  refine bodyPost_ret (results_tmp4 rfl _ _ _) rfl ?_
  exact ⟨⟨_, rfl, fun h0 h1 => by rw [takes_fill]⟩, (by repeat (first | exact Ext.refl _ | (refine Ext.drew_ ?_) | (refine Ext.drewN_ ?_ _) | (refine Ext.alloc_ ?_ _)))⟩
set_option maxRecDepth 100000 in
set_option maxHeartbeats 4000000 in
theorem kShape_global (a : Int) (w : World) : Calls Tryd.prog 28 #[.agg #[.string ⟨#[103, 108, 111, 98, 97, 108]⟩, .int .i64 a]] w (KShape ⟨#[103, 108, 111, 98, 97, 108]⟩ a w) := by
  unfold KShape
  rw [puts_global, kind_global, shape_global]
  go_enter Tryd.func28, Tryd.ntmps28
  go_wp2
  (try simp only [Exit.inBlock, Exit.then])
  refine bodyPost_ret (results_tmp4 rfl _ _ _) rfl ?_
  exact ⟨⟨_, rfl, fun h0 h1 => by rw [takes_global]⟩, (by repeat (first | exact Ext.refl _ | (refine Ext.drew_ ?_) | (refine Ext.drewN_ ?_ _) | (refine Ext.alloc_ ?_ _)))⟩
set_option maxRecDepth 100000 in
set_option maxHeartbeats 4000000 in
theorem kShape_name (a : Int) (w : World) : Calls Tryd.prog 28 #[.agg #[.string ⟨#[110, 97, 109, 101]⟩, .int .i64 a]] w (KShape ⟨#[110, 97, 109, 101]⟩ a w) := by
  unfold KShape
  rw [puts_name, kind_name, shape_name]
  go_enter Tryd.func28, Tryd.ntmps28
  go_wp2
  (try simp only [Exit.inBlock, Exit.then])
  refine bodyPost_ret (results_tmp4 rfl _ _ _) rfl ?_
  exact ⟨⟨_, rfl, fun h0 h1 => by rw [takes_name]⟩, (by repeat (first | exact Ext.refl _ | (refine Ext.drew_ ?_) | (refine Ext.drewN_ ?_ _) | (refine Ext.alloc_ ?_ _)))⟩
set_option maxRecDepth 100000 in
set_option maxHeartbeats 4000000 in
theorem kShape_neg (a : Int) (w : World) : Calls Tryd.prog 28 #[.agg #[.string ⟨#[110, 101, 103]⟩, .int .i64 a]] w (KShape ⟨#[110, 101, 103]⟩ a w) := by
  unfold KShape
  rw [puts_neg, kind_neg, shape_neg]
  go_enter Tryd.func28, Tryd.ntmps28
  go_wp2
  (try simp only [Exit.inBlock, Exit.then])
  refine bodyPost_ret (results_tmp4 rfl _ _ _) rfl ?_
  exact ⟨⟨_, rfl, fun h0 h1 => by rw [takes_neg]⟩, (by repeat (first | exact Ext.refl _ | (refine Ext.drew_ ?_) | (refine Ext.drewN_ ?_ _) | (refine Ext.alloc_ ?_ _)))⟩
set_option maxRecDepth 100000 in
set_option maxHeartbeats 4000000 in
theorem kShape_not (a : Int) (w : World) : Calls Tryd.prog 28 #[.agg #[.string ⟨#[110, 111, 116]⟩, .int .i64 a]] w (KShape ⟨#[110, 111, 116]⟩ a w) := by
  unfold KShape
  rw [puts_not, kind_not, shape_not]
  go_enter Tryd.func28, Tryd.ntmps28
  go_wp2
  (try simp only [Exit.inBlock, Exit.then])
  refine bodyPost_ret (results_tmp4 rfl _ _ _) rfl ?_
  exact ⟨⟨_, rfl, fun h0 h1 => by rw [takes_not]⟩, (by repeat (first | exact Ext.refl _ | (refine Ext.drew_ ?_) | (refine Ext.drewN_ ?_ _) | (refine Ext.alloc_ ?_ _)))⟩
set_option maxRecDepth 100000 in
set_option maxHeartbeats 4000000 in
theorem kShape_call (a : Int) (w : World) : Calls Tryd.prog 28 #[.agg #[.string ⟨#[99, 97, 108, 108]⟩, .int .i64 a]] w (KShape ⟨#[99, 97, 108, 108]⟩ a w) := by
  unfold KShape
  rw [puts_call, kind_call, shape_call]
  go_enter Tryd.func28, Tryd.ntmps28
  go_wp2
  (try simp only [Exit.inBlock, Exit.then])
  refine bodyPost_ret (results_tmp4 rfl _ _ _) rfl ?_
  exact ⟨⟨_, rfl, fun h0 h1 => by rw [takes_call]; first | omega | (rw [IntWalk.wrap64_in _ ⟨by omega, by omega⟩]; try omega)⟩, (by repeat (first | exact Ext.refl _ | (refine Ext.drew_ ?_) | (refine Ext.drewN_ ?_ _) | (refine Ext.alloc_ ?_ _)))⟩
set_option maxRecDepth 100000 in
set_option maxHeartbeats 4000000 in
theorem kShape_index (a : Int) (w : World) : Calls Tryd.prog 28 #[.agg #[.string ⟨#[105, 110, 100, 101, 120]⟩, .int .i64 a]] w (KShape ⟨#[105, 110, 100, 101, 120]⟩ a w) := by
  unfold KShape
  rw [puts_index, kind_index, shape_index]
  go_enter Tryd.func28, Tryd.ntmps28
  go_wp2
  (try simp only [Exit.inBlock, Exit.then])
  refine bodyPost_ret (results_tmp4 rfl _ _ _) rfl ?_
  exact ⟨⟨_, rfl, fun h0 h1 => by rw [takes_index]⟩, (by repeat (first | exact Ext.refl _ | (refine Ext.drew_ ?_) | (refine Ext.drewN_ ?_ _) | (refine Ext.alloc_ ?_ _)))⟩
set_option maxRecDepth 100000 in
set_option maxHeartbeats 4000000 in
theorem kShape_put (a : Int) (w : World) : Calls Tryd.prog 28 #[.agg #[.string ⟨#[112, 117, 116]⟩, .int .i64 a]] w (KShape ⟨#[112, 117, 116]⟩ a w) := by
  unfold KShape
  rw [puts_put, kind_put, shape_put]
  go_enter Tryd.func28, Tryd.ntmps28
  go_wp2
  (try simp only [Exit.inBlock, Exit.then])
  refine bodyPost_ret (results_tmp4 rfl _ _ _) rfl ?_
  exact ⟨⟨_, rfl, fun h0 h1 => by rw [takes_put]⟩, (by repeat (first | exact Ext.refl _ | (refine Ext.drew_ ?_) | (refine Ext.drewN_ ?_ _) | (refine Ext.alloc_ ?_ _)))⟩
set_option maxRecDepth 100000 in
set_option maxHeartbeats 4000000 in
theorem kShape_del (a : Int) (w : World) : Calls Tryd.prog 28 #[.agg #[.string ⟨#[100, 101, 108]⟩, .int .i64 a]] w (KShape ⟨#[100, 101, 108]⟩ a w) := by
  unfold KShape
  rw [puts_del, kind_del, shape_del]
  go_enter Tryd.func28, Tryd.ntmps28
  go_wp2
  (try simp only [Exit.inBlock, Exit.then])
  refine bodyPost_ret (results_tmp4 rfl _ _ _) rfl ?_
  exact ⟨⟨_, rfl, fun h0 h1 => by rw [takes_del]⟩, (by repeat (first | exact Ext.refl _ | (refine Ext.drew_ ?_) | (refine Ext.drewN_ ?_ _) | (refine Ext.alloc_ ?_ _)))⟩
set_option maxRecDepth 100000 in
set_option maxHeartbeats 4000000 in
theorem kShape_list (a : Int) (w : World) : Calls Tryd.prog 28 #[.agg #[.string ⟨#[108, 105, 115, 116]⟩, .int .i64 a]] w (KShape ⟨#[108, 105, 115, 116]⟩ a w) := by
  unfold KShape
  rw [puts_list, kind_list, shape_list]
  go_enter Tryd.func28, Tryd.ntmps28
  go_wp2
  (try simp only [Exit.inBlock, Exit.then])
  refine bodyPost_ret (results_tmp4 rfl _ _ _) rfl ?_
  exact ⟨⟨_, rfl, fun h0 h1 => by rw [takes_list]⟩, (by repeat (first | exact Ext.refl _ | (refine Ext.drew_ ?_) | (refine Ext.drewN_ ?_ _) | (refine Ext.alloc_ ?_ _)))⟩
set_option maxRecDepth 100000 in
set_option maxHeartbeats 4000000 in
theorem kShape_dict (a : Int) (w : World) : Calls Tryd.prog 28 #[.agg #[.string ⟨#[100, 105, 99, 116]⟩, .int .i64 a]] w (KShape ⟨#[100, 105, 99, 116]⟩ a w) := by
  unfold KShape
  rw [puts_dict, kind_dict, shape_dict]
  go_enter Tryd.func28, Tryd.ntmps28
  go_wp2
  (try simp only [Exit.inBlock, Exit.then])
  refine bodyPost_ret (results_tmp4 rfl _ _ _) rfl ?_
  exact ⟨⟨_, rfl, fun h0 h1 => by rw [takes_dict]; first | omega | (rw [IntWalk.wrap64_in _ ⟨by omega, by omega⟩]; try omega)⟩, (by repeat (first | exact Ext.refl _ | (refine Ext.drew_ ?_) | (refine Ext.drewN_ ?_ _) | (refine Ext.alloc_ ?_ _)))⟩
set_option maxRecDepth 100000 in
set_option maxHeartbeats 4000000 in
theorem kShape_closure (a : Int) (w : World) : Calls Tryd.prog 28 #[.agg #[.string ⟨#[99, 108, 111, 115, 117, 114, 101]⟩, .int .i64 a]] w (KShape ⟨#[99, 108, 111, 115, 117, 114, 101]⟩ a w) := by
  unfold KShape
  rw [puts_closure, kind_closure, shape_closure]
  go_enter Tryd.func28, Tryd.ntmps28
  go_wp2
  (try simp only [Exit.inBlock, Exit.then])
  refine bodyPost_ret (results_tmp4 rfl _ _ _) rfl ?_
  exact ⟨⟨_, rfl, fun h0 h1 => by rw [takes_closure]⟩, (by repeat (first | exact Ext.refl _ | (refine Ext.drew_ ?_) | (refine Ext.drewN_ ?_ _) | (refine Ext.alloc_ ?_ _)))⟩
set_option maxRecDepth 100000 in
set_option maxHeartbeats 4000000 in
theorem kShape_take (a : Int) (w : World) : Calls Tryd.prog 28 #[.agg #[.string ⟨#[116, 97, 107, 101]⟩, .int .i64 a]] w (KShape ⟨#[116, 97, 107, 101]⟩ a w) := by
  unfold KShape
  rw [puts_take, kind_take, shape_take]
  go_enter Tryd.func28, Tryd.ntmps28
  go_wp2
  (try simp only [Exit.inBlock, Exit.then])
  refine bodyPost_ret (results_tmp4 rfl _ _ _) rfl ?_
  exact ⟨⟨_, rfl, fun h0 h1 => by rw [takes_take]⟩, (by repeat (first | exact Ext.refl _ | (refine Ext.drew_ ?_) | (refine Ext.drewN_ ?_ _) | (refine Ext.alloc_ ?_ _)))⟩
set_option maxRecDepth 100000 in
set_option maxHeartbeats 4000000 in
theorem kShape_pop (a : Int) (w : World) : Calls Tryd.prog 28 #[.agg #[.string ⟨#[112, 111, 112]⟩, .int .i64 a]] w (KShape ⟨#[112, 111, 112]⟩ a w) := by
  unfold KShape
  rw [puts_pop, kind_pop, shape_pop]
  go_enter Tryd.func28, Tryd.ntmps28
  go_wp2
  (try simp only [Exit.inBlock, Exit.then])
  refine bodyPost_ret (results_tmp4 rfl _ _ _) rfl ?_
  exact ⟨⟨_, rfl, fun h0 h1 => by rw [takes_pop]⟩, (by repeat (first | exact Ext.refl _ | (refine Ext.drew_ ?_) | (refine Ext.drewN_ ?_ _) | (refine Ext.alloc_ ?_ _)))⟩
set_option maxRecDepth 100000 in
set_option maxHeartbeats 4000000 in
theorem kShape_dup (a : Int) (w : World) : Calls Tryd.prog 28 #[.agg #[.string ⟨#[100, 117, 112]⟩, .int .i64 a]] w (KShape ⟨#[100, 117, 112]⟩ a w) := by
  unfold KShape
  rw [puts_dup, kind_dup, shape_dup]
  go_enter Tryd.func28, Tryd.ntmps28
  go_wp2
  (try simp only [Exit.inBlock, Exit.then])
  refine bodyPost_ret (results_tmp4 rfl _ _ _) rfl ?_
  exact ⟨⟨_, rfl, fun h0 h1 => by rw [takes_dup]⟩, (by repeat (first | exact Ext.refl _ | (refine Ext.drew_ ?_) | (refine Ext.drewN_ ?_ _) | (refine Ext.alloc_ ?_ _)))⟩
set_option maxRecDepth 100000 in
set_option maxHeartbeats 4000000 in
theorem kShape_jump (a : Int) (w : World) : Calls Tryd.prog 28 #[.agg #[.string ⟨#[106, 117, 109, 112]⟩, .int .i64 a]] w (KShape ⟨#[106, 117, 109, 112]⟩ a w) := by
  unfold KShape
  rw [puts_jump, kind_jump, shape_jump]
  go_enter Tryd.func28, Tryd.ntmps28
  go_wp2
  (try simp only [Exit.inBlock, Exit.then])
  refine bodyPost_ret (results_tmp4 rfl _ _ _) rfl ?_
  exact ⟨⟨_, rfl, fun h0 h1 => by rw [takes_jump]⟩, (by repeat (first | exact Ext.refl _ | (refine Ext.drew_ ?_) | (refine Ext.drewN_ ?_ _) | (refine Ext.alloc_ ?_ _)))⟩
set_option maxRecDepth 100000 in
set_option maxHeartbeats 4000000 in
theorem kShape_unless (a : Int) (w : World) : Calls Tryd.prog 28 #[.agg #[.string ⟨#[117, 110, 108, 101, 115, 115]⟩, .int .i64 a]] w (KShape ⟨#[117, 110, 108, 101, 115, 115]⟩ a w) := by
  unfold KShape
  rw [puts_unless, kind_unless, shape_unless]
  go_enter Tryd.func28, Tryd.ntmps28
  go_wp2
  (try simp only [Exit.inBlock, Exit.then])
  refine bodyPost_ret (results_tmp4 rfl _ _ _) rfl ?_
  exact ⟨⟨_, rfl, fun h0 h1 => by rw [takes_unless]⟩, (by repeat (first | exact Ext.refl _ | (refine Ext.drew_ ?_) | (refine Ext.drewN_ ?_ _) | (refine Ext.alloc_ ?_ _)))⟩
set_option maxRecDepth 100000 in
set_option maxHeartbeats 4000000 in
theorem kShape_iter (a : Int) (w : World) : Calls Tryd.prog 28 #[.agg #[.string ⟨#[105, 116, 101, 114]⟩, .int .i64 a]] w (KShape ⟨#[105, 116, 101, 114]⟩ a w) := by
  unfold KShape
  rw [puts_iter, kind_iter, shape_iter]
  go_enter Tryd.func28, Tryd.ntmps28
  go_wp2
  (try simp only [Exit.inBlock, Exit.then])
  refine bodyPost_ret (results_tmp4 rfl _ _ _) rfl ?_
  exact ⟨⟨_, rfl, fun h0 h1 => by rw [takes_iter]⟩, (by repeat (first | exact Ext.refl _ | (refine Ext.drew_ ?_) | (refine Ext.drewN_ ?_ _) | (refine Ext.alloc_ ?_ _)))⟩
set_option maxRecDepth 100000 in
set_option maxHeartbeats 4000000 in
theorem kShape_next (a : Int) (w : World) : Calls Tryd.prog 28 #[.agg #[.string ⟨#[110, 101, 120, 116]⟩, .int .i64 a]] w (KShape ⟨#[110, 101, 120, 116]⟩ a w) := by
  unfold KShape
  rw [puts_next, kind_next, shape_next]
  go_enter Tryd.func28, Tryd.ntmps28
  go_wp2
  (try simp only [Exit.inBlock, Exit.then])
  refine bodyPost_ret (results_tmp4 rfl _ _ _) rfl ?_
  exact ⟨⟨_, rfl, fun h0 h1 => by rw [kt_next]⟩, (by repeat (first | exact Ext.refl _ | (refine Ext.drew_ ?_) | (refine Ext.drewN_ ?_ _) | (refine Ext.alloc_ ?_ _)))⟩
set_option maxRecDepth 100000 in
set_option maxHeartbeats 4000000 in
theorem kShape_try (a : Int) (w : World) : Calls Tryd.prog 28 #[.agg #[.string ⟨#[116, 114, 121]⟩, .int .i64 a]] w (KShape ⟨#[116, 114, 121]⟩ a w) := by
  unfold KShape
  rw [puts_try, kind_try, shape_try]
  go_enter Tryd.func28, Tryd.ntmps28
  go_wp2
  (try simp only [Exit.inBlock, Exit.then])
  refine bodyPost_ret (results_tmp4 rfl _ _ _) rfl ?_
  exact ⟨⟨_, rfl, fun h0 h1 => by rw [takes_try]⟩, (by repeat (first | exact Ext.refl _ | (refine Ext.drew_ ?_) | (refine Ext.drewN_ ?_ _) | (refine Ext.alloc_ ?_ _)))⟩
set_option maxRecDepth 100000 in
set_option maxHeartbeats 4000000 in
theorem kShape_end (a : Int) (w : World) : Calls Tryd.prog 28 #[.agg #[.string ⟨#[101, 110, 100]⟩, .int .i64 a]] w (KShape ⟨#[101, 110, 100]⟩ a w) := by
  unfold KShape
  rw [puts_end, kind_end, kt_shend]
  go_enter Tryd.func28, Tryd.ntmps28
  go_wp2
  (try simp only [Exit.inBlock, Exit.then])
  refine bodyPost_ret (results_tmp4 rfl _ _ _) rfl ?_
  exact ⟨⟨_, rfl, fun h0 h1 => by rw [takes_end]⟩, (by repeat (first | exact Ext.refl _ | (refine Ext.drew_ ?_) | (refine Ext.drewN_ ?_ _) | (refine Ext.alloc_ ?_ _)))⟩
set_option maxRecDepth 100000 in
set_option maxHeartbeats 4000000 in
theorem kShape_raise (a : Int) (w : World) : Calls Tryd.prog 28 #[.agg #[.string ⟨#[114, 97, 105, 115, 101]⟩, .int .i64 a]] w (KShape ⟨#[114, 97, 105, 115, 101]⟩ a w) := by
  unfold KShape
  rw [puts_raise, kind_raise, shape_raise]
  go_enter Tryd.func28, Tryd.ntmps28
  go_wp2
  (try simp only [Exit.inBlock, Exit.then])
  refine bodyPost_ret (results_tmp4 rfl _ _ _) rfl ?_
  exact ⟨⟨_, rfl, fun h0 h1 => by rw [takes_raise]⟩, (by repeat (first | exact Ext.refl _ | (refine Ext.drew_ ?_) | (refine Ext.drewN_ ?_ _) | (refine Ext.alloc_ ?_ _)))⟩
set_option maxRecDepth 100000 in
set_option maxHeartbeats 4000000 in
theorem kShape_return (a : Int) (w : World) : Calls Tryd.prog 28 #[.agg #[.string ⟨#[114, 101, 116, 117, 114, 110]⟩, .int .i64 a]] w (KShape ⟨#[114, 101, 116, 117, 114, 110]⟩ a w) := by
  unfold KShape
  rw [puts_return, kind_return, shape_return]
  go_enter Tryd.func28, Tryd.ntmps28
  go_wp2
  (try simp only [Exit.inBlock, Exit.then])
  refine bodyPost_ret (results_tmp4 rfl _ _ _) rfl ?_
  exact ⟨⟨_, rfl, fun h0 h1 => by rw [takes_return]⟩, (by repeat (first | exact Ext.refl _ | (refine Ext.drew_ ?_) | (refine Ext.drewN_ ?_ _) | (refine Ext.alloc_ ?_ _)))⟩
set_option maxRecDepth 100000 in
set_option maxHeartbeats 4000000 in
theorem kShape_step (a : Int) (w : World) : Calls Tryd.prog 28 #[.agg #[.string ⟨#[115, 116, 101, 112]⟩, .int .i64 a]] w (KShape ⟨#[115, 116, 101, 112]⟩ a w) := by
  unfold KShape
  rw [puts_step, kind_step, shape_step]
  go_enter Tryd.func28, Tryd.ntmps28
  go_wp2
  (try simp only [Exit.inBlock, Exit.then])
  refine bodyPost_ret (results_tmp4 rfl _ _ _) rfl ?_
  exact ⟨⟨_, rfl, fun h0 h1 => by rw [takes_step]⟩, (by repeat (first | exact Ext.refl _ | (refine Ext.drew_ ?_) | (refine Ext.drewN_ ?_ _) | (refine Ext.alloc_ ?_ _)))⟩
set_option maxRecDepth 100000 in
set_option maxHeartbeats 4000000 in
theorem kShape_halt (a : Int) (w : World) : Calls Tryd.prog 28 #[.agg #[.string ⟨#[104, 97, 108, 116]⟩, .int .i64 a]] w (KShape ⟨#[104, 97, 108, 116]⟩ a w) := by
  unfold KShape
  rw [puts_halt, kind_halt, shape_halt]
  go_enter Tryd.func28, Tryd.ntmps28
  go_wp2
  (try simp only [Exit.inBlock, Exit.then])
  refine bodyPost_ret (results_tmp4 rfl _ _ _) rfl ?_
  exact ⟨⟨_, rfl, fun h0 h1 => by rw [takes_halt]⟩, (by repeat (first | exact Ext.refl _ | (refine Ext.drew_ ?_) | (refine Ext.drewN_ ?_ _) | (refine Ext.alloc_ ?_ _)))⟩
set_option maxRecDepth 100000 in
set_option maxHeartbeats 4000000 in
theorem kShape_add (a : Int) (w : World) : Calls Tryd.prog 28 #[.agg #[.string ⟨#[97, 100, 100]⟩, .int .i64 a]] w (KShape ⟨#[97, 100, 100]⟩ a w) := by
  unfold KShape
  rw [puts_add, kind_add, shape_add]
  go_enter Tryd.func28, Tryd.ntmps28
  go_wp2
  (try simp only [Exit.inBlock, Exit.then])
  refine bodyPost_ret (results_tmp4 rfl _ _ _) rfl ?_
  exact ⟨⟨_, rfl, fun h0 h1 => by rw [takes_add]⟩, (by repeat (first | exact Ext.refl _ | (refine Ext.drew_ ?_) | (refine Ext.drewN_ ?_ _) | (refine Ext.alloc_ ?_ _)))⟩
set_option maxRecDepth 100000 in
set_option maxHeartbeats 4000000 in
theorem kShape_sub (a : Int) (w : World) : Calls Tryd.prog 28 #[.agg #[.string ⟨#[115, 117, 98]⟩, .int .i64 a]] w (KShape ⟨#[115, 117, 98]⟩ a w) := by
  unfold KShape
  rw [puts_sub, kind_sub, shape_sub]
  go_enter Tryd.func28, Tryd.ntmps28
  go_wp2
  (try simp only [Exit.inBlock, Exit.then])
  refine bodyPost_ret (results_tmp4 rfl _ _ _) rfl ?_
  exact ⟨⟨_, rfl, fun h0 h1 => by rw [takes_sub]⟩, (by repeat (first | exact Ext.refl _ | (refine Ext.drew_ ?_) | (refine Ext.drewN_ ?_ _) | (refine Ext.alloc_ ?_ _)))⟩
set_option maxRecDepth 100000 in
set_option maxHeartbeats 4000000 in
theorem kShape_mul (a : Int) (w : World) : Calls Tryd.prog 28 #[.agg #[.string ⟨#[109, 117, 108]⟩, .int .i64 a]] w (KShape ⟨#[109, 117, 108]⟩ a w) := by
  unfold KShape
  rw [puts_mul, kind_mul, shape_mul]
  go_enter Tryd.func28, Tryd.ntmps28
  go_wp2
  (try simp only [Exit.inBlock, Exit.then])
  refine bodyPost_ret (results_tmp4 rfl _ _ _) rfl ?_
  exact ⟨⟨_, rfl, fun h0 h1 => by rw [takes_mul]⟩, (by repeat (first | exact Ext.refl _ | (refine Ext.drew_ ?_) | (refine Ext.drewN_ ?_ _) | (refine Ext.alloc_ ?_ _)))⟩
set_option maxRecDepth 100000 in
set_option maxHeartbeats 4000000 in
theorem kShape_div (a : Int) (w : World) : Calls Tryd.prog 28 #[.agg #[.string ⟨#[100, 105, 118]⟩, .int .i64 a]] w (KShape ⟨#[100, 105, 118]⟩ a w) := by
  unfold KShape
  rw [puts_div, kind_div, shape_div]
  go_enter Tryd.func28, Tryd.ntmps28
  go_wp2
  (try simp only [Exit.inBlock, Exit.then])
  refine bodyPost_ret (results_tmp4 rfl _ _ _) rfl ?_
  exact ⟨⟨_, rfl, fun h0 h1 => by rw [takes_div]⟩, (by repeat (first | exact Ext.refl _ | (refine Ext.drew_ ?_) | (refine Ext.drewN_ ?_ _) | (refine Ext.alloc_ ?_ _)))⟩
set_option maxRecDepth 100000 in
set_option maxHeartbeats 4000000 in
theorem kShape_mod (a : Int) (w : World) : Calls Tryd.prog 28 #[.agg #[.string ⟨#[109, 111, 100]⟩, .int .i64 a]] w (KShape ⟨#[109, 111, 100]⟩ a w) := by
  unfold KShape
  rw [puts_mod, kind_mod, shape_mod]
  go_enter Tryd.func28, Tryd.ntmps28
  go_wp2
  (try simp only [Exit.inBlock, Exit.then])
  refine bodyPost_ret (results_tmp4 rfl _ _ _) rfl ?_
  exact ⟨⟨_, rfl, fun h0 h1 => by rw [takes_mod]⟩, (by repeat (first | exact Ext.refl _ | (refine Ext.drew_ ?_) | (refine Ext.drewN_ ?_ _) | (refine Ext.alloc_ ?_ _)))⟩
set_option maxRecDepth 100000 in
set_option maxHeartbeats 4000000 in
theorem kShape_eq (a : Int) (w : World) : Calls Tryd.prog 28 #[.agg #[.string ⟨#[101, 113]⟩, .int .i64 a]] w (KShape ⟨#[101, 113]⟩ a w) := by
  unfold KShape
  rw [puts_eq, kind_eq, shape_eq]
  go_enter Tryd.func28, Tryd.ntmps28
  go_wp2
  (try simp only [Exit.inBlock, Exit.then])
  refine bodyPost_ret (results_tmp4 rfl _ _ _) rfl ?_
  exact ⟨⟨_, rfl, fun h0 h1 => by rw [takes_eq]⟩, (by repeat (first | exact Ext.refl _ | (refine Ext.drew_ ?_) | (refine Ext.drewN_ ?_ _) | (refine Ext.alloc_ ?_ _)))⟩
set_option maxRecDepth 100000 in
set_option maxHeartbeats 4000000 in
theorem kShape_ne (a : Int) (w : World) : Calls Tryd.prog 28 #[.agg #[.string ⟨#[110, 101]⟩, .int .i64 a]] w (KShape ⟨#[110, 101]⟩ a w) := by
  unfold KShape
  rw [puts_ne, kind_ne, shape_ne]
  go_enter Tryd.func28, Tryd.ntmps28
  go_wp2
  (try simp only [Exit.inBlock, Exit.then])
  refine bodyPost_ret (results_tmp4 rfl _ _ _) rfl ?_
  exact ⟨⟨_, rfl, fun h0 h1 => by rw [takes_ne]⟩, (by repeat (first | exact Ext.refl _ | (refine Ext.drew_ ?_) | (refine Ext.drewN_ ?_ _) | (refine Ext.alloc_ ?_ _)))⟩
set_option maxRecDepth 100000 in
set_option maxHeartbeats 4000000 in
theorem kShape_lt (a : Int) (w : World) : Calls Tryd.prog 28 #[.agg #[.string ⟨#[108, 116]⟩, .int .i64 a]] w (KShape ⟨#[108, 116]⟩ a w) := by
  unfold KShape
  rw [puts_lt, kind_lt, shape_lt]
  go_enter Tryd.func28, Tryd.ntmps28
  go_wp2
  (try simp only [Exit.inBlock, Exit.then])
  refine bodyPost_ret (results_tmp4 rfl _ _ _) rfl ?_
  exact ⟨⟨_, rfl, fun h0 h1 => by rw [takes_lt]⟩, (by repeat (first | exact Ext.refl _ | (refine Ext.drew_ ?_) | (refine Ext.drewN_ ?_ _) | (refine Ext.alloc_ ?_ _)))⟩
set_option maxRecDepth 100000 in
set_option maxHeartbeats 4000000 in
theorem kShape_le (a : Int) (w : World) : Calls Tryd.prog 28 #[.agg #[.string ⟨#[108, 101]⟩, .int .i64 a]] w (KShape ⟨#[108, 101]⟩ a w) := by
  unfold KShape
  rw [puts_le, kind_le, shape_le]
  go_enter Tryd.func28, Tryd.ntmps28
  go_wp2
  (try simp only [Exit.inBlock, Exit.then])
  refine bodyPost_ret (results_tmp4 rfl _ _ _) rfl ?_
  exact ⟨⟨_, rfl, fun h0 h1 => by rw [takes_le]⟩, (by repeat (first | exact Ext.refl _ | (refine Ext.drew_ ?_) | (refine Ext.drewN_ ?_ _) | (refine Ext.alloc_ ?_ _)))⟩
set_option maxRecDepth 100000 in
set_option maxHeartbeats 4000000 in
theorem kShape_gt (a : Int) (w : World) : Calls Tryd.prog 28 #[.agg #[.string ⟨#[103, 116]⟩, .int .i64 a]] w (KShape ⟨#[103, 116]⟩ a w) := by
  unfold KShape
  rw [puts_gt, kind_gt, shape_gt]
  go_enter Tryd.func28, Tryd.ntmps28
  go_wp2
  (try simp only [Exit.inBlock, Exit.then])
  refine bodyPost_ret (results_tmp4 rfl _ _ _) rfl ?_
  exact ⟨⟨_, rfl, fun h0 h1 => by rw [takes_gt]⟩, (by repeat (first | exact Ext.refl _ | (refine Ext.drew_ ?_) | (refine Ext.drewN_ ?_ _) | (refine Ext.alloc_ ?_ _)))⟩
set_option maxRecDepth 100000 in
set_option maxHeartbeats 4000000 in
theorem kShape_ge (a : Int) (w : World) : Calls Tryd.prog 28 #[.agg #[.string ⟨#[103, 101]⟩, .int .i64 a]] w (KShape ⟨#[103, 101]⟩ a w) := by
  unfold KShape
  rw [puts_ge, kind_ge, shape_ge]
  go_enter Tryd.func28, Tryd.ntmps28
  go_wp2
  (try simp only [Exit.inBlock, Exit.then])
  refine bodyPost_ret (results_tmp4 rfl _ _ _) rfl ?_
  exact ⟨⟨_, rfl, fun h0 h1 => by rw [takes_ge]⟩, (by repeat (first | exact Ext.refl _ | (refine Ext.drew_ ?_) | (refine Ext.drewN_ ?_ _) | (refine Ext.alloc_ ?_ _)))⟩
set_option maxRecDepth 100000 in
set_option maxHeartbeats 4000000 in
theorem kShape_is (a : Int) (w : World) : Calls Tryd.prog 28 #[.agg #[.string ⟨#[105, 115]⟩, .int .i64 a]] w (KShape ⟨#[105, 115]⟩ a w) := by
  unfold KShape
  rw [puts_is, kind_is, shape_is]
  go_enter Tryd.func28, Tryd.ntmps28
  go_wp2
  (try simp only [Exit.inBlock, Exit.then])
  refine bodyPost_ret (results_tmp4 rfl _ _ _) rfl ?_
  exact ⟨⟨_, rfl, fun h0 h1 => by rw [takes_is]⟩, (by repeat (first | exact Ext.refl _ | (refine Ext.drew_ ?_) | (refine Ext.drewN_ ?_ _) | (refine Ext.alloc_ ?_ _)))⟩
set_option maxRecDepth 100000 in
set_option maxHeartbeats 4000000 in
theorem kShape_in (a : Int) (w : World) : Calls Tryd.prog 28 #[.agg #[.string ⟨#[105, 110]⟩, .int .i64 a]] w (KShape ⟨#[105, 110]⟩ a w) := by
  unfold KShape
  rw [puts_in, kind_in, shape_in]
  go_enter Tryd.func28, Tryd.ntmps28
  go_wp2
  (try simp only [Exit.inBlock, Exit.then])
  refine bodyPost_ret (results_tmp4 rfl _ _ _) rfl ?_
  exact ⟨⟨_, rfl, fun h0 h1 => by rw [kt_in]⟩, (by repeat (first | exact Ext.refl _ | (refine Ext.drew_ ?_) | (refine Ext.drewN_ ?_ _) | (refine Ext.alloc_ ?_ _)))⟩
theorem shape_none {nm : ByteArray} (n0 : nm ≠ ⟨#[99, 111, 110, 115, 116]⟩) (n1 : nm ≠ ⟨#[105, 110, 116]⟩) (n2 : nm ≠ ⟨#[115, 116, 114]⟩) (n3 : nm ≠ ⟨#[108, 111, 97, 100]⟩) (n4 : nm ≠ ⟨#[115, 116, 111, 114, 101]⟩) (n5 : nm ≠ ⟨#[99, 101, 108, 108]⟩) (n6 : nm ≠ ⟨#[102, 105, 108, 108]⟩) (n7 : nm ≠ ⟨#[103, 108, 111, 98, 97, 108]⟩) (n8 : nm ≠ ⟨#[110, 97, 109, 101]⟩) (n9 : nm ≠ ⟨#[110, 101, 103]⟩) (n10 : nm ≠ ⟨#[110, 111, 116]⟩) (n11 : nm ≠ ⟨#[99, 97, 108, 108]⟩) (n12 : nm ≠ ⟨#[105, 110, 100, 101, 120]⟩) (n13 : nm ≠ ⟨#[112, 117, 116]⟩) (n14 : nm ≠ ⟨#[100, 101, 108]⟩) (n15 : nm ≠ ⟨#[108, 105, 115, 116]⟩) (n16 : nm ≠ ⟨#[100, 105, 99, 116]⟩) (n17 : nm ≠ ⟨#[99, 108, 111, 115, 117, 114, 101]⟩) (n18 : nm ≠ ⟨#[116, 97, 107, 101]⟩) (n19 : nm ≠ ⟨#[112, 111, 112]⟩) (n20 : nm ≠ ⟨#[100, 117, 112]⟩) (n21 : nm ≠ ⟨#[106, 117, 109, 112]⟩) (n22 : nm ≠ ⟨#[117, 110, 108, 101, 115, 115]⟩) (n23 : nm ≠ ⟨#[105, 116, 101, 114]⟩) (n24 : nm ≠ ⟨#[110, 101, 120, 116]⟩) (n25 : nm ≠ ⟨#[116, 114, 121]⟩) (n26 : nm ≠ ⟨#[101, 110, 100]⟩) (n27 : nm ≠ ⟨#[114, 97, 105, 115, 101]⟩) (n28 : nm ≠ ⟨#[114, 101, 116, 117, 114, 110]⟩) (n29 : nm ≠ ⟨#[115, 116, 101, 112]⟩) (n30 : nm ≠ ⟨#[104, 97, 108, 116]⟩) (n31 : nm ≠ ⟨#[97, 100, 100]⟩) (n32 : nm ≠ ⟨#[115, 117, 98]⟩) (n33 : nm ≠ ⟨#[109, 117, 108]⟩) (n34 : nm ≠ ⟨#[100, 105, 118]⟩) (n35 : nm ≠ ⟨#[109, 111, 100]⟩) (n36 : nm ≠ ⟨#[101, 113]⟩) (n37 : nm ≠ ⟨#[110, 101]⟩) (n38 : nm ≠ ⟨#[108, 116]⟩) (n39 : nm ≠ ⟨#[108, 101]⟩) (n40 : nm ≠ ⟨#[103, 116]⟩) (n41 : nm ≠ ⟨#[103, 101]⟩) (n42 : nm ≠ ⟨#[105, 115]⟩) (n43 : nm ≠ ⟨#[105, 110]⟩) : shapeP nm = none := by
  unfold shapeP shapeTab
  rw [List.find?_eq_none.2]
  · rfl
  intro x hx
  simp only [List.mem_cons, List.not_mem_nil, or_false] at hx
  rcases hx with rfl | rfl | rfl | rfl | rfl | rfl | rfl | rfl | rfl | rfl | rfl | rfl | rfl | rfl | rfl | rfl | rfl | rfl | rfl | rfl | rfl | rfl | rfl | rfl | rfl | rfl | rfl | rfl | rfl | rfl | rfl | rfl | rfl | rfl | rfl | rfl | rfl | rfl | rfl | rfl | rfl | rfl | rfl | rfl
  all_goals
    intro e
    have e2 := of_decide_eq_true e
    subst e2
    contradiction
set_option maxRecDepth 100000 in
set_option maxHeartbeats 16000000 in
theorem kShape_no (nm : ByteArray) (a : Int) (w : World) (n0 : nm ≠ ⟨#[99, 111, 110, 115, 116]⟩) (n1 : nm ≠ ⟨#[105, 110, 116]⟩) (n2 : nm ≠ ⟨#[115, 116, 114]⟩) (n3 : nm ≠ ⟨#[108, 111, 97, 100]⟩) (n4 : nm ≠ ⟨#[115, 116, 111, 114, 101]⟩) (n5 : nm ≠ ⟨#[99, 101, 108, 108]⟩) (n6 : nm ≠ ⟨#[102, 105, 108, 108]⟩) (n7 : nm ≠ ⟨#[103, 108, 111, 98, 97, 108]⟩) (n8 : nm ≠ ⟨#[110, 97, 109, 101]⟩) (n9 : nm ≠ ⟨#[110, 101, 103]⟩) (n10 : nm ≠ ⟨#[110, 111, 116]⟩) (n11 : nm ≠ ⟨#[99, 97, 108, 108]⟩) (n12 : nm ≠ ⟨#[105, 110, 100, 101, 120]⟩) (n13 : nm ≠ ⟨#[112, 117, 116]⟩) (n14 : nm ≠ ⟨#[100, 101, 108]⟩) (n15 : nm ≠ ⟨#[108, 105, 115, 116]⟩) (n16 : nm ≠ ⟨#[100, 105, 99, 116]⟩) (n17 : nm ≠ ⟨#[99, 108, 111, 115, 117, 114, 101]⟩) (n18 : nm ≠ ⟨#[116, 97, 107, 101]⟩) (n19 : nm ≠ ⟨#[112, 111, 112]⟩) (n20 : nm ≠ ⟨#[100, 117, 112]⟩) (n21 : nm ≠ ⟨#[106, 117, 109, 112]⟩) (n22 : nm ≠ ⟨#[117, 110, 108, 101, 115, 115]⟩) (n23 : nm ≠ ⟨#[105, 116, 101, 114]⟩) (n24 : nm ≠ ⟨#[110, 101, 120, 116]⟩) (n25 : nm ≠ ⟨#[116, 114, 121]⟩) (n26 : nm ≠ ⟨#[101, 110, 100]⟩) (n27 : nm ≠ ⟨#[114, 97, 105, 115, 101]⟩) (n28 : nm ≠ ⟨#[114, 101, 116, 117, 114, 110]⟩) (n29 : nm ≠ ⟨#[115, 116, 101, 112]⟩) (n30 : nm ≠ ⟨#[104, 97, 108, 116]⟩) (n31 : nm ≠ ⟨#[97, 100, 100]⟩) (n32 : nm ≠ ⟨#[115, 117, 98]⟩) (n33 : nm ≠ ⟨#[109, 117, 108]⟩) (n34 : nm ≠ ⟨#[100, 105, 118]⟩) (n35 : nm ≠ ⟨#[109, 111, 100]⟩) (n36 : nm ≠ ⟨#[101, 113]⟩) (n37 : nm ≠ ⟨#[110, 101]⟩) (n38 : nm ≠ ⟨#[108, 116]⟩) (n39 : nm ≠ ⟨#[108, 101]⟩) (n40 : nm ≠ ⟨#[103, 116]⟩) (n41 : nm ≠ ⟨#[103, 101]⟩) (n42 : nm ≠ ⟨#[105, 115]⟩) (n43 : nm ≠ ⟨#[105, 110]⟩) (nf : nm ≠ ⟨#[102, 117, 110, 99]⟩) : Calls Tryd.prog 28 #[.agg #[.string nm, .int .i64 a]] w (KShape nm a w) := by
  have hn := shape_none n0 n1 n2 n3 n4 n5 n6 n7 n8 n9 n10 n11 n12 n13 n14 n15 n16 n17 n18 n19 n20 n21 n22 n23 n24 n25 n26 n27 n28 n29 n30 n31 n32 n33 n34 n35 n36 n37 n38 n39 n40 n41 n42 n43
  have e1 : putsP ⟨nm, a⟩ = 0 := by unfold putsP; rw [hn]; rfl
  have e2 : kindP ⟨nm, a⟩ = ⟨#[]⟩ := by unfold kindP; rw [hn]; rfl
  have e3 : takesP ⟨nm, a⟩ = 0 := by unfold takesP; rw [if_neg (show nm ≠ n_call from n11), if_neg (show nm ≠ n_list from n15), if_neg (show nm ≠ n_dict from n16), hn]; rfl
  unfold KShape
  rw [e1, e2, e3, hn]
  have m0 := str_no (l := [99, 111, 110, 115, 116]) n0
  have m1 := str_no (l := [105, 110, 116]) n1
  have m2 := str_no (l := [115, 116, 114]) n2
  have m3 := str_no (l := [108, 111, 97, 100]) n3
  have m4 := str_no (l := [115, 116, 111, 114, 101]) n4
  have m5 := str_no (l := [99, 101, 108, 108]) n5
  have m6 := str_no (l := [102, 105, 108, 108]) n6
  have m7 := str_no (l := [103, 108, 111, 98, 97, 108]) n7
  have m8 := str_no (l := [110, 97, 109, 101]) n8
  have m9 := str_no (l := [110, 101, 103]) n9
  have m10 := str_no (l := [110, 111, 116]) n10
  have m11 := str_no (l := [99, 97, 108, 108]) n11
  have m12 := str_no (l := [105, 110, 100, 101, 120]) n12
  have m13 := str_no (l := [112, 117, 116]) n13
  have m14 := str_no (l := [100, 101, 108]) n14
  have m15 := str_no (l := [108, 105, 115, 116]) n15
  have m16 := str_no (l := [100, 105, 99, 116]) n16
  have m17 := str_no (l := [99, 108, 111, 115, 117, 114, 101]) n17
  have m18 := str_no (l := [116, 97, 107, 101]) n18
  have m19 := str_no (l := [112, 111, 112]) n19
  have m20 := str_no (l := [100, 117, 112]) n20
  have m21 := str_no (l := [106, 117, 109, 112]) n21
  have m22 := str_no (l := [117, 110, 108, 101, 115, 115]) n22
  have m23 := str_no (l := [105, 116, 101, 114]) n23
  have m24 := str_no (l := [110, 101, 120, 116]) n24
  have m25 := str_no (l := [116, 114, 121]) n25
  have m26 := str_no (l := [101, 110, 100]) n26
  have m27 := str_no (l := [114, 97, 105, 115, 101]) n27
  have m28 := str_no (l := [114, 101, 116, 117, 114, 110]) n28
  have m29 := str_no (l := [115, 116, 101, 112]) n29
  have m30 := str_no (l := [104, 97, 108, 116]) n30
  have m31 := str_no (l := [97, 100, 100]) n31
  have m32 := str_no (l := [115, 117, 98]) n32
  have m33 := str_no (l := [109, 117, 108]) n33
  have m34 := str_no (l := [100, 105, 118]) n34
  have m35 := str_no (l := [109, 111, 100]) n35
  have m36 := str_no (l := [101, 113]) n36
  have m37 := str_no (l := [110, 101]) n37
  have m38 := str_no (l := [108, 116]) n38
  have m39 := str_no (l := [108, 101]) n39
  have m40 := str_no (l := [103, 116]) n40
  have m41 := str_no (l := [103, 101]) n41
  have m42 := str_no (l := [105, 115]) n42
  have m43 := str_no (l := [105, 110]) n43
  have mf := str_no (l := [102, 117, 110, 99]) nf
  clear n0 n1 n2 n3 n4 n5 n6 n7 n8 n9 n10 n11 n12 n13 n14 n15 n16 n17 n18 n19 n20 n21 n22 n23 n24 n25 n26 n27 n28 n29 n30 n31 n32 n33 n34 n35 n36 n37 n38 n39 n40 n41 n42 n43 nf hn e1 e2 e3
  go_enter Tryd.func28, Tryd.ntmps28
  go_wp2
  (try simp only [Exit.inBlock, Exit.then])
  refine bodyPost_ret (results_tmp4 rfl _ _ _) rfl ?_
  exact ⟨⟨_, rfl, fun h0 h1 => rfl⟩, (by repeat (first | exact Ext.refl _ | (refine Ext.drew_ ?_) | (refine Ext.drewN_ ?_ _) | (refine Ext.alloc_ ?_ _)))⟩
set_option maxRecDepth 100000 in
theorem kShape_func (a : Int) (w : World) : Calls Tryd.prog 28 #[.agg #[.string ⟨#[102, 117, 110, 99]⟩, .int .i64 a]] w (KShape ⟨#[102, 117, 110, 99]⟩ a w) := by
  have hn : shapeP ⟨#[102, 117, 110, 99]⟩ = none := by decide +kernel
  have e1 : putsP ⟨⟨#[102, 117, 110, 99]⟩, a⟩ = 0 := by unfold putsP; rw [hn]; rfl
  have e2 : kindP ⟨⟨#[102, 117, 110, 99]⟩, a⟩ = ⟨#[]⟩ := by unfold kindP; rw [hn]; rfl
  have e3 : takesP ⟨⟨#[102, 117, 110, 99]⟩, a⟩ = 0 := by unfold takesP; rw [if_neg (show ¬ (⟨#[102, 117, 110, 99]⟩ : ByteArray) = n_call by decide), if_neg (show ¬ (⟨#[102, 117, 110, 99]⟩ : ByteArray) = n_list by decide), if_neg (show ¬ (⟨#[102, 117, 110, 99]⟩ : ByteArray) = n_dict by decide), hn]; rfl
  unfold KShape
  rw [e1, e2, e3, hn]
  go_enter Tryd.func28, Tryd.ntmps28
  go_wp2
  (try simp only [Exit.inBlock, Exit.then])
  refine bodyPost_ret (results_tmp4 rfl _ _ _) rfl ?_
  exact ⟨⟨_, rfl, fun h0 h1 => rfl⟩, (by repeat (first | exact Ext.refl _ | (refine Ext.drew_ ?_) | (refine Ext.drewN_ ?_ _) | (refine Ext.alloc_ ?_ _)))⟩
theorem kShape_any (nm : ByteArray) (a : Int) (w : World) : Calls Tryd.prog 28 #[.agg #[.string nm, .int .i64 a]] w (KShape nm a w) := by
  by_cases n0 : nm = ⟨#[99, 111, 110, 115, 116]⟩
  · subst n0; exact kShape_const a w
  by_cases n1 : nm = ⟨#[105, 110, 116]⟩
  · subst n1; exact kShape_int a w
  by_cases n2 : nm = ⟨#[115, 116, 114]⟩
  · subst n2; exact kShape_str a w
  by_cases n3 : nm = ⟨#[108, 111, 97, 100]⟩
  · subst n3; exact kShape_load a w
  by_cases n4 : nm = ⟨#[115, 116, 111, 114, 101]⟩
  · subst n4; exact kShape_store a w
  by_cases n5 : nm = ⟨#[99, 101, 108, 108]⟩
  · subst n5; exact kShape_cell a w
  by_cases n6 : nm = ⟨#[102, 105, 108, 108]⟩
  · subst n6; exact kShape_fill a w
  by_cases n7 : nm = ⟨#[103, 108, 111, 98, 97, 108]⟩
  · subst n7; exact kShape_global a w
  by_cases n8 : nm = ⟨#[110, 97, 109, 101]⟩
  · subst n8; exact kShape_name a w
  by_cases n9 : nm = ⟨#[110, 101, 103]⟩
  · subst n9; exact kShape_neg a w
  by_cases n10 : nm = ⟨#[110, 111, 116]⟩
  · subst n10; exact kShape_not a w
  by_cases n11 : nm = ⟨#[99, 97, 108, 108]⟩
  · subst n11; exact kShape_call a w
  by_cases n12 : nm = ⟨#[105, 110, 100, 101, 120]⟩
  · subst n12; exact kShape_index a w
  by_cases n13 : nm = ⟨#[112, 117, 116]⟩
  · subst n13; exact kShape_put a w
  by_cases n14 : nm = ⟨#[100, 101, 108]⟩
  · subst n14; exact kShape_del a w
  by_cases n15 : nm = ⟨#[108, 105, 115, 116]⟩
  · subst n15; exact kShape_list a w
  by_cases n16 : nm = ⟨#[100, 105, 99, 116]⟩
  · subst n16; exact kShape_dict a w
  by_cases n17 : nm = ⟨#[99, 108, 111, 115, 117, 114, 101]⟩
  · subst n17; exact kShape_closure a w
  by_cases n18 : nm = ⟨#[116, 97, 107, 101]⟩
  · subst n18; exact kShape_take a w
  by_cases n19 : nm = ⟨#[112, 111, 112]⟩
  · subst n19; exact kShape_pop a w
  by_cases n20 : nm = ⟨#[100, 117, 112]⟩
  · subst n20; exact kShape_dup a w
  by_cases n21 : nm = ⟨#[106, 117, 109, 112]⟩
  · subst n21; exact kShape_jump a w
  by_cases n22 : nm = ⟨#[117, 110, 108, 101, 115, 115]⟩
  · subst n22; exact kShape_unless a w
  by_cases n23 : nm = ⟨#[105, 116, 101, 114]⟩
  · subst n23; exact kShape_iter a w
  by_cases n24 : nm = ⟨#[110, 101, 120, 116]⟩
  · subst n24; exact kShape_next a w
  by_cases n25 : nm = ⟨#[116, 114, 121]⟩
  · subst n25; exact kShape_try a w
  by_cases n26 : nm = ⟨#[101, 110, 100]⟩
  · subst n26; exact kShape_end a w
  by_cases n27 : nm = ⟨#[114, 97, 105, 115, 101]⟩
  · subst n27; exact kShape_raise a w
  by_cases n28 : nm = ⟨#[114, 101, 116, 117, 114, 110]⟩
  · subst n28; exact kShape_return a w
  by_cases n29 : nm = ⟨#[115, 116, 101, 112]⟩
  · subst n29; exact kShape_step a w
  by_cases n30 : nm = ⟨#[104, 97, 108, 116]⟩
  · subst n30; exact kShape_halt a w
  by_cases n31 : nm = ⟨#[97, 100, 100]⟩
  · subst n31; exact kShape_add a w
  by_cases n32 : nm = ⟨#[115, 117, 98]⟩
  · subst n32; exact kShape_sub a w
  by_cases n33 : nm = ⟨#[109, 117, 108]⟩
  · subst n33; exact kShape_mul a w
  by_cases n34 : nm = ⟨#[100, 105, 118]⟩
  · subst n34; exact kShape_div a w
  by_cases n35 : nm = ⟨#[109, 111, 100]⟩
  · subst n35; exact kShape_mod a w
  by_cases n36 : nm = ⟨#[101, 113]⟩
  · subst n36; exact kShape_eq a w
  by_cases n37 : nm = ⟨#[110, 101]⟩
  · subst n37; exact kShape_ne a w
  by_cases n38 : nm = ⟨#[108, 116]⟩
  · subst n38; exact kShape_lt a w
  by_cases n39 : nm = ⟨#[108, 101]⟩
  · subst n39; exact kShape_le a w
  by_cases n40 : nm = ⟨#[103, 116]⟩
  · subst n40; exact kShape_gt a w
  by_cases n41 : nm = ⟨#[103, 101]⟩
  · subst n41; exact kShape_ge a w
  by_cases n42 : nm = ⟨#[105, 115]⟩
  · subst n42; exact kShape_is a w
  by_cases n43 : nm = ⟨#[105, 110]⟩
  · subst n43; exact kShape_in a w
  by_cases nf : nm = ⟨#[102, 117, 110, 99]⟩
  · subst nf; exact kShape_func a w
  exact kShape_no nm a w n0 n1 n2 n3 n4 n5 n6 n7 n8 n9 n10 n11 n12 n13 n14 n15 n16 n17 n18 n19 n20 n21 n22 n23 n24 n25 n26 n27 n28 n29 n30 n31 n32 n33 n34 n35 n36 n37 n38 n39 n40 n41 n42 n43 nf
end Go.Proofs.YtgjjkllngopboaaDoor
