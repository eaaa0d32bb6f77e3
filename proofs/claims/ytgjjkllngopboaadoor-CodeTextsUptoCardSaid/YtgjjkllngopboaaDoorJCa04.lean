/- The document's most: the most that an op's A may be. -/
import Derived.Test.YtgjjkllngopboaaDoorJCa03
import Derived.Deep.Cut
import Derived.Test.YtgjjkllngopboaaDoorJCa01
namespace Go.Proofs.YtgjjkllngopboaaDoor
open Go.RowKit
set_option linter.unusedVariables false
set_option linter.unusedSimpArgs false

/-- What stands of the numbers of a function that is right so far. -/
structure FnOK (c : CodeP) (f : FnP) : Prop where
  locals : 0 ≤ f.locals ∧ f.locals ≤ 400
  cells : 0 ≤ f.cells ∧ f.cells ≤ 400
  frees : 0 ≤ f.frees ∧ f.frees ≤ 400
  ops : f.ops.length ≤ 1000000
  ints : c.ints.length ≤ 1000000
  strs : c.strs.length ≤ 1000000
  names : c.names.length ≤ 1000000
  funcs : c.funcs.length ≤ 1000000
/-- What a checker bears that never changes: the code, its function. -/
structure RChk (w : World) (K : Nat) (c : CodeP) (V : CodeV) (f : FnP) (v : OpsV) (fb fo : Nat) : Prop where
  kF : w.cell? ⟨K, 0, none⟩ = some (.slice V.F.1 c.funcs.length V.F.2)
  kI : w.cell? ⟨K, 1, none⟩ = some (.slice V.I.1 c.ints.length V.I.2)
  kS : w.cell? ⟨K, 2, none⟩ = some (.slice V.S.1 c.strs.length V.S.2)
  kN : w.cell? ⟨K, 3, none⟩ = some (.slice V.N.1 c.names.length V.N.2)
  kf : w.cell? ⟨K, 4, none⟩ = some (.pointer (some ⟨fb, fo, none⟩))
  f0 : w.cell? ⟨fb, fo, none⟩ = some (.string f.name)
  f1 : w.cell? ⟨fb, fo + 1, none⟩ = some (.int .i64 f.params)
  f2 : w.cell? ⟨fb, fo + 2, none⟩ = some (.int .i64 f.locals)
  f3 : w.cell? ⟨fb, fo + 3, none⟩ = some (.int .i64 f.cells)
  f4 : w.cell? ⟨fb, fo + 4, none⟩ = some (.int .i64 f.frees)
  f5 : w.cell? ⟨fb, fo + 5, none⟩ = some (.slice v.1 f.ops.length v.2)
set_option maxRecDepth 100000 in
theorem limit_const (K : Nat) (c : CodeP) (V : CodeV) (f : FnP) (v : OpsV) (fb fo : Nat) (h : FnOK c f) (w : World) (hK : RChk w K c V f v fb fo) : Calls Tryd.prog 61 #[.pointer (some ⟨K, 0, none⟩), .string ⟨#[99, 111, 110, 115, 116]⟩] w fun e w' => e = .returned (.int .i64 (limitP c f ⟨#[99, 111, 110, 115, 116]⟩)) ∧ Ext w w' := by
  obtain ⟨⟨l0, l1⟩, ⟨c0, c1⟩, ⟨f0, f1⟩, o1, i1, s1, n1, u1⟩ := h
  unfold limitP
  rw [if_pos (show (⟨#[99, 111, 110, 115, 116]⟩ : ByteArray) = a_const by decide)]
  obtain ⟨k0, k1, k2, k3, k4, g0, g1, g2, g3, g4, g5⟩ := hK
  go_enter Tryd.func61, Tryd.ntmps61
  go_wp2
  go_ret
  exact ⟨by first | rfl | (congr 2; go_num) | (congr 2; omega), (by repeat (first | exact Ext.refl _ | (refine Ext.drew_ ?_) | (refine Ext.drewN_ ?_ _) | (refine Ext.alloc_ ?_ _)))⟩
set_option maxRecDepth 100000 in
theorem limit_int (K : Nat) (c : CodeP) (V : CodeV) (f : FnP) (v : OpsV) (fb fo : Nat) (h : FnOK c f) (w : World) (hK : RChk w K c V f v fb fo) : Calls Tryd.prog 61 #[.pointer (some ⟨K, 0, none⟩), .string ⟨#[105, 110, 116]⟩] w fun e w' => e = .returned (.int .i64 (limitP c f ⟨#[105, 110, 116]⟩)) ∧ Ext w w' := by
  obtain ⟨⟨l0, l1⟩, ⟨c0, c1⟩, ⟨f0, f1⟩, o1, i1, s1, n1, u1⟩ := h
  unfold limitP
  rw [if_neg (show ¬ (⟨#[105, 110, 116]⟩ : ByteArray) = a_const by decide), if_pos (show (⟨#[105, 110, 116]⟩ : ByteArray) = a_int by decide)]
  obtain ⟨k0, k1, k2, k3, k4, g0, g1, g2, g3, g4, g5⟩ := hK
  go_enter Tryd.func61, Tryd.ntmps61
  go_wp2
  go_ret
  exact ⟨by first | rfl | (congr 2; go_num) | (congr 2; omega), (by repeat (first | exact Ext.refl _ | (refine Ext.drew_ ?_) | (refine Ext.drewN_ ?_ _) | (refine Ext.alloc_ ?_ _)))⟩
set_option maxRecDepth 100000 in
theorem limit_str (K : Nat) (c : CodeP) (V : CodeV) (f : FnP) (v : OpsV) (fb fo : Nat) (h : FnOK c f) (w : World) (hK : RChk w K c V f v fb fo) : Calls Tryd.prog 61 #[.pointer (some ⟨K, 0, none⟩), .string ⟨#[115, 116, 114]⟩] w fun e w' => e = .returned (.int .i64 (limitP c f ⟨#[115, 116, 114]⟩)) ∧ Ext w w' := by
  obtain ⟨⟨l0, l1⟩, ⟨c0, c1⟩, ⟨f0, f1⟩, o1, i1, s1, n1, u1⟩ := h
  unfold limitP
  rw [if_neg (show ¬ (⟨#[115, 116, 114]⟩ : ByteArray) = a_const by decide), if_neg (show ¬ (⟨#[115, 116, 114]⟩ : ByteArray) = a_int by decide), if_pos (show (⟨#[115, 116, 114]⟩ : ByteArray) = a_str by decide)]
  obtain ⟨k0, k1, k2, k3, k4, g0, g1, g2, g3, g4, g5⟩ := hK
  go_enter Tryd.func61, Tryd.ntmps61
  go_wp2
  go_ret
  exact ⟨by first | rfl | (congr 2; go_num) | (congr 2; omega), (by repeat (first | exact Ext.refl _ | (refine Ext.drew_ ?_) | (refine Ext.drewN_ ?_ _) | (refine Ext.alloc_ ?_ _)))⟩
set_option maxRecDepth 100000 in
theorem limit_name (K : Nat) (c : CodeP) (V : CodeV) (f : FnP) (v : OpsV) (fb fo : Nat) (h : FnOK c f) (w : World) (hK : RChk w K c V f v fb fo) : Calls Tryd.prog 61 #[.pointer (some ⟨K, 0, none⟩), .string ⟨#[110, 97, 109, 101]⟩] w fun e w' => e = .returned (.int .i64 (limitP c f ⟨#[110, 97, 109, 101]⟩)) ∧ Ext w w' := by
  obtain ⟨⟨l0, l1⟩, ⟨c0, c1⟩, ⟨f0, f1⟩, o1, i1, s1, n1, u1⟩ := h
  unfold limitP
  rw [if_neg (show ¬ (⟨#[110, 97, 109, 101]⟩ : ByteArray) = a_const by decide), if_neg (show ¬ (⟨#[110, 97, 109, 101]⟩ : ByteArray) = a_int by decide), if_neg (show ¬ (⟨#[110, 97, 109, 101]⟩ : ByteArray) = a_str by decide), if_pos (show (⟨#[110, 97, 109, 101]⟩ : ByteArray) = a_name by decide)]
  obtain ⟨k0, k1, k2, k3, k4, g0, g1, g2, g3, g4, g5⟩ := hK
  go_enter Tryd.func61, Tryd.ntmps61
  go_wp2
  go_ret
  exact ⟨by first | rfl | (congr 2; go_num) | (congr 2; omega), (by repeat (first | exact Ext.refl _ | (refine Ext.drew_ ?_) | (refine Ext.drewN_ ?_ _) | (refine Ext.alloc_ ?_ _)))⟩
set_option maxRecDepth 100000 in
theorem limit_local (K : Nat) (c : CodeP) (V : CodeV) (f : FnP) (v : OpsV) (fb fo : Nat) (h : FnOK c f) (w : World) (hK : RChk w K c V f v fb fo) : Calls Tryd.prog 61 #[.pointer (some ⟨K, 0, none⟩), .string ⟨#[108, 111, 99, 97, 108]⟩] w fun e w' => e = .returned (.int .i64 (limitP c f ⟨#[108, 111, 99, 97, 108]⟩)) ∧ Ext w w' := by
  obtain ⟨⟨l0, l1⟩, ⟨c0, c1⟩, ⟨f0, f1⟩, o1, i1, s1, n1, u1⟩ := h
  unfold limitP
  rw [if_neg (show ¬ (⟨#[108, 111, 99, 97, 108]⟩ : ByteArray) = a_const by decide), if_neg (show ¬ (⟨#[108, 111, 99, 97, 108]⟩ : ByteArray) = a_int by decide), if_neg (show ¬ (⟨#[108, 111, 99, 97, 108]⟩ : ByteArray) = a_str by decide), if_neg (show ¬ (⟨#[108, 111, 99, 97, 108]⟩ : ByteArray) = a_name by decide), if_pos (show (⟨#[108, 111, 99, 97, 108]⟩ : ByteArray) = a_local by decide)]
  obtain ⟨k0, k1, k2, k3, k4, g0, g1, g2, g3, g4, g5⟩ := hK
  go_enter Tryd.func61, Tryd.ntmps61
  go_wp2
  go_ret
  exact ⟨by first | rfl | (congr 2; go_num) | (congr 2; omega), (by repeat (first | exact Ext.refl _ | (refine Ext.drew_ ?_) | (refine Ext.drewN_ ?_ _) | (refine Ext.alloc_ ?_ _)))⟩
set_option maxRecDepth 100000 in
theorem limit_cell (K : Nat) (c : CodeP) (V : CodeV) (f : FnP) (v : OpsV) (fb fo : Nat) (h : FnOK c f) (w : World) (hK : RChk w K c V f v fb fo) : Calls Tryd.prog 61 #[.pointer (some ⟨K, 0, none⟩), .string ⟨#[99, 101, 108, 108]⟩] w fun e w' => e = .returned (.int .i64 (limitP c f ⟨#[99, 101, 108, 108]⟩)) ∧ Ext w w' := by
  obtain ⟨⟨l0, l1⟩, ⟨c0, c1⟩, ⟨f0, f1⟩, o1, i1, s1, n1, u1⟩ := h
  unfold limitP
  rw [if_neg (show ¬ (⟨#[99, 101, 108, 108]⟩ : ByteArray) = a_const by decide), if_neg (show ¬ (⟨#[99, 101, 108, 108]⟩ : ByteArray) = a_int by decide), if_neg (show ¬ (⟨#[99, 101, 108, 108]⟩ : ByteArray) = a_str by decide), if_neg (show ¬ (⟨#[99, 101, 108, 108]⟩ : ByteArray) = a_name by decide), if_neg (show ¬ (⟨#[99, 101, 108, 108]⟩ : ByteArray) = a_local by decide), if_pos (show (⟨#[99, 101, 108, 108]⟩ : ByteArray) = a_cell by decide)]
  obtain ⟨k0, k1, k2, k3, k4, g0, g1, g2, g3, g4, g5⟩ := hK
  go_enter Tryd.func61, Tryd.ntmps61
  go_upto_region 13 with fail
  go_quiet (fail)
  go_wp2
  go_ret
  exact ⟨by first | rfl | (congr 2; go_num) | (congr 2; omega), (by repeat (first | exact Ext.refl _ | (refine Ext.drew_ ?_) | (refine Ext.drewN_ ?_ _) | (refine Ext.alloc_ ?_ _)))⟩
set_option maxRecDepth 100000 in
theorem limit_func (K : Nat) (c : CodeP) (V : CodeV) (f : FnP) (v : OpsV) (fb fo : Nat) (h : FnOK c f) (w : World) (hK : RChk w K c V f v fb fo) : Calls Tryd.prog 61 #[.pointer (some ⟨K, 0, none⟩), .string ⟨#[102, 117, 110, 99]⟩] w fun e w' => e = .returned (.int .i64 (limitP c f ⟨#[102, 117, 110, 99]⟩)) ∧ Ext w w' := by
  obtain ⟨⟨l0, l1⟩, ⟨c0, c1⟩, ⟨f0, f1⟩, o1, i1, s1, n1, u1⟩ := h
  unfold limitP
  rw [if_neg (show ¬ (⟨#[102, 117, 110, 99]⟩ : ByteArray) = a_const by decide), if_neg (show ¬ (⟨#[102, 117, 110, 99]⟩ : ByteArray) = a_int by decide), if_neg (show ¬ (⟨#[102, 117, 110, 99]⟩ : ByteArray) = a_str by decide), if_neg (show ¬ (⟨#[102, 117, 110, 99]⟩ : ByteArray) = a_name by decide), if_neg (show ¬ (⟨#[102, 117, 110, 99]⟩ : ByteArray) = a_local by decide), if_neg (show ¬ (⟨#[102, 117, 110, 99]⟩ : ByteArray) = a_cell by decide), if_pos (show (⟨#[102, 117, 110, 99]⟩ : ByteArray) = a_func by decide)]
  obtain ⟨k0, k1, k2, k3, k4, g0, g1, g2, g3, g4, g5⟩ := hK
  go_enter Tryd.func61, Tryd.ntmps61
  go_wp2
  go_ret
  exact ⟨by first | rfl | (congr 2; go_num) | (congr 2; omega), (by repeat (first | exact Ext.refl _ | (refine Ext.drew_ ?_) | (refine Ext.drewN_ ?_ _) | (refine Ext.alloc_ ?_ _)))⟩
set_option maxRecDepth 100000 in
theorem limit_op (K : Nat) (c : CodeP) (V : CodeV) (f : FnP) (v : OpsV) (fb fo : Nat) (h : FnOK c f) (w : World) (hK : RChk w K c V f v fb fo) : Calls Tryd.prog 61 #[.pointer (some ⟨K, 0, none⟩), .string ⟨#[111, 112]⟩] w fun e w' => e = .returned (.int .i64 (limitP c f ⟨#[111, 112]⟩)) ∧ Ext w w' := by
  obtain ⟨⟨l0, l1⟩, ⟨c0, c1⟩, ⟨f0, f1⟩, o1, i1, s1, n1, u1⟩ := h
  unfold limitP
  rw [if_neg (show ¬ (⟨#[111, 112]⟩ : ByteArray) = a_const by decide), if_neg (show ¬ (⟨#[111, 112]⟩ : ByteArray) = a_int by decide), if_neg (show ¬ (⟨#[111, 112]⟩ : ByteArray) = a_str by decide), if_neg (show ¬ (⟨#[111, 112]⟩ : ByteArray) = a_name by decide), if_neg (show ¬ (⟨#[111, 112]⟩ : ByteArray) = a_local by decide), if_neg (show ¬ (⟨#[111, 112]⟩ : ByteArray) = a_cell by decide), if_neg (show ¬ (⟨#[111, 112]⟩ : ByteArray) = a_func by decide), if_pos (show (⟨#[111, 112]⟩ : ByteArray) = a_op by decide)]
  obtain ⟨k0, k1, k2, k3, k4, g0, g1, g2, g3, g4, g5⟩ := hK
  go_enter Tryd.func61, Tryd.ntmps61
  go_wp2
  go_ret
  exact ⟨by first | rfl | (congr 2; go_num) | (congr 2; omega), (by repeat (first | exact Ext.refl _ | (refine Ext.drew_ ?_) | (refine Ext.drewN_ ?_ _) | (refine Ext.alloc_ ?_ _)))⟩
set_option maxRecDepth 100000 in
theorem limit_many (K : Nat) (c : CodeP) (V : CodeV) (f : FnP) (v : OpsV) (fb fo : Nat) (h : FnOK c f) (w : World) (hK : RChk w K c V f v fb fo) : Calls Tryd.prog 61 #[.pointer (some ⟨K, 0, none⟩), .string ⟨#[109, 97, 110, 121]⟩] w fun e w' => e = .returned (.int .i64 (limitP c f ⟨#[109, 97, 110, 121]⟩)) ∧ Ext w w' := by
  obtain ⟨⟨l0, l1⟩, ⟨c0, c1⟩, ⟨f0, f1⟩, o1, i1, s1, n1, u1⟩ := h
  unfold limitP
  rw [if_neg (show ¬ (⟨#[109, 97, 110, 121]⟩ : ByteArray) = a_const by decide), if_neg (show ¬ (⟨#[109, 97, 110, 121]⟩ : ByteArray) = a_int by decide), if_neg (show ¬ (⟨#[109, 97, 110, 121]⟩ : ByteArray) = a_str by decide), if_neg (show ¬ (⟨#[109, 97, 110, 121]⟩ : ByteArray) = a_name by decide), if_neg (show ¬ (⟨#[109, 97, 110, 121]⟩ : ByteArray) = a_local by decide), if_neg (show ¬ (⟨#[109, 97, 110, 121]⟩ : ByteArray) = a_cell by decide), if_neg (show ¬ (⟨#[109, 97, 110, 121]⟩ : ByteArray) = a_func by decide), if_neg (show ¬ (⟨#[109, 97, 110, 121]⟩ : ByteArray) = a_op by decide), if_pos (show (⟨#[109, 97, 110, 121]⟩ : ByteArray) = a_many by decide)]
  obtain ⟨k0, k1, k2, k3, k4, g0, g1, g2, g3, g4, g5⟩ := hK
  go_enter Tryd.func61, Tryd.ntmps61
  go_wp2
  go_ret
  exact ⟨by first | rfl | (congr 2; go_num) | (congr 2; omega), (by repeat (first | exact Ext.refl _ | (refine Ext.drew_ ?_) | (refine Ext.drewN_ ?_ _) | (refine Ext.alloc_ ?_ _)))⟩
set_option maxRecDepth 100000 in
theorem limit_none (K : Nat) (c : CodeP) (V : CodeV) (f : FnP) (v : OpsV) (fb fo : Nat) (h : FnOK c f) (w : World) (hK : RChk w K c V f v fb fo) : Calls Tryd.prog 61 #[.pointer (some ⟨K, 0, none⟩), .string ⟨#[]⟩] w fun e w' => e = .returned (.int .i64 (limitP c f ⟨#[]⟩)) ∧ Ext w w' := by
  obtain ⟨⟨l0, l1⟩, ⟨c0, c1⟩, ⟨f0, f1⟩, o1, i1, s1, n1, u1⟩ := h
  unfold limitP
  rw [if_neg (show ¬ (⟨#[]⟩ : ByteArray) = a_const by decide), if_neg (show ¬ (⟨#[]⟩ : ByteArray) = a_int by decide), if_neg (show ¬ (⟨#[]⟩ : ByteArray) = a_str by decide), if_neg (show ¬ (⟨#[]⟩ : ByteArray) = a_name by decide), if_neg (show ¬ (⟨#[]⟩ : ByteArray) = a_local by decide), if_neg (show ¬ (⟨#[]⟩ : ByteArray) = a_cell by decide), if_neg (show ¬ (⟨#[]⟩ : ByteArray) = a_func by decide), if_neg (show ¬ (⟨#[]⟩ : ByteArray) = a_op by decide), if_neg (show ¬ (⟨#[]⟩ : ByteArray) = a_many by decide)]
  obtain ⟨k0, k1, k2, k3, k4, g0, g1, g2, g3, g4, g5⟩ := hK
  go_enter Tryd.func61, Tryd.ntmps61
  go_wp2
  go_ret
  exact ⟨by first | rfl | (congr 2; go_num) | (congr 2; omega), (by repeat (first | exact Ext.refl _ | (refine Ext.drew_ ?_) | (refine Ext.drewN_ ?_ _) | (refine Ext.alloc_ ?_ _)))⟩
/-- What a key bears. -/
def sget (es : List (ByteArray × Value)) (k : ByteArray) : Option Value := (es.find? fun p => decide (p.1 = k)).map (·.2)
/-- Block b is a map that bears these pairs. -/
def MapS (w : World) (b : Nat) (es : List (ByteArray × Value)) : Prop :=
  ∃ ents clock, w.heap[b]? = some (.map ents clock) ∧ ents.toList.map (fun e => (e.key, e.val)) = es.map (fun p => (Value.string p.1, p.2))
theorem MapS.lt {w : World} {b : Nat} {es : List (ByteArray × Value)} (h : MapS w b es) : b < w.heap.size := by
  obtain ⟨ents, clock, hb, _⟩ := h
  rcases Nat.lt_or_ge b w.heap.size with g | g
  · exact g
  · simp [Array.getElem?_eq_none g] at hb
theorem MapS.of_block {w w' : World} {b : Nat} {es : List (ByteArray × Value)} (h : MapS w b es) (he : w'.heap[b]? = w.heap[b]?) : MapS w' b es := by
  obtain ⟨ents, clock, hb, hm⟩ := h
  exact ⟨ents, clock, he.trans hb, hm⟩
theorem MapS.ext {w w' : World} {b : Nat} {es : List (ByteArray × Value)} (h : MapS w b es) (hx : Ext w w') : MapS w' b es :=
  h.of_block (Below.block hx b h.lt)
theorem MapS.made (w : World) : MapS (w.alloc (.map #[] 0)) w.heap.size [] :=
  ⟨#[], 0, (MapKept.heap_alloc w _).1, rfl⟩
section
variable {P : Program} {w : World}
theorem findNow_str (k : ByteArray) : ∀ (l : List MapEntry) (es : List (ByteArray × Value)) (i : Nat), l.map (fun e => (e.key, e.val)) = es.map (fun p => (Value.string p.1, p.2)) →
    (∃ j v, Instr.findNow .string (.string k) l i = some (some (i + j, v)) ∧ sget es k = some v) ∨
    (Instr.findNow .string (.string k) l i = some none ∧ sget es k = none) := by
  intro l
  induction l with
  | nil =>
    intro es i h
    obtain rfl : es = [] := by simpa using h.symm
    exact Or.inr ⟨rfl, rfl⟩
  | cons e l ih =>
    intro es i h
    match es, h with
    | [], h => simp at h
    | (a, u0) :: es, h =>
      simp only [List.map_cons, List.cons.injEq, Prod.mk.injEq] at h
      obtain ⟨⟨hk, hv⟩, ht⟩ := h
      by_cases ha : a = k
      · subst ha
        refine Or.inl ⟨0, e.val, ?_, ?_⟩
        · have : (a == a) = true := (MapKept.bytes_beq a a).2 rfl
          simp [Instr.findNow, hk, Instr.sameNow, this]
        · simp [sget, hv]
      · have hs : Instr.sameNow .string (.string k) e.key = some false := by
          have : (k == a) = false := by
            rcases hq : (k == a) with _ | _
            · rfl
            · exact absurd ((MapKept.bytes_beq k a).1 hq).symm ha
          rw [hk]; simp [Instr.sameNow, this]
        have hf : ∀ i, Instr.findNow .string (.string k) (e :: l) i = Instr.findNow .string (.string k) l (i + 1) := by
          intro i; simp only [Instr.findNow, hs]
        have hg : sget ((a, u0) :: es) k = sget es k := by simp [sget, List.find?_cons, ha]
        rcases ih es (i + 1) ht with ⟨j, v, h1, h2⟩ | ⟨h1, h2⟩
        · exact Or.inl ⟨j + 1, v, by rw [hf, h1]; simp; omega, by rw [hg, h2]⟩
        · exact Or.inr ⟨by rw [hf, h1], by rw [hg, h2]⟩
theorem checkKey_str {k : TypeId} (hk : P.underlying k = some .string) (em : Bool) (v : Value) (w : World) : (Instr.checkKey em 10000 k v).run P w = .ok () w := by
  show (Instr.checkKey em (9999 + 1) k v).run P w = .ok () w
  unfold Instr.checkKey
  simp only [Sem.run_bind, run_underlying hk, Result.andThen]
  rfl
/-- A look-up: the world does not turn. -/
theorem run_lookup_maps {t k e : TypeId} (ht : P.underlying t = some (.map k e)) (hk : P.underlying k = some .string) {z : Value} (hz : (zeroValue e).run P w = .ok z w)
    {b : Nat} {es : List (ByteArray × Value)} (hm : MapS w b es) (x : ByteArray) (c : Bool) :
    (Instr.lookup t (.map (some b)) (.string x) c).run P w = .ok (if c then .tuple #[(sget es x).getD z, .bool (sget es x).isSome] else (sget es x).getD z) w := by
  obtain ⟨ents, clock, hb, hl⟩ := hm
  rcases findNow_str x ents.toList es 0 hl with ⟨j, v, h1, h2⟩ | ⟨h1, h2⟩
  · simp [Instr.lookup, run_underlying ht, MapKept.run_getObj_map hb, checkKey_str hk, Instr.findKey, run_underlying hk, h1, h2, Result.andThen]
  · simp [Instr.lookup, run_underlying ht, MapKept.run_getObj_map hb, checkKey_str hk, Instr.findKey, run_underlying hk, h1, h2, hz, Result.andThen]
/-- A store at a key that is not there. -/
theorem run_update_maps {t k e : TypeId} (ht : P.underlying t = some (.map k e)) (hk : P.underlying k = some .string)
    {b : Nat} {es : List (ByteArray × Value)} (hm : MapS w b es) (x : ByteArray) (v : Value) (hn : sget es x = none) :
    ∃ w', (Instr.mapUpdate t (.map (some b)) (.string x) v).run P w = .ok () w' ∧ MapS w' b (es ++ [(x, v)]) ∧ But b w w' := by
  obtain ⟨ents, clock, hb, hl⟩ := hm
  have hlt : b < w.heap.size := (show MapS w b es from ⟨ents, clock, hb, hl⟩).lt
  rcases findNow_str x ents.toList es 0 hl with ⟨j, v0, h1, h2⟩ | ⟨h1, h2⟩
  · rw [hn] at h2; cases h2
  · refine ⟨{ w with heap := w.heap.setIfInBounds b (.map (ents.push { key := .string x, val := v, born := clock }) (clock + 1)) }, ?_, ?_, ?_⟩
    · simp [Instr.mapUpdate, run_underlying ht, MapKept.run_getObj_map hb, checkKey_str hk, Instr.findKey, run_underlying hk, h1, MapKept.run_setObj_map _ hb, Result.andThen]
    · refine ⟨ents.push { key := .string x, val := v, born := clock }, clock + 1, by simp [Array.getElem?_setIfInBounds, hlt], ?_⟩
      simp [hl]
    · refine ⟨rfl, rfl, rfl, by simp, fun i hi => ?_⟩
      simp only [Array.getElem?_setIfInBounds]; rw [if_neg (fun e => hi e.symm)]
end
/-- How many ops have been come to. -/
def seensP (s : List (Option StP)) : Nat := (s.filter Option.isSome).length
/-- A state fits: its number, its tries. -/
structure FitsP (n m : Nat) (x : StP) : Prop where
  lo : 0 ≤ x.1
  hi : x.1 ≤ 1001
  rng : ∀ t ∈ x.2, 0 ≤ t ∧ t < (n : Int)
  len : x.2.length ≤ m
structure TallP (n : Nat) (g : GoP) : Prop where
  len : g.s.length = n
  fits : ∀ i x, seenP g.s i = some x → FitsP n (seensP g.s - 1) x
  todo : ∀ i ∈ g.todo, i < n ∧ seenP g.s i ≠ none
  left : leftP g ≤ n + 1
theorem FitsP.mono {n m m' : Nat} {x : StP} (h : FitsP n m x) (hm : m ≤ m') : FitsP n m' x := ⟨h.lo, h.hi, h.rng, Nat.le_trans h.len hm⟩
theorem seens_le (s : List (Option StP)) : seensP s ≤ s.length := List.length_filter_le _ _
theorem TallP.todoLen {n : Nat} {g : GoP} (h : TallP n g) : g.todo.length ≤ n + 1 := by
  have := h.left
  unfold leftP at this
  omega
theorem filter_set_some {s : List (Option StP)} {i : Nat} {y : StP} (h : i < s.length) (hn : seenP s i = none) : seensP (s.set i (some y)) = seensP s + 1 := by
  unfold seensP
  induction s generalizing i with
  | nil => simp at h
  | cons a l ih =>
    cases i with
    | zero =>
      have : a = none := hn
      subst this
      simp
    | succ i =>
      have := ih (i := i) (by simpa using h) (by simpa [seenP] using hn)
      simp only [List.set_cons_succ, List.filter_cons]
      split
      · simp only [List.length_cons]; omega
      · exact this
theorem seens_pos {s : List (Option StP)} {i : Nat} {x : StP} (h : seenP s i = some x) : 0 < seensP s := by
  unfold seensP
  have hlt := seenP_lt h
  refine List.length_pos_of_mem (a := some x) (List.mem_filter.2 ⟨?_, rfl⟩)
  unfold seenP at h
  rw [List.getD_eq_getElem?_getD, List.getElem?_eq_getElem hlt] at h
  simp only [Option.getD_some] at h
  rw [← h]
  exact List.getElem_mem hlt
/-- Coming to an op with a state that fits. -/
theorem TallP.come {n : Nat} {g : GoP} (h : TallP n g) (i : Int) {x : StP} (hx : FitsP n (seensP g.s) x) : TallP n (comeP n g i x) ∧ seensP g.s ≤ seensP (comeP n g i x).s := by
  have hl := comeP_len n g i x h.len
  have hq := comeP_left n g i x h.len
  have hleft := h.left
  unfold comeP at hl hq ⊢
  split
  · exact ⟨⟨h.len, h.fits, h.todo, h.left⟩, Nat.le_refl _⟩
  · rename_i hi
    rw [if_neg hi] at hl hq
    cases hs : seenP g.s i.toNat with
    | none =>
      rw [hs] at hl hq
      simp only at hl hq ⊢
      have hlt : i.toNat < g.s.length := by rw [h.len]; omega
      have hc := filter_set_some (y := x) hlt hs
      refine ⟨⟨hl, fun j y hj => ?_, fun j hj => ?_, by rw [hq]; exact hleft⟩, by simp only [hc]; omega⟩
      · simp only at hj ⊢
        rw [hc]
        rw [seenP_set hlt] at hj
        split at hj
        · obtain rfl := Option.some.inj hj
          exact hx.mono (by omega)
        · have h1 := h.fits j y hj
          exact h1.mono (by omega)
      · simp only at hj ⊢
        rw [seenP_set hlt]
        rcases List.mem_append.1 hj with q | q
        · refine ⟨(h.todo j q).1, ?_⟩
          split
          · exact fun e => by cases e
          · exact (h.todo j q).2
        · obtain rfl := List.mem_singleton.1 q
          exact ⟨by omega, by simp⟩
    | some y =>
      simp only
      split
      · exact ⟨h, Nat.le_refl _⟩
      · exact ⟨⟨h.len, h.fits, h.todo, h.left⟩, Nat.le_refl _⟩
theorem TallP.comes {n : Nat} : ∀ (l : List (Int × StP)) {g : GoP} (h : TallP n g) (hx : ∀ c ∈ l, FitsP n (seensP g.s) c.2), TallP n (comesP n l g)
  | [], g, h, _ => h
  | c :: l, g, h, hx => by
    obtain ⟨h1, h2⟩ := h.come c.1 (hx c List.mem_cons_self)
    exact TallP.comes l h1 fun d hd => (hx d (List.mem_cons_of_mem _ hd)).mono h2
theorem TallP.bad {n : Nat} {g : GoP} (h : TallP n g) : TallP n { g with ok := false } := ⟨h.len, h.fits, h.todo, h.left⟩
theorem TallP.base {n : Nat} {g : GoP} (h : TallP n g) (tr : List Int) : 0 ≤ baseP g.s tr ∧ baseP g.s tr ≤ 1001 := by
  unfold baseP highP
  split
  · omega
  · rename_i t _
    cases hs : seenP g.s t.toNat with
    | none => simp
    | some y => have := h.fits _ _ hs; exact ⟨this.lo, this.hi⟩
theorem shape_puts (op : OpP) : 0 ≤ putsP op ∧ putsP op ≤ 2 := by
  have h : ∀ x ∈ shapeTab, 0 ≤ x.2.2.1 ∧ x.2.2.1 ≤ 2 := by decide
  unfold putsP shapeP
  cases hq : shapeTab.find? (fun x => decide (x.1 = op.name)) with
  | none => simp
  | some y => simpa using h y (List.mem_of_find?_eq_some hq)
theorem shape_takes (n : ByteArray) : 0 ≤ ((shapeP n).map (·.1)).getD 0 ∧ ((shapeP n).map (·.1)).getD 0 ≤ 3 := by
  have h : ∀ x ∈ shapeTab, 0 ≤ x.2.1 ∧ x.2.1 ≤ 3 := by decide
  unfold shapeP
  cases hq : shapeTab.find? (fun x => decide (x.1 = n)) with
  | none => simp
  | some y => simpa using h y (List.mem_of_find?_eq_some hq)
theorem takes_in (op : OpP) (h0 : 0 ≤ op.a) (h1 : op.a ≤ 1000000) : 0 ≤ takesP op ∧ takesP op ≤ 2000010 := by
  have := shape_takes op.name
  unfold takesP
  split
  · omega
  split
  · omega
  split <;> omega
theorem takes_next {op : OpP} (h : op.name = n_next) : takesP op = 1 := by
  unfold takesP
  rw [h, if_neg (by decide), if_neg (by decide), if_neg (by decide)]
  decide
theorem TallP.outs {n : Nat} {g : GoP} (h : TallP n g) {i : Nat} (hi : i < n) (op : OpP) {x : StP} (hx : seenP g.s i = some x) (hlow : lowP g.s ⟨takesP op, putsP op, outsP i op⟩ x = false) {l : List (Int × StP)} (hl : outsP i op x = some l) :
    ∀ c ∈ l, FitsP n (seensP g.s) c.2 := by
  have hf := h.fits i x hx
  have hb := h.base x.2
  have hp := shape_puts op
  have hpos := seens_pos hx
  have hlen := hf.len
  have h1 := hf.lo
  have h2 := hf.hi
  simp only [lowP, Bool.or_eq_false_iff, decide_eq_false_iff_not] at hlow
  obtain ⟨l1, l2⟩ := hlow
  have ha : FitsP n (seensP g.s) (x.1 - takesP op + putsP op, x.2) := ⟨by simp only; omega, by simp only; omega, hf.rng, by simp only; omega⟩
  unfold outsP at hl
  simp only at hl
  split at hl
  · cases hl; intro c hc; cases hc
  split at hl
  · cases hl; intro c hc; rw [List.mem_singleton.1 hc]; exact ha
  split at hl
  · cases hl; intro c hc
    rcases List.mem_cons.1 hc with rfl | hc
    · exact ha
    · rw [List.mem_singleton.1 hc]; exact ha
  split at hl
  · rename_i hn
    have ht := takes_next hn
    cases hl; intro c hc
    rcases List.mem_cons.1 hc with rfl | hc
    · exact ⟨by simp only; omega, by simp only; omega, hf.rng, by simp only; omega⟩
    · rw [List.mem_singleton.1 hc]; exact ha
  split at hl
  · rename_i hn
    cases hl; intro c hc
    have htk : takesP op = 0 := by unfold takesP; rw [hn, if_neg (by decide), if_neg (by decide), if_neg (by decide)]; decide
    have hpt : putsP op = 0 := by unfold putsP; rw [hn]; decide
    rcases List.mem_cons.1 hc with rfl | hc
    · exact ⟨by simp only; omega, by simp only; omega, hf.rng, by simp only; omega⟩
    · rw [List.mem_singleton.1 hc]
      refine ⟨by simp only; omega, by simp only; omega, fun t ht => ?_, by simp only [List.length_append, List.length_singleton]; omega⟩
      rcases List.mem_append.1 ht with q | q
      · exact hf.rng t q
      · rw [List.mem_singleton.1 q]; omega
  split at hl
  · split at hl
    · cases hl
    · cases hl; intro c hc; rw [List.mem_singleton.1 hc]
      refine ⟨by simp only; omega, by simp only; omega, fun t ht => hf.rng t ((List.dropLast_sublist _).subset ht), by simp only [List.length_dropLast]; omega⟩
  · cases hl; intro c hc; rw [List.mem_singleton.1 hc]; exact ha
theorem TallP.step {n : Nat} {g : GoP} (h : TallP n g) (ops : List OpP) {i : Nat} (hi : i < n) {x : StP} (hx : seenP g.s i = some x) : TallP n (stepP n (stepsP ops i) x g) := by
  unfold stepP
  split
  · exact h.bad
  · rename_i hlow
    cases ho : (stepsP ops i).outs x with
    | none => exact h.bad
    | some l => exact TallP.comes l h (h.outs hi (opAt ops i) hx (by simpa [stepsP] using hlow) ho)
theorem TallP.leave {n : Nat} {g : GoP} (h : TallP n g) (last : Bool) (hd : g.todo ≠ []) : TallP n { g with todo := leaveP last g.todo } := by
  have h1 := leave_len last g.todo hd
  have h2 := h.left
  refine ⟨h.len, h.fits, fun i hi => h.todo i ((pick_mem last g.todo hd i).2 (Or.inr hi)), ?_⟩
  unfold leftP at h2 ⊢
  simp only
  omega
theorem TallP.zero (n : Nat) : TallP n ⟨List.replicate n none, [], true⟩ := by
  refine ⟨by simp, fun i x h => ?_, fun i h => ?_, ?_⟩
  · simp only [seen_none] at h; cases h
  · cases h
  · have := List.length_filter_le Option.isNone (List.replicate n (none : Option StP))
    unfold leftP
    simp only [List.length_replicate, List.length_nil] at this ⊢
    omega
theorem FitsP.zero (n m : Nat) : FitsP n m (0, []) := ⟨Int.le_refl _, by simp, fun t ht => (by cases ht), by simp⟩
theorem TallP.start (n : Nat) : TallP n (startP n) := by
  unfold startP
  exact ((TallP.zero n).come 0 (FitsP.zero _ _)).1
end Go.Proofs.YtgjjkllngopboaaDoor
