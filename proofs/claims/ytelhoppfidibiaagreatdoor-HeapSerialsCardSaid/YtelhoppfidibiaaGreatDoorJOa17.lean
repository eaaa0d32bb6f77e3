/- The walk of Memory.Object. -/
import Derived.Test.YtelhoppfidibiaaGreatDoorJOa12
import Derived.Test.YtelhoppfidibiaaGreatDoorJOa09
namespace Go.Proofs.YtelhoppfidibiaaGreatDoor
open Go.RowKit
set_option linter.unusedVariables false
set_option linter.unusedSimpArgs false

theorem head_block {w w2 : World} {t : TypeId} (h : Ext (w.alloc (.cells #[.int .i64 0, .int .i64 0, .int .i64 0, .int .i64 0] t)) w2) :
    w2.cell? ⟨w.heap.size, 0, none⟩ = some (.int .i64 0) ∧ w2.cell? ⟨w.heap.size, 1, none⟩ = some (.int .i64 0) ∧ w2.cell? ⟨w.heap.size, 2, none⟩ = some (.int .i64 0) ∧ w2.cell? ⟨w.heap.size, 3, none⟩ = some (.int .i64 0) ∧
    w2.frozen? ⟨w.heap.size, 0, none⟩ = false ∧ w2.frozen? ⟨w.heap.size, 1, none⟩ = false ∧ w2.frozen? ⟨w.heap.size, 2, none⟩ = false ∧ w2.frozen? ⟨w.heap.size, 3, none⟩ = false := by
  refine ⟨h.cell_ (by simp [go_sem]), h.cell_ (by simp [go_sem]), h.cell_ (by simp [go_sem]), h.cell_ (by simp [go_sem]), ?_, ?_, ?_, ?_⟩ <;> (rw [h.three.2.1 _ _ (by simp)]; simp [go_sem])
/-- Four cells of a block are stored. -/
theorem head_set {w3 : World} {B : Nat} (hz : B < w3.heap.size) {a0 a1 a2 a3 : Value} (t0 : w3.cell? ⟨B, 0, none⟩ = some a0) (t1 : w3.cell? ⟨B, 1, none⟩ = some a1) (t2 : w3.cell? ⟨B, 2, none⟩ = some a2) (t3 : w3.cell? ⟨B, 3, none⟩ = some a3)
    (u0 : w3.frozen? ⟨B, 0, none⟩ = false) (u1 : w3.frozen? ⟨B, 1, none⟩ = false) (u2 : w3.frozen? ⟨B, 2, none⟩ = false) (u3 : w3.frozen? ⟨B, 3, none⟩ = false) (k a m s : Int) :
    let w4 := (((w3.setCell ⟨B, 0, none⟩ (.int .i64 k)).setCell ⟨B, 1, none⟩ (.int .i64 a)).setCell ⟨B, 2, none⟩ (.int .i64 m)).setCell ⟨B, 3, none⟩ (.int .i64 s)
    w4.cell? ⟨B, 0, none⟩ = some (.int .i64 k) ∧ w4.cell? ⟨B, 1, none⟩ = some (.int .i64 a) ∧ w4.cell? ⟨B, 2, none⟩ = some (.int .i64 m) ∧ w4.cell? ⟨B, 3, none⟩ = some (.int .i64 s) ∧
    w4.frozen? ⟨B, 0, none⟩ = false ∧ w4.frozen? ⟨B, 1, none⟩ = false ∧ w4.frozen? ⟨B, 2, none⟩ = false ∧ w4.frozen? ⟨B, 3, none⟩ = false ∧ Below B w3 w4 := by
  intro w4
  refine ⟨?_, ?_, ?_, ?_, ?_, ?_, ?_, ?_, ?_⟩
  · show (((( _ : World)).setCell _ _).setCell _ _).cell? _ = _
    rw [cell_set_off (by decide), cell_set_off (by decide), cell_set_off (by decide)]
    exact cell_set_same t0
  · show (((( _ : World)).setCell _ _).setCell _ _).cell? _ = _
    rw [cell_set_off (by decide), cell_set_off (by decide)]
    exact cell_set_same (by rw [cell_set_off (by decide)]; exact t1)
  · show (((( _ : World)).setCell _ _).setCell _ _).cell? _ = _
    rw [cell_set_off (by decide)]
    exact cell_set_same (by rw [cell_set_off (by decide), cell_set_off (by decide)]; exact t2)
  · exact cell_set_same (by rw [cell_set_off (by decide), cell_set_off (by decide), cell_set_off (by decide)]; exact t3)
  · simp [w4, go_sem, u0]
  · simp [w4, go_sem, u1]
  · simp [w4, go_sem, u2]
  · simp [w4, go_sem, u3]
  · have q0 : Below B w3 (w3.setCell ⟨B, 0, none⟩ (.int .i64 k)) := Below.setCell (p := ⟨B, 0, none⟩) (Below.refl B w3) (Nat.le_refl B) _
    have q1 := Below.setCell (p := ⟨B, 1, none⟩) q0 (Nat.le_refl B) (.int .i64 a)
    have q2 := Below.setCell (p := ⟨B, 2, none⟩) q1 (Nat.le_refl B) (.int .i64 m)
    exact Below.setCell (p := ⟨B, 3, none⟩) q2 (Nat.le_refl B) (.int .i64 s)
theorem named_body {P : Program} {f : Func} {Q : Ending → World → Prop} {x : Exit} {a : Act} {W : World} (h : ∀ W9, W9 = W → bodyPost P f Q x a W9) : bodyPost P f Q x a W := h W rfl
/- The walk of Memory.find. -/
/-- Where find finds. -/
structure Found (M : Mem) (p f : Int) (x : Ob) (k : Nat) : Prop where
  chk : chk M = 0
  kind : kindW p = 0
  nz : p ≠ 0
  mem : x ∈ objsAll M
  place : placeW p = (x.a : Int)
  inst : inSt (startsM M) (x.a : Int) = true
  fld : f = (k : Int)
  lt : k < x.n
  size : (x.n : Int) = hSize x.w
  small : hSize x.w ≤ 4096
  word : x.w = wat M.W x.a
  into : x.a + 1 + k < M.W.length
/- The walk of Memory.Put. -/
end Go.Proofs.YtelhoppfidibiaaGreatDoor
