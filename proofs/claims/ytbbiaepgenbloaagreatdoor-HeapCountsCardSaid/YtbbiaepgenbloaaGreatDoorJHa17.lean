/- The walk of Memory.Object. -/
import Derived.Test.YtbbiaepgenbloaaGreatDoorJHa12
import Derived.Test.YtbbiaepgenbloaaGreatDoorJHa09
namespace Go.Proofs.YtbbiaepgenbloaaGreatDoor
open Go.RowKit
set_option linter.unusedVariables false
set_option linter.unusedSimpArgs false

/-- Does a word point to an object? -/
def ptB (st : List Int) (a : Int) : Bool := (kindW a == 0) && (a != 0) && inSt st (placeW a)
abbrev head0 : Value := .agg #[.int .i64 0, .int .i64 0, .int .i64 0, .int .i64 0]
theorem head_block {w w2 : World} {t : TypeId} (h : Ext (w.alloc (.cells #[.int .i64 0, .int .i64 0, .int .i64 0, .int .i64 0] t)) w2) :
    w2.cell? ⟨w.heap.size, 0, none⟩ = some (.int .i64 0) ∧ w2.cell? ⟨w.heap.size, 1, none⟩ = some (.int .i64 0) ∧ w2.cell? ⟨w.heap.size, 2, none⟩ = some (.int .i64 0) ∧ w2.cell? ⟨w.heap.size, 3, none⟩ = some (.int .i64 0) ∧
    w2.frozen? ⟨w.heap.size, 0, none⟩ = false ∧ w2.frozen? ⟨w.heap.size, 1, none⟩ = false ∧ w2.frozen? ⟨w.heap.size, 2, none⟩ = false ∧ w2.frozen? ⟨w.heap.size, 3, none⟩ = false := by
  refine ⟨h.cell_ (by simp [go_sem]), h.cell_ (by simp [go_sem]), h.cell_ (by simp [go_sem]), h.cell_ (by simp [go_sem]), ?_, ?_, ?_, ?_⟩ <;> (rw [h.three.2.1 _ _ (by simp)]; simp [go_sem])
/-- Four cells of a block are stored. -/
theorem head_set {w3 : World} {B : Nat} (hz : B < w3.heap.size) {a0 a1 a2 a3 : Value} (t0 : w3.cell? ⟨B, 0, none⟩ = some a0) (t1 : w3.cell? ⟨B, 1, none⟩ = some a1) (t2 : w3.cell? ⟨B, 2, none⟩ = some a2) (t3 : w3.cell? ⟨B, 3, none⟩ = some a3)
    (u0 : w3.frozen? ⟨B, 0, none⟩ = false) (u1 : w3.frozen? ⟨B, 1, none⟩ = false) (u2 : w3.frozen? ⟨B, 2, none⟩ = false) (u3 : w3.frozen? ⟨B, 3, none⟩ = false) (k a m s : Int) :
    let w4 := (((w3.setCell ⟨B, 0, none⟩ (.int .i64 k)).setCell ⟨B, 1, none⟩ (.int .i64 a)).setCell ⟨B, 2, none⟩ (.int .i64 m)).setCell ⟨B, 3, none⟩ (.int .i64 s)
    w4.cell? ⟨B, 0, none⟩ = some (.int .i64 k) ∧ w4.cell? ⟨B, 1, none⟩ = some (.int .i64 a) ∧ w4.cell? ⟨B, 2, none⟩ = some (.int .i64 m) ∧ w4.cell? ⟨B, 3, none⟩ = some (.int .i64 s) ∧
    w4.frozen? ⟨B, 0, none⟩ = false ∧ w4.frozen? ⟨B, 1, none⟩ = false ∧ w4.frozen? ⟨B, 2, none⟩ = false ∧ w4.frozen? ⟨B, 3, none⟩ = false ∧ Below B w3 w4 := by
  intro w4
  refine ⟨?_, ?_, ?_, ?_, ?_, ?_, ?_, ?_, ?_⟩
  · show (((( _ : World)).setCell _ _).setCell _ _).cell? _ = _
    rw [cell_set_off (by decide), cell_set_off (by decide), cell_set_off (by decide)]
    exact cell_set_same t0
  · show (((( _ : World)).setCell _ _).setCell _ _).cell? _ = _
    rw [cell_set_off (by decide), cell_set_off (by decide)]
    exact cell_set_same (by rw [cell_set_off (by decide)]; exact t1)
  · show (((( _ : World)).setCell _ _).setCell _ _).cell? _ = _
    rw [cell_set_off (by decide)]
    exact cell_set_same (by rw [cell_set_off (by decide), cell_set_off (by decide)]; exact t2)
  · exact cell_set_same (by rw [cell_set_off (by decide), cell_set_off (by decide), cell_set_off (by decide)]; exact t3)
  · simp [w4, go_sem, u0]
  · simp [w4, go_sem, u1]
  · simp [w4, go_sem, u2]
  · simp [w4, go_sem, u3]
  · have q0 : Below B w3 (w3.setCell ⟨B, 0, none⟩ (.int .i64 k)) := Below.setCell (p := ⟨B, 0, none⟩) (Below.refl B w3) (Nat.le_refl B) _
    have q1 := Below.setCell (p := ⟨B, 1, none⟩) q0 (Nat.le_refl B) (.int .i64 a)
    have q2 := Below.setCell (p := ⟨B, 2, none⟩) q1 (Nat.le_refl B) (.int .i64 m)
    exact Below.setCell (p := ⟨B, 3, none⟩) q2 (Nat.le_refl B) (.int .i64 s)
theorem named_body {P : Program} {f : Func} {Q : Ending → World → Prop} {x : Exit} {a : Act} {W : World} (h : ∀ W9, W9 = W → bodyPost P f Q x a W9) : bodyPost P f Q x a W := h W rfl
theorem pt_ob {M : Mem} {a : Int} (h : ptB (startsM M) a = true) : kindW a = 0 ∧ a ≠ 0 ∧ ∃ x, x ∈ objsAll M ∧ placeW a = (x.a : Int) ∧ inSt (startsM M) (x.a : Int) = true := by
  simp only [ptB, Bool.and_eq_true, beq_iff_eq, bne_iff_ne] at h
  obtain ⟨⟨h1, h2⟩, h3⟩ := h
  obtain ⟨x, hx, e⟩ := List.mem_map.1 (List.contains_iff_mem.1 h3)
  exact ⟨h1, h2, x, hx, e.symm, by rw [e]; exact h3⟩
/-- What find answers: an error's number. -/
def findC (M : Mem) (p f : Int) : Int :=
  if chk M ≠ 0 then chk M else if ptB (startsM M) p = false then 5 else if f < 0 ∨ hSize (wat M.W (placeW p).toNat) ≤ f then 2 else 0
def FNo (w : World) (v : Value) (e : Ending) (w' : World) : Prop := e = .returned (.tuple #[.int .i64 0, head0, v]) ∧ Ext w w'
/-- What find gives. -/
def FYes (w : World) (x : Ob) (f : Int) (e : Ending) (w' : World) : Prop := e = .returned (.tuple #[.int .i64 ((x.a : Int) + 1 + f), headV x.w, .nilIface]) ∧ Ext w w'
/-- Whatever find answers that is an error. -/
def FErr (M : Mem) (E : Nat → Addr) (p f : Int) (w : World) (e : Ending) (w' : World) : Prop := ∃ a, errC E (findC M p f) = errV a ∧ e = .returned (.tuple #[.int .i64 0, head0, errV a]) ∧ Ext w w'
/-- Where find finds. -/
structure Found (M : Mem) (p f : Int) (x : Ob) (k : Nat) : Prop where
  chk : chk M = 0
  kind : kindW p = 0
  nz : p ≠ 0
  mem : x ∈ objsAll M
  place : placeW p = (x.a : Int)
  inst : inSt (startsM M) (x.a : Int) = true
  fld : f = (k : Int)
  lt : k < x.n
  size : (x.n : Int) = hSize x.w
  small : hSize x.w ≤ 4096
  word : x.w = wat M.W x.a
  into : x.a + 1 + k < M.W.length
theorem find_found {M : Mem} (hok : M.Ok) {p f : Int} (h : findC M p f = 0) : ∃ x k, Found M p f x k := by
  unfold findC at h
  by_cases hc : chk M = 0
  · rw [if_neg (by simp [hc])] at h
    cases hp : ptB (startsM M) p with
    | false => rw [hp] at h; simp at h
    | true =>
      rw [if_neg (by simp [hp])] at h
      obtain ⟨hk, hz, x, hx, hpl, hin⟩ := pt_ob hp
      obtain ⟨hs, -⟩ := good_parts (chk_zero hc).1
      have hob := obM_of hx
      have hxw : x.w = wat M.W x.a ∧ isHd x.w = true := by rcases hob with g | g <;> exact ⟨g.w, g.hd⟩
      have hsz := ((isHd_iff x.w).1 hxw.2).2.2
      have h00 := (hd_in x.w (by rw [hxw.1]; exact (wat_in hok _).1)).2.2.2.2.2.2
      rw [hpl, Int.toNat_natCast, ← hxw.1] at h
      by_cases hb : f < 0 ∨ hSize x.w ≤ f
      · rw [if_pos hb] at h; simp at h
      · have hn : (x.n : Int) = hSize x.w := by unfold Ob.n; omega
        have hto : x.a + 1 + x.n ≤ M.W.length := by
          have h1 := hs.h1; have h2 := hs.t2; have h3 := hs.p2; have h4 := hs.w; have h5 := hs.base; have h6 := hs.o2; have h7 := hs.t1; have h8 := hs.p1
          rcases hob with g | g
          · have := g.to; omega
          · have := g.to; omega
        refine ⟨x, f.toNat, hc, hk, hz, hx, hpl, hin, by omega, by omega, hn, hsz, hxw.1, by omega⟩
  · rw [if_pos hc] at h; exact absurd h hc
/- The walk of Memory.Put. -/
end Go.Proofs.YtbbiaepgenbloaaGreatDoor
