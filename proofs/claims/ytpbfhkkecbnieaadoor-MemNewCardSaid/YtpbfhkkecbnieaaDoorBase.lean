/- The words of all walks: what a call may leave behind; what the package-level errors hold. -/
import Derived.Test.YtpbfhkkecbnieaaDoorProg
import Derived.WalkKit
import Derived.Deep.QuietTactic
import Derived.BigQuiet
import Derived.Lib.Hide
namespace Go.Proofs.YtpbfhkkecbnieaaDoor
open Go.RowKit
set_option linter.unusedVariables false
set_option linter.unusedSimpArgs false

/-- What was there before the call stands: new blocks and draws alone. -/
abbrev Ext (w w' : World) : Prop := Below w.heap.size w w'
theorem Ext.refl (w : World) : Ext w w := Below.refl _ _
theorem ext_drewN (w : World) (n : Nat) : Ext w (w.drewN n) := ⟨rfl, rfl, rfl, Nat.le_refl _, fun _ _ => rfl⟩

/-- An error as errors.New makes it: its type, its place. -/
abbrev errV (a : Addr) : Value := .iface 286 (.pointer (some a))
/-- What the package-level errors hold. -/
abbrev GBound (w : World) (a : Addr) : Prop := w.cell? ⟨0, 0, none⟩ = some (errV a)
abbrev GShape (w : World) (a : Addr) : Prop := w.cell? ⟨1, 0, none⟩ = some (errV a)
abbrev GPlace (w : World) (a : Addr) : Prop := w.cell? ⟨3, 0, none⟩ = some (errV a)
abbrev GFull (w : World) (a : Addr) : Prop := w.cell? ⟨2, 0, none⟩ = some (errV a)
theorem cell_lt {w : World} {p : Addr} {v : Value} (h : w.cell? p = some v) : p.block < w.heap.size := by
  rcases Nat.lt_or_ge p.block w.heap.size with g | g
  · exact g
  · simp [World.cell?, Array.getElem?_eq_none g] at h
theorem Ext.cell_ {w w' : World} (h : Ext w w') {p : Addr} {v : Value} (hc : w.cell? p = some v) : w'.cell? p = some v := by
  rw [Below.cell h (cell_lt hc)]; exact hc
theorem Ext.trans_ {a b c : World} (h : Ext a b) (k : Ext b c) : Ext a c := Below.trans h (k.mono h.size)
theorem Ext.alloc_ {a b : World} (h : Ext a b) (o : Obj) : Ext a (b.alloc o) := Below.alloc h h.size o
theorem Ext.drewN_ {a b : World} (h : Ext a b) (n : Nat) : Ext a (b.drewN n) := h.trans_ (ext_drewN _ _)
theorem Ext.drew_ {a b : World} (h : Ext a b) : Ext a b.drew := Below.drew h
theorem Ext.set_ {a b : World} (h : Ext a b) {p : Addr} (hp : a.heap.size ≤ p.block) (u : Value) : Ext a (b.setCell p u) := Below.setCell h hp u

/-- What a walk wants behind a call: old cells, old marks, the heap's size. -/
theorem Ext.three {W w : World} (h : Ext W w) : (∀ b o, b < W.heap.size → w.cell? ⟨b, o, none⟩ = W.cell? ⟨b, o, none⟩) ∧ (∀ b o, b < W.heap.size → w.frozen? ⟨b, o, none⟩ = W.frozen? ⟨b, o, none⟩) ∧ W.heap.size ≤ w.heap.size :=
  ⟨fun b o hb => h.cell (p := ⟨b, o, none⟩) hb, fun b o hb => h.frozen (p := ⟨b, o, none⟩) hb, h.size⟩

end Go.Proofs.YtpbfhkkecbnieaaDoor
