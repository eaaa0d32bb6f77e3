/- A memory as data, and how a world holds one: read alone. Both struct types (the program's, the reference's) have the same eleven cells. -/
import Derived.Test.YtpbfhkkecbnieaaDoorMaps
import Derived.Test.YtpbfhkkecbnieaaDoorWord3
namespace Go.Proofs.YtpbfhkkecbnieaaDoor
open Go.RowKit
set_option linter.unusedVariables false
set_option linter.unusedSimpArgs false

/-- A memory. -/
structure Mem where
  half : Int
  old : Int
  card : Int
  W : List Int
  used : Int
  top : Int
  oldTop : Int
  roots : List Int
  weak : List Int
  ids : List (Int × Int)
  cards : List Bool

/-- The numbers fit their kinds; lengths fit. -/
structure Mem.Ok (M : Mem) : Prop where
  half : -9223372036854775808 ≤ M.half ∧ M.half ≤ 9223372036854775807
  old : -9223372036854775808 ≤ M.old ∧ M.old ≤ 9223372036854775807
  card : -9223372036854775808 ≤ M.card ∧ M.card ≤ 9223372036854775807
  used : -9223372036854775808 ≤ M.used ∧ M.used ≤ 9223372036854775807
  top : -9223372036854775808 ≤ M.top ∧ M.top ≤ 9223372036854775807
  oldTop : -9223372036854775808 ≤ M.oldTop ∧ M.oldTop ≤ 9223372036854775807
  W : ∀ x ∈ M.W, 0 ≤ x ∧ x ≤ 18446744073709551615
  roots : ∀ x ∈ M.roots, 0 ≤ x ∧ x ≤ 18446744073709551615
  weak : ∀ x ∈ M.weak, 0 ≤ x ∧ x ≤ 18446744073709551615
  ids : ∀ x ∈ M.ids, (0 ≤ x.1 ∧ x.1 ≤ 18446744073709551615) ∧ (-9223372036854775808 ≤ x.2 ∧ x.2 ≤ 9223372036854775807)
  lenW : M.W.length ≤ 9223372036854775807
  lenR : M.roots.length ≤ 9223372036854775807
  lenK : M.weak.length ≤ 9223372036854775807
  lenI : M.ids.length ≤ 9223372036854775807
  lenC : M.cards.length ≤ 9223372036854775807

/-- Words, pairs, bools as cells. -/
def wcells (l : List Int) : List Value := l.map fun x => Value.int .u64 x
def icells (l : List (Int × Int)) : List Value := l.flatMap fun x => [Value.int .u64 x.1, Value.int .i64 x.2]
def bcells (l : List Bool) : List Value := l.map fun x => Value.bool x

/-- The address of a slice reads as these cells. -/
def RSl (w : World) (a : Option Addr) (cs : List Value) : Prop :=
  ∀ j u, cs[j]? = some u → ∃ b off, a = some ⟨b, off, none⟩ ∧ w.cell? ⟨b, off + j, none⟩ = some u
theorem RSl.ext {w w' : World} {a : Option Addr} {cs : List Value} (h : RSl w a cs) (hx : Ext w w') : RSl w' a cs := fun j u hu => by
  obtain ⟨b, off, ha, hc⟩ := h j u hu
  exact ⟨b, off, ha, hx.cell_ hc⟩
theorem RSl.nil (w : World) (a : Option Addr) : RSl w a [] := fun j u h => by simp at h
/-- The cell at an index, in the walk's spelling. -/
theorem RSl.at_ {w : World} {b off : Nat} {cs : List Value} (h : RSl w (some ⟨b, off, none⟩) cs) {j : Nat} {u : Value} (hu : cs[j]? = some u) : w.cell? ⟨b, off + j, none⟩ = some u := by
  obtain ⟨b', off', ha, hc⟩ := h j u hu
  injection ha with ha; injection ha with h1 h2
  subst h1 h2; exact hc
theorem RSl.some_ {w : World} {a : Option Addr} {cs : List Value} (h : RSl w a cs) (hn : 0 < cs.length) : ∃ b off, a = some ⟨b, off, none⟩ := by
  obtain ⟨b, off, ha, _⟩ := h 0 cs[0] (by simp [hn])
  exact ⟨b, off, ha⟩

/-- Where a memory's slices lie: address and capacity. -/
structure Sls where
  W : Option Addr × Nat
  R : Option Addr × Nat
  K : Option Addr × Nat
  I : Option Addr × Nat
  C : Option Addr × Nat

/-- A world holds a memory at a place. -/
structure RMem (w : World) (b o : Nat) (M : Mem) (S : Sls) : Prop where
  half : w.cell? ⟨b, o, none⟩ = some (.int .i64 M.half)
  old : w.cell? ⟨b, o + 1, none⟩ = some (.int .i64 M.old)
  card : w.cell? ⟨b, o + 2, none⟩ = some (.int .i64 M.card)
  W : w.cell? ⟨b, o + 3, none⟩ = some (.slice S.W.1 M.W.length S.W.2)
  used : w.cell? ⟨b, o + 4, none⟩ = some (.int .i64 M.used)
  top : w.cell? ⟨b, o + 5, none⟩ = some (.int .i64 M.top)
  oldTop : w.cell? ⟨b, o + 6, none⟩ = some (.int .i64 M.oldTop)
  roots : w.cell? ⟨b, o + 7, none⟩ = some (.slice S.R.1 M.roots.length S.R.2)
  weak : w.cell? ⟨b, o + 8, none⟩ = some (.slice S.K.1 M.weak.length S.K.2)
  ids : w.cell? ⟨b, o + 9, none⟩ = some (.slice S.I.1 M.ids.length S.I.2)
  cards : w.cell? ⟨b, o + 10, none⟩ = some (.slice S.C.1 M.cards.length S.C.2)
  rW : RSl w S.W.1 (wcells M.W)
  rR : RSl w S.R.1 (wcells M.roots)
  rK : RSl w S.K.1 (wcells M.weak)
  rI : RSl w S.I.1 (icells M.ids)
  rC : RSl w S.C.1 (bcells M.cards)
  capW : M.W.length ≤ S.W.2
  capR : M.roots.length ≤ S.R.2
  capK : M.weak.length ≤ S.K.2
  capI : M.ids.length ≤ S.I.2
  capC : M.cards.length ≤ S.C.2
  nilW : S.W.1 = none → S.W.2 = 0
  nilR : S.R.1 = none → S.R.2 = 0
  nilK : S.K.1 = none → S.K.2 = 0
  nilI : S.I.1 = none → S.I.2 = 0
  nilC : S.C.1 = none → S.C.2 = 0
  ok : M.Ok

theorem RMem.ext {w w' : World} {b o : Nat} {M : Mem} {S : Sls} (h : RMem w b o M S) (hx : Ext w w') : RMem w' b o M S :=
  ⟨hx.cell_ h.half, hx.cell_ h.old, hx.cell_ h.card, hx.cell_ h.W, hx.cell_ h.used, hx.cell_ h.top, hx.cell_ h.oldTop, hx.cell_ h.roots, hx.cell_ h.weak, hx.cell_ h.ids, hx.cell_ h.cards,
    h.rW.ext hx, h.rR.ext hx, h.rK.ext hx, h.rI.ext hx, h.rC.ext hx, h.capW, h.capR, h.capK, h.capI, h.capC, h.nilW, h.nilR, h.nilK, h.nilI, h.nilC, h.ok⟩
theorem RMem.lt {w : World} {b o : Nat} {M : Mem} {S : Sls} (h : RMem w b o M S) : b < w.heap.size := cell_lt h.half

/-- Is a number between two others? -/
def inR (a lo hi : Int) : Bool := decide (lo ≤ a) && decide (a ≤ hi)
theorem inR_true {a lo hi : Int} : inR a lo hi = true ↔ lo ≤ a ∧ a ≤ hi := by simp [inR]
theorem inR_false {a lo hi : Int} : inR a lo hi = false ↔ ¬ (lo ≤ a ∧ a ≤ hi) := by
  rw [← inR_true]; cases inR a lo hi <;> simp

/-- Lengths and tops are right. -/
def shapeB (M : Mem) : Bool :=
  inR M.half 1 65536 && inR M.old 1 65536 && inR M.card 1 1024 && ((M.W.length : Int) == 2 * M.half + M.old) && inR M.used 0 1 && inR M.top 0 M.half && inR M.oldTop 0 M.old && ((M.cards.length : Int) == (M.old + M.card - 1) / M.card)
end Go.Proofs.YtpbfhkkecbnieaaDoor
