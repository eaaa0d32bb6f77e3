/- How the document's goer lies in memory: its states, what is still to be gone through. -/
import Derived.Test.YtgjjkllngopboaaDoorJCa08
import Derived.Test.YtgjjkllngopboaaDoorJCa04
import Derived.Test.YtgjjkllngopboaaDoorJCa05
import Derived.Test.YtgjjkllngopboaaDoorJCa22
namespace Go.Proofs.YtgjjkllngopboaaDoor
open Go.RowKit
set_option linter.unusedVariables false
set_option linter.unusedSimpArgs false

/-- The function that comes with a goer, by value. -/
structure RGo (w : World) (K : Nat) (f : FnP) (v : OpsV) : Prop where
  f0 : w.cell? ⟨K, 0, none⟩ = some (.string f.name)
  f1 : w.cell? ⟨K, 1, none⟩ = some (.int .i64 f.params)
  f2 : w.cell? ⟨K, 2, none⟩ = some (.int .i64 f.locals)
  f3 : w.cell? ⟨K, 3, none⟩ = some (.int .i64 f.cells)
  f4 : w.cell? ⟨K, 4, none⟩ = some (.int .i64 f.frees)
  f5 : w.cell? ⟨K, 5, none⟩ = some (.slice v.1 f.ops.length v.2)
structure OGo (w : World) (B K sb : Nat) (f : FnP) (v : OpsV) (tv : Value) (g : GoP) : Prop where
  R : RGo w K f v
  k6 : w.cell? ⟨K, 6, none⟩ = some (.slice (some ⟨sb, 0, none⟩) g.s.length g.s.length)
  k7 : w.cell? ⟨K, 7, none⟩ = some tv
  k8 : w.cell? ⟨K, 8, none⟩ = some (.bool (!g.ok))
  blkK : ∃ cur t, w.heap[K]? = some (.cells cur t (0, 0))
  blkS : ∃ cur t, w.heap[sb]? = some (.cells cur t (0, 0))
  ops : RSl w v.1 (opCells f.ops)
  todo : Tail w B 3 tv (natsV g.todo)
  st : ∀ i, i < g.s.length → ∃ a cp, StAt w sb i (seenP g.s i) a cp ∧ StFree w K sb tv a
  hK : B ≤ K
  hS : B ≤ sb
  hB : B ≤ w.heap.size
  ne : K ≠ sb
  nK : tv.ownBlock ≠ some K
  nS : tv.ownBlock ≠ some sb
  ho : f.ops ≠ [] → ∀ y, v.1 = some y → y.block < B
theorem ops_ne {l : List OpP} {j : Nat} {u : Value} (h : (opCells l)[j]? = some u) : l ≠ [] := fun e => by subst e; simp [opCells] at h
section
variable {w w' : World} {B K sb : Nat} {f : FnP} {v : OpsV} {tv : Value} {g : GoP}
theorem OGo.lt (h : OGo w B K sb f v tv g) : K < w.heap.size ∧ sb < w.heap.size := ⟨cell_lt h.k8, by
  obtain ⟨cur, t, hc⟩ := h.blkS
  exact lt_of_block hc⟩
theorem OGo.froK (h : OGo w B K sb f v tv g) (j : Nat) : w.frozen? ⟨K, j, none⟩ = false := by
  obtain ⟨cur, t, hc⟩ := h.blkK
  simp [World.frozen?, hc]
theorem OGo.froS (h : OGo w B K sb f v tv g) (j : Nat) : w.frozen? ⟨sb, j, none⟩ = false := by
  obtain ⟨cur, t, hc⟩ := h.blkS
  simp [World.frozen?, hc]
/-- A step that leaves all its blocks alone. -/
theorem OGo.kept (h : OGo w B K sb f v tv g) (hs : w.heap.size ≤ w'.heap.size) (hk : ∀ k, k < w.heap.size → w'.heap[k]? = w.heap[k]?) : OGo w' B K sb f v tv g := by
  have hc : ∀ b o u, w.cell? ⟨b, o, none⟩ = some u → w'.cell? ⟨b, o, none⟩ = some u := fun b o u q => by
    rw [World.cell?_of_block (w := w) (a := ⟨b, o, none⟩) (hk b (cell_lt q))]; exact q
  obtain ⟨l1, l2⟩ := h.lt
  refine ⟨⟨hc _ _ _ h.R.f0, hc _ _ _ h.R.f1, hc _ _ _ h.R.f2, hc _ _ _ h.R.f3, hc _ _ _ h.R.f4, hc _ _ _ h.R.f5⟩,
    hc _ _ _ h.k6, hc _ _ _ h.k7, hc _ _ _ h.k8, by rw [hk K l1]; exact h.blkK, by rw [hk sb l2]; exact h.blkS,
    fun j u hu => ?_, h.todo.kept fun k hkk => hk k (h.todo.lt hkk).2, fun i hi => ?_, h.hK, h.hS, Nat.le_trans h.hB hs, h.ne, h.nK, h.nS, h.ho⟩
  · obtain ⟨b, o, e, q⟩ := h.ops j u hu
    exact ⟨b, o, e, hc _ _ _ q⟩
  · obtain ⟨a, cp, h1, h2⟩ := h.st i hi
    refine ⟨a, cp, h1.kept (fun o u q _ => hc _ _ _ q) ⟨fun j u hu => ?_, h1.row.cap, h1.row.nil⟩, h2.mono hs⟩
    obtain ⟨b, o, e, q⟩ := h1.row.row j u hu
    exact ⟨b, o, e, hc _ _ _ q⟩
theorem OGo.ext (h : OGo w B K sb f v tv g) (hx : Ext w w') : OGo w' B K sb f v tv g := h.kept hx.size fun k hk => hx.block k hk
/-- A store into the checker's own block, at 7 or 8. -/
theorem OGo.setK (h : OGo w B K sb f v tv g) (o : Nat) (ho : o = 7 ∨ o = 8) (u : Value) :
    RGo (w.setCell ⟨K, o, none⟩ u) K f v ∧ (w.setCell ⟨K, o, none⟩ u).cell? ⟨K, 6, none⟩ = some (.slice (some ⟨sb, 0, none⟩) g.s.length g.s.length) ∧
    (∃ cur t, (w.setCell ⟨K, o, none⟩ u).heap[K]? = some (.cells cur t (0, 0))) ∧ (∃ cur t, (w.setCell ⟨K, o, none⟩ u).heap[sb]? = some (.cells cur t (0, 0))) ∧
    RSl (w.setCell ⟨K, o, none⟩ u) v.1 (opCells f.ops) ∧ Tail (w.setCell ⟨K, o, none⟩ u) B 3 tv (natsV g.todo) ∧
    (∀ i, i < g.s.length → ∃ a cp, StAt (w.setCell ⟨K, o, none⟩ u) sb i (seenP g.s i) a cp ∧ StFree (w.setCell ⟨K, o, none⟩ u) K sb tv a) := by
  have hb : ∀ k, k ≠ K → (w.setCell ⟨K, o, none⟩ u).heap[k]? = w.heap[k]? := fun k hk => heap_setCell_other w ⟨K, o, none⟩ k u hk
  have hc : ∀ b p x, b ≠ K → w.cell? ⟨b, p, none⟩ = some x → (w.setCell ⟨K, o, none⟩ u).cell? ⟨b, p, none⟩ = some x := fun b p x e q => by
    rw [World.cell?_of_block (w := w) (a := ⟨b, p, none⟩) (hb b e)]; exact q
  have hK : ∀ p x, p ≠ 7 → p ≠ 8 → w.cell? ⟨K, p, none⟩ = some x → (w.setCell ⟨K, o, none⟩ u).cell? ⟨K, p, none⟩ = some x := fun p x e1 e2 q => by
    rw [cell_set_off (by omega)]; exact q
  refine ⟨⟨hK _ _ (by omega) (by omega) h.R.f0, hK _ _ (by omega) (by omega) h.R.f1, hK _ _ (by omega) (by omega) h.R.f2, hK _ _ (by omega) (by omega) h.R.f3, hK _ _ (by omega) (by omega) h.R.f4, hK _ _ (by omega) (by omega) h.R.f5⟩, hK _ _ (by omega) (by omega) h.k6, blk_set h.blkK,
    by rw [hb sb (Ne.symm h.ne)]; exact h.blkS, fun j x hx => ?_, h.todo.kept fun k hk => hb k (fun e => h.nK (by rw [hk, e])), fun i hi => ?_⟩
  · obtain ⟨b, p, e, q⟩ := h.ops j x hx
    have h1 : b < B := h.ho (ops_ne hx) _ e
    have := h.hK
    exact ⟨b, p, e, hc _ _ _ (by omega) q⟩
  · obtain ⟨a, cp, h1, h2⟩ := h.st i hi
    exact ⟨a, cp, h1.kept (fun p x q _ => hc _ _ _ (Ne.symm h.ne) q) (h1.row.cells fun y hy => hb _ (h2 y hy).2.1), h2.mono (by simp [World.setCell])⟩
theorem OGo.bad (h : OGo w B K sb f v tv g) : OGo (w.setCell ⟨K, 8, none⟩ (.bool true)) B K sb f v tv { g with ok := false } := by
  obtain ⟨q1, q3, q4, q5, q7, q8, q9⟩ := h.setK 8 (Or.inr rfl) (.bool true)
  exact ⟨q1, q3, by rw [cell_set_off (by omega)]; exact h.k7, cell_set_same h.k8, q4, q5, q7, q8, q9, h.hK, h.hS, by simpa [World.setCell] using h.hB, h.ne, h.nK, h.nS, h.ho⟩
/-- What is still to be gone through stands elsewhere: the field is stored anew. -/
theorem OGo.setTodo (h : OGo w B K sb f v tv g) {tv' : Value} {td : List Nat} (ht : Tail w B 3 tv' (natsV td)) (hn : tv'.ownBlock = tv.ownBlock) :
    OGo (w.setCell ⟨K, 7, none⟩ tv') B K sb f v tv' { g with todo := td } := by
  obtain ⟨q1, q3, q4, q5, q7, q8, q9⟩ := h.setK 7 (Or.inl rfl) tv'
  refine ⟨q1, q3, cell_set_same h.k7, by rw [cell_set_off (by omega)]; exact h.k8, q4, q5, q7, ht.kept fun k hk => heap_setCell_other w ⟨K, 7, none⟩ k tv' (fun e => h.nK (by rw [← hn, hk, e])), ?_, h.hK, h.hS, by simpa [World.setCell] using h.hB, h.ne,
    by rw [hn]; exact h.nK, by rw [hn]; exact h.nS, h.ho⟩
  unfold StFree at q9 ⊢
  rw [hn]
  exact q9
/-- The same behind an append: its row may be new. -/
theorem OGo.pushTodo {w1 : World} (h : OGo w B K sb f v tv g) {tv' : Value} {td : List Nat} (hg : w.grownBy w1 tv.ownBlock) (ht : Tail w1 B 3 tv' (natsV td))
    (hn : ∀ k, tv'.ownBlock = some k → tv.ownBlock = some k ∨ w.heap.size ≤ k) :
    OGo (w1.setCell ⟨K, 7, none⟩ tv') B K sb f v tv' { g with todo := td } := by
  obtain ⟨l1, l2⟩ := h.lt
  have hne : ∀ k, k < w.heap.size → tv.ownBlock ≠ some k → tv'.ownBlock ≠ some k := fun k hk hq e => by
    rcases hn k e with q | q
    · exact hq q
    · omega
  have nK' := hne K l1 h.nK
  have nS' := hne sb l2 h.nS
  have hb1 : ∀ k, k < w.heap.size → tv.ownBlock ≠ some k → w1.heap[k]? = w.heap[k]? := fun k hk hq => hg.block k hk (fun e => hq e.symm)
  have hb : ∀ k, k ≠ K → (w1.setCell ⟨K, 7, none⟩ tv').heap[k]? = w1.heap[k]? := fun k hk => heap_setCell_other w1 ⟨K, 7, none⟩ k tv' hk
  have hc : ∀ b p x, b ≠ K → tv.ownBlock ≠ some b → w.cell? ⟨b, p, none⟩ = some x → (w1.setCell ⟨K, 7, none⟩ tv').cell? ⟨b, p, none⟩ = some x := fun b p x e e2 q => by
    rw [World.cell?_of_block (w := w) (a := ⟨b, p, none⟩) ((hb b e).trans (hb1 b (cell_lt q) e2))]; exact q
  have hK1 : ∀ p x, w.cell? ⟨K, p, none⟩ = some x → w1.cell? ⟨K, p, none⟩ = some x := fun p x q => by
    rw [World.cell?_of_block (w := w) (a := ⟨K, p, none⟩) (hb1 K l1 h.nK)]; exact q
  have hK : ∀ p x, p ≠ 7 → w.cell? ⟨K, p, none⟩ = some x → (w1.setCell ⟨K, 7, none⟩ tv').cell? ⟨K, p, none⟩ = some x := fun p x e1 q => by
    rw [cell_set_off (Ne.symm e1)]; exact hK1 p x q
  have low : ∀ k, k < B → tv.ownBlock ≠ some k := fun k hk e => by have := (h.todo.lt e).1; omega
  refine ⟨⟨hK _ _ (by omega) h.R.f0, hK _ _ (by omega) h.R.f1, hK _ _ (by omega) h.R.f2, hK _ _ (by omega) h.R.f3, hK _ _ (by omega) h.R.f4, hK _ _ (by omega) h.R.f5⟩, hK _ _ (by omega) h.k6, cell_set_same (hK1 _ _ h.k7), hK _ _ (by omega) h.k8,
    blk_set (by rw [hb1 K l1 h.nK]; exact h.blkK), by rw [hb sb (Ne.symm h.ne), hb1 sb l2 h.nS]; exact h.blkS, fun j x hx => ?_,
    ht.kept fun k hk => hb k (fun e => nK' (by rw [hk, e])), fun i hi => ?_, h.hK, h.hS, by have := h.hB; have := hg.size; simp only [World.setCell, Array.size_modify]; omega, h.ne, nK', nS', h.ho⟩
  · obtain ⟨b, p, e, q⟩ := h.ops j x hx
    have h1 := h.ho (ops_ne hx) _ e
    have := h.hK
    exact ⟨b, p, e, hc _ _ _ (by have h2 : b < B := h1; omega) (low b h1) q⟩
  · obtain ⟨a, cp, h1, h2⟩ := h.st i hi
    refine ⟨a, cp, h1.kept (fun p x q _ => hc _ _ _ (Ne.symm h.ne) h.nS q) ?_, fun y hy => ?_⟩
    · refine ⟨fun j u hu => ?_, h1.row.cap, h1.row.nil⟩
      obtain ⟨b, o, e, q⟩ := h1.row.row j u hu
      obtain ⟨r0, r1, r2, r3⟩ := h2 _ e
      exact ⟨b, o, e, hc _ _ _ r1 r3 q⟩
    · obtain ⟨r0, r1, r2, r3⟩ := h2 y hy
      exact ⟨by have := hg.size; simp only [World.setCell, Array.size_modify]; omega, r1, r2, hne _ r0 r3⟩
/-- A state is laid. -/
theorem OGo.setSt (h : OGo w B K sb f v tv g) {i : Nat} (hi : i < g.s.length) (x : StP) {a : Option Addr} {cp : Nat} (hr : RInts w a cp x.2) (hfr : StFree w K sb tv a) :
    OGo (((w.setCell ⟨sb, i * 3, none⟩ (.bool true)).setCell ⟨sb, i * 3 + 1, none⟩ (.int .i64 x.1)).setCell ⟨sb, i * 3 + 2, none⟩ (.slice a x.2.length cp)) B K sb f v tv { g with s := g.s.set i (some x) } := by
  obtain ⟨l1, l2⟩ := h.lt
  obtain ⟨w', hw'⟩ : ∃ w', w' = ((w.setCell ⟨sb, i * 3, none⟩ (.bool true)).setCell ⟨sb, i * 3 + 1, none⟩ (.int .i64 x.1)).setCell ⟨sb, i * 3 + 2, none⟩ (.slice a x.2.length cp) := ⟨_, rfl⟩
  rw [← hw']
  have hsz : w'.heap.size = w.heap.size := by rw [hw']; simp [World.setCell]
  have hb : ∀ k, k ≠ sb → w'.heap[k]? = w.heap[k]? := fun k hk => by
    rw [hw', heap_setCell_other _ ⟨sb, i * 3 + 2, none⟩ k _ hk, heap_setCell_other _ ⟨sb, i * 3 + 1, none⟩ k _ hk, heap_setCell_other _ ⟨sb, i * 3, none⟩ k _ hk]
  have hc : ∀ b p u, b ≠ sb → w.cell? ⟨b, p, none⟩ = some u → w'.cell? ⟨b, p, none⟩ = some u := fun b p u e q => by
    rw [World.cell?_of_block (w := w) (a := ⟨b, p, none⟩) (hb b e)]; exact q
  have hs : ∀ p u, p ≠ i * 3 → p ≠ i * 3 + 1 → p ≠ i * 3 + 2 → w.cell? ⟨sb, p, none⟩ = some u → w'.cell? ⟨sb, p, none⟩ = some u := fun p u e0 e1 e2 q => by
    rw [hw', cell_set_off (Ne.symm e2), cell_set_off (Ne.symm e1), cell_set_off (Ne.symm e0)]; exact q
  obtain ⟨a0, c0, hst, -⟩ := h.st i hi
  have n0 : w'.cell? ⟨sb, i * 3, none⟩ = some (.bool true) := by
    rw [hw', cell_set_off (by omega), cell_set_off (by omega)]; exact cell_set_same hst.s0
  have n1 : w'.cell? ⟨sb, i * 3 + 1, none⟩ = some (.int .i64 x.1) := by
    rw [hw', cell_set_off (by omega)]; exact cell_set_same (x := .int .i64 (((seenP g.s i).map (·.1)).getD 0)) (by rw [cell_set_off (by omega)]; exact hst.s1)
  have n2 : w'.cell? ⟨sb, i * 3 + 2, none⟩ = some (.slice a x.2.length cp) := by
    rw [hw']; exact cell_set_same (x := .slice a0 (((seenP g.s i).map (·.2)).getD []).length c0) (by rw [cell_set_off (by omega), cell_set_off (by omega)]; exact hst.s2)
  have eK := h.ne
  refine ⟨⟨hc _ _ _ eK h.R.f0, hc _ _ _ eK h.R.f1, hc _ _ _ eK h.R.f2, hc _ _ _ eK h.R.f3, hc _ _ _ eK h.R.f4, hc _ _ _ eK h.R.f5⟩,
    by simp only [List.length_set]; exact hc _ _ _ eK h.k6, hc _ _ _ eK h.k7, hc _ _ _ eK h.k8, by rw [hb K eK]; exact h.blkK, by rw [hw']; exact blk_set (blk_set (blk_set h.blkS)), fun j u hu => ?_,
    h.todo.kept fun k hk => hb k (fun e => h.nS (by rw [hk, e])), fun k hk => ?_, h.hK, h.hS, by rw [hsz]; exact h.hB, h.ne, h.nK, h.nS, h.ho⟩
  · obtain ⟨b, p, e, q⟩ := h.ops j u hu
    have h1 := h.ho (ops_ne hu) _ e
    have := h.hS
    exact ⟨b, p, e, hc _ _ _ (by have h2 : b < B := h1; omega) q⟩
  · simp only [List.length_set] at hk
    rw [seenP_set hi]
    by_cases e : i = k
    · subst e
      rw [if_pos rfl]
      refine ⟨a, cp, ⟨n0, n1, n2, hr.cells fun y hy => hb _ (hfr y hy).2.2.1⟩, hfr.mono (Nat.le_of_eq hsz.symm)⟩
    · rw [if_neg e]
      obtain ⟨a1, c1, h1, h2⟩ := h.st k hk
      exact ⟨a1, c1, h1.kept (fun p u q hp => hs _ _ (by omega) (by omega) (by omega) q) (h1.row.cells fun y hy => hb _ (h2 y hy).2.2.1), h2.mono (Nat.le_of_eq hsz.symm)⟩
theorem OGo.stray (h : OGo w B K sb f v tv g) {k : Nat} (hk : w.heap.size ≤ k) : Stray w sb g.s.length k := fun i a m cp hi hc => by
  obtain ⟨a1, c1, h1, h2⟩ := h.st i hi
  have := h1.s2
  rw [hc] at this
  injection this with this
  injection this with this
  have := (h2 a this.symm).1
  omega
/-- A store into a block that has nothing to do with the checker. -/
theorem OGo.aside (h : OGo w B K sb f v tv g) {k : Nat} (hs : Stray w sb g.s.length k) (h1 : k ≠ K) (h2 : k ≠ sb) (h3 : tv.ownBlock ≠ some k) (h4 : B ≤ k) (o : Nat) (u : Value) : OGo (w.setCell ⟨k, o, none⟩ u) B K sb f v tv g := by
  have hb : ∀ j, j ≠ k → (w.setCell ⟨k, o, none⟩ u).heap[j]? = w.heap[j]? := fun j hj => heap_setCell_other w ⟨k, o, none⟩ j u hj
  have hc : ∀ b p x, b ≠ k → w.cell? ⟨b, p, none⟩ = some x → (w.setCell ⟨k, o, none⟩ u).cell? ⟨b, p, none⟩ = some x := fun b p x e q => by
    rw [World.cell?_of_block (w := w) (a := ⟨b, p, none⟩) (hb b e)]; exact q
  have eK := Ne.symm h1
  refine ⟨⟨hc _ _ _ eK h.R.f0, hc _ _ _ eK h.R.f1, hc _ _ _ eK h.R.f2, hc _ _ _ eK h.R.f3, hc _ _ _ eK h.R.f4, hc _ _ _ eK h.R.f5⟩,
    hc _ _ _ eK h.k6, hc _ _ _ eK h.k7, hc _ _ _ eK h.k8, by rw [hb K eK]; exact h.blkK, by rw [hb sb (Ne.symm h2)]; exact h.blkS, fun j x hx => ?_,
    h.todo.kept fun j hj => hb j (fun e => h3 (by rw [hj, e])), fun i hi => ?_, h.hK, h.hS, by simpa [World.setCell] using h.hB, h.ne, h.nK, h.nS, h.ho⟩
  · obtain ⟨b, p, e, q⟩ := h.ops j x hx
    have h1 : b < B := h.ho (ops_ne hx) _ e
    exact ⟨b, p, e, hc _ _ _ (by omega) q⟩
  · obtain ⟨a, cp, h1, h2'⟩ := h.st i hi
    exact ⟨a, cp, h1.kept (fun p x q _ => hc _ _ _ (Ne.symm h2) q) (h1.row.cells fun y hy => hb _ (hs i y _ _ hi (by rw [← hy]; exact h1.s2))), h2'.mono (by simp [World.setCell])⟩
end
set_option maxRecDepth 100000 in
set_option maxHeartbeats 2000000 in
theorem sameInts_any (a b : Option Addr) (c d : Nat) (l l2 : List Int) (w : World) (h1 : RInts w a c l) (h2 : RInts w b d l2) (hm : l.length ≤ 1000000) (hm2 : l2.length ≤ 1000000) :
    Calls Tryd.prog 65 #[.slice a l.length c, .slice b l2.length d] w fun e w' => e = .returned (.bool (decide (l = l2))) ∧ Ext w w' := by
  obtain ⟨R, hRR⟩ : ∃ R, R = decide (l = l2) := ⟨_, rfl⟩
  rw [← hRR]
  have HRR := Lib.hid hRR
  clear hRR
  by_cases hl : l.length = l2.length
  · have H1 := Lib.hid h1
    have H2 := Lib.hid h2
    have HL := Lib.hid hl
    rw [← hl]
    clear h1 h2 hl
    go_enter Tryd.func65, Tryd.ntmps65
    go_wp2
    go_loopg [5] (l.length) (fun r i wr => ∃ k : Nat, k + r = l.length ∧ i = .int .i64 (k : Int) ∧ Hid (l.take k = l2.take k) ∧ Hid (Ext w wr))
    case atStart => exact ⟨0, by omega, rfl, rfl, Ext.refl w⟩
    case round =>
      obtain ⟨k, hk, rfl, hT, hE⟩ := hrel
      cases gk with
      | succ r =>
        have hlt : k < l.length := by omega
        have hltz : (k : Int) < (l.length : Int) := by omega
        obtain ⟨ab, ao, ha, ca⟩ := (H1.out.ext hE.out).at_ hlt
        obtain ⟨bb, bo, hb, cb⟩ := (H2.out.ext hE.out).at_ (k := k) (by have := HL.out; omega)
        subst ha hb
        by_cases hx : l.getD k 0 = l2.getD k 0
        · have hT2 := take_eq_of hlt (by have := HL.out; omega) hT.out hx
          have HT2 := Lib.hid hT2
          rw [← hx] at cb
          generalize l.getD k 0 = x at *
          generalize l2.getD k 0 = y at *
          clear hT2 hx hT
          have HK := Lib.hid hk
          clear hk
          go_wp2
          go_region
          go_wp2
          go_roundg r
          case measure => omega
          case rel => exact ⟨k + 1, by have := HK.out; omega, by go_num, HT2.out, by first | exact hE.out.drew_ | exact hE.out⟩
        · have hne : l ≠ l2 := fun e => hx (by rw [e])
          obtain rfl : R = false := by rw [HRR.out]; simpa using hne
          generalize l.getD k 0 = x at *
          generalize l2.getD k 0 = y at *
          clear hT hne
          go_wp2
          go_region
          go_wp2
          go_ret
          exact ⟨rfl, by first | exact hE.out.drew_ | exact hE.out⟩
      | zero =>
        obtain rfl : k = l.length := by omega
        have he : l = l2 := by
          have := hT.out
          rw [List.take_length, HL.out, List.take_length] at this
          exact this
        have hltz : ¬ ((l.length : Nat) : Int) < (l.length : Int) := by omega
        obtain rfl : R = true := by rw [HRR.out]; simpa using he
        clear hT he hk
        go_wp2
        go_ret
        exact ⟨rfl, hE.out⟩
  · obtain rfl : R = false := by rw [HRR.out]; simpa using fun e : l = l2 => hl (by rw [e])
    have hne : ¬ (l.length : Int) = (l2.length : Int) := by omega
    clear h1 h2
    go_enter Tryd.func65, Tryd.ntmps65
    go_wp2
    go_ret
    exact ⟨rfl, Ext.refl w⟩
def GoCV (w : World) (B K sb : Nat) (f : FnP) (v : OpsV) (tv : Value) (g : GoP) (e : Ending) (w' : World) : Prop :=
  e = .returned (.tuple #[]) ∧ ∃ tv', OGo w' B K sb f v tv' g ∧ Keep (OwnC K sb tv) w w' ∧ ∀ k, tv'.ownBlock = some k → tv.ownBlock = some k ∨ w.heap.size ≤ k
set_option maxRecDepth 100000 in
set_option maxHeartbeats 4000000 in
theorem go_far (B K sb : Nat) (f : FnP) (v : OpsV) (tv : Value) (g : GoP) (w : World) (h : OGo w B K sb f v tv g) (tg : Int) (h0 : (f.ops.length : Int) ≤ tg) (xh : Int) (tr : Value) :
    Calls Tryd.prog 47 #[.pointer (some ⟨K, 0, none⟩), .int .i64 tg, .int .i64 xh, tr] w (GoCV w B K sb f v tv { g with ok := false }) := by
  have H := Lib.hid h
  have f5 := h.R.f5
  have k8 := h.k8
  have fr := h.froK 8
  have hlK := h.lt.1
  clear h
  go_enter Tryd.func47, Tryd.ntmps47
  go_wp2
  go_end0
  exact ⟨rfl, tv, H.out.bad, (Keep.refl _ w).set_ (p := ⟨K, 8, none⟩) (Or.inl (Or.inl rfl)) _, fun k hk => Or.inl hk⟩
set_option maxRecDepth 100000 in
set_option maxHeartbeats 8000000 in
theorem go_new (B K sb : Nat) (f : FnP) (v : OpsV) (tv : Value) (g : GoP) (w : World) (h : OGo w B K sb f v tv g) (hn : g.s.length = f.ops.length) (h6 : f.ops.length ≤ 1000000) (hlen : g.todo.length ≤ 1000001)
    (i : Nat) (hi : i < f.ops.length) (hun : seenP g.s i = none) (x : StP) (hxl : x.2.length ≤ 1000000) (a : Option Addr) (cp : Nat) (hr : RInts w a cp x.2) :
    Calls Tryd.prog 47 #[.pointer (some ⟨K, 0, none⟩), .int .i64 (i : Int), .int .i64 x.1, .slice a x.2.length cp] w (GoCV w B K sb f v tv { g with s := g.s.set i (some x), todo := g.todo ++ [i] }) := by
  have his : i < g.s.length := by omega
  obtain ⟨a0, c0, hst, hfr⟩ := h.st i his
  rw [hun] at hst
  obtain ⟨s0, s1, s2, hro⟩ := hst
  simp only [Option.isSome_none, Option.map_none, Option.getD_none, List.length_nil] at s0 s1 s2
  have f5 := h.R.f5
  have k6 := h.k6
  have fr0 := h.froS (i * 3)
  have fr1 := h.froS (i * 3 + 1)
  have fr2 := h.froS (i * 3 + 2)
  have hlK := h.lt.1
  have hlS := h.lt.2
  have hiz : (i : Int) < (f.ops.length : Int) := by omega
  rw [hn] at k6
  obtain ⟨xh, xt⟩ := x
  simp only at hxl hr ⊢
  have hcap := hr.cap
  have hnil := hr.nil
  have HNIL := Lib.hid hnil
  have H := Lib.hid h
  have HN := Lib.hid hn
  have HR := Lib.hid hr
  have HUN := Lib.hid hun
  have HIS := Lib.hid his
  clear h hfr hro hun his hr hn hnil
  obtain ⟨i0, hii, hz0, hz1, hz2⟩ := info_parts infoInt
  go_enter Tryd.func47, Tryd.ntmps47
  go_upto_region 5 with (at_builtin; refine wpList_append_src rfl _ _ 75 rfl w.heap.size 3 i0 (.int .i64 0) 1 8 undInts hii hz0 hz1 hz2 rfl (by decide) (.slice none 0 0) 0 [] rfl (World.ownsRow_nil _ _ _ _) a xt.length cp (ints xt) rfl HNIL.out hcap (by rw [ints_len]; omega) HR.out.row (ints_one _) (by unfold maxLen; omega) (by omega) (Nat.le_refl _) ?_; intro a2 c2 w2 hO2 hG2 hv2; simp only [Nat.zero_add, List.nil_append] at hO2; have HX2 : Hid (Ext w w2) := grown_extB (Ext.refl w) hG2 (fun g hg => by cases hg); have HO2 := Lib.hid hO2; clear hO2 hG2 hv2)
  try simp only [Nat.zero_add]
  have t0 := HX2.out.cell_ s0
  have t1 := HX2.out.cell_ s1
  have t2 := HX2.out.cell_ s2
  have k6 := HX2.out.cell_ k6
  have hs2 := HX2.out.size
  have u0 : w2.frozen? ⟨sb, i * 3, none⟩ = false := by rw [HX2.out.three.2.1 _ _ hlS]; exact fr0
  have u1 : w2.frozen? ⟨sb, i * 3 + 1, none⟩ = false := by rw [HX2.out.three.2.1 _ _ hlS]; exact fr1
  have u2 : w2.frozen? ⟨sb, i * 3 + 2, none⟩ = false := by rw [HX2.out.three.2.1 _ _ hlS]; exact fr2
  clear fr0 fr1 fr2 s0 s1 s2 f5
  go_upto_region 6 with fail
  clear t0 t1 t2 u0 u1 u2 k6
  generalize hW3' : ((w2.setCell ⟨sb, i * 3, none⟩ (.bool true)).setCell ⟨sb, i * 3 + 1, none⟩ (.int .i64 xh)).setCell ⟨sb, i * 3 + 2, none⟩ (.slice a2 xt.length c2) = w3
  have hO2 := H.out.ext HX2.out
  have hri := owns_rints HO2.out
  have hfr2 : StFree w2 K sb tv a2 := fun y hy => by
    subst hy
    have h1 := (HO2.out.lt y.block rfl)
    refine ⟨h1.2, fun e => ?_, fun e => ?_, fun e => ?_⟩
    · omega
    · omega
    · have := (H.out.todo.lt e).2; omega
  have hO3 := OGo.setSt hO2 HIS.out (xh, xt) hri hfr2
  simp only at hO3
  rw [hW3'] at hO3
  have hK3 : Keep (OwnC K sb tv) w w3 := by
    rw [← hW3']
    exact (((Keep.of_ext HX2.out).set_ (p := ⟨sb, i * 3, none⟩) (Or.inl (Or.inr (Or.inl rfl))) _).set_ (p := ⟨sb, i * 3 + 1, none⟩) (Or.inl (Or.inr (Or.inl rfl))) _).set_ (p := ⟨sb, i * 3 + 2, none⟩) (Or.inl (Or.inr (Or.inl rfl))) _
  clear hW3' hO2 hri hfr2 hii hz0 hz1 hz2
  obtain ⟨i1, hii, hz0, hz1, hz2⟩ := info_parts infoInt
  have htl := natsV_len g.todo
  obtain ⟨v9, w9, hrun9, ht9, hg9, hv9⟩ := run_append_tail (P := Tryd.prog) (w := w3.alloc (.cells #[.int .i64 (i : Int)] 3)) 75 75 B 3 i1 (.int .i64 0) 8 undInts hii hz0 hz1 hz2 rfl tv (natsV g.todo) (hO3.todo.ext ((Ext.refl _).alloc_ _)) ⟨w3.heap.size, 0, none⟩ 1 (.int .i64 (i : Int)) (by simp [go_sem]) rfl (by rw [htl]; unfold maxLen; omega) (by rw [htl]; omega) (by have := hO3.hB; simp; omega)
  obtain ⟨a9, n9, c9, rfl⟩ := ht9.slice
  have hO3a := hO3.ext ((Ext.refl w3).alloc_ (.cells #[.int .i64 (i : Int)] 3))
  have y7 : w3.cell? ⟨K, 7, none⟩ = some tv := hO3.k7
  have hv9' : ∀ k, (Value.slice a9 n9 c9).ownBlock = some k → tv.ownBlock = some k ∨ (w3.alloc (.cells #[.int .i64 (i : Int)] 3)).heap.size ≤ k := fun k hk => hv9 k hk
  rw [← natsV_snoc] at ht9
  have hO9 := OGo.pushTodo hO3a hg9 ht9 hv9'
  have hK9 : Keep (fun k => tv.ownBlock = some k) w3 w9 := ((Keep.refl _ w3).alloc_ _).trans (Keep.of_grown hg9 fun k hk => Or.inl hk)
  have y9 : w9.cell? ⟨K, 7, none⟩ = some tv := hK9.cell (p := ⟨K, 7, none⟩) hO3.nK hO3.k7
  have yf : w9.frozen? ⟨K, 7, none⟩ = false := by rw [hK9.frozen (p := ⟨K, 7, none⟩) hO3.nK hO3.lt.1]; exact hO3.froK 7
  have hs3 := hK3.size
  have hl3 := hO3.lt.1
  obtain ⟨ta, tn, tc, htv⟩ := hO3.todo.slice
  have HTV := Lib.hid htv
  rw [htv] at hrun9 y7 y9
  have HRUN := Lib.hid hrun9
  have HK3 := Lib.hid hK3
  have HK9 := Lib.hid hK9
  have HO9 := Lib.hid hO9
  have HV9 := Lib.hid hv9'
  clear htv hrun9 hK3 hK9 hO9 hv9' hv9 hO3 hO3a hg9 ht9 htl hz0 hz1 hz2 hii
  go_wp2_with (at_builtin; refine wpList_append_known rfl _ _ 75 rfl (.slice ta tn tc) _ rfl rfl HRUN.out ?_)
  go_end0
  refine ⟨rfl, .slice a9 n9 c9, HO9.out, ?_, fun k hk => ?_⟩
  · exact (HK3.out.trans (HK9.out.wide fun k hk => Or.inr (Or.inr hk))).set_ (p := ⟨K, 7, none⟩) (Or.inl (Or.inl rfl)) _
  · rcases HV9.out k hk with q | q
    · exact Or.inl q
    · exact Or.inr (by simp at q; omega)
set_option maxRecDepth 100000 in
set_option maxHeartbeats 4000000 in
theorem go_high (B K sb : Nat) (f : FnP) (v : OpsV) (tv : Value) (g : GoP) (w : World) (h : OGo w B K sb f v tv g) (hn : g.s.length = f.ops.length) (h6 : f.ops.length ≤ 1000000)
    (i : Nat) (hi : i < f.ops.length) (y : StP) (hun : seenP g.s i = some y) (hyl : y.2.length ≤ 1000000) (x : StP) (hxl : x.2.length ≤ 1000000) (a : Option Addr) (cp : Nat) (hr : RInts w a cp x.2) (hne : y.1 ≠ x.1) :
    Calls Tryd.prog 47 #[.pointer (some ⟨K, 0, none⟩), .int .i64 (i : Int), .int .i64 x.1, .slice a x.2.length cp] w (GoCV w B K sb f v tv { g with ok := false }) := by
  have his : i < g.s.length := by omega
  obtain ⟨a0, c0, hst, hfr⟩ := h.st i his
  rw [hun] at hst
  obtain ⟨s0, s1, s2, hro⟩ := hst
  simp only [Option.isSome_some, Option.map_some, Option.getD_some] at s0 s1 s2 hro
  obtain ⟨xh, xt⟩ := x
  obtain ⟨yh, yt⟩ := y
  simp only at hne hxl hyl s1 s2 hro hr ⊢
  have f5 := h.R.f5
  have k6 := h.k6
  have k8 := h.k8
  have fr := h.froK 8
  have hlK := h.lt.1
  have hlS := h.lt.2
  have hiz : (i : Int) < (f.ops.length : Int) := by omega
  rw [hn] at k6
  have H := Lib.hid h
  have HR := Lib.hid hr
  have HRO := Lib.hid hro
  clear h hfr hro hun his hr hn
  have hd1 : (yh == xh) = false := by simpa using hne
  have hd3 : (yh != xh) = true := by simpa using hne
  have HX : Hid (Ext w w) := Ext.refl _
  go_enter Tryd.func47, Tryd.ntmps47
  go_wp2
  go_end0
  exact ⟨rfl, tv, (H.out.ext HX.out).bad, (Keep.of_ext HX.out).set_ (p := ⟨K, 8, none⟩) (Or.inl (Or.inl rfl)) _, fun k hk => Or.inl hk⟩
set_option maxRecDepth 100000 in
set_option maxHeartbeats 4000000 in
theorem go_same (B K sb : Nat) (f : FnP) (v : OpsV) (tv : Value) (g : GoP) (w : World) (h : OGo w B K sb f v tv g) (hn : g.s.length = f.ops.length) (h6 : f.ops.length ≤ 1000000)
    (i : Nat) (hi : i < f.ops.length) (y : StP) (hun : seenP g.s i = some y) (hyl : y.2.length ≤ 1000000) (x : StP) (hxl : x.2.length ≤ 1000000) (a : Option Addr) (cp : Nat) (hr : RInts w a cp x.2) (heq : y.1 = x.1) (htt : y.2 = x.2) :
    Calls Tryd.prog 47 #[.pointer (some ⟨K, 0, none⟩), .int .i64 (i : Int), .int .i64 x.1, .slice a x.2.length cp] w (GoCV w B K sb f v tv g) := by
  have his : i < g.s.length := by omega
  obtain ⟨a0, c0, hst, hfr⟩ := h.st i his
  rw [hun] at hst
  obtain ⟨s0, s1, s2, hro⟩ := hst
  simp only [Option.isSome_some, Option.map_some, Option.getD_some] at s0 s1 s2 hro
  obtain ⟨xh, xt⟩ := x
  obtain ⟨yh, yt⟩ := y
  simp only at heq htt hxl hyl s1 s2 hro hr ⊢
  have f5 := h.R.f5
  have k6 := h.k6
  have k8 := h.k8
  have fr := h.froK 8
  have hlK := h.lt.1
  have hlS := h.lt.2
  have hiz : (i : Int) < (f.ops.length : Int) := by omega
  rw [hn] at k6
  have H := Lib.hid h
  have HR := Lib.hid hr
  have HRO := Lib.hid hro
  clear h hfr hro hun his hr hn
  obtain rfl : xh = yh := heq.symm
  have HTT := Lib.hid htt
  clear htt heq
  go_enter Tryd.func47, Tryd.ntmps47
  go_upto_region 7 with fail
  have z8 : Hid (∀ W, Ext w W → W.cell? ⟨K, 8, none⟩ = some (.bool (!g.ok)) ∧ W.frozen? ⟨K, 8, none⟩ = false ∧ K < W.heap.size) := fun W hW => ⟨hW.cell_ k8, by rw [hW.three.2.1 _ _ hlK]; exact fr, by have := hW.size; omega⟩
  go_wp2_with (go_at_call 65; refine (sameInts_any a0 a c0 cp yt xt _ HRO.out HR.out hyl hxl).mono ?_; rintro e w5 ⟨he, hE2⟩; have he2 : e = .returned (.bool true) := (by rw [he]; congr 2; simpa using HTT.out); subst he2; have HX : Hid (Ext w w5) := hE2; obtain ⟨q1, q2, q3⟩ := z8.out w5 hE2; clear he hE2)
  go_end0
  exact ⟨rfl, tv, H.out.ext HX.out, Keep.of_ext HX.out, fun k hk => Or.inl hk⟩
set_option maxRecDepth 100000 in
set_option maxHeartbeats 4000000 in
theorem go_tries (B K sb : Nat) (f : FnP) (v : OpsV) (tv : Value) (g : GoP) (w : World) (h : OGo w B K sb f v tv g) (hn : g.s.length = f.ops.length) (h6 : f.ops.length ≤ 1000000)
    (i : Nat) (hi : i < f.ops.length) (y : StP) (hun : seenP g.s i = some y) (hyl : y.2.length ≤ 1000000) (x : StP) (hxl : x.2.length ≤ 1000000) (a : Option Addr) (cp : Nat) (hr : RInts w a cp x.2) (heq : y.1 = x.1) (htt : y.2 ≠ x.2) :
    Calls Tryd.prog 47 #[.pointer (some ⟨K, 0, none⟩), .int .i64 (i : Int), .int .i64 x.1, .slice a x.2.length cp] w (GoCV w B K sb f v tv { g with ok := false }) := by
  have his : i < g.s.length := by omega
  obtain ⟨a0, c0, hst, hfr⟩ := h.st i his
  rw [hun] at hst
  obtain ⟨s0, s1, s2, hro⟩ := hst
  simp only [Option.isSome_some, Option.map_some, Option.getD_some] at s0 s1 s2 hro
  obtain ⟨xh, xt⟩ := x
  obtain ⟨yh, yt⟩ := y
  simp only at heq htt hxl hyl s1 s2 hro hr ⊢
  have f5 := h.R.f5
  have k6 := h.k6
  have k8 := h.k8
  have fr := h.froK 8
  have hlK := h.lt.1
  have hlS := h.lt.2
  have hiz : (i : Int) < (f.ops.length : Int) := by omega
  rw [hn] at k6
  have H := Lib.hid h
  have HR := Lib.hid hr
  have HRO := Lib.hid hro
  clear h hfr hro hun his hr hn
  obtain rfl : xh = yh := heq.symm
  have HTT := Lib.hid htt
  clear htt heq
  go_enter Tryd.func47, Tryd.ntmps47
  go_upto_region 7 with fail
  have z8 : Hid (∀ W, Ext w W → W.cell? ⟨K, 8, none⟩ = some (.bool (!g.ok)) ∧ W.frozen? ⟨K, 8, none⟩ = false ∧ K < W.heap.size) := fun W hW => ⟨hW.cell_ k8, by rw [hW.three.2.1 _ _ hlK]; exact fr, by have := hW.size; omega⟩
  go_wp2_with (go_at_call 65; refine (sameInts_any a0 a c0 cp yt xt _ HRO.out HR.out hyl hxl).mono ?_; rintro e w5 ⟨he, hE2⟩; have he2 : e = .returned (.bool false) := (by rw [he]; congr 2; simpa using HTT.out); subst he2; have HX : Hid (Ext w w5) := hE2; obtain ⟨q1, q2, q3⟩ := z8.out w5 hE2; clear he hE2)
  go_end0
  exact ⟨rfl, tv, (H.out.ext HX.out).bad, (Keep.of_ext HX.out).set_ (p := ⟨K, 8, none⟩) (Or.inl (Or.inl rfl)) _, fun k hk => Or.inl hk⟩
/-- Coming to whatever op, with whatever state. -/
theorem goC_any (B K sb : Nat) (f : FnP) (v : OpsV) (tv : Value) (g : GoP) (w : World) (h : OGo w B K sb f v tv g) (hT : TallP f.ops.length g) (h6 : f.ops.length ≤ 1000000)
    (tg : Int) (h0 : 0 ≤ tg) (x : StP) (hxl : x.2.length ≤ 1000000) (a : Option Addr) (cp : Nat) (hr : RInts w a cp x.2) :
    Calls Tryd.prog 47 #[.pointer (some ⟨K, 0, none⟩), .int .i64 tg, .int .i64 x.1, .slice a x.2.length cp] w (GoCV w B K sb f v tv (comeP f.ops.length g tg x)) := by
  unfold comeP
  by_cases hto : f.ops.length ≤ tg.toNat
  · rw [if_pos hto]
    exact go_far B K sb f v tv g w h tg (by omega) _ _
  · rw [if_neg hto]
    obtain ⟨i, rfl⟩ : ∃ i : Nat, tg = (i : Int) := ⟨tg.toNat, by omega⟩
    simp only [Int.toNat_natCast] at hto ⊢
    have htl := hT.todoLen
    cases hs : seenP g.s i with
    | none => exact go_new B K sb f v tv g w h hT.len h6 (by omega) i (by omega) hs x hxl a cp hr
    | some y =>
      have hyl := (hT.fits i y hs).len
      have hsl := seens_le g.s
      have hgl := hT.len
      simp only
      by_cases e : y = x
      · subst e
        rw [if_pos rfl]
        exact go_same B K sb f v tv g w h hT.len h6 i (by omega) y hs (by omega) y hxl a cp hr rfl rfl
      · rw [if_neg e]
        by_cases e1 : y.1 = x.1
        · exact go_tries B K sb f v tv g w h hT.len h6 i (by omega) y hs (by omega) x hxl a cp hr e1 (fun e2 => e (Prod.ext e1 e2))
        · exact go_high B K sb f v tv g w h hT.len h6 i (by omega) y hs (by omega) x hxl a cp hr e1
end Go.Proofs.YtgjjkllngopboaaDoor
