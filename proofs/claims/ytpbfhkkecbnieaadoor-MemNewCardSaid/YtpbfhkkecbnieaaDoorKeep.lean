/- What a step may turn: the world but for some blocks. What a set of addresses is as a map. -/
import Derived.Test.YtpbfhkkecbnieaaDoorMem
import Derived.Test.YtpbfhkkecbnieaaDoorObjs
namespace Go.Proofs.YtpbfhkkecbnieaaDoor
open Go.RowKit
set_option linter.unusedVariables false
set_option linter.unusedSimpArgs false

/-- The world as it was, but for blocks of L and new ones. -/
structure Keep (L : Nat → Prop) (w w' : World) : Prop where
  os : w'.os = w.os
  tape : w'.tape = w.tape
  output : w'.output = w.output
  size : w.heap.size ≤ w'.heap.size
  block : ∀ k, k < w.heap.size → ¬ L k → w'.heap[k]? = w.heap[k]?

theorem Keep.refl (L : Nat → Prop) (w : World) : Keep L w w := ⟨rfl, rfl, rfl, Nat.le_refl _, fun _ _ _ => rfl⟩
theorem Keep.trans {L : Nat → Prop} {a b c : World} (h : Keep L a b) (k : Keep L b c) : Keep L a c :=
  ⟨k.os.trans h.os, k.tape.trans h.tape, k.output.trans h.output, Nat.le_trans h.size k.size, fun i hi hl => (k.block i (Nat.lt_of_lt_of_le hi h.size) hl).trans (h.block i hi hl)⟩
/-- A later step may turn whatever is new, too. -/
theorem Keep.then_ {L L' : Nat → Prop} {a b c : World} (h : Keep L a b) (k : Keep L' b c) (hl : ∀ i, i < a.heap.size → L' i → L i) : Keep L a c :=
  ⟨k.os.trans h.os, k.tape.trans h.tape, k.output.trans h.output, Nat.le_trans h.size k.size, fun i hi hn => (k.block i (Nat.lt_of_lt_of_le hi h.size) (fun e => hn (hl i hi e))).trans (h.block i hi hn)⟩
theorem Keep.of_ext {L : Nat → Prop} {w w' : World} (h : Ext w w') : Keep L w w' := ⟨h.os, h.tape, h.output, h.size, fun k hk _ => h.block k hk⟩
theorem Keep.ext_ {L : Nat → Prop} {a b c : World} (h : Keep L a b) (k : Ext b c) : Keep L a c := h.trans (Keep.of_ext k)
theorem Keep.alloc_ {L : Nat → Prop} {a b : World} (h : Keep L a b) (o : Obj) : Keep L a (b.alloc o) := h.ext_ ((Ext.refl b).alloc_ o)
theorem Keep.drew_ {L : Nat → Prop} {a b : World} (h : Keep L a b) : Keep L a b.drew := h.ext_ (Ext.refl b).drew_
theorem Keep.drewN_ {L : Nat → Prop} {a b : World} (h : Keep L a b) (n : Nat) : Keep L a (b.drewN n) := h.ext_ (ext_drewN b n)
theorem Keep.set_ {L : Nat → Prop} {a b : World} (h : Keep L a b) {p : Addr} (hp : L p.block ∨ a.heap.size ≤ p.block) (u : Value) : Keep L a (b.setCell p u) :=
  ⟨h.os, h.tape, h.output, by simpa [World.setCell] using h.size, fun k hk hl => by
    rw [Below.heap_setCell _ _ _ _ (fun e => by subst e; rcases hp with hp | hp; exact hl hp; omega)]
    exact h.block k hk hl⟩
theorem Keep.of_but {w w' : World} {b : Nat} (h : But b w w') : Keep (· = b) w w' := ⟨h.os, h.tape, h.output, Nat.le_of_eq h.size.symm, fun k _ hl => h.block k hl⟩
theorem Keep.of_grown {L : Nat → Prop} {w w' : World} {row : Option Nat} (h : w.grownBy w' row) (hr : ∀ k, row = some k → L k ∨ w.heap.size ≤ k) : Keep L w w' :=
  ⟨h.os, h.tape, h.output, h.size, fun k hk hl => h.block k hk (fun e => by rcases hr k e.symm with g | g; exact hl g; omega)⟩
theorem Keep.below {L : Nat → Prop} {w w' : World} {B : Nat} (h : Keep L w w') (hB : B ≤ w.heap.size) (hl : ∀ k, k < B → ¬ L k) : Below B w w' :=
  ⟨h.os, h.tape, h.output, h.size, fun k hk => h.block k (by omega) (hl k hk)⟩
theorem Ext.keep {L : Nat → Prop} {a b c : World} (h : Ext a b) (k : Keep L b c) (hl : ∀ i, L i → a.heap.size ≤ i) : Ext a c :=
  Below.trans h (k.below h.size fun i hi e => by have := hl i e; omega)
theorem Keep.cell {L : Nat → Prop} {w w' : World} (h : Keep L w w') {p : Addr} {v : Value} (hp : ¬ L p.block) (hc : w.cell? p = some v) : w'.cell? p = some v := by
  rw [World.cell?_of_block (w := w) (h.block p.block (cell_lt hc) hp)]; exact hc
theorem Keep.frozen {L : Nat → Prop} {w w' : World} (h : Keep L w w') {p : Addr} (hp : ¬ L p.block) (hlt : p.block < w.heap.size) : w'.frozen? p = w.frozen? p :=
  World.frozen?_of_block (w := w) (h.block p.block hlt hp)
theorem MapI.keep {L : Nat → Prop} {w w' : World} {b : Nat} {q : IntKind} {es : List (Int × Value)} (h : MapI w b q es) (k : Keep L w w') (hb : ¬ L b) : MapI w' b q es :=
  h.of_block (k.block b h.lt hb)
theorem RSl.keep {L : Nat → Prop} {w w' : World} {a : Option Addr} {cs : List Value} (h : RSl w a cs) (k : Keep L w w') (hl : ∀ x, a = some x → ¬ L x.block) : RSl w' a cs := fun j u hu => by
  obtain ⟨b, off, ha, hc⟩ := h j u hu
  exact ⟨b, off, ha, k.cell (p := ⟨b, off + j, none⟩) (hl ⟨b, off, none⟩ ha) hc⟩

/-- A map that bears true at these keys, and nothing else. -/
def SMap (w : World) (b : Nat) (q : IntKind) (st : List Int) : Prop :=
  ∃ es, MapI w b q es ∧ ∀ k : Int, mget es k = if st.contains k = true then some (.bool true) else none
theorem SMap.keep {L : Nat → Prop} {w w' : World} {b : Nat} {q : IntKind} {st : List Int} (h : SMap w b q st) (k : Keep L w w') (hb : ¬ L b) : SMap w' b q st := by
  obtain ⟨es, hm, hg⟩ := h
  exact ⟨es, hm.keep k hb, hg⟩
theorem SMap.ext {w w' : World} {b : Nat} {q : IntKind} {st : List Int} (h : SMap w b q st) (k : Ext w w') : SMap w' b q st := by
  obtain ⟨es, hm, hg⟩ := h
  exact ⟨es, hm.ext k, hg⟩
theorem SMap.lt {w : World} {b : Nat} {q : IntKind} {st : List Int} (h : SMap w b q st) : b < w.heap.size := by
  obtain ⟨es, hm, _⟩ := h
  exact hm.lt
theorem SMap.made (w : World) (q : IntKind) : SMap (w.alloc (.map #[] 0)) w.heap.size q [] := ⟨[], MapI.made w q, fun k => by simp [mget]⟩
theorem SMap.put {w' : World} {b : Nat} {q : IntKind} {es : List (Int × Value)} {st : List Int} (a : Int) (hg : ∀ k : Int, mget es k = if st.contains k = true then some (.bool true) else none)
    (h : MapI w' b q (mput es a (.bool true))) : SMap w' b q (st ++ [a]) :=
  ⟨_, h, fun k => by
    by_cases e : k = a
    · subst e; rw [mget_mput_same]; simp
    · rw [mget_mput_other _ _ _ _ e, hg k]
      have : (k == a) = false := by simpa using e
      simp [List.contains_eq_any_beq, this, e]⟩

/-- A slice expression over words, whatever world: where the part lies, and what it reads as. -/
theorem run_part {P : Program} {t e : TypeId} (ht : P.underlying t = some (.slice e)) (hz : ∀ w, (sizeOf e).run P w = .ok 1 w) (b off len cap l h : Nat) (i j : Int) (hi : i = (l : Int)) (hj : j = (h : Int)) (hl : l ≤ h) (hh : h ≤ cap) :
    ∃ A C, (∀ w' : World, (Instr.slice t (.slice (some ⟨b, off, none⟩) len cap) (some (.int .i64 i)) (some (.int .i64 j)) none).run P w' = .ok (.slice A (h - l) C) w') ∧ h - l ≤ C ∧ A ≠ none ∧
      ∀ (w : World) (cs : List Value), RSl w (some ⟨b, off, none⟩) cs → RSl w A ((cs.drop l).take (h - l)) := by
  have he : P.elem t = e := by simp [Program.elem, ht]
  have ht' : P.underlying t = some (.slice (P.elem t)) := by rw [he]; exact ht
  refine ⟨if cap = l then some ⟨b, off, none⟩ else some ⟨b, off + l, none⟩, cap - l, fun w' => ?_, by omega, ?_, fun w cs hR => ?_⟩
  · subst hi hj
    rw [run_slice_lh w' t (some ⟨b, off, none⟩) len cap ht' .i64 .i64 (l : Int) (h : Int) (by omega) (by omega) (by omega), he, hz]
    simp [Result.andThen, sliced, Addr.add]
    split
    · rfl
    · split
      · rename_i h0; subst h0; simp
      · rfl
  · split <;> simp
  · split
    · have : h - l = 0 := by omega
      rw [this, List.take_zero]
      exact RSl.nil _ _
    · intro k u hu
      rw [List.getElem?_take] at hu
      split at hu
      · rw [List.getElem?_drop] at hu
        obtain ⟨b', off', ha, hc⟩ := hR _ _ hu
        injection ha with ha
        injection ha with h1 h2
        subst h1 h2
        exact ⟨b, off + l, rfl, by rw [show off + l + k = off + (l + k) by omega]; exact hc⟩
      · cases hu

/-- Shape facts, for the walks. -/
structure Shp (M : Mem) : Prop where
  h1 : 1 ≤ M.half
  h2 : M.half ≤ 65536
  o1 : 1 ≤ M.old
  o2 : M.old ≤ 65536
  c1 : 1 ≤ M.card
  c2 : M.card ≤ 1024
  w : (M.W.length : Int) = 2 * M.half + M.old
  u1 : 0 ≤ M.used
  u2 : M.used ≤ 1
  t1 : 0 ≤ M.top
  t2 : M.top ≤ M.half
  p1 : 0 ≤ M.oldTop
  p2 : M.oldTop ≤ M.old
  cl : (M.cards.length : Int) = (M.old + M.card - 1) / M.card
theorem shp_of {M : Mem} (h : shapeB M = true) : Shp M := by
  simp only [shapeB, Bool.and_eq_true, inR_true, beq_iff_eq] at h
  obtain ⟨⟨⟨⟨⟨⟨⟨⟨a1, a2⟩, b1, b2⟩, c1, c2⟩, d⟩, e1, e2⟩, f1, f2⟩, g1, g2⟩, k⟩ := h
  exact ⟨a1, a2, b1, b2, c1, c2, d, e1, e2, f1, f2, g1, g2, k⟩
/-- Where the half in use begins. -/
def Mem.base (M : Mem) : Nat := (M.used * M.half).toNat
theorem Shp.base {M : Mem} (h : Shp M) : M.used * M.half = (M.base : Int) ∧ 0 ≤ M.used * M.half ∧ M.used * M.half ≤ M.half := by
  obtain ⟨h1, h2, _, _, _, _, _, u1, u2, _, _, _, _, _⟩ := h
  have hu : M.used = 0 ∨ M.used = 1 := by omega
  unfold Mem.base
  rcases hu with e | e <;> rw [e] <;> omega
/-- The card of a place in the old space. -/
theorem Shp.card {M : Mem} (h : Shp M) (a : Int) (h1 : 2 * M.half ≤ a) (h2 : a < 2 * M.half + M.old) :
    0 ≤ (a - 2 * M.half) / M.card ∧ (a - 2 * M.half) / M.card < (M.cards.length : Int) := by
  have c1 := h.c1
  rw [h.cl]
  refine ⟨Int.ediv_nonneg (by omega) (by omega), ?_⟩
  have h3 : (a - 2 * M.half) / M.card ≤ (M.old - 1) / M.card := Int.ediv_le_ediv (by omega) (by omega)
  have h4 : (M.old + M.card - 1) / M.card = (M.old - 1) / M.card + 1 := by
    rw [show M.old + M.card - 1 = (M.old - 1) + 1 * M.card by omega, Int.add_mul_ediv_right _ _ (by omega)]
  omega
end Go.Proofs.YtpbfhkkecbnieaaDoor
