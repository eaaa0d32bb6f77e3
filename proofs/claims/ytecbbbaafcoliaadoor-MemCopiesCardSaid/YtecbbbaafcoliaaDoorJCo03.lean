/- What a step may turn: the world but for some blocks. What a set of addresses is as a map. -/
import Derived.Test.YtecbbbaafcoliaaDoorJCo02
import Derived.Deep.RegionHeld3
import Derived.Laws.OwnMore
import Derived.IntWalk
namespace Go.Proofs.YtecbbbaafcoliaaDoor
open Go.RowKit
set_option linter.unusedVariables false
set_option linter.unusedSimpArgs false

/-- The world as it was, but for blocks of L and new ones. -/
structure Keep (L : Nat → Prop) (w w' : World) : Prop where
  os : w'.os = w.os
  tape : w'.tape = w.tape
  output : w'.output = w.output
  size : w.heap.size ≤ w'.heap.size
  block : ∀ k, k < w.heap.size → ¬ L k → w'.heap[k]? = w.heap[k]?

theorem Keep.refl (L : Nat → Prop) (w : World) : Keep L w w := ⟨rfl, rfl, rfl, Nat.le_refl _, fun _ _ _ => rfl⟩
theorem Keep.trans {L : Nat → Prop} {a b c : World} (h : Keep L a b) (k : Keep L b c) : Keep L a c :=
  ⟨k.os.trans h.os, k.tape.trans h.tape, k.output.trans h.output, Nat.le_trans h.size k.size, fun i hi hl => (k.block i (Nat.lt_of_lt_of_le hi h.size) hl).trans (h.block i hi hl)⟩
/-- A later step may turn whatever is new, too. -/
theorem Keep.then_ {L L' : Nat → Prop} {a b c : World} (h : Keep L a b) (k : Keep L' b c) (hl : ∀ i, i < a.heap.size → L' i → L i) : Keep L a c :=
  ⟨k.os.trans h.os, k.tape.trans h.tape, k.output.trans h.output, Nat.le_trans h.size k.size, fun i hi hn => (k.block i (Nat.lt_of_lt_of_le hi h.size) (fun e => hn (hl i hi e))).trans (h.block i hi hn)⟩
theorem Keep.of_ext {L : Nat → Prop} {w w' : World} (h : Ext w w') : Keep L w w' := ⟨h.os, h.tape, h.output, h.size, fun k hk _ => h.block k hk⟩
theorem Keep.ext_ {L : Nat → Prop} {a b c : World} (h : Keep L a b) (k : Ext b c) : Keep L a c := h.trans (Keep.of_ext k)
theorem Keep.alloc_ {L : Nat → Prop} {a b : World} (h : Keep L a b) (o : Obj) : Keep L a (b.alloc o) := h.ext_ ((Ext.refl b).alloc_ o)
theorem Keep.drew_ {L : Nat → Prop} {a b : World} (h : Keep L a b) : Keep L a b.drew := h.ext_ (Ext.refl b).drew_
theorem Keep.drewN_ {L : Nat → Prop} {a b : World} (h : Keep L a b) (n : Nat) : Keep L a (b.drewN n) := h.ext_ (ext_drewN b n)
theorem Keep.set_ {L : Nat → Prop} {a b : World} (h : Keep L a b) {p : Addr} (hp : L p.block ∨ a.heap.size ≤ p.block) (u : Value) : Keep L a (b.setCell p u) :=
  ⟨h.os, h.tape, h.output, by simpa [World.setCell] using h.size, fun k hk hl => by
    rw [Below.heap_setCell _ _ _ _ (fun e => by subst e; rcases hp with hp | hp; exact hl hp; omega)]
    exact h.block k hk hl⟩
theorem Keep.of_but {w w' : World} {b : Nat} (h : But b w w') : Keep (· = b) w w' := ⟨h.os, h.tape, h.output, Nat.le_of_eq h.size.symm, fun k _ hl => h.block k hl⟩
theorem Keep.of_grown {L : Nat → Prop} {w w' : World} {row : Option Nat} (h : w.grownBy w' row) (hr : ∀ k, row = some k → L k ∨ w.heap.size ≤ k) : Keep L w w' :=
  ⟨h.os, h.tape, h.output, h.size, fun k hk hl => h.block k hk (fun e => by rcases hr k e.symm with g | g; exact hl g; omega)⟩
theorem Keep.below {L : Nat → Prop} {w w' : World} {B : Nat} (h : Keep L w w') (hB : B ≤ w.heap.size) (hl : ∀ k, k < B → ¬ L k) : Below B w w' :=
  ⟨h.os, h.tape, h.output, h.size, fun k hk => h.block k (by omega) (hl k hk)⟩
theorem Ext.keep {L : Nat → Prop} {a b c : World} (h : Ext a b) (k : Keep L b c) (hl : ∀ i, L i → a.heap.size ≤ i) : Ext a c :=
  Below.trans h (k.below h.size fun i hi e => by have := hl i e; omega)
theorem Keep.cell {L : Nat → Prop} {w w' : World} (h : Keep L w w') {p : Addr} {v : Value} (hp : ¬ L p.block) (hc : w.cell? p = some v) : w'.cell? p = some v := by
  rw [World.cell?_of_block (w := w) (h.block p.block (cell_lt hc) hp)]; exact hc
theorem Keep.frozen {L : Nat → Prop} {w w' : World} (h : Keep L w w') {p : Addr} (hp : ¬ L p.block) (hlt : p.block < w.heap.size) : w'.frozen? p = w.frozen? p :=
  World.frozen?_of_block (w := w) (h.block p.block hlt hp)
theorem MapI.keep {L : Nat → Prop} {w w' : World} {b : Nat} {q : IntKind} {es : List (Int × Value)} (h : MapI w b q es) (k : Keep L w w') (hb : ¬ L b) : MapI w' b q es :=
  h.of_block (k.block b h.lt hb)
theorem RSl.keep {L : Nat → Prop} {w w' : World} {a : Option Addr} {cs : List Value} (h : RSl w a cs) (k : Keep L w w') (hl : ∀ x, a = some x → ¬ L x.block) : RSl w' a cs := fun j u hu => by
  obtain ⟨b, off, ha, hc⟩ := h j u hu
  exact ⟨b, off, ha, k.cell (p := ⟨b, off + j, none⟩) (hl ⟨b, off, none⟩ ha) hc⟩

/-- A map that bears true at these keys, and nothing else. -/
def SMap (w : World) (b : Nat) (q : IntKind) (st : List Int) : Prop :=
  ∃ es, MapI w b q es ∧ ∀ k : Int, mget es k = if st.contains k = true then some (.bool true) else none
theorem SMap.keep {L : Nat → Prop} {w w' : World} {b : Nat} {q : IntKind} {st : List Int} (h : SMap w b q st) (k : Keep L w w') (hb : ¬ L b) : SMap w' b q st := by
  obtain ⟨es, hm, hg⟩ := h
  exact ⟨es, hm.keep k hb, hg⟩
theorem SMap.ext {w w' : World} {b : Nat} {q : IntKind} {st : List Int} (h : SMap w b q st) (k : Ext w w') : SMap w' b q st := by
  obtain ⟨es, hm, hg⟩ := h
  exact ⟨es, hm.ext k, hg⟩
theorem SMap.lt {w : World} {b : Nat} {q : IntKind} {st : List Int} (h : SMap w b q st) : b < w.heap.size := by
  obtain ⟨es, hm, _⟩ := h
  exact hm.lt
theorem SMap.made (w : World) (q : IntKind) : SMap (w.alloc (.map #[] 0)) w.heap.size q [] := ⟨[], MapI.made w q, fun k => by simp [mget]⟩
theorem SMap.put {w' : World} {b : Nat} {q : IntKind} {es : List (Int × Value)} {st : List Int} (a : Int) (hg : ∀ k : Int, mget es k = if st.contains k = true then some (.bool true) else none)
    (h : MapI w' b q (mput es a (.bool true))) : SMap w' b q (st ++ [a]) :=
  ⟨_, h, fun k => by
    by_cases e : k = a
    · subst e; rw [mget_mput_same]; simp
    · rw [mget_mput_other _ _ _ _ e, hg k]
      have : (k == a) = false := by simpa using e
      simp [List.contains_eq_any_beq, this, e]⟩

/-- A slice expression over words, whatever world: where the part lies, and what it reads as. -/
theorem run_part {P : Program} {t e : TypeId} (ht : P.underlying t = some (.slice e)) (hz : ∀ w, (sizeOf e).run P w = .ok 1 w) (b off len cap l h : Nat) (i j : Int) (hi : i = (l : Int)) (hj : j = (h : Int)) (hl : l ≤ h) (hh : h ≤ cap) :
    ∃ A C, (∀ w' : World, (Instr.slice t (.slice (some ⟨b, off, none⟩) len cap) (some (.int .i64 i)) (some (.int .i64 j)) none).run P w' = .ok (.slice A (h - l) C) w') ∧ h - l ≤ C ∧ A ≠ none ∧
      ∀ (w : World) (cs : List Value), RSl w (some ⟨b, off, none⟩) cs → RSl w A ((cs.drop l).take (h - l)) := by
  have he : P.elem t = e := by simp [Program.elem, ht]
  have ht' : P.underlying t = some (.slice (P.elem t)) := by rw [he]; exact ht
  refine ⟨if cap = l then some ⟨b, off, none⟩ else some ⟨b, off + l, none⟩, cap - l, fun w' => ?_, by omega, ?_, fun w cs hR => ?_⟩
  · subst hi hj
    rw [run_slice_lh w' t (some ⟨b, off, none⟩) len cap ht' .i64 .i64 (l : Int) (h : Int) (by omega) (by omega) (by omega), he, hz]
    simp [Result.andThen, sliced, Addr.add]
    split
    · rfl
    · split
      · rename_i h0; subst h0; simp
      · rfl
  · split <;> simp
  · split
    · have : h - l = 0 := by omega
      rw [this, List.take_zero]
      exact RSl.nil _ _
    · intro k u hu
      rw [List.getElem?_take] at hu
      split at hu
      · rw [List.getElem?_drop] at hu
        obtain ⟨b', off', ha, hc⟩ := hR _ _ hu
        injection ha with ha
        injection ha with h1 h2
        subst h1 h2
        exact ⟨b, off + l, rfl, by rw [show off + l + k = off + (l + k) by omega]; exact hc⟩
      · cases hu

/-- Shape facts, for the walks. -/
structure Shp (M : Mem) : Prop where
  h1 : 1 ≤ M.half
  h2 : M.half ≤ 65536
  o1 : 1 ≤ M.old
  o2 : M.old ≤ 65536
  c1 : 1 ≤ M.card
  c2 : M.card ≤ 1024
  w : (M.W.length : Int) = 2 * M.half + M.old
  u1 : 0 ≤ M.used
  u2 : M.used ≤ 1
  t1 : 0 ≤ M.top
  t2 : M.top ≤ M.half
  p1 : 0 ≤ M.oldTop
  p2 : M.oldTop ≤ M.old
  cl : (M.cards.length : Int) = (M.old + M.card - 1) / M.card
theorem shp_of {M : Mem} (h : shapeB M = true) : Shp M := by
  simp only [shapeB, Bool.and_eq_true, inR_true, beq_iff_eq] at h
  obtain ⟨⟨⟨⟨⟨⟨⟨⟨a1, a2⟩, b1, b2⟩, c1, c2⟩, d⟩, e1, e2⟩, f1, f2⟩, g1, g2⟩, k⟩ := h
  exact ⟨a1, a2, b1, b2, c1, c2, d, e1, e2, f1, f2, g1, g2, k⟩
/-- Where the half in use begins. -/
def Mem.base (M : Mem) : Nat := (M.used * M.half).toNat
theorem Shp.base {M : Mem} (h : Shp M) : M.used * M.half = (M.base : Int) ∧ 0 ≤ M.used * M.half ∧ M.used * M.half ≤ M.half := by
  obtain ⟨h1, h2, _, _, _, _, _, u1, u2, _, _, _, _, _⟩ := h
  have hu : M.used = 0 ∨ M.used = 1 := by omega
  unfold Mem.base
  rcases hu with e | e <;> rw [e] <;> omega
/-- The card of a place in the old space. -/
theorem Shp.card {M : Mem} (h : Shp M) (a : Int) (h1 : 2 * M.half ≤ a) (h2 : a < 2 * M.half + M.old) :
    0 ≤ (a - 2 * M.half) / M.card ∧ (a - 2 * M.half) / M.card < (M.cards.length : Int) := by
  have c1 := h.c1
  rw [h.cl]
  refine ⟨Int.ediv_nonneg (by omega) (by omega), ?_⟩
  have h3 : (a - 2 * M.half) / M.card ≤ (M.old - 1) / M.card := Int.ediv_le_ediv (by omega) (by omega)
  have h4 : (M.old + M.card - 1) / M.card = (M.old - 1) / M.card + 1 := by
    rw [show M.old + M.card - 1 = (M.old - 1) + 1 * M.card by omega, Int.add_mul_ediv_right _ _ (by omega)]
  omega
end Go.Proofs.YtecbbbaafcoliaaDoor
/- A memory of the call's own: its cells and rows, of which none lies over another; what a step does to it. -/
namespace Go.Proofs.YtecbbbaafcoliaaDoor
open Go.RowKit
set_option linter.unusedVariables false
set_option linter.unusedSimpArgs false

/-- A field that is a slice: where it stands, its elements' type and size, its value, its cells. -/
structure Fld where
  off : Nat
  e : TypeId
  size : Nat
  a : Option Addr
  n : Nat
  c : Nat
  cs : List Value
def Fld.val (f : Fld) : Value := .slice f.a f.n f.c
structure OM (w : World) (B b : Nat) (nums : List (Nat × Int)) (L : List Fld) : Prop where
  hb : B ≤ b
  blk : ∃ cur t, w.heap[b]? = some (.cells cur t (0, 0))
  num : ∀ p ∈ nums, w.cell? ⟨b, p.1, none⟩ = some (.int .i64 p.2)
  fld : ∀ f ∈ L, w.cell? ⟨b, f.off, none⟩ = some f.val ∧ w.ownsRow B f.e f.size f.val f.n f.cs ∧ f.val.ownBlock ≠ some b
  apart : L.Pairwise fun f g => ∀ k, f.val.ownBlock = some k → g.val.ownBlock ≠ some k
  offs : (nums.map (·.1) ++ L.map (·.off)).Nodup

theorem OM.lt {w : World} {B b : Nat} {nums : List (Nat × Int)} {L : List Fld} (h : OM w B b nums L) : b < w.heap.size := by
  obtain ⟨cur, t, hc⟩ := h.blk
  rcases Nat.lt_or_ge b w.heap.size with g | g
  · exact g
  · simp [Array.getElem?_eq_none g] at hc
theorem OM.frozen {w : World} {B b : Nat} {nums : List (Nat × Int)} {L : List Fld} (h : OM w B b nums L) (j : Nat) : w.frozen? ⟨b, j, none⟩ = false := by
  obtain ⟨cur, t, hc⟩ := h.blk
  simp [World.frozen?, hc]
/-- A step that leaves all its blocks alone. -/
theorem OM.kept {w w' : World} {B b : Nat} {nums : List (Nat × Int)} {L : List Fld} (h : OM w B b nums L) (hk : ∀ k, k < w.heap.size → (k = b ∨ ∃ f ∈ L, f.val.ownBlock = some k) → w'.heap[k]? = w.heap[k]?) : OM w' B b nums L := by
  have hbk : w'.heap[b]? = w.heap[b]? := hk b h.lt (Or.inl rfl)
  refine ⟨h.hb, ?_, fun p hp => ?_, fun f hf => ⟨?_, ?_, (h.fld f hf).2.2⟩, h.apart, h.offs⟩
  · rw [hbk]; exact h.blk
  · rw [World.cell?_of_block (w := w) (a := ⟨b, p.1, none⟩) hbk]; exact h.num p hp
  · rw [World.cell?_of_block (w := w) (a := ⟨b, f.off, none⟩) hbk]; exact (h.fld f hf).1
  · obtain ⟨h1, h2⟩ := (h.fld f hf).2.1
    refine ⟨h1, ?_⟩
    rcases h2 with h2 | ⟨g, cap, cur, hv, hg, hh, r⟩
    · exact Or.inl h2
    · refine Or.inr ⟨g, cap, cur, hv, hg, ?_, r⟩
      rw [hk g (((h.fld f hf).2.1.lt g (by rw [hv]; rfl)).2) (Or.inr ⟨f, hf, by rw [hv]; rfl⟩)]
      exact hh
theorem OM.ext {w w' : World} {B b : Nat} {nums : List (Nat × Int)} {L : List Fld} (h : OM w B b nums L) (hx : Ext w w') : OM w' B b nums L := h.kept fun k hk _ => hx.block k hk
/-- An own row is where it was behind a store elsewhere. -/
theorem own_set {w : World} {B : Nat} {e : TypeId} {size : Nat} {v : Value} {n : Nat} {xs : List Value} (h : w.ownsRow B e size v n xs) {p : Addr} (hp : v.ownBlock ≠ some p.block) (u : Value) : (w.setCell p u).ownsRow B e size v n xs := by
  obtain ⟨h1, h2⟩ := h
  refine ⟨h1, ?_⟩
  rcases h2 with h2 | ⟨g, cap, cur, hv, hg, hh, r⟩
  · exact Or.inl h2
  · refine Or.inr ⟨g, cap, cur, hv, hg, ?_, r⟩
    rw [Below.heap_setCell _ _ _ _ (fun e => hp (by rw [hv]; exact congrArg some e))]
    exact hh
theorem cell_set_same {w : World} {b o : Nat} {x u : Value} (hc : w.cell? ⟨b, o, none⟩ = some x) : (w.setCell ⟨b, o, none⟩ u).cell? ⟨b, o, none⟩ = some u := by
  simp [hc, go_sem]
theorem cell_set_off {w : World} {b o o' : Nat} {u : Value} (h : o ≠ o') : (w.setCell ⟨b, o, none⟩ u).cell? ⟨b, o', none⟩ = w.cell? ⟨b, o', none⟩ :=
  World.cell?_setCell_other w _ _ u (fun e => h (by injection e))
theorem blk_set {w : World} {b o : Nat} {u : Value} (h : ∃ cur t, w.heap[b]? = some (.cells cur t (0, 0))) : ∃ cur t, (w.setCell ⟨b, o, none⟩ u).heap[b]? = some (.cells cur t (0, 0)) := by
  obtain ⟨cur, t, hc⟩ := h
  simp only [World.setCell, Array.getElem?_modify]
  simp [hc]
/-- A FIELD IS FILLED: an append onto the empty field, whose row is new, and the store of it. -/
theorem OM.fill {w w1 : World} {B b : Nat} {nums : List (Nat × Int)} {L1 L2 : List Fld} {f : Fld} (h : OM w B b nums (L1 ++ f :: L2)) (hf : f.a = none) (a' : Option Addr) (n' c' : Nat) (cs' : List Value)
    (hg : w.grownBy w1 none) (ho : w1.ownsRow B f.e f.size (.slice a' n' c') n' cs') (hnew : (Value.slice a' n' c').ownBlock = none ∨ (Value.slice a' n' c').ownBlock = some w.heap.size) :
    OM (w1.setCell ⟨b, f.off, none⟩ (.slice a' n' c')) B b nums (L1 ++ ⟨f.off, f.e, f.size, a', n', c', cs'⟩ :: L2) := by
  have h1 : OM w1 B b nums (L1 ++ f :: L2) := h.kept fun k hk _ => hg.block k hk (by simp)
  have hlt := h.lt
  have hnb : (Value.slice a' n' c').ownBlock ≠ some b := by
    rcases hnew with e | e
    · rw [e]; simp
    · rw [e]; simp; omega
  have hold : ∀ g ∈ L1 ++ f :: L2, ∀ k, g.val.ownBlock = some k → (Value.slice a' n' c').ownBlock ≠ some k := fun g hgm k hk => by
    have := ((h.fld g hgm).2.1.lt k hk).2
    rcases hnew with e | e
    · rw [e]; simp
    · rw [e]; simp; omega
  have hoffs := h.offs
  have hfoff : ∀ p ∈ nums, p.1 ≠ f.off := fun p hp e => by
    rw [List.nodup_append] at hoffs
    exact hoffs.2.2 p.1 (List.mem_map_of_mem hp) f.off (List.mem_map_of_mem (by simp)) e
  have hgoff : ∀ g ∈ L1 ++ L2, g.off ≠ f.off := fun g hgm e => by
    have := (List.nodup_append.1 hoffs).2.1
    simp only [List.map_append, List.map_cons] at this
    rw [List.nodup_append, List.nodup_cons] at this
    rcases List.mem_append.1 hgm with q | q
    · exact this.2.2 g.off (List.mem_map_of_mem q) f.off (by simp) e
    · exact this.2.1.1 (by rw [← e]; exact List.mem_map_of_mem q)
  refine ⟨h.hb, blk_set h1.blk, fun p hp => ?_, fun g hgm => ?_, ?_, ?_⟩
  · rw [cell_set_off (hfoff p hp).symm]; exact h1.num p hp
  · rcases List.mem_append.1 hgm with q | q
    · have q' : g ∈ L1 ++ f :: L2 := List.mem_append_left _ q
      refine ⟨?_, own_set (h1.fld g q').2.1 (h1.fld g q').2.2 _, (h1.fld g q').2.2⟩
      rw [cell_set_off (hgoff g (List.mem_append_left _ q)).symm]; exact (h1.fld g q').1
    · rcases List.mem_cons.1 q with rfl | q
      · exact ⟨cell_set_same (h1.fld f (by simp)).1, own_set ho hnb _, hnb⟩
      · have q' : g ∈ L1 ++ f :: L2 := by simp [q]
        refine ⟨?_, own_set (h1.fld g q').2.1 (h1.fld g q').2.2 _, (h1.fld g q').2.2⟩
        rw [cell_set_off (hgoff g (List.mem_append_right _ q)).symm]; exact (h1.fld g q').1
  · have hp := h.apart
    rw [List.pairwise_append, List.pairwise_cons] at hp ⊢
    obtain ⟨p1, ⟨p2, p3⟩, p4⟩ := hp
    refine ⟨p1, ⟨fun g hgm k hk => ?_, p3⟩, fun g hg1 g' hg' k hk => ?_⟩
    · intro e
      exact hold g (by simp [hgm]) k e hk
    · rcases List.mem_cons.1 hg' with rfl | hg'
      · exact hold g (by simp [hg1]) k hk
      · exact p4 g hg1 g' (by simp [hg']) k hk
  · simpa using hoffs
end Go.Proofs.YtecbbbaafcoliaaDoor
/- Pairs as cells. -/
namespace Go.Proofs.YtecbbbaafcoliaaDoor
theorem icells_at (l : List (Int × Int)) (i : Nat) (h : i < l.length) : (icells l)[i * 2]? = some (.int .u64 l[i].1) ∧ (icells l)[i * 2 + 1]? = some (.int .i64 l[i].2) := by
  induction l generalizing i with
  | nil => simp at h
  | cons y l ih =>
    cases i with
    | zero => simp [icells]
    | succ i =>
      have := ih i (by simpa using h)
      have e1 : (i + 1) * 2 = i * 2 + 2 := by omega
      rw [e1]
      simpa [icells] using this
theorem icells_len (l : List (Int × Int)) : (icells l).length = l.length * 2 := by
  induction l with
  | nil => rfl
  | cons y l ih => simp only [icells, List.flatMap_cons, List.length_append, List.length_cons, List.length_nil] at *; omega
end Go.Proofs.YtecbbbaafcoliaaDoor
/- An own memory: as a memory that is read. -/
namespace Go.Proofs.YtecbbbaafcoliaaDoor
open Go.RowKit
set_option linter.unusedVariables false
set_option linter.unusedSimpArgs false

def memNums (M : Mem) : List (Nat × Int) := [(0, M.half), (1, M.old), (2, M.card), (4, M.used), (5, M.top), (6, M.oldTop)]
def memFlds (tI : TypeId) (M : Mem) (S : Sls) : List Fld :=
  [⟨3, 30, 1, S.W.1, M.W.length, S.W.2, wcells M.W⟩, ⟨7, 30, 1, S.R.1, M.roots.length, S.R.2, wcells M.roots⟩, ⟨8, 30, 1, S.K.1, M.weak.length, S.K.2, wcells M.weak⟩,
    ⟨9, tI, 2, S.I.1, M.ids.length, S.I.2, icells M.ids⟩, ⟨10, 4, 1, S.C.1, M.cards.length, S.C.2, bcells M.cards⟩]
def OMem (w : World) (B b : Nat) (tI : TypeId) (M : Mem) (S : Sls) : Prop := OM w B b (memNums M) (memFlds tI M S)
theorem row_rsl {w : World} {B : Nat} {e : TypeId} {size : Nat} {a : Option Addr} {n c : Nat} {xs : List Value} (h : w.ownsRow B e size (.slice a n c) n xs) : RSl w a xs ∧ n ≤ c ∧ (a = none → c = 0) := by
  rcases h.2 with ⟨h1, h2⟩ | ⟨g, cap, cur, h1, _, hg, hc, _, _, ht⟩
  · injection h1 with h1 _ h3
    subst h1 h3 h2
    have : xs = [] := List.eq_nil_of_length_eq_zero (by simpa using h.1)
    subst this
    exact ⟨RSl.nil _ _, Nat.le_refl _, fun _ => rfl⟩
  · injection h1 with h1 _ h3
    subst h1 h3
    refine ⟨fun j u hu => ⟨g, 0, rfl, ?_⟩, hc, fun e => by cases e⟩
    rw [Nat.zero_add, cell_of_row w g j cur _ _ hg]
    rw [← ht, List.getElem?_take] at hu
    split at hu
    · simpa using hu
    · cases hu
theorem OMem.mem {w : World} {B b : Nat} {tI : TypeId} {M : Mem} {S : Sls} (h : OMem w B b tI M S) (hok : M.Ok) : RMem w b 0 M S := by
  have hn := h.num
  have hf := h.fld
  have q3 := hf _ (List.mem_of_getElem? (l := memFlds tI M S) (i := 0) rfl)
  have q7 := hf _ (List.mem_of_getElem? (l := memFlds tI M S) (i := 1) rfl)
  have q8 := hf _ (List.mem_of_getElem? (l := memFlds tI M S) (i := 2) rfl)
  have q9 := hf _ (List.mem_of_getElem? (l := memFlds tI M S) (i := 3) rfl)
  have q10 := hf _ (List.mem_of_getElem? (l := memFlds tI M S) (i := 4) rfl)
  obtain ⟨r3, c3, n3⟩ := row_rsl q3.2.1
  obtain ⟨r7, c7, n7⟩ := row_rsl q7.2.1
  obtain ⟨r8, c8, n8⟩ := row_rsl q8.2.1
  obtain ⟨r9, c9, n9⟩ := row_rsl q9.2.1
  obtain ⟨r10, c10, n10⟩ := row_rsl q10.2.1
  have e : ∀ j : Nat, (⟨b, 0 + j, none⟩ : Addr) = ⟨b, j, none⟩ := fun j => by rw [Nat.zero_add]
  refine ⟨?_, ?_, ?_, ?_, ?_, ?_, ?_, ?_, ?_, ?_, ?_, r3, r7, r8, r9, r10, c3, c7, c8, c9, c10, n3, n7, n8, n9, n10, hok⟩
  · exact hn _ (List.mem_of_getElem? (l := memNums M) (i := 0) rfl)
  · rw [e]; exact hn _ (List.mem_of_getElem? (l := memNums M) (i := 1) rfl)
  · rw [e]; exact hn _ (List.mem_of_getElem? (l := memNums M) (i := 2) rfl)
  · rw [e]; exact q3.1
  · rw [e]; exact hn _ (List.mem_of_getElem? (l := memNums M) (i := 3) rfl)
  · rw [e]; exact hn _ (List.mem_of_getElem? (l := memNums M) (i := 4) rfl)
  · rw [e]; exact hn _ (List.mem_of_getElem? (l := memNums M) (i := 5) rfl)
  · rw [e]; exact q7.1
  · rw [e]; exact q8.1
  · rw [e]; exact q9.1
  · rw [e]; exact q10.1
/-- Bounds by which every row can be copied. -/
structure Few (M : Mem) : Prop where
  W : M.W.length ≤ 1000000
  R : M.roots.length ≤ 1000000
  K : M.weak.length ≤ 1000000
  I : M.ids.length ≤ 1000000
  C : M.cards.length ≤ 1000000
theorem wcells_one (l : List Int) : ∀ u ∈ wcells l, u.oneCell' = true := fun u hu => by obtain ⟨x, _, rfl⟩ := List.mem_map.1 hu; rfl
theorem bcells_one (l : List Bool) : ∀ u ∈ bcells l, u.oneCell' = true := fun u hu => by obtain ⟨x, _, rfl⟩ := List.mem_map.1 hu; rfl
theorem icells_one (l : List (Int × Int)) : ∀ u ∈ icells l, u.oneCell' = true := fun u hu => by
  obtain ⟨o, _, ho⟩ := List.mem_flatMap.1 hu
  simp at ho
  rcases ho with rfl | rfl <;> rfl
theorem wcells_len (l : List Int) : (wcells l).length = l.length * 1 := by simp [wcells]
theorem bcells_len (l : List Bool) : (bcells l).length = l.length * 1 := by simp [bcells]
def flds0 (tI : TypeId) : List Fld := [⟨3, 30, 1, none, 0, 0, []⟩, ⟨7, 30, 1, none, 0, 0, []⟩, ⟨8, 30, 1, none, 0, 0, []⟩, ⟨9, tI, 2, none, 0, 0, []⟩, ⟨10, 4, 1, none, 0, 0, []⟩]
theorem om_new (w : World) (M : Mem) (t tI : TypeId) :
    OM (w.alloc (.cells #[.int .i64 M.half, .int .i64 M.old, .int .i64 M.card, .slice none 0 0, .int .i64 M.used, .int .i64 M.top, .int .i64 M.oldTop, .slice none 0 0, .slice none 0 0, .slice none 0 0, .slice none 0 0] t)) w.heap.size w.heap.size (memNums M) (flds0 tI) := by
  have hc : ∀ j v, (#[Value.int .i64 M.half, .int .i64 M.old, .int .i64 M.card, .slice none 0 0, .int .i64 M.used, .int .i64 M.top, .int .i64 M.oldTop, .slice none 0 0, .slice none 0 0, .slice none 0 0, .slice none 0 0] : Array Value)[j]? = some v →
      (w.alloc (.cells #[.int .i64 M.half, .int .i64 M.old, .int .i64 M.card, .slice none 0 0, .int .i64 M.used, .int .i64 M.top, .int .i64 M.oldTop, .slice none 0 0, .slice none 0 0, .slice none 0 0, .slice none 0 0] t)).cell? ⟨w.heap.size, j, none⟩ = some v := fun j v hv => by
    rw [cell_of_row _ w.heap.size j _ t (0, 0) (heap_alloc_new w _)]; exact hv
  refine ⟨Nat.le_refl _, ⟨_, t, heap_alloc_new w _⟩, fun p hp => ?_, fun f hf => ?_, ?_, ?_⟩
  · simp only [memNums, List.mem_cons, List.not_mem_nil, or_false] at hp
    rcases hp with rfl | rfl | rfl | rfl | rfl | rfl <;> exact hc _ _ rfl
  · simp only [flds0, List.mem_cons, List.not_mem_nil, or_false] at hf
    rcases hf with rfl | rfl | rfl | rfl | rfl <;> exact ⟨hc _ _ rfl, World.ownsRow_nil _ _ _ _, by simp [Fld.val, Value.ownBlock]⟩
  · simp [flds0, Fld.val, Value.ownBlock]
  · simp [flds0, memNums]
theorem named_world' {P : Program} {c : Code} {Q : Exit → Act → World → Prop} {a : Act} {W : World} (h : ∀ W9, W9 = W → Code.wp P c Q a W9) : Code.wp P c Q a W := h W rfl
end Go.Proofs.YtecbbbaafcoliaaDoor
/- The walk of mem.New. -/
namespace Go.Proofs.YtecbbbaafcoliaaDoor
open Go.RowKit
set_option linter.unusedVariables false
set_option linter.unusedSimpArgs false

theorem n1_any (a hi : Int) (w : World) : Calls Tryd.prog 83 #[.int .i64 a, .int .i64 hi] w fun e w' => e = .returned (.bool (inR a 1 hi)) ∧ w' = w := by
  by_cases h : 1 ≤ a
  · have e : inR a 1 hi = decide (a ≤ hi) := by simp [inR, h]
    rw [e]
    go_enter Tryd.func83, Tryd.ntmps83
    go_wp2
    go_ret
    exact ⟨rfl, rfl⟩
  · have e : inR a 1 hi = false := by simp [inR, h]
    rw [e]
    go_enter Tryd.func83, Tryd.ntmps83
    go_wp2
    go_ret
    exact ⟨rfl, rfl⟩
def newOK (half old card : Int) : Bool := inR half 1 65536 && inR old 1 65536 && inR card 1 1024
theorem new_no (half old card : Int) (h : newOK half old card = false) (w : World) (gb : Addr) (hG : GBound w gb) :
    Calls Tryd.prog 35 #[.int .i64 half, .int .i64 old, .int .i64 card] w fun e w' => e = .returned (.tuple #[.pointer none, errV gb]) ∧ Ext w w' := by
  have h3 : inR half 1 65536 = false ∨ (inR half 1 65536 = true ∧ inR old 1 65536 = false) ∨ (inR half 1 65536 = true ∧ inR old 1 65536 = true ∧ inR card 1 1024 = false) := by
    revert h; unfold newOK; cases inR half 1 65536 <;> cases inR old 1 65536 <;> cases inR card 1 1024 <;> simp
  clear h
  rcases h3 with h1 | ⟨h1, h2⟩ | ⟨h1, h2, h3⟩
  all_goals
    go_enter Tryd.func35, Tryd.ntmps35
    go_wp2_with (go_at_call 83; refine (n1_any _ _ _).mono ?_; rintro e w' ⟨rfl, rfl⟩)
    go_quiet (fail)
    go_wp2
    go_ret2
    exact ⟨rfl, ext_drewN _ _⟩
/-- A new memory. -/
def newM (half old card : Int) : Mem := ⟨half, old, card, List.replicate (2 * half + old).toNat 0, 0, 0, 0, [], [], [], List.replicate ((old + card - 1) / card).toNat false⟩
theorem infoU : (Tryd.prog.info? 30).map (fun i => (i.zero, i.size, i.bytes)) = some (some (.int .u64 0), 1, 8) := by kernel_rfl
theorem infoB : (Tryd.prog.info? 4).map (fun i => (i.zero, i.size, i.bytes)) = some (some (.bool false), 1, 1) := by kernel_rfl
theorem undUs : Tryd.prog.underlying 35 = some (.slice 30) := by kernel_rfl
theorem undBs : Tryd.prog.underlying 37 = some (.slice 4) := by kernel_rfl
def NewPost (w : World) (M : Mem) (e : Ending) (w' : World) : Prop :=
  ∃ b S, e = .returned (.tuple #[.pointer (some ⟨b, 0, none⟩), .nilIface]) ∧ OMem w' w.heap.size b 72 M S ∧ Ext w w'
theorem om_made {wb : World} (B : Nat) (half old card : Int) (t tI : TypeId) (n1 n2 gW gC : Nat) (hn1 : n1 = (2 * half + old).toNat) (hn2 : n2 = ((old + card - 1) / card).toNat) (hB : B ≤ wb.heap.size) (hne : gW ≠ gC)
    (ho1 : wb.ownsRow B 30 1 (.slice (some ⟨gW, 0, none⟩) n1 n1) n1 (madeCells (Value.int .u64 0).cells (n1 * 1)).toList)
    (ho2 : wb.ownsRow B 4 1 (.slice (some ⟨gC, 0, none⟩) n2 n2) n2 (madeCells (Value.bool false).cells (n2 * 1)).toList) :
    OMem (wb.alloc (.cells #[.int .i64 half, .int .i64 old, .int .i64 card, .slice (some ⟨gW, 0, none⟩) n1 n1, .int .i64 0, .int .i64 0, .int .i64 0, .slice none 0 0, .slice none 0 0, .slice none 0 0, .slice (some ⟨gC, 0, none⟩) n2 n2] t)) B wb.heap.size tI (newM half old card)
      ⟨(some ⟨gW, 0, none⟩, n1), (none, 0), (none, 0), (none, 0), (some ⟨gC, 0, none⟩, n2)⟩ := by
  have e1 : (madeCells (Value.int .u64 0).cells (n1 * 1)).toList = wcells (newM half old card).W := by
    rw [show (Value.int .u64 0).cells = #[Value.int .u64 0] from rfl, Nat.mul_one, toList_madeCells_one]; simp [wcells, newM, hn1]
  have e2 : (madeCells (Value.bool false).cells (n2 * 1)).toList = bcells (newM half old card).cards := by
    rw [show (Value.bool false).cells = #[Value.bool false] from rfl, Nat.mul_one, toList_madeCells_one]; simp [bcells, newM, hn2]
  have l1 : (newM half old card).W.length = n1 := by simp [newM, hn1]
  have l2 : (newM half old card).cards.length = n2 := by simp [newM, hn2]
  have lt1 : gW < wb.heap.size := (ho1.lt gW rfl).2
  have lt2 : gC < wb.heap.size := (ho2.lt gC rfl).2
  have hc : ∀ j v, (#[Value.int .i64 half, .int .i64 old, .int .i64 card, .slice (some ⟨gW, 0, none⟩) n1 n1, .int .i64 0, .int .i64 0, .int .i64 0, .slice none 0 0, .slice none 0 0, .slice none 0 0, .slice (some ⟨gC, 0, none⟩) n2 n2] : Array Value)[j]? = some v → (wb.alloc (.cells #[.int .i64 half, .int .i64 old, .int .i64 card, .slice (some ⟨gW, 0, none⟩) n1 n1, .int .i64 0, .int .i64 0, .int .i64 0, .slice none 0 0, .slice none 0 0, .slice none 0 0, .slice (some ⟨gC, 0, none⟩) n2 n2] t)).cell? ⟨wb.heap.size, j, none⟩ = some v := fun j v hv => by
    rw [cell_of_row _ wb.heap.size j _ t (0, 0) (heap_alloc_new wb _)]; exact hv
  have r1 := ho1.alloc (.cells #[.int .i64 half, .int .i64 old, .int .i64 card, .slice (some ⟨gW, 0, none⟩) n1 n1, .int .i64 0, .int .i64 0, .int .i64 0, .slice none 0 0, .slice none 0 0, .slice none 0 0, .slice (some ⟨gC, 0, none⟩) n2 n2] t)
  have r2 := ho2.alloc (.cells #[.int .i64 half, .int .i64 old, .int .i64 card, .slice (some ⟨gW, 0, none⟩) n1 n1, .int .i64 0, .int .i64 0, .int .i64 0, .slice none 0 0, .slice none 0 0, .slice none 0 0, .slice (some ⟨gC, 0, none⟩) n2 n2] t)
  rw [e1] at r1
  rw [e2] at r2
  refine ⟨hB, ⟨_, t, heap_alloc_new wb _⟩, fun p hp => ?_, fun f hf => ?_, ?_, ?_⟩
  · simp only [memNums, List.mem_cons, List.not_mem_nil, or_false] at hp
    rcases hp with rfl | rfl | rfl | rfl | rfl | rfl <;> exact hc _ _ rfl
  · simp only [memFlds, List.mem_cons, List.not_mem_nil, or_false] at hf
    rcases hf with rfl | rfl | rfl | rfl | rfl
    · refine ⟨?_, ?_, ?_⟩
      · simp only [Fld.val, l1]; exact hc _ _ rfl
      · simp only [Fld.val, l1]; exact r1
      · simp [Fld.val, Value.ownBlock]; omega
    · exact ⟨hc _ _ rfl, World.ownsRow_nil _ _ _ _, by simp [Fld.val, Value.ownBlock]⟩
    · exact ⟨hc _ _ rfl, World.ownsRow_nil _ _ _ _, by simp [Fld.val, Value.ownBlock]⟩
    · exact ⟨hc _ _ rfl, World.ownsRow_nil _ _ _ _, by simp [Fld.val, Value.ownBlock]⟩
    · refine ⟨?_, ?_, ?_⟩
      · simp only [Fld.val, l2]; exact hc _ _ rfl
      · simp only [Fld.val, l2]; exact r2
      · simp [Fld.val, Value.ownBlock]; omega
  · simp [memFlds, Fld.val, Value.ownBlock]; exact fun e => hne e.symm
  · simp [memFlds, memNums]

set_option maxRecDepth 100000 in
set_option maxHeartbeats 4000000 in
theorem new_yes (half old card : Int) (h : newOK half old card = true) (w : World) :
    Calls Tryd.prog 35 #[.int .i64 half, .int .i64 old, .int .i64 card] w (NewPost w (newM half old card)) := by
  simp only [newOK, Bool.and_eq_true] at h
  obtain ⟨⟨h1, h2⟩, h3⟩ := h
  obtain ⟨a1, a2⟩ := inR_true.1 h1
  obtain ⟨a3, a4⟩ := inR_true.1 h2
  obtain ⟨a5, a6⟩ := inR_true.1 h3
  obtain ⟨i0, hi0, h0a, h0b, h0c⟩ := info_parts infoU
  obtain ⟨i4, hi4, h4a, h4b, h4c⟩ := info_parts infoB
  have q0 : 0 ≤ (old + card - 1) / card := Int.ediv_nonneg (by omega) (by omega)
  have q1 : (old + card - 1) / card ≤ old + card - 1 := Int.ediv_le_self _ (by omega)
  obtain ⟨n1, hn1⟩ : ∃ n : Nat, 2 * half + old = n := ⟨(2 * half + old).toNat, by omega⟩
  obtain ⟨n2, hn2⟩ : ∃ n : Nat, (old + card - 1) / card = n := ⟨((old + card - 1) / card).toNat, by omega⟩
  have e0 : IntKind.i64.wrap (2 * half) = 2 * half := IntWalk.i64_in _ (by omega)
  have e1 : IntKind.i64.wrap (2 * half + old) = (n1 : Int) := by rw [IntWalk.i64_in _ (by omega)]; exact hn1
  have e2 : IntKind.i64.wrap (old + card) = old + card := IntWalk.i64_in _ (by omega)
  have e3 : IntKind.i64.wrap (old + card - 1) = old + card - 1 := IntWalk.i64_in _ (by omega)
  have e4 : (old + card - 1).tdiv card = (n2 : Int) := by rw [Int.tdiv_eq_ediv_of_nonneg (by omega)]; exact hn2
  have e5 : IntKind.i64.wrap (n2 : Int) = (n2 : Int) := IntWalk.i64_in _ (by omega)
  have e8 : (card == 0) = false := by simp; omega
  have e9 : ¬ card = 0 := by omega
  have z1 : n1 = (2 * half + old).toNat := by omega
  have z2 : n2 = ((old + card - 1) / card).toNat := by omega
  obtain ⟨wa, hr1, ho1, hg1⟩ := run_make_full (P := Tryd.prog) w.drew w.heap.size 35 30 i0 (.int .u64 0) 1 undUs hi0 h0a h0b .i64 .i64 n1 (by rw [h0c]; omega) (by unfold maxLen; omega) (Nat.le_refl _)
  obtain ⟨wb, hr2, ho2, hg2⟩ := run_make_full (P := Tryd.prog) wa w.heap.size 37 4 i4 (.bool false) 1 undBs hi4 h4a h4b .i64 .i64 n2 (by rw [h4c]; omega) (by unfold maxLen; omega) hg1.size
  obtain ⟨va, hs1, hp1, hh1⟩ := run_make_full (P := Tryd.prog) w.drew w.heap.size 37 4 i4 (.bool false) 1 undBs hi4 h4a h4b .i64 .i64 n2 (by rw [h4c]; omega) (by unfold maxLen; omega) (Nat.le_refl _)
  obtain ⟨vb, hs2, hp2, hh2⟩ := run_make_full (P := Tryd.prog) va w.heap.size 35 30 i0 (.int .u64 0) 1 undUs hi0 h0a h0b .i64 .i64 n1 (by rw [h0c]; omega) (by unfold maxLen; omega) hh1.size
  have lt1 : w.heap.size < wa.heap.size := (ho1.lt w.drew.heap.size rfl).2
  have lt2 : w.heap.size < va.heap.size := (hp1.lt w.drew.heap.size rfl).2
  have x1 : Ext w wa := Ext.trans_ (Ext.refl w).drew_ (Below.grown (Below.refl _ _) hg1 (Nat.le_refl _) (fun k hk => by cases hk))
  have x2 : Ext w wb := Ext.trans_ x1 (Below.grown (Below.refl _ _) hg2 (Nat.le_refl _) (fun k hk => by cases hk))
  have x3 : Ext w va := Ext.trans_ (Ext.refl w).drew_ (Below.grown (Below.refl _ _) hh1 (Nat.le_refl _) (fun k hk => by cases hk))
  have x4 : Ext w vb := Ext.trans_ x3 (Below.grown (Below.refl _ _) hh2 (Nat.le_refl _) (fun k hk => by cases hk))
  have HOM := Lib.hid (om_made (wb := wb) w.heap.size half old card 39 72 n1 n2 w.heap.size wa.heap.size z1 z2 x2.size (by omega) (ho1.kept hg2 (Or.inr (by simp [Value.ownBlock]))) ho2)
  have HOV := Lib.hid (om_made (wb := vb) w.heap.size half old card 39 72 n1 n2 va.heap.size w.heap.size z1 z2 x4.size (by omega) hp2 (hp1.kept hh2 (Or.inr (by simp [Value.ownBlock]))))
  have X2 := Lib.hid x2
  have X4 := Lib.hid x4
  clear ho1 hg1 ho2 hg2 x1 x2 x3 x4 hp1 hp2 hh1 hh2 hn1 hn2 z1 z2 q0 q1 lt1 lt2
  go_enter Tryd.func35, Tryd.ntmps35
  go_wp2_with (go_at_call 83; refine (n1_any _ _ _).mono ?_; rintro e w' ⟨rfl, rfl⟩)
  refine wp_region_held_drew (S := fun _ => True) (by kernel_rfl) ?_ (fun hHeld => ?_)
  · trivial
  refine wpAnyH_take (i := 0) (oi := ⟨some 26, _, _, _, _, _⟩) (v := ?_) rfl (by kernel_rfl) (by kernel_rfl) (by kernel_rfl) (fun _ _ _ h => h) (Or.inl ⟨by rfl, ?_⟩) (by assumption) ?_
  rotate_left
  · (intro w hSw; (try dsimp only at hSw); go_simp; try with_reducible rfl)
  try simp only [Act.put, List.setIfInBounds_toArray, List.set_cons_zero, List.set_cons_succ]
  refine wpAnyH_take (i := 1) (oi := ⟨some 27, _, _, _, _, _⟩) (v := ?_) rfl (by kernel_rfl) (by kernel_rfl) (by kernel_rfl) (fun _ _ _ h => h) (Or.inl ⟨by rfl, ?_⟩) (by assumption) ?_
  rotate_left
  · (intro w hSw; (try dsimp only at hSw); go_simp; try with_reducible rfl)
  try simp only [Act.put, List.setIfInBounds_toArray, List.set_cons_zero, List.set_cons_succ]
  refine wpAnyH_take (i := 2) (oi := ⟨some 28, _, _, _, _, _⟩) (v := ?_) rfl (by kernel_rfl) (by kernel_rfl) (by kernel_rfl) (fun _ _ _ h => h) (Or.inl ⟨by rfl, ?_⟩) (by assumption) ?_
  rotate_left
  · (intro w hSw; (try dsimp only at hSw); go_simp; try with_reducible rfl)
  try simp only [Act.put, List.setIfInBounds_toArray, List.set_cons_zero, List.set_cons_succ]
  refine wpAnyH_take (i := 3) (oi := ⟨some 29, _, _, _, _, _⟩) (v := ?_) rfl (by kernel_rfl) (by kernel_rfl) (by kernel_rfl) (fun _ _ _ h => h) (Or.inl ⟨by rfl, ?_⟩) (by assumption) ?_
  rotate_left
  · (intro w hSw; (try dsimp only at hSw); go_simp; try with_reducible rfl)
  try simp only [Act.put, List.setIfInBounds_toArray, List.set_cons_zero, List.set_cons_succ]
  refine wpAnyH_take (i := 4) (oi := ⟨some 30, _, _, _, _, _⟩) (v := ?_) rfl (by kernel_rfl) (by kernel_rfl) (by kernel_rfl) (fun _ _ _ h => h) (Or.inl ⟨by rfl, ?_⟩) (by assumption) ?_
  rotate_left
  · (intro w hSw; (try dsimp only at hSw); go_simp; try with_reducible rfl)
  try simp only [Act.put, List.setIfInBounds_toArray, List.set_cons_zero, List.set_cons_succ]
  refine wpAnyH_take (i := 5) (oi := ⟨some 31, _, _, _, _, _⟩) (v := ?_) rfl (by kernel_rfl) (by kernel_rfl) (by kernel_rfl) (fun _ _ _ h => h) (Or.inl ⟨by rfl, ?_⟩) (by assumption) ?_
  rotate_left
  · (intro w hSw; (try dsimp only at hSw); go_simp; try with_reducible rfl)
  try simp only [Act.put, List.setIfInBounds_toArray, List.set_cons_zero, List.set_cons_succ]
  refine wpAnyH_take (i := 6) (oi := ⟨some 32, _, _, _, _, _⟩) (v := ?_) rfl (by kernel_rfl) (by kernel_rfl) (by kernel_rfl) (fun _ _ _ h => h) (Or.inl ⟨by rfl, ?_⟩) (by assumption) ?_
  rotate_left
  · (intro w hSw; (try dsimp only at hSw); go_simp; try with_reducible rfl)
  try simp only [Act.put, List.setIfInBounds_toArray, List.set_cons_zero, List.set_cons_succ]
  refine wpAnyH_take (i := 8) (oi := ⟨some 34, _, _, _, _, _⟩) (v := ?_) rfl (by kernel_rfl) (by kernel_rfl) (by kernel_rfl) (fun _ _ _ h => h) (Or.inl ⟨by rfl, ?_⟩) (by assumption) ?_
  rotate_left
  · (intro w hSw; (try dsimp only at hSw); go_simp; try with_reducible rfl)
  try simp only [Act.put, List.setIfInBounds_toArray, List.set_cons_zero, List.set_cons_succ]
  refine wpAnyH_take (i := 9) (oi := ⟨some 35, _, _, _, _, _⟩) (v := ?_) rfl (by kernel_rfl) (by kernel_rfl) (by kernel_rfl) (fun _ _ _ h => h) (Or.inl ⟨by rfl, ?_⟩) (by assumption) ?_
  rotate_left
  · (intro w hSw; (try dsimp only at hSw); go_simp; try with_reducible rfl)
  try simp only [Act.put, List.setIfInBounds_toArray, List.set_cons_zero, List.set_cons_succ]
  refine wpAnyH_take (i := 10) (oi := ⟨some 36, _, _, _, _, _⟩) (v := ?_) rfl (by kernel_rfl) (by kernel_rfl) (by kernel_rfl) (fun _ _ _ h => h) (Or.inl ⟨by rfl, ?_⟩) (by assumption) ?_
  rotate_left
  · (intro w hSw; (try dsimp only at hSw); go_simp; try with_reducible rfl)
  try simp only [Act.put, List.setIfInBounds_toArray, List.set_cons_zero, List.set_cons_succ]
  refine wpAnyH_take (i := 11) (oi := ⟨some 37, _, _, _, _, _⟩) (v := ?_) rfl (by kernel_rfl) (by kernel_rfl) (by kernel_rfl) (fun _ _ _ h => h) (Or.inl ⟨by rfl, ?_⟩) (by assumption) ?_
  rotate_left
  · (intro w hSw; (try dsimp only at hSw); go_simp; try with_reducible rfl)
  try simp only [Act.put, List.setIfInBounds_toArray, List.set_cons_zero, List.set_cons_succ]
  refine wpAnyH_take (i := 12) (oi := ⟨some 38, _, _, _, _, _⟩) (v := ?_) rfl (by kernel_rfl) (by kernel_rfl) (by kernel_rfl) (fun _ _ _ h => h) (Or.inl ⟨by rfl, ?_⟩) (by assumption) ?_
  rotate_left
  · (intro w hSw; (try dsimp only at hSw); go_simp; try with_reducible rfl)
  try simp only [Act.put, List.setIfInBounds_toArray, List.set_cons_zero, List.set_cons_succ]
  refine wpAnyH_take (i := 13) (oi := ⟨some 39, _, _, _, _, _⟩) (v := ?_) rfl (by kernel_rfl) (by kernel_rfl) (by kernel_rfl) (fun _ _ _ h => h) (Or.inl ⟨by rfl, ?_⟩) (by assumption) ?_
  rotate_left
  · (intro w hSw; (try dsimp only at hSw); go_simp; try with_reducible rfl)
  try simp only [Act.put, List.setIfInBounds_toArray, List.set_cons_zero, List.set_cons_succ]
  refine wpAnyH_ready (rs := [7, 14]) (by kernel_rfl) (by simp) ?_
  refine AllReadyH.cons (o := ⟨some 33, _, _, _, _, _⟩) rfl (fun K hK => ?_) (AllReadyH.cons (o := ⟨some 40, _, _, _, _, _⟩) rfl (fun K hK => ?_) AllReadyH.nil)
  · skip
    go_simp
    refine hK.out _ _ ?_ (fun hHeld => ?_)
    · (try dsimp only); all_goals trivial
    clear hK K
    try simp only [Act.put, List.setIfInBounds_toArray, List.set_cons_zero, List.set_cons_succ]
    refine wpAnyH_ready (rs := [14]) (by kernel_rfl) (by simp) ?_
    refine AllReadyH.cons (o := ⟨some 40, _, _, _, _, _⟩) rfl (fun K hK => ?_) AllReadyH.nil
    go_simp
    skip
    refine hK.out _ _ ?_ (fun hHeld => ?_)
    · (try dsimp only); all_goals trivial
    clear hK K
    try simp only [Act.put, List.setIfInBounds_toArray, List.set_cons_zero, List.set_cons_succ]
    refine wpAnyH_take (i := 15) (oi := ⟨some 41, _, _, _, _, _⟩) (v := ?_) rfl (by kernel_rfl) (by kernel_rfl) (by kernel_rfl) (fun _ _ _ h => h) (Or.inl ⟨by rfl, ?_⟩) (by assumption) ?_
    rotate_left
    · (intro w hSw; (try dsimp only at hSw); go_simp; try with_reducible rfl)
    try simp only [Act.put, List.setIfInBounds_toArray, List.set_cons_zero, List.set_cons_succ]
    refine wpAnyH_ready (rs := [16]) (by kernel_rfl) (by simp) ?_
    refine AllReadyH.cons (o := ⟨some 42, _, _, _, _, _⟩) rfl (fun K hK => ?_) AllReadyH.nil
    go_simp
    skip
    refine hK.out _ _ ?_ (fun hHeld => ?_)
    · (try dsimp only); all_goals trivial
    clear hK K
    try simp only [Act.put, List.setIfInBounds_toArray, List.set_cons_zero, List.set_cons_succ]
    refine wpAnyH_take (i := 17) (oi := ⟨some 6, _, _, _, _, _⟩) (v := ?_) rfl (by kernel_rfl) (by kernel_rfl) (by kernel_rfl) (fun _ _ _ h => h) (Or.inl ⟨by rfl, ?_⟩) (by assumption) ?_
    rotate_left
    · (intro w hSw; (try dsimp only at hSw); go_simp; try with_reducible rfl)
    try simp only [Act.put, List.setIfInBounds_toArray, List.set_cons_zero, List.set_cons_succ]
    refine wpAnyH_take (i := 18) (oi := ⟨some 7, _, _, _, _, _⟩) (v := ?_) rfl (by kernel_rfl) (by kernel_rfl) (by kernel_rfl) (fun _ _ _ h => h) (Or.inl ⟨by rfl, ?_⟩) (by assumption) ?_
    rotate_left
    · (intro w hSw; (try dsimp only at hSw); go_simp; try with_reducible rfl)
    try simp only [Act.put, List.setIfInBounds_toArray, List.set_cons_zero, List.set_cons_succ]
    refine wpAnyH_done (by kernel_rfl) ?_ _
    go_wp2
    go_ret2
    exact ⟨wb.heap.size, _, rfl, HOM.out, Ext.alloc_ X2.out _⟩
  · skip
    go_simp
    refine hK.out _ _ ?_ (fun hHeld => ?_)
    · (try dsimp only); all_goals trivial
    clear hK K
    try simp only [Act.put, List.setIfInBounds_toArray, List.set_cons_zero, List.set_cons_succ]
    refine wpAnyH_ready (rs := [7]) (by kernel_rfl) (by simp) ?_
    refine AllReadyH.cons (o := ⟨some 33, _, _, _, _, _⟩) rfl (fun K hK => ?_) AllReadyH.nil
    go_simp
    skip
    refine hK.out _ _ ?_ (fun hHeld => ?_)
    · (try dsimp only); all_goals trivial
    clear hK K
    try simp only [Act.put, List.setIfInBounds_toArray, List.set_cons_zero, List.set_cons_succ]
    refine wpAnyH_take (i := 15) (oi := ⟨some 41, _, _, _, _, _⟩) (v := ?_) rfl (by kernel_rfl) (by kernel_rfl) (by kernel_rfl) (fun _ _ _ h => h) (Or.inl ⟨by rfl, ?_⟩) (by assumption) ?_
    rotate_left
    · (intro w hSw; (try dsimp only at hSw); go_simp; try with_reducible rfl)
    try simp only [Act.put, List.setIfInBounds_toArray, List.set_cons_zero, List.set_cons_succ]
    refine wpAnyH_ready (rs := [16]) (by kernel_rfl) (by simp) ?_
    refine AllReadyH.cons (o := ⟨some 42, _, _, _, _, _⟩) rfl (fun K hK => ?_) AllReadyH.nil
    go_simp
    skip
    refine hK.out _ _ ?_ (fun hHeld => ?_)
    · (try dsimp only); all_goals trivial
    clear hK K
    try simp only [Act.put, List.setIfInBounds_toArray, List.set_cons_zero, List.set_cons_succ]
    refine wpAnyH_take (i := 17) (oi := ⟨some 6, _, _, _, _, _⟩) (v := ?_) rfl (by kernel_rfl) (by kernel_rfl) (by kernel_rfl) (fun _ _ _ h => h) (Or.inl ⟨by rfl, ?_⟩) (by assumption) ?_
    rotate_left
    · (intro w hSw; (try dsimp only at hSw); go_simp; try with_reducible rfl)
    try simp only [Act.put, List.setIfInBounds_toArray, List.set_cons_zero, List.set_cons_succ]
    refine wpAnyH_take (i := 18) (oi := ⟨some 7, _, _, _, _, _⟩) (v := ?_) rfl (by kernel_rfl) (by kernel_rfl) (by kernel_rfl) (fun _ _ _ h => h) (Or.inl ⟨by rfl, ?_⟩) (by assumption) ?_
    rotate_left
    · (intro w hSw; (try dsimp only at hSw); go_simp; try with_reducible rfl)
    try simp only [Act.put, List.setIfInBounds_toArray, List.set_cons_zero, List.set_cons_succ]
    refine wpAnyH_done (by kernel_rfl) ?_ _
    go_wp2
    go_ret2
    exact ⟨vb.heap.size, _, rfl, HOV.out, Ext.alloc_ X4.out _⟩
end Go.Proofs.YtecbbbaafcoliaaDoor
