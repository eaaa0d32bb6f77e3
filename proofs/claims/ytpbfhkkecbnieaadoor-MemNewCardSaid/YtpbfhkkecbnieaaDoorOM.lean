/- A memory of the call's own: its cells and rows, of which none lies over another; what a step does to it. -/
import Derived.Test.YtpbfhkkecbnieaaDoorAppend
import Derived.Test.YtpbfhkkecbnieaaDoorKeep
namespace Go.Proofs.YtpbfhkkecbnieaaDoor
open Go.RowKit
set_option linter.unusedVariables false
set_option linter.unusedSimpArgs false

/-- A field that is a slice: where it stands, its elements' type and size, its value, its cells. -/
structure Fld where
  off : Nat
  e : TypeId
  size : Nat
  a : Option Addr
  n : Nat
  c : Nat
  cs : List Value
def Fld.val (f : Fld) : Value := .slice f.a f.n f.c
structure OM (w : World) (B b : Nat) (nums : List (Nat × Int)) (L : List Fld) : Prop where
  hb : B ≤ b
  blk : ∃ cur t, w.heap[b]? = some (.cells cur t (0, 0))
  num : ∀ p ∈ nums, w.cell? ⟨b, p.1, none⟩ = some (.int .i64 p.2)
  fld : ∀ f ∈ L, w.cell? ⟨b, f.off, none⟩ = some f.val ∧ w.ownsRow B f.e f.size f.val f.n f.cs ∧ f.val.ownBlock ≠ some b
  apart : L.Pairwise fun f g => ∀ k, f.val.ownBlock = some k → g.val.ownBlock ≠ some k
  offs : (nums.map (·.1) ++ L.map (·.off)).Nodup

theorem OM.lt {w : World} {B b : Nat} {nums : List (Nat × Int)} {L : List Fld} (h : OM w B b nums L) : b < w.heap.size := by
  obtain ⟨cur, t, hc⟩ := h.blk
  rcases Nat.lt_or_ge b w.heap.size with g | g
  · exact g
  · simp [Array.getElem?_eq_none g] at hc
theorem OM.frozen {w : World} {B b : Nat} {nums : List (Nat × Int)} {L : List Fld} (h : OM w B b nums L) (j : Nat) : w.frozen? ⟨b, j, none⟩ = false := by
  obtain ⟨cur, t, hc⟩ := h.blk
  simp [World.frozen?, hc]
/-- A step that leaves all its blocks alone. -/
theorem OM.kept {w w' : World} {B b : Nat} {nums : List (Nat × Int)} {L : List Fld} (h : OM w B b nums L) (hk : ∀ k, k < w.heap.size → (k = b ∨ ∃ f ∈ L, f.val.ownBlock = some k) → w'.heap[k]? = w.heap[k]?) : OM w' B b nums L := by
  have hbk : w'.heap[b]? = w.heap[b]? := hk b h.lt (Or.inl rfl)
  refine ⟨h.hb, ?_, fun p hp => ?_, fun f hf => ⟨?_, ?_, (h.fld f hf).2.2⟩, h.apart, h.offs⟩
  · rw [hbk]; exact h.blk
  · rw [World.cell?_of_block (w := w) (a := ⟨b, p.1, none⟩) hbk]; exact h.num p hp
  · rw [World.cell?_of_block (w := w) (a := ⟨b, f.off, none⟩) hbk]; exact (h.fld f hf).1
  · obtain ⟨h1, h2⟩ := (h.fld f hf).2.1
    refine ⟨h1, ?_⟩
    rcases h2 with h2 | ⟨g, cap, cur, hv, hg, hh, r⟩
    · exact Or.inl h2
    · refine Or.inr ⟨g, cap, cur, hv, hg, ?_, r⟩
      rw [hk g (((h.fld f hf).2.1.lt g (by rw [hv]; rfl)).2) (Or.inr ⟨f, hf, by rw [hv]; rfl⟩)]
      exact hh
theorem OM.ext {w w' : World} {B b : Nat} {nums : List (Nat × Int)} {L : List Fld} (h : OM w B b nums L) (hx : Ext w w') : OM w' B b nums L := h.kept fun k hk _ => hx.block k hk
/-- An own row is where it was behind a store elsewhere. -/
theorem own_set {w : World} {B : Nat} {e : TypeId} {size : Nat} {v : Value} {n : Nat} {xs : List Value} (h : w.ownsRow B e size v n xs) {p : Addr} (hp : v.ownBlock ≠ some p.block) (u : Value) : (w.setCell p u).ownsRow B e size v n xs := by
  obtain ⟨h1, h2⟩ := h
  refine ⟨h1, ?_⟩
  rcases h2 with h2 | ⟨g, cap, cur, hv, hg, hh, r⟩
  · exact Or.inl h2
  · refine Or.inr ⟨g, cap, cur, hv, hg, ?_, r⟩
    rw [Below.heap_setCell _ _ _ _ (fun e => hp (by rw [hv]; exact congrArg some e))]
    exact hh
theorem cell_set_same {w : World} {b o : Nat} {x u : Value} (hc : w.cell? ⟨b, o, none⟩ = some x) : (w.setCell ⟨b, o, none⟩ u).cell? ⟨b, o, none⟩ = some u := by
  simp [hc, go_sem]
theorem cell_set_off {w : World} {b o o' : Nat} {u : Value} (h : o ≠ o') : (w.setCell ⟨b, o, none⟩ u).cell? ⟨b, o', none⟩ = w.cell? ⟨b, o', none⟩ :=
  World.cell?_setCell_other w _ _ u (fun e => h (by injection e))
theorem blk_set {w : World} {b o : Nat} {u : Value} (h : ∃ cur t, w.heap[b]? = some (.cells cur t (0, 0))) : ∃ cur t, (w.setCell ⟨b, o, none⟩ u).heap[b]? = some (.cells cur t (0, 0)) := by
  obtain ⟨cur, t, hc⟩ := h
  simp only [World.setCell, Array.getElem?_modify]
  simp [hc]
/-- A FIELD IS FILLED: an append onto the empty field, whose row is new, and the store of it. -/
theorem OM.fill {w w1 : World} {B b : Nat} {nums : List (Nat × Int)} {L1 L2 : List Fld} {f : Fld} (h : OM w B b nums (L1 ++ f :: L2)) (hf : f.a = none) (a' : Option Addr) (n' c' : Nat) (cs' : List Value)
    (hg : w.grownBy w1 none) (ho : w1.ownsRow B f.e f.size (.slice a' n' c') n' cs') (hnew : (Value.slice a' n' c').ownBlock = none ∨ (Value.slice a' n' c').ownBlock = some w.heap.size) :
    OM (w1.setCell ⟨b, f.off, none⟩ (.slice a' n' c')) B b nums (L1 ++ ⟨f.off, f.e, f.size, a', n', c', cs'⟩ :: L2) := by
  have h1 : OM w1 B b nums (L1 ++ f :: L2) := h.kept fun k hk _ => hg.block k hk (by simp)
  have hlt := h.lt
  have hnb : (Value.slice a' n' c').ownBlock ≠ some b := by
    rcases hnew with e | e
    · rw [e]; simp
    · rw [e]; simp; omega
  have hold : ∀ g ∈ L1 ++ f :: L2, ∀ k, g.val.ownBlock = some k → (Value.slice a' n' c').ownBlock ≠ some k := fun g hgm k hk => by
    have := ((h.fld g hgm).2.1.lt k hk).2
    rcases hnew with e | e
    · rw [e]; simp
    · rw [e]; simp; omega
  have hoffs := h.offs
  have hfoff : ∀ p ∈ nums, p.1 ≠ f.off := fun p hp e => by
    rw [List.nodup_append] at hoffs
    exact hoffs.2.2 p.1 (List.mem_map_of_mem hp) f.off (List.mem_map_of_mem (by simp)) e
  have hgoff : ∀ g ∈ L1 ++ L2, g.off ≠ f.off := fun g hgm e => by
    have := (List.nodup_append.1 hoffs).2.1
    simp only [List.map_append, List.map_cons] at this
    rw [List.nodup_append, List.nodup_cons] at this
    rcases List.mem_append.1 hgm with q | q
    · exact this.2.2 g.off (List.mem_map_of_mem q) f.off (by simp) e
    · exact this.2.1.1 (by rw [← e]; exact List.mem_map_of_mem q)
  refine ⟨h.hb, blk_set h1.blk, fun p hp => ?_, fun g hgm => ?_, ?_, ?_⟩
  · rw [cell_set_off (hfoff p hp).symm]; exact h1.num p hp
  · rcases List.mem_append.1 hgm with q | q
    · have q' : g ∈ L1 ++ f :: L2 := List.mem_append_left _ q
      refine ⟨?_, own_set (h1.fld g q').2.1 (h1.fld g q').2.2 _, (h1.fld g q').2.2⟩
      rw [cell_set_off (hgoff g (List.mem_append_left _ q)).symm]; exact (h1.fld g q').1
    · rcases List.mem_cons.1 q with rfl | q
      · exact ⟨cell_set_same (h1.fld f (by simp)).1, own_set ho hnb _, hnb⟩
      · have q' : g ∈ L1 ++ f :: L2 := by simp [q]
        refine ⟨?_, own_set (h1.fld g q').2.1 (h1.fld g q').2.2 _, (h1.fld g q').2.2⟩
        rw [cell_set_off (hgoff g (List.mem_append_right _ q)).symm]; exact (h1.fld g q').1
  · have hp := h.apart
    rw [List.pairwise_append, List.pairwise_cons] at hp ⊢
    obtain ⟨p1, ⟨p2, p3⟩, p4⟩ := hp
    refine ⟨p1, ⟨fun g hgm k hk => ?_, p3⟩, fun g hg1 g' hg' k hk => ?_⟩
    · intro e
      exact hold g (by simp [hgm]) k e hk
    · rcases List.mem_cons.1 hg' with rfl | hg'
      · exact hold g (by simp [hg1]) k hk
      · exact p4 g hg1 g' (by simp [hg']) k hk
  · simpa using hoffs
end Go.Proofs.YtpbfhkkecbnieaaDoor
