/- An own memory: more is appended to one of its rows, and the field is stored anew. -/
import Derived.Test.YtecbbbaafcoliaaDoorJWa03
import Derived.Test.YtecbbbaafcoliaaDoorJWa09
namespace Go.Proofs.YtecbbbaafcoliaaDoor
open Go.RowKit
set_option linter.unusedVariables false
set_option linter.unusedSimpArgs false

theorem OM.push {w w1 : World} {B b : Nat} {nums : List (Nat × Int)} {L1 L2 : List Fld} {f : Fld} (h : OM w B b nums (L1 ++ f :: L2)) (a' : Option Addr) (n' c' : Nat) (cs' : List Value)
    (hg : w.grownBy w1 f.val.ownBlock) (ho : w1.ownsRow B f.e f.size (.slice a' n' c') n' cs') (hnew : (Value.slice a' n' c').ownBlock = f.val.ownBlock ∨ (Value.slice a' n' c').ownBlock = some w.heap.size) :
    OM (w1.setCell ⟨b, f.off, none⟩ (.slice a' n' c')) B b nums (L1 ++ ⟨f.off, f.e, f.size, a', n', c', cs'⟩ :: L2) := by
  have hlt := h.lt
  have hap := h.apart
  have hfb := (h.fld f (by simp)).2.2
  have hother : ∀ g ∈ L1 ++ L2, ∀ k, g.val.ownBlock = some k → f.val.ownBlock ≠ some k := fun g hgm k hk e => by
    rw [List.pairwise_append, List.pairwise_cons] at hap
    rcases List.mem_append.1 hgm with q | q
    · exact hap.2.2 g q f (by simp) k hk e
    · exact hap.2.1.1 g q k e hk
  have hbk : w1.heap[b]? = w.heap[b]? := hg.block b hlt (fun e => hfb e.symm)
  have hnb : (Value.slice a' n' c').ownBlock ≠ some b := by
    rcases hnew with e | e
    · rw [e]; exact hfb
    · rw [e]; simp; omega
  have hold : ∀ g ∈ L1 ++ L2, ∀ k, g.val.ownBlock = some k → (Value.slice a' n' c').ownBlock ≠ some k := fun g hgm k hk => by
    have h1 : g ∈ L1 ++ f :: L2 := by rcases List.mem_append.1 hgm with q | q <;> simp [q]
    have := ((h.fld g h1).2.1.lt k hk).2
    rcases hnew with e | e
    · rw [e]; exact hother g hgm k hk
    · rw [e]; simp; omega
  have hrow : ∀ g ∈ L1 ++ L2, w1.ownsRow B g.e g.size g.val g.n g.cs := fun g hgm => by
    have h1 : g ∈ L1 ++ f :: L2 := by rcases List.mem_append.1 hgm with q | q <;> simp [q]
    refine (h.fld g h1).2.1.kept hg ?_
    rcases hv : g.val.ownBlock with _ | k
    · exact Or.inl rfl
    · exact Or.inr fun e => hother g hgm k hv e.symm
  have hoffs := h.offs
  have hfoff : ∀ p ∈ nums, p.1 ≠ f.off := fun p hp e => by
    rw [List.nodup_append] at hoffs
    exact hoffs.2.2 p.1 (List.mem_map_of_mem hp) f.off (List.mem_map_of_mem (by simp)) e
  have hgoff : ∀ g ∈ L1 ++ L2, g.off ≠ f.off := fun g hgm e => by
    have := (List.nodup_append.1 hoffs).2.1
    simp only [List.map_append, List.map_cons] at this
    rw [List.nodup_append, List.nodup_cons] at this
    rcases List.mem_append.1 hgm with q | q
    · exact this.2.2 g.off (List.mem_map_of_mem q) f.off (by simp) e
    · exact this.2.1.1 (by rw [← e]; exact List.mem_map_of_mem q)
  have hcell : ∀ j v, w.cell? ⟨b, j, none⟩ = some v → w1.cell? ⟨b, j, none⟩ = some v := fun j v hc => by
    rw [World.cell?_of_block (w := w) (a := ⟨b, j, none⟩) hbk]; exact hc
  have hblk : ∃ cur t, w1.heap[b]? = some (.cells cur t (0, 0)) := by rw [hbk]; exact h.blk
  have hgood : ∀ g ∈ L1 ++ L2, (w1.setCell ⟨b, f.off, none⟩ (.slice a' n' c')).cell? ⟨b, g.off, none⟩ = some g.val ∧ (w1.setCell ⟨b, f.off, none⟩ (.slice a' n' c')).ownsRow B g.e g.size g.val g.n g.cs ∧ g.val.ownBlock ≠ some b := fun g hgm => by
    have h1 : g ∈ L1 ++ f :: L2 := by rcases List.mem_append.1 hgm with q | q <;> simp [q]
    refine ⟨?_, own_set (hrow g hgm) (h.fld g h1).2.2 _, (h.fld g h1).2.2⟩
    rw [cell_set_off (hgoff g hgm).symm]; exact hcell _ _ (h.fld g h1).1
  refine ⟨h.hb, blk_set hblk, fun p hp => ?_, fun g hgm => ?_, ?_, ?_⟩
  · rw [cell_set_off (hfoff p hp).symm]; exact hcell _ _ (h.num p hp)
  · rcases List.mem_append.1 hgm with q | q
    · exact hgood g (List.mem_append_left _ q)
    · rcases List.mem_cons.1 q with rfl | q
      · exact ⟨cell_set_same (hcell _ _ (h.fld f (by simp)).1), own_set ho hnb _, hnb⟩
      · exact hgood g (List.mem_append_right _ q)
  · rw [List.pairwise_append, List.pairwise_cons] at hap ⊢
    obtain ⟨p1, ⟨p2, p3⟩, p4⟩ := hap
    refine ⟨p1, ⟨fun g hgm k hk e => ?_, p3⟩, fun g hg1 g' hg' k hk => ?_⟩
    · exact hold g (by simp [hgm]) k e hk
    · rcases List.mem_cons.1 hg' with rfl | hg'
      · exact hold g (by simp [hg1]) k hk
      · exact p4 g hg1 g' (by simp [hg']) k hk
  · simpa using hoffs
end Go.Proofs.YtecbbbaafcoliaaDoor
/- The walk of Memory.Alloc: whatever it answers. -/
namespace Go.Proofs.YtecbbbaafcoliaaDoor
open Go.RowKit
set_option linter.unusedVariables false
set_option linter.unusedSimpArgs false

def APost (w : World) (B b : Nat) (M : Mem) (S : Sls) (E : Nat → Addr) (kind : Int) (fs : List Int) (e : Ending) (w' : World) : Prop :=
  (allocC M kind fs ≠ 0 ∧ e = .returned (.tuple #[.int .u64 0, errC E (allocC M kind fs)]) ∧ Ext w w') ∨
  (allocC M kind fs = 0 ∧ e = .returned (.tuple #[.int .u64 (addrW ((M.base + M.top.toNat : Nat) : Int)), .nilIface]) ∧ OMem w' B b 72 (allocM M kind fs) S ∧ Keep (OwnL b S) w w' ∧ goodB M = true ∧ M.base + M.top.toNat + 1 + fs.length ≤ M.W.length)
theorem alloc_any (B b : Nat) (M : Mem) (S : Sls) (E : Nat → Addr) (kind : Int) (fa : Option Addr) (fs : List Int) (fc : Nat) (w : World) (hO : OMem w B b 72 M S) (hok : M.Ok) (hE : G4 E w)
    (hfl : fs.length ≤ 9223372036854775807) (hR : RSl w fa (wcells fs)) (hfb : ∀ x ∈ fs, 0 ≤ x ∧ x ≤ 18446744073709551615) (hno : ∀ x, fa = some x → ¬ OwnL b S x.block) :
    Calls Tryd.prog 17 #[.pointer (some ⟨b, 0, none⟩), .int .i64 kind, .slice fa fs.length fc] w (APost w B b M S E kind fs) := by
  have hM := hO.mem hok
  by_cases h : chk M = 0
  · by_cases hb : kind < 0 ∨ 255 < kind ∨ 4096 < fs.length
    · have e : allocC M kind fs = 2 := by unfold allocC; rw [if_neg (by simp [h]), if_pos hb]
      refine (alloc_bound b 0 M S E kind fa fs.length fc w hM hE h hfl (by omega)).mono fun en w' ⟨he, hx⟩ => Or.inl ⟨by omega, by rw [e]; exact he, hx⟩
    · by_cases hf : rawB kind = false ∧ fieldsB (startsM M) fs = false
      · have e : allocC M kind fs = 3 := by unfold allocC; rw [if_neg (by simp [h]), if_neg hb, if_pos hf]
        exact (alloc_shape b 0 M S E kind fa fs fc w hM hE h (by omega) (by omega) (by omega) hf.1 hf.2 hR hfb).mono fun en w' ⟨he, hx⟩ => Or.inl ⟨by omega, by rw [e]; exact he, hx⟩
      · have hf' : rawB kind = true ∨ fieldsB (startsM M) fs = true := by
          cases h1 : rawB kind <;> cases h2 : fieldsB (startsM M) fs <;> simp_all
        by_cases hfull : M.half < M.top + 1 + (fs.length : Int)
        · have e : allocC M kind fs = 6 := by unfold allocC; rw [if_neg (by simp [h]), if_neg hb, if_neg hf, if_pos hfull]
          exact (alloc_full b 0 M S E kind fa fs fc w hM hE h (by omega) (by omega) (by omega) hf' hR hfb hfull).mono fun en w' ⟨he, hx⟩ => Or.inl ⟨by omega, by rw [e]; exact he, hx⟩
        · have e : allocC M kind fs = 0 := by unfold allocC; rw [if_neg (by simp [h]), if_neg hb, if_neg hf, if_neg hfull]
          obtain ⟨hs, -⟩ := good_parts (chk_zero h).1
          obtain ⟨q1, q2, q3⟩ := hs.base
          have hw := hs.w
          have ht := hs.t1
          have hh := hs.h1
          have ho := hs.o1
          exact (alloc_yes B b M S E kind fa fs fc w hO hok hE h (by omega) (by omega) (by omega) hf' hR hfb hno hfull).mono fun en w' ⟨he, h1, h2⟩ => Or.inr ⟨e, he, h1, h2, (chk_zero h).1, by omega⟩
  · have e : allocC M kind fs = chk M := by unfold allocC; rw [if_pos h]
    exact (alloc_chk b 0 M S E kind fa fs.length fc w hM hE h).mono fun en w' ⟨he, hx⟩ => Or.inl ⟨by rw [e]; exact h, by rw [e]; exact he, hx⟩
/-- A memory's own step leaves all below its base. -/
theorem Keep.belowO {w w' : World} {B b : Nat} {tI : TypeId} {M : Mem} {S : Sls} (h : Keep (OwnL b S) w w') (hO : OMem w B b tI M S) (hB : B ≤ w.heap.size) : Below B w w' :=
  h.below hB fun k hk hl => by have := (hO.ownL hl).1; omega
theorem OMem.hbs {w : World} {B b : Nat} {tI : TypeId} {M : Mem} {S : Sls} (h : OMem w B b tI M S) : B ≤ w.heap.size := by
  have h1 := h.hb
  have h2 := OM.lt h
  omega
/-- A ROOT MORE. -/
theorem OMem.pushRoot {w w1 : World} {B b : Nat} {tI : TypeId} {M : Mem} {S : Sls} (h : OMem w B b tI M S) (x : Int) (a' : Option Addr) (c' : Nat) (hg : w.grownBy w1 (Value.slice S.R.1 M.roots.length S.R.2).ownBlock)
    (ho : w1.ownsRow B 30 1 (.slice a' (M.roots.length + 1) c') (M.roots.length + 1) (wcells M.roots ++ [.int .u64 x])) (hn : (Value.slice a' (M.roots.length + 1) c').ownBlock = (Value.slice S.R.1 M.roots.length S.R.2).ownBlock ∨ (Value.slice a' (M.roots.length + 1) c').ownBlock = some w.heap.size) :
    OMem (w1.setCell ⟨b, 7, none⟩ (.slice a' (M.roots.length + 1) c')) B b tI { M with roots := M.roots ++ [x] } { S with R := (a', c') } := by
  have := OM.push (L1 := (memFlds tI M S).take 1) (L2 := (memFlds tI M S).drop 2) (f := ⟨7, 30, 1, S.R.1, M.roots.length, S.R.2, wcells M.roots⟩) h a' (M.roots.length + 1) c' _ hg ho hn
  unfold OMem memFlds
  rw [show wcells (M.roots ++ [x]) = wcells M.roots ++ [.int .u64 x] from by simp [wcells], show (M.roots ++ [x]).length = M.roots.length + 1 from by simp]
  exact this
end Go.Proofs.YtecbbbaafcoliaaDoor
/- The box of a memory's fields: an own memory too, without numbered objects. -/
namespace Go.Proofs.YtecbbbaafcoliaaDoor
open Go.RowKit
set_option linter.unusedVariables false
set_option linter.unusedSimpArgs false

def partFlds (tI : TypeId) (M : Mem) (S : Sls) (a : Option Addr) (k c : Nat) : List Fld := [⟨3, 30, 1, S.W.1, M.W.length, S.W.2, wcells M.W⟩, ⟨7, 30, 1, S.R.1, M.roots.length, S.R.2, wcells M.roots⟩, ⟨8, 30, 1, S.K.1, M.weak.length, S.K.2, wcells M.weak⟩, ⟨9, tI, 2, a, k, c, icells (M.ids.take k)⟩, ⟨10, 4, 1, S.C.1, M.cards.length, S.C.2, bcells M.cards⟩]
theorem om_box {W : World} {B bx : Nat} {tK : TypeId} (tI t : TypeId) {M : Mem} {S : Sls} (h : OMem W B bx tK M S) :
    OM (W.alloc (.cells #[Value.int .i64 M.half, .int .i64 M.old, .int .i64 M.card, .slice S.W.1 M.W.length S.W.2, .int .i64 M.used, .int .i64 M.top, .int .i64 M.oldTop, .slice S.R.1 M.roots.length S.R.2, .slice S.K.1 M.weak.length S.K.2, .slice none 0 0, .slice S.C.1 M.cards.length S.C.2] t)) B W.heap.size (memNums M) (partFlds tI M S none 0 0) := by
  have hc : ∀ j v, (#[Value.int .i64 M.half, .int .i64 M.old, .int .i64 M.card, .slice S.W.1 M.W.length S.W.2, .int .i64 M.used, .int .i64 M.top, .int .i64 M.oldTop, .slice S.R.1 M.roots.length S.R.2, .slice S.K.1 M.weak.length S.K.2, .slice none 0 0, .slice S.C.1 M.cards.length S.C.2] : Array Value)[j]? = some v → (W.alloc (.cells #[Value.int .i64 M.half, .int .i64 M.old, .int .i64 M.card, .slice S.W.1 M.W.length S.W.2, .int .i64 M.used, .int .i64 M.top, .int .i64 M.oldTop, .slice S.R.1 M.roots.length S.R.2, .slice S.K.1 M.weak.length S.K.2, .slice none 0 0, .slice S.C.1 M.cards.length S.C.2] t)).cell? ⟨W.heap.size, j, none⟩ = some v := fun j v hv => by
    rw [cell_of_row _ W.heap.size j _ t (0, 0) (heap_alloc_new W _)]; exact hv
  have hg : ∀ f ∈ memFlds tK M S, (W.alloc (.cells #[Value.int .i64 M.half, .int .i64 M.old, .int .i64 M.card, .slice S.W.1 M.W.length S.W.2, .int .i64 M.used, .int .i64 M.top, .int .i64 M.oldTop, .slice S.R.1 M.roots.length S.R.2, .slice S.K.1 M.weak.length S.K.2, .slice none 0 0, .slice S.C.1 M.cards.length S.C.2] t)).ownsRow B f.e f.size f.val f.n f.cs ∧ f.val.ownBlock ≠ some W.heap.size := fun f hf => by
    have hr := (h.fld f hf).2.1
    refine ⟨hr.alloc _, fun e => ?_⟩
    have := (hr.lt _ e).2
    omega
  have hap := h.apart
  refine ⟨Nat.le_trans h.hb (Nat.le_of_lt h.lt), ⟨_, t, heap_alloc_new W _⟩, fun p hp => ?_, fun f hf => ?_, ?_, by simp [memNums, partFlds]⟩
  · simp only [memNums, List.mem_cons, List.not_mem_nil, or_false] at hp
    rcases hp with rfl | rfl | rfl | rfl | rfl | rfl <;> exact hc _ _ rfl
  · simp only [partFlds, List.mem_cons, List.not_mem_nil, or_false] at hf
    rcases hf with rfl | rfl | rfl | rfl | rfl
    · exact ⟨hc _ _ rfl, hg _ (by simp [memFlds])⟩
    · exact ⟨hc _ _ rfl, hg _ (by simp [memFlds])⟩
    · exact ⟨hc _ _ rfl, hg _ (by simp [memFlds])⟩
    · exact ⟨hc _ _ rfl, by show World.ownsRow _ _ _ _ (Value.slice none 0 0) 0 []; exact World.ownsRow_nil _ _ _ _, by simp [Fld.val, Value.ownBlock]⟩
    · exact ⟨hc _ _ rfl, hg _ (by simp [memFlds])⟩
  · simp only [memFlds, List.pairwise_cons, List.mem_cons, List.not_mem_nil, or_false, forall_eq_or_imp, forall_eq] at hap
    simp only [partFlds, List.pairwise_cons, List.mem_cons, List.not_mem_nil, or_false, forall_eq_or_imp, forall_eq]
    obtain ⟨⟨p1, p2, p3, p4⟩, ⟨p5, p6, p7⟩, ⟨p8, p9⟩, p10, _⟩ := hap
    exact ⟨⟨p1, p2, fun k _ => by simp [Fld.val, Value.ownBlock], p4⟩, ⟨p5, fun k _ => by simp [Fld.val, Value.ownBlock], p7⟩, ⟨fun k _ => by simp [Fld.val, Value.ownBlock], p9⟩, fun k hk => by simp [Fld.val, Value.ownBlock] at hk, fun _ h => h.elim, List.Pairwise.nil⟩
theorem rsl_made (W : World) (t : TypeId) (y1 y2 : Int) : RSl (W.alloc (.cells #[.int .u64 y1, .int .i64 y2] t)).drew (some ⟨W.heap.size, 0, none⟩) (icells [(y1, y2)]) := by
  have h : RSl (W.alloc (.cells #[.int .u64 y1, .int .i64 y2] t)) (some ⟨W.heap.size, 0, none⟩) (icells [(y1, y2)]) := fun j u hu => ⟨_, 0, rfl, by
    rw [Nat.zero_add, cell_of_row _ W.heap.size j _ t (0, 0) (heap_alloc_new W _)]
    simpa [icells] using hu⟩
  exact h.ext (Ext.refl _).drew_
end Go.Proofs.YtecbbbaafcoliaaDoor
