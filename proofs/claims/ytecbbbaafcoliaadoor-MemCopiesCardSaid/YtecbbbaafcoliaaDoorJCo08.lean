/- The closed fact on a new memory. -/
import Derived.Test.YtecbbbaafcoliaaDoorJCo03
import Derived.Test.YtecbbbaafcoliaaDoorJCo07
namespace Go.Proofs.YtecbbbaafcoliaaDoor
open Go.RowKit
set_option linter.unusedVariables false
set_option linter.unusedSimpArgs false

theorem newM_ok (half old card : Int) (h : newOK half old card = true) : (newM half old card).Ok := by
  simp only [newOK, Bool.and_eq_true] at h
  obtain ⟨⟨h1, h2⟩, h3⟩ := h
  obtain ⟨a1, a2⟩ := inR_true.1 h1
  obtain ⟨a3, a4⟩ := inR_true.1 h2
  obtain ⟨a5, a6⟩ := inR_true.1 h3
  have q0 : 0 ≤ (old + card - 1) / card := Int.ediv_nonneg (by omega) (by omega)
  have q1 : (old + card - 1) / card ≤ old + card - 1 := Int.ediv_le_self _ (by omega)
  refine ⟨by simp only [newM]; omega, by simp only [newM]; omega, by simp only [newM]; omega, by simp [newM], by simp [newM], by simp [newM], ?_, by simp [newM], by simp [newM], by simp [newM], ?_, by simp [newM], by simp [newM], by simp [newM], ?_⟩
  · intro x hx; simp only [newM] at hx; have := (List.mem_replicate.1 hx).2; omega
  · simp only [newM, List.length_replicate]; omega
  · simp only [newM, List.length_replicate]; omega
theorem fresh_chk : goodB (newM 4 5 2) = true ∧ cardsM (newM 4 5 2) = true := by decide
set_option maxRecDepth 100000 in
theorem fresh_any (w : World) (E : Nat → Addr) (h : G3 E w) : Calls Tryd.prog 11 #[] w fun e w' => e = .returned (.bool true) ∧ Ext w w' := by
  have H := Lib.hid h
  clear h
  go_enter Tryd.func11, Tryd.ntmps11
  go_wp2_with (first
    | (go_at_call 35; refine (new_yes 4 5 2 (by decide) _).mono ?_; rintro e w1 ⟨b, S, rfl, hom, hx⟩; have hM := hom.mem (newM_ok 4 5 2 (by decide)); have k3 : w1.cell? ⟨b, 3, none⟩ = some (.slice S.W.1 (13 : Nat) S.W.2) := hM.W; have k5 : w1.cell? ⟨b, 5, none⟩ = some (.int .i64 0) := hM.top; have k10 : w1.cell? ⟨b, 10, none⟩ = some (.slice S.C.1 (3 : Nat) S.C.2) := hM.cards; have HM := Lib.hid hM; have HX := Lib.hid hx; clear hom hM hx)
    | (go_at_call 24; refine (check_any b 0 (newM 4 5 2) S (E 1) (E 2) (E 4) _ HM.out (HX.out.cell_ H.out.bound) (HX.out.cell_ H.out.shape) (HX.out.cell_ H.out.place)).mono ?_; rintro e w2 ⟨he, hq⟩; rw [show chkV (newM 4 5 2) (E 2) (E 4) = .nilIface by unfold chkV; rw [fresh_chk.1, fresh_chk.2]; rfl] at he; subst he; have k6 := hq.cell_ k5; have HQ := Lib.hid hq; clear hq k5))
  go_ret
  exact ⟨rfl, Ext.trans_ HX.out HQ.out⟩
end Go.Proofs.YtecbbbaafcoliaaDoor
/- The box of a memory's fields: an own memory too, without numbered objects. -/
namespace Go.Proofs.YtecbbbaafcoliaaDoor
open Go.RowKit
set_option linter.unusedVariables false
set_option linter.unusedSimpArgs false

def partFlds (tI : TypeId) (M : Mem) (S : Sls) (a : Option Addr) (k c : Nat) : List Fld := [⟨3, 30, 1, S.W.1, M.W.length, S.W.2, wcells M.W⟩, ⟨7, 30, 1, S.R.1, M.roots.length, S.R.2, wcells M.roots⟩, ⟨8, 30, 1, S.K.1, M.weak.length, S.K.2, wcells M.weak⟩, ⟨9, tI, 2, a, k, c, icells (M.ids.take k)⟩, ⟨10, 4, 1, S.C.1, M.cards.length, S.C.2, bcells M.cards⟩]
theorem om_box {W : World} {B bx : Nat} {tK : TypeId} (tI t : TypeId) {M : Mem} {S : Sls} (h : OMem W B bx tK M S) :
    OM (W.alloc (.cells #[Value.int .i64 M.half, .int .i64 M.old, .int .i64 M.card, .slice S.W.1 M.W.length S.W.2, .int .i64 M.used, .int .i64 M.top, .int .i64 M.oldTop, .slice S.R.1 M.roots.length S.R.2, .slice S.K.1 M.weak.length S.K.2, .slice none 0 0, .slice S.C.1 M.cards.length S.C.2] t)) B W.heap.size (memNums M) (partFlds tI M S none 0 0) := by
  have hc : ∀ j v, (#[Value.int .i64 M.half, .int .i64 M.old, .int .i64 M.card, .slice S.W.1 M.W.length S.W.2, .int .i64 M.used, .int .i64 M.top, .int .i64 M.oldTop, .slice S.R.1 M.roots.length S.R.2, .slice S.K.1 M.weak.length S.K.2, .slice none 0 0, .slice S.C.1 M.cards.length S.C.2] : Array Value)[j]? = some v → (W.alloc (.cells #[Value.int .i64 M.half, .int .i64 M.old, .int .i64 M.card, .slice S.W.1 M.W.length S.W.2, .int .i64 M.used, .int .i64 M.top, .int .i64 M.oldTop, .slice S.R.1 M.roots.length S.R.2, .slice S.K.1 M.weak.length S.K.2, .slice none 0 0, .slice S.C.1 M.cards.length S.C.2] t)).cell? ⟨W.heap.size, j, none⟩ = some v := fun j v hv => by
    rw [cell_of_row _ W.heap.size j _ t (0, 0) (heap_alloc_new W _)]; exact hv
  have hg : ∀ f ∈ memFlds tK M S, (W.alloc (.cells #[Value.int .i64 M.half, .int .i64 M.old, .int .i64 M.card, .slice S.W.1 M.W.length S.W.2, .int .i64 M.used, .int .i64 M.top, .int .i64 M.oldTop, .slice S.R.1 M.roots.length S.R.2, .slice S.K.1 M.weak.length S.K.2, .slice none 0 0, .slice S.C.1 M.cards.length S.C.2] t)).ownsRow B f.e f.size f.val f.n f.cs ∧ f.val.ownBlock ≠ some W.heap.size := fun f hf => by
    have hr := (h.fld f hf).2.1
    refine ⟨hr.alloc _, fun e => ?_⟩
    have := (hr.lt _ e).2
    omega
  have hap := h.apart
  refine ⟨Nat.le_trans h.hb (Nat.le_of_lt h.lt), ⟨_, t, heap_alloc_new W _⟩, fun p hp => ?_, fun f hf => ?_, ?_, by simp [memNums, partFlds]⟩
  · simp only [memNums, List.mem_cons, List.not_mem_nil, or_false] at hp
    rcases hp with rfl | rfl | rfl | rfl | rfl | rfl <;> exact hc _ _ rfl
  · simp only [partFlds, List.mem_cons, List.not_mem_nil, or_false] at hf
    rcases hf with rfl | rfl | rfl | rfl | rfl
    · exact ⟨hc _ _ rfl, hg _ (by simp [memFlds])⟩
    · exact ⟨hc _ _ rfl, hg _ (by simp [memFlds])⟩
    · exact ⟨hc _ _ rfl, hg _ (by simp [memFlds])⟩
    · exact ⟨hc _ _ rfl, by show World.ownsRow _ _ _ _ (Value.slice none 0 0) 0 []; exact World.ownsRow_nil _ _ _ _, by simp [Fld.val, Value.ownBlock]⟩
    · exact ⟨hc _ _ rfl, hg _ (by simp [memFlds])⟩
  · simp only [memFlds, List.pairwise_cons, List.mem_cons, List.not_mem_nil, or_false, forall_eq_or_imp, forall_eq] at hap
    simp only [partFlds, List.pairwise_cons, List.mem_cons, List.not_mem_nil, or_false, forall_eq_or_imp, forall_eq]
    obtain ⟨⟨p1, p2, p3, p4⟩, ⟨p5, p6, p7⟩, ⟨p8, p9⟩, p10, _⟩ := hap
    exact ⟨⟨p1, p2, fun k _ => by simp [Fld.val, Value.ownBlock], p4⟩, ⟨p5, fun k _ => by simp [Fld.val, Value.ownBlock], p7⟩, ⟨fun k _ => by simp [Fld.val, Value.ownBlock], p9⟩, fun k hk => by simp [Fld.val, Value.ownBlock] at hk, fun _ h => h.elim, List.Pairwise.nil⟩
theorem rsl_made (W : World) (t : TypeId) (y1 y2 : Int) : RSl (W.alloc (.cells #[.int .u64 y1, .int .i64 y2] t)).drew (some ⟨W.heap.size, 0, none⟩) (icells [(y1, y2)]) := by
  have h : RSl (W.alloc (.cells #[.int .u64 y1, .int .i64 y2] t)) (some ⟨W.heap.size, 0, none⟩) (icells [(y1, y2)]) := fun j u hu => ⟨_, 0, rfl, by
    rw [Nat.zero_add, cell_of_row _ W.heap.size j _ t (0, 0) (heap_alloc_new W _)]
    simpa [icells] using hu⟩
  exact h.ext (Ext.refl _).drew_
end Go.Proofs.YtecbbbaafcoliaaDoor
