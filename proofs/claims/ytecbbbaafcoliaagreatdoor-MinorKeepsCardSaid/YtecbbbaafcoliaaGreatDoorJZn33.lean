/- The closed fact on a new memory. -/
import Derived.Test.YtecbbbaafcoliaaGreatDoorJZn32
import Derived.Test.YtecbbbaafcoliaaGreatDoorJZn13
import Derived.Test.YtecbbbaafcoliaaGreatDoorJZn25
import Derived.Test.YtecbbbaafcoliaaGreatDoorJZn31
import Derived.Test.YtecbbbaafcoliaaGreatDoorJZn21
import Derived.Test.YtecbbbaafcoliaaGreatDoorJZn22
namespace Go.Proofs.YtecbbbaafcoliaaGreatDoor
open Go.RowKit
set_option linter.unusedVariables false
set_option linter.unusedSimpArgs false

theorem newM_ok (half old card : Int) (h : newOK half old card = true) : (newM half old card).Ok := by
  simp only [newOK, Bool.and_eq_true] at h
  obtain ⟨⟨h1, h2⟩, h3⟩ := h
  obtain ⟨a1, a2⟩ := inR_true.1 h1
  obtain ⟨a3, a4⟩ := inR_true.1 h2
  obtain ⟨a5, a6⟩ := inR_true.1 h3
  have q0 : 0 ≤ (old + card - 1) / card := Int.ediv_nonneg (by omega) (by omega)
  have q1 : (old + card - 1) / card ≤ old + card - 1 := Int.ediv_le_self _ (by omega)
  refine ⟨by simp only [newM]; omega, by simp only [newM]; omega, by simp only [newM]; omega, by simp [newM], by simp [newM], by simp [newM], ?_, by simp [newM], by simp [newM], by simp [newM], ?_, by simp [newM], by simp [newM], by simp [newM], ?_⟩
  · intro x hx; simp only [newM] at hx; have := (List.mem_replicate.1 hx).2; omega
  · simp only [newM, List.length_replicate]; omega
  · simp only [newM, List.length_replicate]; omega
theorem fresh_chk : goodB (newM 4 5 2) = true ∧ cardsM (newM 4 5 2) = true := by decide
set_option maxRecDepth 100000 in
theorem fresh_any (w : World) (E : Nat → Addr) (h : G3 E w) : Calls Tryz.prog 19 #[] w fun e w' => e = .returned (.bool true) ∧ Ext w w' := by
  have H := Lib.hid h
  clear h
  go_enter Tryz.func19, Tryz.ntmps19
  go_wp2_with (first
    | (go_at_call 23; refine (new_yes 4 5 2 (by decide) _).mono ?_; rintro e w1 ⟨b, S, rfl, hom, hx⟩; have hM := hom.mem (newM_ok 4 5 2 (by decide)); have k3 : w1.cell? ⟨b, 3, none⟩ = some (.slice S.W.1 (13 : Nat) S.W.2) := hM.W; have k5 : w1.cell? ⟨b, 5, none⟩ = some (.int .i64 0) := hM.top; have k10 : w1.cell? ⟨b, 10, none⟩ = some (.slice S.C.1 (3 : Nat) S.C.2) := hM.cards; have HM := Lib.hid hM; have HX := Lib.hid hx; clear hom hM hx)
    | (go_at_call 20; refine (check_any b 0 (newM 4 5 2) S (E 1) (E 2) (E 4) _ HM.out (HX.out.cell_ H.out.bound) (HX.out.cell_ H.out.shape) (HX.out.cell_ H.out.place)).mono ?_; rintro e w2 ⟨he, hq⟩; rw [show chkV (newM 4 5 2) (E 2) (E 4) = .nilIface by unfold chkV; rw [fresh_chk.1, fresh_chk.2]; rfl] at he; subst he; have k6 := hq.cell_ k5; have HQ := Lib.hid hq; clear hq k5))
  go_ret
  exact ⟨rfl, Ext.trans_ HX.out HQ.out⟩
end Go.Proofs.YtecbbbaafcoliaaGreatDoor
/- The laws' closed fact still. -/
namespace Go.Proofs.YtecbbbaafcoliaaGreatDoor
open Go.RowKit
set_option linter.unusedVariables false
set_option linter.unusedSimpArgs false

def stillM : Mem := allocM (newM 4 5 2) 9 []
theorem still_chk : chk stillM = 0 := by decide
theorem still_end : (collectC stillM 1).top = 0 ∧ (collectC stillM 1).used = 1 := by decide
theorem still_ok : stillM.Ok := allocM_ok (newM_ok 4 5 2 (by decide)) (by simp) (by decide) (by decide) (by decide) (by decide) (by decide)
theorem still_ready : Ready stillM 1 := ⟨still_ok, still_chk, by decide, by decide⟩
theorem still_end_ok : (collectC stillM 1).Ok := by rw [collectC_fin]; exact (collect_fin still_ready).ok still_ready
set_option maxRecDepth 100000 in
set_option maxHeartbeats 4000000 in
theorem still_any (w : World) (E : Nat → Addr) (h : G4 E w) : Calls Tryz.prog 6 #[] w fun e w' => e = .returned (.bool true) ∧ Ext w w' := by
  have H := Lib.hid h
  have HGB : Hid (0 < w.heap.size ∧ 2 < w.heap.size) := ⟨cell_lt h.bound, cell_lt h.shape⟩
  have hne : ¬ addrW (((newM 4 5 2).base + (newM 4 5 2).top.toNat : Nat) : Int) = 0 := by decide
  have hne2 : (addrW (((newM 4 5 2).base + (newM 4 5 2).top.toNat : Nat) : Int) == 0) = false := by decide
  clear h
  go_enter Tryz.func6, Tryz.ntmps6
  go_wp2_with (first
    | (go_at_call 23; refine (new_yes 4 5 2 (by decide) _).mono ?_; rintro e w1 ⟨b, S, rfl, hom, hx⟩; have HM := Lib.hid hom; have HX := Lib.hid hx; clear hom hx)
    | (go_at_call 24; refine (alloc_yes w.heap.size b (newM 4 5 2) S E 9 none [] 0 _ HM.out (newM_ok 4 5 2 (by decide)) (H.out.ext HX.out) (by decide) (by decide) (by decide) (by decide) (Or.inr (by decide)) (RSl.nil _ _) (by simp) (fun x hx => by cases hx) (by decide)).mono ?_; rintro e w2 ⟨rfl, hq1, hq2⟩; have HM2 : Hid (OMem w2 w.heap.size b 68 stillM S) := hq1; have HX2 : Hid (Ext w w2) := Ext.keep HX.out hq2 (fun i hi => (HM.out.ownL hi).1); clear hq1 hq2)
    | (go_at_call 10; refine (collect_walk w.heap.size b stillM S E 1 _ HM2.out (H.out.ext HX2.out).toG3 still_ready HX2.out.size HGB.out).mono ?_; rintro e w3 ⟨rfl, S3, hq1, hq2, hq3⟩; have hMM := hq1.mem still_end_ok; have k5 : w3.cell? ⟨b, 5, none⟩ = some (.int .i64 0) := (by have := hMM.top; rw [still_end.1] at this; exact this); have k4 : w3.cell? ⟨b, 4, none⟩ = some (.int .i64 1) := (by have := hMM.used; rw [still_end.2] at this; exact this); have HX3 : Hid (Ext w w3) := Ext.keep HX2.out hq2 (fun i hi => (HM2.out.own_size hi).1); clear hq1 hq2 hq3 hMM))
  go_ret
  exact ⟨rfl, HX3.out⟩
end Go.Proofs.YtecbbbaafcoliaaGreatDoor
/- The walk of the minor collector's Collect where it does nothing. -/
namespace Go.Proofs.YtecbbbaafcoliaaGreatDoor
open Go.RowKit
set_option linter.unusedVariables false
set_option linter.unusedSimpArgs false

def CNo (w : World) (E : Nat → Addr) (c : Int) (e : Ending) (w' : World) : Prop := e = .returned (errC E c) ∧ Ext w w'
set_option maxRecDepth 100000 in
set_option maxHeartbeats 4000000 in
theorem collect_chk (b o : Nat) (M : Mem) (S : Sls) (E : Nat → Addr) (ten : Int) (w : World) (hM : RMem w b o M S) (hE : G3 E w) (h : chk M ≠ 0) :
    Calls Tryz.prog 10 #[.pointer (some ⟨b, o, none⟩), .int .i64 ten] w (CNo w E (chk M)) := by
  obtain ⟨a, ha⟩ : ∃ a, errC E (chk M) = errV a := ⟨_, errC_pos E _ h⟩
  have HC := Lib.hid ha
  have HM := Lib.hid hM
  have HE := Lib.hid hE
  clear hM hE h ha
  go_enter Tryz.func10, Tryz.ntmps10
  go_wp2_with (go_at_call 20; refine (check_c b o M S E w HM.out HE.out).mono ?_; rintro e w1 ⟨he, hq⟩; rw [HC.out] at he; subst he; have HX1 := Lib.hid hq; clear hq)
  go_ret
  exact ⟨by rw [HC.out]; rfl, HX1.out⟩
set_option maxRecDepth 100000 in
set_option maxHeartbeats 4000000 in
theorem collect_bound (b o : Nat) (M : Mem) (S : Sls) (E : Nat → Addr) (ten : Int) (w : World) (hM : RMem w b o M S) (hE : G3 E w) (h : chk M = 0) (ht : ten < 0 ∨ (¬ ten < 0 ∧ 15 < ten)) :
    Calls Tryz.prog 10 #[.pointer (some ⟨b, o, none⟩), .int .i64 ten] w (CNo w E 2) := by
  have HC : Hid (errC E (chk M) = .nilIface) := by rw [Hid, h]; rfl
  have HM := Lib.hid hM
  have HE := Lib.hid hE
  clear hM hE h
  rcases ht with h1 | ⟨h1, h2⟩
  all_goals
    go_enter Tryz.func10, Tryz.ntmps10
    go_wp2_with (go_at_call 20; refine (check_c b o M S E w HM.out HE.out).mono ?_; rintro e w1 ⟨he, hq⟩; rw [HC.out] at he; subst he; have k1 := (HE.out.ext hq).bound; have HX1 := Lib.hid hq; clear hq)
    go_ret
    exact ⟨rfl, HX1.out⟩
set_option maxRecDepth 100000 in
set_option maxHeartbeats 4000000 in
theorem collect_full (b o : Nat) (M : Mem) (S : Sls) (E : Nat → Addr) (ten : Int) (w : World) (hM : RMem w b o M S) (hE : G4 E w) (h : chk M = 0) (t0 : 0 ≤ ten) (t1 : ten ≤ 15) (hf : M.old - M.oldTop < M.top) :
    Calls Tryz.prog 10 #[.pointer (some ⟨b, o, none⟩), .int .i64 ten] w (CNo w E 6) := by
  have HC : Hid (errC E (chk M) = .nilIface) := by rw [Hid, h]; rfl
  obtain ⟨hs, -⟩ := good_parts (chk_zero h).1
  have s3 := hs.o1; have s4 := hs.o2; have s7 := hs.p1; have s8 := hs.p2
  have e1 : IntKind.i64.wrap (M.old - M.oldTop) = M.old - M.oldTop := IntWalk.i64_in _ (by omega)
  have HM := Lib.hid hM
  have HE := Lib.hid hE
  have HF := Lib.hid hf
  clear hM hE h hs hf
  go_enter Tryz.func10, Tryz.ntmps10
  go_wp2_with (go_at_call 20; refine (check_c b o M S E w HM.out HE.out.toG3).mono ?_; rintro e w1 ⟨he, hq⟩; rw [HC.out] at he; subst he; have HX1 := Lib.hid hq; clear hq)
  have hM1 := HM.out.ext HX1.out
  have d1 := hM1.old
  have d6 := hM1.oldTop
  have d5 := hM1.top
  have k5 := (HE.out.ext HX1.out).full
  have hf := HF.out
  clear hM1
  go_region
  go_wp2
  go_ret
  exact ⟨rfl, HX1.out.drew_⟩
end Go.Proofs.YtecbbbaafcoliaaGreatDoor
/- The box over a memory's rows that are only read: its numbers and its own row of ids. -/
namespace Go.Proofs.YtecbbbaafcoliaaGreatDoor
open Go.RowKit
set_option linter.unusedVariables false
set_option linter.unusedSimpArgs false

def idsFlds (tI : TypeId) (M : Mem) (a : Option Addr) (k c : Nat) : List Fld := [⟨9, tI, 2, a, k, c, icells (M.ids.take k)⟩]
def RestC (W : World) (bo : Nat) (M : Mem) (S : Sls) : Prop :=
  W.cell? ⟨bo, 3, none⟩ = some (.slice S.W.1 M.W.length S.W.2) ∧ W.cell? ⟨bo, 7, none⟩ = some (.slice S.R.1 M.roots.length S.R.2) ∧ W.cell? ⟨bo, 8, none⟩ = some (.slice S.K.1 M.weak.length S.K.2) ∧ W.cell? ⟨bo, 10, none⟩ = some (.slice S.C.1 M.cards.length S.C.2)
theorem RestC.of_block {W W' : World} {bo : Nat} {M : Mem} {S : Sls} (h : RestC W bo M S) (hb : W'.heap[bo]? = W.heap[bo]?) : RestC W' bo M S := by
  obtain ⟨h1, h2, h3, h4⟩ := h
  refine ⟨?_, ?_, ?_, ?_⟩
  · rw [World.cell?_of_block (w := W) (a := ⟨bo, 3, none⟩) hb]; exact h1
  · rw [World.cell?_of_block (w := W) (a := ⟨bo, 7, none⟩) hb]; exact h2
  · rw [World.cell?_of_block (w := W) (a := ⟨bo, 8, none⟩) hb]; exact h3
  · rw [World.cell?_of_block (w := W) (a := ⟨bo, 10, none⟩) hb]; exact h4
theorem RestC.set9 {W : World} {bo : Nat} {M : Mem} {S : Sls} (h : RestC W bo M S) (u : Value) : RestC (W.setCell ⟨bo, 9, none⟩ u) bo M S := by
  obtain ⟨h1, h2, h3, h4⟩ := h
  exact ⟨by rw [cell_set_off (by decide)]; exact h1, by rw [cell_set_off (by decide)]; exact h2, by rw [cell_set_off (by decide)]; exact h3, by rw [cell_set_off (by decide)]; exact h4⟩
theorem om_ids (W : World) (tI t : TypeId) (M : Mem) (S : Sls) :
    OM (W.alloc (.cells #[Value.int .i64 M.half, .int .i64 M.old, .int .i64 M.card, .slice S.W.1 M.W.length S.W.2, .int .i64 M.used, .int .i64 M.top, .int .i64 M.oldTop, .slice S.R.1 M.roots.length S.R.2, .slice S.K.1 M.weak.length S.K.2, .slice none 0 0, .slice S.C.1 M.cards.length S.C.2] t)) W.heap.size W.heap.size (memNums M) (idsFlds tI M none 0 0) ∧ RestC (W.alloc (.cells #[Value.int .i64 M.half, .int .i64 M.old, .int .i64 M.card, .slice S.W.1 M.W.length S.W.2, .int .i64 M.used, .int .i64 M.top, .int .i64 M.oldTop, .slice S.R.1 M.roots.length S.R.2, .slice S.K.1 M.weak.length S.K.2, .slice none 0 0, .slice S.C.1 M.cards.length S.C.2] t)) W.heap.size M S := by
  have hc : ∀ j v, (#[Value.int .i64 M.half, .int .i64 M.old, .int .i64 M.card, .slice S.W.1 M.W.length S.W.2, .int .i64 M.used, .int .i64 M.top, .int .i64 M.oldTop, .slice S.R.1 M.roots.length S.R.2, .slice S.K.1 M.weak.length S.K.2, .slice none 0 0, .slice S.C.1 M.cards.length S.C.2] : Array Value)[j]? = some v → (W.alloc (.cells #[Value.int .i64 M.half, .int .i64 M.old, .int .i64 M.card, .slice S.W.1 M.W.length S.W.2, .int .i64 M.used, .int .i64 M.top, .int .i64 M.oldTop, .slice S.R.1 M.roots.length S.R.2, .slice S.K.1 M.weak.length S.K.2, .slice none 0 0, .slice S.C.1 M.cards.length S.C.2] t)).cell? ⟨W.heap.size, j, none⟩ = some v := fun j v hv => by
    rw [cell_of_row _ W.heap.size j _ t (0, 0) (heap_alloc_new W _)]; exact hv
  refine ⟨⟨Nat.le_refl _, ⟨_, t, heap_alloc_new W _⟩, fun p hp => ?_, fun f hf => ?_, by simp [idsFlds], by simp [memNums, idsFlds]⟩, hc _ _ rfl, hc _ _ rfl, hc _ _ rfl, hc _ _ rfl⟩
  · simp only [memNums, List.mem_cons, List.not_mem_nil, or_false] at hp
    rcases hp with rfl | rfl | rfl | rfl | rfl | rfl <;> exact hc _ _ rfl
  · simp only [idsFlds, List.mem_cons, List.not_mem_nil, or_false] at hf
    subst hf
    exact ⟨hc _ _ rfl, by show World.ownsRow _ _ _ _ (Value.slice none 0 0) 0 []; exact World.ownsRow_nil _ _ _ _, by simp [Fld.val, Value.ownBlock]⟩
theorem rmem_back {w wr : World} {b o B bo : Nat} {tI : TypeId} {M : Mem} {S : Sls} {a : Option Addr} {c : Nat} (hM : RMem w b o M S) (hE : Ext w wr) (hO : OM wr B bo (memNums M) (idsFlds tI M a M.ids.length c)) (hR : RestC wr bo M S) :
    RMem wr bo 0 M ⟨S.W, S.R, S.K, (a, c), S.C⟩ := by
  have h1 := hM.ext hE
  have hn := hO.num
  have q9 := hO.fld ⟨9, tI, 2, a, M.ids.length, c, icells (M.ids.take M.ids.length)⟩ (by simp [idsFlds])
  obtain ⟨r9, c9, n9⟩ := row_rsl q9.2.1
  rw [List.take_length] at r9
  have e : ∀ j : Nat, (⟨bo, 0 + j, none⟩ : Addr) = ⟨bo, j, none⟩ := fun j => by rw [Nat.zero_add]
  obtain ⟨k3, k7, k8, k10⟩ := hR
  refine ⟨?_, ?_, ?_, ?_, ?_, ?_, ?_, ?_, ?_, ?_, ?_, h1.rW, h1.rR, h1.rK, r9, h1.rC, h1.capW, h1.capR, h1.capK, c9, h1.capC, h1.nilW, h1.nilR, h1.nilK, n9, h1.nilC, h1.ok⟩
  · exact hn _ (List.mem_of_getElem? (l := memNums M) (i := 0) rfl)
  · rw [e]; exact hn _ (List.mem_of_getElem? (l := memNums M) (i := 1) rfl)
  · rw [e]; exact hn _ (List.mem_of_getElem? (l := memNums M) (i := 2) rfl)
  · rw [e]; exact k3
  · rw [e]; exact hn _ (List.mem_of_getElem? (l := memNums M) (i := 3) rfl)
  · rw [e]; exact hn _ (List.mem_of_getElem? (l := memNums M) (i := 4) rfl)
  · rw [e]; exact hn _ (List.mem_of_getElem? (l := memNums M) (i := 5) rfl)
  · rw [e]; exact k7
  · rw [e]; exact k8
  · rw [e]; exact q9.1
  · rw [e]; exact k10
end Go.Proofs.YtecbbbaafcoliaaGreatDoor
