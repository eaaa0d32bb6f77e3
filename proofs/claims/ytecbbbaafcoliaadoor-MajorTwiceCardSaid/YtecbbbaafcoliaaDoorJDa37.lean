/- plain.Code over nil and over the seven package-level errors: their numbers. -/
import Derived.Test.YtecbbbaafcoliaaDoorJDa36
import Derived.Test.YtecbbbaafcoliaaDoorJDa12
import Derived.Test.YtecbbbaafcoliaaDoorJDa23
import Derived.Test.YtecbbbaafcoliaaDoorJDa20
import Derived.Test.YtecbbbaafcoliaaDoorJDa21
namespace Go.Proofs.YtecbbbaafcoliaaDoor
open Go.RowKit
set_option linter.unusedVariables false
set_option linter.unusedSimpArgs false

/-- The seven package-level errors: their places; each is another one. -/
structure ErrEnv (E : Nat → Addr) (w : World) : Prop where
  text : w.cell? ⟨4, 0, none⟩ = some (errV (E 0))
  bound : w.cell? ⟨0, 0, none⟩ = some (errV (E 1))
  shape : w.cell? ⟨1, 0, none⟩ = some (errV (E 2))
  name : w.cell? ⟨5, 0, none⟩ = some (errV (E 3))
  place : w.cell? ⟨3, 0, none⟩ = some (errV (E 4))
  full : w.cell? ⟨2, 0, none⟩ = some (errV (E 5))
  nothing : w.cell? ⟨6, 0, none⟩ = some (errV (E 6))
  etype : GEType w
  blk : ∀ i, i < 7 → ∃ c t, w.heap[(E i).block]? = some (.cells c t (0, 0))
  ne : ∀ i j, i < 7 → j < 7 → i ≠ j → E i ≠ E j

theorem ErrEnv.g4 {E : Nat → Addr} {w : World} (h : ErrEnv E w) : G4 E w := ⟨⟨h.bound, h.shape, h.place⟩, h.full⟩
theorem ErrEnv.g3 {E : Nat → Addr} {w : World} (h : ErrEnv E w) : G3 E w := h.g4.toG3
theorem block_lt {w : World} {b : Nat} {o : Obj} (h : w.heap[b]? = some o) : b < w.heap.size := by
  rcases Nat.lt_or_ge b w.heap.size with g | g
  · exact g
  · simp [Array.getElem?_eq_none g] at h
theorem Ext.block_ {w w' : World} (h : Ext w w') {b : Nat} {o : Obj} (hb : w.heap[b]? = some o) : w'.heap[b]? = some o := by
  rw [Below.block h b (block_lt hb)]; exact hb
theorem ErrEnv.ext {E : Nat → Addr} {w w' : World} (h : ErrEnv E w) (hx : Ext w w') : ErrEnv E w' :=
  ⟨hx.cell_ h.text, hx.cell_ h.bound, hx.cell_ h.shape, hx.cell_ h.name, hx.cell_ h.place, hx.cell_ h.full, hx.cell_ h.nothing, hx.cell_ h.etype,
    fun i hi => let ⟨c, t, hc⟩ := h.blk i hi; ⟨c, t, hx.block_ hc⟩, h.ne⟩
theorem newM_ok (half old card : Int) (h : newOK half old card = true) : (newM half old card).Ok := by
  simp only [newOK, Bool.and_eq_true] at h
  obtain ⟨⟨h1, h2⟩, h3⟩ := h
  obtain ⟨a1, a2⟩ := inR_true.1 h1
  obtain ⟨a3, a4⟩ := inR_true.1 h2
  obtain ⟨a5, a6⟩ := inR_true.1 h3
  have q0 : 0 ≤ (old + card - 1) / card := Int.ediv_nonneg (by omega) (by omega)
  have q1 : (old + card - 1) / card ≤ old + card - 1 := Int.ediv_le_self _ (by omega)
  refine ⟨by simp only [newM]; omega, by simp only [newM]; omega, by simp only [newM]; omega, by simp [newM], by simp [newM], by simp [newM], ?_, by simp [newM], by simp [newM], by simp [newM], ?_, by simp [newM], by simp [newM], by simp [newM], ?_⟩
  · intro x hx; simp only [newM] at hx; have := (List.mem_replicate.1 hx).2; omega
  · simp only [newM, List.length_replicate]; omega
  · simp only [newM, List.length_replicate]; omega
def stillM : Mem := allocM (newM 4 5 2) 9 []
theorem still_chk : chk stillM = 0 := by decide
theorem still_end : (collectC stillM 1).top = 0 ∧ (collectC stillM 1).used = 1 := by decide
theorem still_ok : stillM.Ok := allocM_ok (newM_ok 4 5 2 (by decide)) (by simp) (by decide) (by decide) (by decide) (by decide) (by decide)
theorem still_ready : Ready stillM 1 := ⟨still_ok, still_chk, by decide, by decide⟩
theorem still_end_ok : (collectC stillM 1).Ok := by rw [collectC_fin]; exact (collect_fin still_ready).ok still_ready
set_option maxRecDepth 100000 in
set_option maxHeartbeats 4000000 in
theorem still_any (w : World) (E : Nat → Addr) (h : G4 E w) : Calls Tryd.prog 25 #[] w fun e w' => e = .returned (.bool true) ∧ Ext w w' := by
  have H := Lib.hid h
  have HGB : Hid (0 < w.heap.size ∧ 1 < w.heap.size) := ⟨cell_lt h.bound, cell_lt h.shape⟩
  have hne : ¬ addrW (((newM 4 5 2).base + (newM 4 5 2).top.toNat : Nat) : Int) = 0 := by decide
  have hne2 : (addrW (((newM 4 5 2).base + (newM 4 5 2).top.toNat : Nat) : Int) == 0) = false := by decide
  clear h
  go_enter Tryd.func25, Tryd.ntmps25
  go_wp2_with (first
    | (go_at_call 35; refine (new_yes 4 5 2 (by decide) _).mono ?_; rintro e w1 ⟨b, S, rfl, hom, hx⟩; have HM := Lib.hid hom; have HX := Lib.hid hx; clear hom hx)
    | (go_at_call 17; refine (alloc_yes w.heap.size b (newM 4 5 2) S E 9 none [] 0 _ HM.out (newM_ok 4 5 2 (by decide)) (H.out.ext HX.out) (by decide) (by decide) (by decide) (by decide) (Or.inr (by decide)) (RSl.nil _ _) (by simp) (fun x hx => by cases hx) (by decide)).mono ?_; rintro e w2 ⟨rfl, hq1, hq2⟩; have HM2 : Hid (OMem w2 w.heap.size b 72 stillM S) := hq1; have HX2 : Hid (Ext w w2) := Ext.keep HX.out hq2 (fun i hi => (HM.out.ownL hi).1); clear hq1 hq2)
    | (go_at_call 26; refine (collect_walk w.heap.size b stillM S E 1 _ HM2.out (H.out.ext HX2.out).toG3 still_ready HX2.out.size HGB.out).mono ?_; rintro e w3 ⟨rfl, S3, hq1, hq2, hq3⟩; have hMM := hq1.mem still_end_ok; have k5 : w3.cell? ⟨b, 5, none⟩ = some (.int .i64 0) := (by have := hMM.top; rw [still_end.1] at this; exact this); have k4 : w3.cell? ⟨b, 4, none⟩ = some (.int .i64 1) := (by have := hMM.used; rw [still_end.2] at this; exact this); have HX3 : Hid (Ext w w3) := Ext.keep HX2.out hq2 (fun i hi => (HM2.out.own_size hi).1); clear hq1 hq2 hq3 hMM))
  go_ret
  exact ⟨rfl, HX3.out⟩
def idsFlds (tI : TypeId) (M : Mem) (a : Option Addr) (k c : Nat) : List Fld := [⟨9, tI, 2, a, k, c, icells (M.ids.take k)⟩]
def RestC (W : World) (bo : Nat) (M : Mem) (S : Sls) : Prop :=
  W.cell? ⟨bo, 3, none⟩ = some (.slice S.W.1 M.W.length S.W.2) ∧ W.cell? ⟨bo, 7, none⟩ = some (.slice S.R.1 M.roots.length S.R.2) ∧ W.cell? ⟨bo, 8, none⟩ = some (.slice S.K.1 M.weak.length S.K.2) ∧ W.cell? ⟨bo, 10, none⟩ = some (.slice S.C.1 M.cards.length S.C.2)
theorem RestC.of_block {W W' : World} {bo : Nat} {M : Mem} {S : Sls} (h : RestC W bo M S) (hb : W'.heap[bo]? = W.heap[bo]?) : RestC W' bo M S := by
  obtain ⟨h1, h2, h3, h4⟩ := h
  refine ⟨?_, ?_, ?_, ?_⟩
  · rw [World.cell?_of_block (w := W) (a := ⟨bo, 3, none⟩) hb]; exact h1
  · rw [World.cell?_of_block (w := W) (a := ⟨bo, 7, none⟩) hb]; exact h2
  · rw [World.cell?_of_block (w := W) (a := ⟨bo, 8, none⟩) hb]; exact h3
  · rw [World.cell?_of_block (w := W) (a := ⟨bo, 10, none⟩) hb]; exact h4
theorem RestC.set9 {W : World} {bo : Nat} {M : Mem} {S : Sls} (h : RestC W bo M S) (u : Value) : RestC (W.setCell ⟨bo, 9, none⟩ u) bo M S := by
  obtain ⟨h1, h2, h3, h4⟩ := h
  exact ⟨by rw [cell_set_off (by decide)]; exact h1, by rw [cell_set_off (by decide)]; exact h2, by rw [cell_set_off (by decide)]; exact h3, by rw [cell_set_off (by decide)]; exact h4⟩
theorem om_ids (W : World) (tI t : TypeId) (M : Mem) (S : Sls) :
    OM (W.alloc (.cells #[Value.int .i64 M.half, .int .i64 M.old, .int .i64 M.card, .slice S.W.1 M.W.length S.W.2, .int .i64 M.used, .int .i64 M.top, .int .i64 M.oldTop, .slice S.R.1 M.roots.length S.R.2, .slice S.K.1 M.weak.length S.K.2, .slice none 0 0, .slice S.C.1 M.cards.length S.C.2] t)) W.heap.size W.heap.size (memNums M) (idsFlds tI M none 0 0) ∧ RestC (W.alloc (.cells #[Value.int .i64 M.half, .int .i64 M.old, .int .i64 M.card, .slice S.W.1 M.W.length S.W.2, .int .i64 M.used, .int .i64 M.top, .int .i64 M.oldTop, .slice S.R.1 M.roots.length S.R.2, .slice S.K.1 M.weak.length S.K.2, .slice none 0 0, .slice S.C.1 M.cards.length S.C.2] t)) W.heap.size M S := by
  have hc : ∀ j v, (#[Value.int .i64 M.half, .int .i64 M.old, .int .i64 M.card, .slice S.W.1 M.W.length S.W.2, .int .i64 M.used, .int .i64 M.top, .int .i64 M.oldTop, .slice S.R.1 M.roots.length S.R.2, .slice S.K.1 M.weak.length S.K.2, .slice none 0 0, .slice S.C.1 M.cards.length S.C.2] : Array Value)[j]? = some v → (W.alloc (.cells #[Value.int .i64 M.half, .int .i64 M.old, .int .i64 M.card, .slice S.W.1 M.W.length S.W.2, .int .i64 M.used, .int .i64 M.top, .int .i64 M.oldTop, .slice S.R.1 M.roots.length S.R.2, .slice S.K.1 M.weak.length S.K.2, .slice none 0 0, .slice S.C.1 M.cards.length S.C.2] t)).cell? ⟨W.heap.size, j, none⟩ = some v := fun j v hv => by
    rw [cell_of_row _ W.heap.size j _ t (0, 0) (heap_alloc_new W _)]; exact hv
  refine ⟨⟨Nat.le_refl _, ⟨_, t, heap_alloc_new W _⟩, fun p hp => ?_, fun f hf => ?_, by simp [idsFlds], by simp [memNums, idsFlds]⟩, hc _ _ rfl, hc _ _ rfl, hc _ _ rfl, hc _ _ rfl⟩
  · simp only [memNums, List.mem_cons, List.not_mem_nil, or_false] at hp
    rcases hp with rfl | rfl | rfl | rfl | rfl | rfl <;> exact hc _ _ rfl
  · simp only [idsFlds, List.mem_cons, List.not_mem_nil, or_false] at hf
    subst hf
    exact ⟨hc _ _ rfl, by show World.ownsRow _ _ _ _ (Value.slice none 0 0) 0 []; exact World.ownsRow_nil _ _ _ _, by simp [Fld.val, Value.ownBlock]⟩
theorem rmem_back {w wr : World} {b o B bo : Nat} {tI : TypeId} {M : Mem} {S : Sls} {a : Option Addr} {c : Nat} (hM : RMem w b o M S) (hE : Ext w wr) (hO : OM wr B bo (memNums M) (idsFlds tI M a M.ids.length c)) (hR : RestC wr bo M S) :
    RMem wr bo 0 M ⟨S.W, S.R, S.K, (a, c), S.C⟩ := by
  have h1 := hM.ext hE
  have hn := hO.num
  have q9 := hO.fld ⟨9, tI, 2, a, M.ids.length, c, icells (M.ids.take M.ids.length)⟩ (by simp [idsFlds])
  obtain ⟨r9, c9, n9⟩ := row_rsl q9.2.1
  rw [List.take_length] at r9
  have e : ∀ j : Nat, (⟨bo, 0 + j, none⟩ : Addr) = ⟨bo, j, none⟩ := fun j => by rw [Nat.zero_add]
  obtain ⟨k3, k7, k8, k10⟩ := hR
  refine ⟨?_, ?_, ?_, ?_, ?_, ?_, ?_, ?_, ?_, ?_, ?_, h1.rW, h1.rR, h1.rK, r9, h1.rC, h1.capW, h1.capR, h1.capK, c9, h1.capC, h1.nilW, h1.nilR, h1.nilK, n9, h1.nilC, h1.ok⟩
  · exact hn _ (List.mem_of_getElem? (l := memNums M) (i := 0) rfl)
  · rw [e]; exact hn _ (List.mem_of_getElem? (l := memNums M) (i := 1) rfl)
  · rw [e]; exact hn _ (List.mem_of_getElem? (l := memNums M) (i := 2) rfl)
  · rw [e]; exact k3
  · rw [e]; exact hn _ (List.mem_of_getElem? (l := memNums M) (i := 3) rfl)
  · rw [e]; exact hn _ (List.mem_of_getElem? (l := memNums M) (i := 4) rfl)
  · rw [e]; exact hn _ (List.mem_of_getElem? (l := memNums M) (i := 5) rfl)
  · rw [e]; exact k7
  · rw [e]; exact k8
  · rw [e]; exact q9.1
  · rw [e]; exact k10
end Go.Proofs.YtecbbbaafcoliaaDoor
