/- The closed fact on a new memory. -/
import Derived.Test.YtecbbbaafcoliaaGreatDoorJYa35
import Derived.Test.YtecbbbaafcoliaaGreatDoorJYa12
import Derived.Test.YtecbbbaafcoliaaGreatDoorJYa23
import Derived.Test.YtecbbbaafcoliaaGreatDoorJYa34
import Derived.Test.YtecbbbaafcoliaaGreatDoorJYa21
import Derived.Test.YtecbbbaafcoliaaGreatDoorJYa06
namespace Go.Proofs.YtecbbbaafcoliaaGreatDoor
open Go.RowKit
set_option linter.unusedVariables false
set_option linter.unusedSimpArgs false

theorem newM_ok (half old card : Int) (h : newOK half old card = true) : (newM half old card).Ok := by
  simp only [newOK, Bool.and_eq_true] at h
  obtain ⟨⟨h1, h2⟩, h3⟩ := h
  obtain ⟨a1, a2⟩ := inR_true.1 h1
  obtain ⟨a3, a4⟩ := inR_true.1 h2
  obtain ⟨a5, a6⟩ := inR_true.1 h3
  have q0 : 0 ≤ (old + card - 1) / card := Int.ediv_nonneg (by omega) (by omega)
  have q1 : (old + card - 1) / card ≤ old + card - 1 := Int.ediv_le_self _ (by omega)
  refine ⟨by simp only [newM]; omega, by simp only [newM]; omega, by simp only [newM]; omega, by simp [newM], by simp [newM], by simp [newM], ?_, by simp [newM], by simp [newM], by simp [newM], ?_, by simp [newM], by simp [newM], by simp [newM], ?_⟩
  · intro x hx; simp only [newM] at hx; have := (List.mem_replicate.1 hx).2; omega
  · simp only [newM, List.length_replicate]; omega
  · simp only [newM, List.length_replicate]; omega
def stillM : Mem := allocM (newM 4 5 2) 9 []
theorem still_chk : chk stillM = 0 := by decide
theorem still_end : (collectC stillM 1).top = 0 ∧ (collectC stillM 1).used = 1 := by decide
theorem still_ok : stillM.Ok := allocM_ok (newM_ok 4 5 2 (by decide)) (by simp) (by decide) (by decide) (by decide) (by decide) (by decide)
theorem still_ready : Ready stillM 1 := ⟨still_ok, still_chk, by decide, by decide⟩
theorem still_end_ok : (collectC stillM 1).Ok := by rw [collectC_fin]; exact (collect_fin still_ready).ok still_ready
set_option maxRecDepth 100000 in
set_option maxHeartbeats 4000000 in
theorem still_any (w : World) (E : Nat → Addr) (h : G4 E w) : Calls Tryz.prog 6 #[] w fun e w' => e = .returned (.bool true) ∧ Ext w w' := by
  have H := Lib.hid h
  have HGB : Hid (0 < w.heap.size ∧ 2 < w.heap.size) := ⟨cell_lt h.bound, cell_lt h.shape⟩
  have hne : ¬ addrW (((newM 4 5 2).base + (newM 4 5 2).top.toNat : Nat) : Int) = 0 := by decide
  have hne2 : (addrW (((newM 4 5 2).base + (newM 4 5 2).top.toNat : Nat) : Int) == 0) = false := by decide
  clear h
  go_enter Tryz.func6, Tryz.ntmps6
  go_wp2_with (first
    | (go_at_call 23; refine (new_yes 4 5 2 (by decide) _).mono ?_; rintro e w1 ⟨b, S, rfl, hom, hx⟩; have HM := Lib.hid hom; have HX := Lib.hid hx; clear hom hx)
    | (go_at_call 24; refine (alloc_yes w.heap.size b (newM 4 5 2) S E 9 none [] 0 _ HM.out (newM_ok 4 5 2 (by decide)) (H.out.ext HX.out) (by decide) (by decide) (by decide) (by decide) (Or.inr (by decide)) (RSl.nil _ _) (by simp) (fun x hx => by cases hx) (by decide)).mono ?_; rintro e w2 ⟨rfl, hq1, hq2⟩; have HM2 : Hid (OMem w2 w.heap.size b 68 stillM S) := hq1; have HX2 : Hid (Ext w w2) := Ext.keep HX.out hq2 (fun i hi => (HM.out.ownL hi).1); clear hq1 hq2)
    | (go_at_call 10; refine (collect_walk w.heap.size b stillM S E 1 _ HM2.out (H.out.ext HX2.out).toG3 still_ready HX2.out.size HGB.out).mono ?_; rintro e w3 ⟨rfl, S3, hq1, hq2, hq3⟩; have hMM := hq1.mem still_end_ok; have k5 : w3.cell? ⟨b, 5, none⟩ = some (.int .i64 0) := (by have := hMM.top; rw [still_end.1] at this; exact this); have k4 : w3.cell? ⟨b, 4, none⟩ = some (.int .i64 1) := (by have := hMM.used; rw [still_end.2] at this; exact this); have HX3 : Hid (Ext w w3) := Ext.keep HX2.out hq2 (fun i hi => (HM2.out.own_size hi).1); clear hq1 hq2 hq3 hMM))
  go_ret
  exact ⟨rfl, HX3.out⟩
theorem OMem.hbs {w : World} {B b : Nat} {tI : TypeId} {M : Mem} {S : Sls} (h : OMem w B b tI M S) : B ≤ w.heap.size := by
  have h1 := h.hb
  have h2 := OM.lt h
  omega
/-- A ROOT MORE. -/
theorem OMem.pushRoot {w w1 : World} {B b : Nat} {tI : TypeId} {M : Mem} {S : Sls} (h : OMem w B b tI M S) (x : Int) (a' : Option Addr) (c' : Nat) (hg : w.grownBy w1 (Value.slice S.R.1 M.roots.length S.R.2).ownBlock)
    (ho : w1.ownsRow B 51 1 (.slice a' (M.roots.length + 1) c') (M.roots.length + 1) (wcells M.roots ++ [.int .u64 x])) (hn : (Value.slice a' (M.roots.length + 1) c').ownBlock = (Value.slice S.R.1 M.roots.length S.R.2).ownBlock ∨ (Value.slice a' (M.roots.length + 1) c').ownBlock = some w.heap.size) :
    OMem (w1.setCell ⟨b, 7, none⟩ (.slice a' (M.roots.length + 1) c')) B b tI { M with roots := M.roots ++ [x] } { S with R := (a', c') } := by
  have := OM.push (L1 := (memFlds tI M S).take 1) (L2 := (memFlds tI M S).drop 2) (f := ⟨7, 51, 1, S.R.1, M.roots.length, S.R.2, wcells M.roots⟩) h a' (M.roots.length + 1) c' _ hg ho hn
  unfold OMem memFlds
  rw [show wcells (M.roots ++ [x]) = wcells M.roots ++ [.int .u64 x] from by simp [wcells], show (M.roots ++ [x]).length = M.roots.length + 1 from by simp]
  exact this
/- The walks of the document's answer for words: those that only some statements reach. -/
end Go.Proofs.YtecbbbaafcoliaaGreatDoor
