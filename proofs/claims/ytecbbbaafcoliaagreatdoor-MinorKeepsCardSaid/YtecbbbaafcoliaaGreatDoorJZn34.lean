/- The walk of the law's memBack: the document's memory, out of mem's. -/
import Derived.Test.YtecbbbaafcoliaaGreatDoorJZn33
import Derived.Test.YtecbbbaafcoliaaGreatDoorJZn23
import Derived.Deep.RegionHeld3
import Derived.Test.YtecbbbaafcoliaaGreatDoorJZn13
import Derived.Test.YtecbbbaafcoliaaGreatDoorJZn06
import Derived.Test.YtecbbbaafcoliaaGreatDoorJZn19
import Derived.Test.YtecbbbaafcoliaaGreatDoorJZn32
import Derived.Test.YtecbbbaafcoliaaGreatDoorJZn30
namespace Go.Proofs.YtecbbbaafcoliaaGreatDoor
open Go.RowKit
set_option linter.unusedVariables false
set_option linter.unusedSimpArgs false

def MemBackPost (w : World) (M : Mem) (e : Ending) (w' : World) : Prop :=
  ∃ B b S, e = .returned (.pointer (some ⟨b, 0, none⟩)) ∧ OMem w' B b 65 M S ∧ w.heap.size ≤ B ∧ Ext w w'
set_option maxRecDepth 100000 in
set_option maxHeartbeats 4000000 in
theorem memBack_walk (b o : Nat) (M : Mem) (S : Sls) (w : World) (hM : RMem w b o M S) (hF : Few M) :
    Calls Tryz.prog 13 #[.pointer (some ⟨b, o, none⟩)] w (MemBackPost w M) := by
  obtain ⟨i3, hi3, h3a, h3b, h3c⟩ := info_parts infoF3
  have HM := Lib.hid hM
  have HF := Lib.hid hF
  have hltx := hM.lt
  have n0 := hM.half
  have n1 := hM.old
  have n2 := hM.card
  have n3 := hM.W
  have n4 := hM.used
  have n5 := hM.top
  have n6 := hM.oldTop
  have n7 := hM.roots
  have n8 := hM.weak
  have n10 := hM.cards
  have n9 := hM.ids
  have hI := hM.rI
  have HI := Lib.hid hI
  have hlI : M.ids.length ≤ 1000000 := HF.out.I
  clear hM hF hI
  go_enter Tryz.func13, Tryz.ntmps13
  go_wp2
  refine wp_region_held_drew (S := fun W => W.cell? ⟨b, o, none⟩ = some (.int .i64 M.half) ∧ W.cell? ⟨b, o + 1, none⟩ = some (.int .i64 M.old) ∧ W.cell? ⟨b, o + 2, none⟩ = some (.int .i64 M.card) ∧ W.cell? ⟨b, o + 3, none⟩ = some (.slice S.W.1 M.W.length S.W.2) ∧ W.cell? ⟨b, o + 4, none⟩ = some (.int .i64 M.used) ∧ W.cell? ⟨b, o + 5, none⟩ = some (.int .i64 M.top) ∧ W.cell? ⟨b, o + 6, none⟩ = some (.int .i64 M.oldTop) ∧ W.cell? ⟨b, o + 7, none⟩ = some (.slice S.R.1 M.roots.length S.R.2) ∧ W.cell? ⟨b, o + 8, none⟩ = some (.slice S.K.1 M.weak.length S.K.2) ∧ W.cell? ⟨b, o + 10, none⟩ = some (.slice S.C.1 M.cards.length S.C.2)) (by kernel_rfl) ?_ (fun hHeld => ?_)
  · exact ⟨n0, n1, n2, n3, n4, n5, n6, n7, n8, n10⟩
  refine wpAnyH_take (i := 0) (oi := ⟨some 7, _, _, _, _, _⟩) (v := ?_) rfl (by kernel_rfl) (by kernel_rfl) (by kernel_rfl) (fun _ _ _ h => h) (Or.inl ⟨by rfl, ?_⟩) (by assumption) ?_
  rotate_left
  · (intro w hSw; (try dsimp only at hSw); go_simp; try with_reducible rfl)
  try simp only [Act.put, List.setIfInBounds_toArray, List.set_cons_zero, List.set_cons_succ]
  refine wpAnyH_take (i := 1) (oi := ⟨some 8, _, _, _, _, _⟩) (v := ?_) rfl (by kernel_rfl) (by kernel_rfl) (by kernel_rfl) (fun _ _ _ h => h) (Or.inl ⟨by rfl, ?_⟩) (by assumption) ?_
  rotate_left
  · (intro w hSw; (try dsimp only at hSw); go_simp; try with_reducible rfl)
  try simp only [Act.put, List.setIfInBounds_toArray, List.set_cons_zero, List.set_cons_succ]
  refine wpAnyH_take (i := 2) (oi := ⟨some 9, _, _, _, _, _⟩) (v := ?_) rfl (by kernel_rfl) (by kernel_rfl) (by kernel_rfl) (fun _ _ _ h => h) (Or.inl ⟨by rfl, ?_⟩) (by assumption) ?_
  rotate_left
  · (intro w hSw; (try dsimp only at hSw); go_simp; try with_reducible rfl)
  try simp only [Act.put, List.setIfInBounds_toArray, List.set_cons_zero, List.set_cons_succ]
  refine wpAnyH_take (i := 3) (oi := ⟨some 10, _, _, _, _, _⟩) (v := ?_) rfl (by kernel_rfl) (by kernel_rfl) (by kernel_rfl) (fun _ _ _ h => h) (Or.inl ⟨by rfl, ?_⟩) (by assumption) ?_
  rotate_left
  · (intro w hSw; (try dsimp only at hSw); go_simp; try with_reducible rfl)
  try simp only [Act.put, List.setIfInBounds_toArray, List.set_cons_zero, List.set_cons_succ]
  refine wpAnyH_take (i := 4) (oi := ⟨some 11, _, _, _, _, _⟩) (v := ?_) rfl (by kernel_rfl) (by kernel_rfl) (by kernel_rfl) (fun _ _ _ h => h) (Or.inl ⟨by rfl, ?_⟩) (by assumption) ?_
  rotate_left
  · (intro w hSw; (try dsimp only at hSw); go_simp; try with_reducible rfl)
  try simp only [Act.put, List.setIfInBounds_toArray, List.set_cons_zero, List.set_cons_succ]
  refine wpAnyH_take (i := 5) (oi := ⟨some 12, _, _, _, _, _⟩) (v := ?_) rfl (by kernel_rfl) (by kernel_rfl) (by kernel_rfl) (fun _ _ _ h => h) (Or.inl ⟨by rfl, ?_⟩) (by assumption) ?_
  rotate_left
  · (intro w hSw; (try dsimp only at hSw); go_simp; try with_reducible rfl)
  try simp only [Act.put, List.setIfInBounds_toArray, List.set_cons_zero, List.set_cons_succ]
  refine wpAnyH_take (i := 6) (oi := ⟨some 13, _, _, _, _, _⟩) (v := ?_) rfl (by kernel_rfl) (by kernel_rfl) (by kernel_rfl) (fun _ _ _ h => h) (Or.inl ⟨by rfl, ?_⟩) (by assumption) ?_
  rotate_left
  · (intro w hSw; (try dsimp only at hSw); go_simp; try with_reducible rfl)
  try simp only [Act.put, List.setIfInBounds_toArray, List.set_cons_zero, List.set_cons_succ]
  refine wpAnyH_take (i := 7) (oi := ⟨some 14, _, _, _, _, _⟩) (v := ?_) rfl (by kernel_rfl) (by kernel_rfl) (by kernel_rfl) (fun _ _ _ h => h) (Or.inl ⟨by rfl, ?_⟩) (by assumption) ?_
  rotate_left
  · (intro w hSw; (try dsimp only at hSw); go_simp; try with_reducible rfl)
  try simp only [Act.put, List.setIfInBounds_toArray, List.set_cons_zero, List.set_cons_succ]
  refine wpAnyH_take (i := 8) (oi := ⟨some 15, _, _, _, _, _⟩) (v := ?_) rfl (by kernel_rfl) (by kernel_rfl) (by kernel_rfl) (fun _ _ _ h => h) (Or.inl ⟨by rfl, ?_⟩) (by assumption) ?_
  rotate_left
  · (intro w hSw; (try dsimp only at hSw); go_simp; try with_reducible rfl)
  try simp only [Act.put, List.setIfInBounds_toArray, List.set_cons_zero, List.set_cons_succ]
  refine wpAnyH_take (i := 9) (oi := ⟨some 16, _, _, _, _, _⟩) (v := ?_) rfl (by kernel_rfl) (by kernel_rfl) (by kernel_rfl) (fun _ _ _ h => h) (Or.inl ⟨by rfl, ?_⟩) (by assumption) ?_
  rotate_left
  · (intro w hSw; (try dsimp only at hSw); go_simp; try with_reducible rfl)
  try simp only [Act.put, List.setIfInBounds_toArray, List.set_cons_zero, List.set_cons_succ]
  refine wpAnyH_take (i := 10) (oi := ⟨some 17, _, _, _, _, _⟩) (v := ?_) rfl (by kernel_rfl) (by kernel_rfl) (by kernel_rfl) (fun _ _ _ h => h) (Or.inl ⟨by rfl, ?_⟩) (by assumption) ?_
  rotate_left
  · (intro w hSw; (try dsimp only at hSw); go_simp; try with_reducible rfl)
  try simp only [Act.put, List.setIfInBounds_toArray, List.set_cons_zero, List.set_cons_succ]
  refine wpAnyH_take (i := 11) (oi := ⟨some 18, _, _, _, _, _⟩) (v := ?_) rfl (by kernel_rfl) (by kernel_rfl) (by kernel_rfl) (fun _ _ _ h => h) (Or.inl ⟨by rfl, ?_⟩) (by assumption) ?_
  rotate_left
  · (intro w hSw; (try dsimp only at hSw); go_simp; try with_reducible rfl)
  try simp only [Act.put, List.setIfInBounds_toArray, List.set_cons_zero, List.set_cons_succ]
  refine wpAnyH_take (i := 12) (oi := ⟨some 19, _, _, _, _, _⟩) (v := ?_) rfl (by kernel_rfl) (by kernel_rfl) (by kernel_rfl) (fun _ _ _ h => h) (Or.inl ⟨by rfl, ?_⟩) (by assumption) ?_
  rotate_left
  · (intro w hSw; (try dsimp only at hSw); go_simp; try with_reducible rfl)
  try simp only [Act.put, List.setIfInBounds_toArray, List.set_cons_zero, List.set_cons_succ]
  refine wpAnyH_take (i := 13) (oi := ⟨some 20, _, _, _, _, _⟩) (v := ?_) rfl (by kernel_rfl) (by kernel_rfl) (by kernel_rfl) (fun _ _ _ h => h) (Or.inl ⟨by rfl, ?_⟩) (by assumption) ?_
  rotate_left
  · (intro w hSw; (try dsimp only at hSw); go_simp; try with_reducible rfl)
  try simp only [Act.put, List.setIfInBounds_toArray, List.set_cons_zero, List.set_cons_succ]
  refine wpAnyH_take (i := 14) (oi := ⟨some 21, _, _, _, _, _⟩) (v := ?_) rfl (by kernel_rfl) (by kernel_rfl) (by kernel_rfl) (fun _ _ _ h => h) (Or.inl ⟨by rfl, ?_⟩) (by assumption) ?_
  rotate_left
  · (intro w hSw; (try dsimp only at hSw); go_simp; try with_reducible rfl)
  try simp only [Act.put, List.setIfInBounds_toArray, List.set_cons_zero, List.set_cons_succ]
  refine wpAnyH_take (i := 15) (oi := ⟨some 22, _, _, _, _, _⟩) (v := ?_) rfl (by kernel_rfl) (by kernel_rfl) (by kernel_rfl) (fun _ _ _ h => h) (Or.inl ⟨by rfl, ?_⟩) (by assumption) ?_
  rotate_left
  · (intro w hSw; (try dsimp only at hSw); go_simp; try with_reducible rfl)
  try simp only [Act.put, List.setIfInBounds_toArray, List.set_cons_zero, List.set_cons_succ]
  refine wpAnyH_take (i := 16) (oi := ⟨some 23, _, _, _, _, _⟩) (v := ?_) rfl (by kernel_rfl) (by kernel_rfl) (by kernel_rfl) (fun _ _ _ h => h) (Or.inl ⟨by rfl, ?_⟩) (by assumption) ?_
  rotate_left
  · (intro w hSw; (try dsimp only at hSw); go_simp; try with_reducible rfl)
  try simp only [Act.put, List.setIfInBounds_toArray, List.set_cons_zero, List.set_cons_succ]
  refine wpAnyH_take (i := 17) (oi := ⟨some 24, _, _, _, _, _⟩) (v := ?_) rfl (by kernel_rfl) (by kernel_rfl) (by kernel_rfl) (fun _ _ _ h => h) (Or.inl ⟨by rfl, ?_⟩) (by assumption) ?_
  rotate_left
  · (intro w hSw; (try dsimp only at hSw); go_simp; try with_reducible rfl)
  try simp only [Act.put, List.setIfInBounds_toArray, List.set_cons_zero, List.set_cons_succ]
  refine wpAnyH_take (i := 18) (oi := ⟨some 25, _, _, _, _, _⟩) (v := ?_) rfl (by kernel_rfl) (by kernel_rfl) (by kernel_rfl) (fun _ _ _ h => h) (Or.inl ⟨by rfl, ?_⟩) (by assumption) ?_
  rotate_left
  · (intro w hSw; (try dsimp only at hSw); go_simp; try with_reducible rfl)
  try simp only [Act.put, List.setIfInBounds_toArray, List.set_cons_zero, List.set_cons_succ]
  refine wpAnyH_take (i := 19) (oi := ⟨some 26, _, _, _, _, _⟩) (v := ?_) rfl (by kernel_rfl) (by kernel_rfl) (by kernel_rfl) (fun _ _ _ h => h) (Or.inl ⟨by rfl, ?_⟩) (by assumption) ?_
  rotate_left
  · (intro w hSw; (try dsimp only at hSw); go_simp; try with_reducible rfl)
  try simp only [Act.put, List.setIfInBounds_toArray, List.set_cons_zero, List.set_cons_succ]
  refine wpAnyH_take (i := 20) (oi := ⟨some 27, _, _, _, _, _⟩) (v := ?_) rfl (by kernel_rfl) (by kernel_rfl) (by kernel_rfl) (fun _ _ _ h => h) (Or.inl ⟨by rfl, ?_⟩) (by assumption) ?_
  rotate_left
  · (intro w hSw; (try dsimp only at hSw); go_simp; try with_reducible rfl)
  try simp only [Act.put, List.setIfInBounds_toArray, List.set_cons_zero, List.set_cons_succ]
  refine wpAnyH_take (i := 21) (oi := ⟨some 28, _, _, _, _, _⟩) (v := ?_) rfl (by kernel_rfl) (by kernel_rfl) (by kernel_rfl) (fun _ _ _ h => h) (Or.inl ⟨by rfl, ?_⟩) (by assumption) ?_
  rotate_left
  · (intro w hSw; (try dsimp only at hSw); go_simp; try with_reducible rfl)
  try simp only [Act.put, List.setIfInBounds_toArray, List.set_cons_zero, List.set_cons_succ]
  refine wpAnyH_take (i := 22) (oi := ⟨some 29, _, _, _, _, _⟩) (v := ?_) rfl (by kernel_rfl) (by kernel_rfl) (by kernel_rfl) (fun _ _ _ h => h) (Or.inl ⟨by rfl, ?_⟩) (by assumption) ?_
  rotate_left
  · (intro w hSw; (try dsimp only at hSw); go_simp; try with_reducible rfl)
  try simp only [Act.put, List.setIfInBounds_toArray, List.set_cons_zero, List.set_cons_succ]
  refine wpAnyH_take (i := 23) (oi := ⟨some 30, _, _, _, _, _⟩) (v := ?_) rfl (by kernel_rfl) (by kernel_rfl) (by kernel_rfl) (fun _ _ _ h => h) (Or.inl ⟨by rfl, ?_⟩) (by assumption) ?_
  rotate_left
  · (intro w hSw; (try dsimp only at hSw); go_simp; try with_reducible rfl)
  try simp only [Act.put, List.setIfInBounds_toArray, List.set_cons_zero, List.set_cons_succ]
  refine wpAnyH_take (i := 24) (oi := ⟨some 31, _, _, _, _, _⟩) (v := ?_) rfl (by kernel_rfl) (by kernel_rfl) (by kernel_rfl) (fun _ _ _ h => h) (Or.inl ⟨by rfl, ?_⟩) (by assumption) ?_
  rotate_left
  · (intro w hSw; (try dsimp only at hSw); go_simp; try with_reducible rfl)
  try simp only [Act.put, List.setIfInBounds_toArray, List.set_cons_zero, List.set_cons_succ]
  refine wpAnyH_take (i := 25) (oi := ⟨some 32, _, _, _, _, _⟩) (v := ?_) rfl (by kernel_rfl) (by kernel_rfl) (by kernel_rfl) (fun _ _ _ h => h) (Or.inl ⟨by rfl, ?_⟩) (by assumption) ?_
  rotate_left
  · (intro w hSw; (try dsimp only at hSw); go_simp; try with_reducible rfl)
  try simp only [Act.put, List.setIfInBounds_toArray, List.set_cons_zero, List.set_cons_succ]
  refine wpAnyH_take (i := 26) (oi := ⟨some 33, _, _, _, _, _⟩) (v := ?_) rfl (by kernel_rfl) (by kernel_rfl) (by kernel_rfl) (fun _ _ _ h => h) (Or.inl ⟨by rfl, ?_⟩) (by assumption) ?_
  rotate_left
  · (intro w hSw; (try dsimp only at hSw); go_simp; try with_reducible rfl)
  try simp only [Act.put, List.setIfInBounds_toArray, List.set_cons_zero, List.set_cons_succ]
  refine wpAnyH_take (i := 27) (oi := ⟨some 34, _, _, _, _, _⟩) (v := ?_) rfl (by kernel_rfl) (by kernel_rfl) (by kernel_rfl) (fun _ _ _ h => h) (Or.inl ⟨by rfl, ?_⟩) (by assumption) ?_
  rotate_left
  · (intro w hSw; (try dsimp only at hSw); go_simp; try with_reducible rfl)
  try simp only [Act.put, List.setIfInBounds_toArray, List.set_cons_zero, List.set_cons_succ]
  refine wpAnyH_take (i := 28) (oi := ⟨some 35, _, _, _, _, _⟩) (v := ?_) rfl (by kernel_rfl) (by kernel_rfl) (by kernel_rfl) (fun _ _ _ h => h) (Or.inl ⟨by rfl, ?_⟩) (by assumption) ?_
  rotate_left
  · (intro w hSw; (try dsimp only at hSw); go_simp; try with_reducible rfl)
  try simp only [Act.put, List.setIfInBounds_toArray, List.set_cons_zero, List.set_cons_succ]
  refine wpAnyH_take (i := 29) (oi := ⟨some 36, _, _, _, _, _⟩) (v := ?_) rfl (by kernel_rfl) (by kernel_rfl) (by kernel_rfl) (fun _ _ _ h => h) (Or.inl ⟨by rfl, ?_⟩) (by assumption) ?_
  rotate_left
  · (intro w hSw; (try dsimp only at hSw); go_simp; try with_reducible rfl)
  try simp only [Act.put, List.setIfInBounds_toArray, List.set_cons_zero, List.set_cons_succ]
  refine wpAnyH_take (i := 30) (oi := ⟨some 37, _, _, _, _, _⟩) (v := ?_) rfl (by kernel_rfl) (by kernel_rfl) (by kernel_rfl) (fun _ _ _ h => h) (Or.inl ⟨by rfl, ?_⟩) (by assumption) ?_
  rotate_left
  · (intro w hSw; (try dsimp only at hSw); go_simp; try with_reducible rfl)
  try simp only [Act.put, List.setIfInBounds_toArray, List.set_cons_zero, List.set_cons_succ]
  refine wpAnyH_take (i := 31) (oi := ⟨some 38, _, _, _, _, _⟩) (v := ?_) rfl (by kernel_rfl) (by kernel_rfl) (by kernel_rfl) (fun _ _ _ h => h) (Or.inl ⟨by rfl, ?_⟩) (by assumption) ?_
  rotate_left
  · (intro w hSw; (try dsimp only at hSw); go_simp; try with_reducible rfl)
  try simp only [Act.put, List.setIfInBounds_toArray, List.set_cons_zero, List.set_cons_succ]
  refine wpAnyH_take (i := 32) (oi := ⟨some 39, _, _, _, _, _⟩) (v := ?_) rfl (by kernel_rfl) (by kernel_rfl) (by kernel_rfl) (fun _ _ _ h => h) (Or.inl ⟨by rfl, ?_⟩) (by assumption) ?_
  rotate_left
  · (intro w hSw; (try dsimp only at hSw); go_simp; try with_reducible rfl)
  try simp only [Act.put, List.setIfInBounds_toArray, List.set_cons_zero, List.set_cons_succ]
  refine wpAnyH_take (i := 33) (oi := ⟨some 40, _, _, _, _, _⟩) (v := ?_) rfl (by kernel_rfl) (by kernel_rfl) (by kernel_rfl) (fun _ _ _ h => h) (Or.inl ⟨by rfl, ?_⟩) (by assumption) ?_
  rotate_left
  · (intro w hSw; (try dsimp only at hSw); go_simp; try with_reducible rfl)
  try simp only [Act.put, List.setIfInBounds_toArray, List.set_cons_zero, List.set_cons_succ]
  refine wpAnyH_take (i := 34) (oi := ⟨some 41, _, _, _, _, _⟩) (v := ?_) rfl (by kernel_rfl) (by kernel_rfl) (by kernel_rfl) (fun _ _ _ h => h) (Or.inl ⟨by rfl, ?_⟩) (by assumption) ?_
  rotate_left
  · (intro w hSw; (try dsimp only at hSw); go_simp; try with_reducible rfl)
  try simp only [Act.put, List.setIfInBounds_toArray, List.set_cons_zero, List.set_cons_succ]
  refine wpAnyH_take (i := 35) (oi := ⟨some 42, _, _, _, _, _⟩) (v := ?_) rfl (by kernel_rfl) (by kernel_rfl) (by kernel_rfl) (fun _ _ _ h => h) (Or.inl ⟨by rfl, ?_⟩) (by assumption) ?_
  rotate_left
  · (intro w hSw; (try dsimp only at hSw); go_simp; try with_reducible rfl)
  try simp only [Act.put, List.setIfInBounds_toArray, List.set_cons_zero, List.set_cons_succ]
  refine wpAnyH_take (i := 36) (oi := ⟨some 43, _, _, _, _, _⟩) (v := ?_) rfl (by kernel_rfl) (by kernel_rfl) (by kernel_rfl) (fun _ _ _ h => h) (Or.inl ⟨by rfl, ?_⟩) (by assumption) ?_
  rotate_left
  · (intro w hSw; (try dsimp only at hSw); go_simp; try with_reducible rfl)
  try simp only [Act.put, List.setIfInBounds_toArray, List.set_cons_zero, List.set_cons_succ]
  refine wpAnyH_take (i := 37) (oi := ⟨some 44, _, _, _, _, _⟩) (v := ?_) rfl (by kernel_rfl) (by kernel_rfl) (by kernel_rfl) (fun _ _ _ h => h) (Or.inl ⟨by rfl, ?_⟩) (by assumption) ?_
  rotate_left
  · (intro w hSw; (try dsimp only at hSw); go_simp; try with_reducible rfl)
  try simp only [Act.put, List.setIfInBounds_toArray, List.set_cons_zero, List.set_cons_succ]
  refine wpAnyH_take (i := 38) (oi := ⟨some 45, _, _, _, _, _⟩) (v := ?_) rfl (by kernel_rfl) (by kernel_rfl) (by kernel_rfl) (fun _ _ _ h => h) (Or.inl ⟨by rfl, ?_⟩) (by assumption) ?_
  rotate_left
  · (intro w hSw; (try dsimp only at hSw); go_simp; try with_reducible rfl)
  try simp only [Act.put, List.setIfInBounds_toArray, List.set_cons_zero, List.set_cons_succ]
  refine wpAnyH_take (i := 39) (oi := ⟨some 46, _, _, _, _, _⟩) (v := ?_) rfl (by kernel_rfl) (by kernel_rfl) (by kernel_rfl) (fun _ _ _ h => h) (Or.inl ⟨by rfl, ?_⟩) (by assumption) ?_
  rotate_left
  · (intro w hSw; (try dsimp only at hSw); go_simp; try with_reducible rfl)
  try simp only [Act.put, List.setIfInBounds_toArray, List.set_cons_zero, List.set_cons_succ]
  refine wpAnyH_take (i := 40) (oi := ⟨some 47, _, _, _, _, _⟩) (v := ?_) rfl (by kernel_rfl) (by kernel_rfl) (by kernel_rfl) (fun _ _ _ h => h) (Or.inl ⟨by rfl, ?_⟩) (by assumption) ?_
  rotate_left
  · (intro w hSw; (try dsimp only at hSw); go_simp; try with_reducible rfl)
  try simp only [Act.put, List.setIfInBounds_toArray, List.set_cons_zero, List.set_cons_succ]
  refine wpAnyH_ready (rs := [41]) (by kernel_rfl) (by simp) ?_
  refine AllReadyH.cons (o := ⟨some 48, _, _, _, _, _⟩) rfl (fun K hK => ?_) AllReadyH.nil
  go_simp
  skip
  refine hK.out _ _ ?_ (fun hHeld => ?_)
  · (try dsimp only); exact ⟨Ext.cell_ (w := w) (by repeat (first | exact Ext.refl _ | (refine Ext.drew_ ?_) | (refine Ext.alloc_ ?_ _))) n0, Ext.cell_ (w := w) (by repeat (first | exact Ext.refl _ | (refine Ext.drew_ ?_) | (refine Ext.alloc_ ?_ _))) n1, Ext.cell_ (w := w) (by repeat (first | exact Ext.refl _ | (refine Ext.drew_ ?_) | (refine Ext.alloc_ ?_ _))) n2, Ext.cell_ (w := w) (by repeat (first | exact Ext.refl _ | (refine Ext.drew_ ?_) | (refine Ext.alloc_ ?_ _))) n3, Ext.cell_ (w := w) (by repeat (first | exact Ext.refl _ | (refine Ext.drew_ ?_) | (refine Ext.alloc_ ?_ _))) n4, Ext.cell_ (w := w) (by repeat (first | exact Ext.refl _ | (refine Ext.drew_ ?_) | (refine Ext.alloc_ ?_ _))) n5, Ext.cell_ (w := w) (by repeat (first | exact Ext.refl _ | (refine Ext.drew_ ?_) | (refine Ext.alloc_ ?_ _))) n6, Ext.cell_ (w := w) (by repeat (first | exact Ext.refl _ | (refine Ext.drew_ ?_) | (refine Ext.alloc_ ?_ _))) n7, Ext.cell_ (w := w) (by repeat (first | exact Ext.refl _ | (refine Ext.drew_ ?_) | (refine Ext.alloc_ ?_ _))) n8, Ext.cell_ (w := w) (by repeat (first | exact Ext.refl _ | (refine Ext.drew_ ?_) | (refine Ext.alloc_ ?_ _))) n10⟩
  clear hK K
  try simp only [Act.put, List.setIfInBounds_toArray, List.set_cons_zero, List.set_cons_succ]
  refine wpAnyH_take (i := 42) (oi := ⟨some 3, _, _, _, _, _⟩) (v := ?_) rfl (by kernel_rfl) (by kernel_rfl) (by kernel_rfl) (fun _ _ _ h => h) (Or.inl ⟨by rfl, ?_⟩) (by assumption) ?_
  rotate_left
  · (intro w hSw; (try dsimp only at hSw); go_simp; try with_reducible rfl)
  try simp only [Act.put, List.setIfInBounds_toArray, List.set_cons_zero, List.set_cons_succ]
  refine wpAnyH_done (by kernel_rfl) ?_ _
  clear n0 n1 n2 n3 n4 n5 n6 n7 n8 n10 hHeld
  go_wp2
  refine named_world' (fun W1 hW1 => ?_)
  have hE1 : Ext w W1 := by rw [hW1]; exact ((Ext.refl w).alloc_ _).drew_
  have hO1 : OM W1 w.heap.size w.heap.size (memNums M) (idsFlds 65 M none 0 0) := by rw [hW1]; exact (om_ids w _ _ M S).1.ext (Ext.refl _).drew_
  have hR1 : RestC W1 w.heap.size M S := by rw [hW1]; exact (om_ids w 65 _ M S).2.of_block (((Ext.refl _).drew_).block _ (by simp))
  have HE1 := Lib.hid hE1
  have HO1 := Lib.hid hO1
  have HR1 := Lib.hid hR1
  obtain ⟨bo, hbo⟩ : ∃ bo, w.heap.size = bo := ⟨_, rfl⟩
  have HO2 : Hid (OM W1 w.heap.size bo (memNums M) (idsFlds 65 M none 0 0)) := hbo ▸ HO1
  have HR2 : Hid (RestC W1 bo M S) := hbo ▸ HR1
  rw [hbo] at hltx
  try rw [hbo]
  clear hW1 hE1 hO1 hR1 HO1 HR1
  go_loopw [4] (fun i wr => ∃ (k : Nat) (a : Option Addr) (c : Nat), k ≤ M.ids.length ∧ i = .int .i64 (k : Int) ∧ Hid (OM wr w.heap.size bo (memNums M) (idsFlds 65 M a k c)) ∧ Hid (RestC wr bo M S) ∧ Hid (Ext w wr) ∧ Hid (∀ g, (Value.slice a k c).ownBlock = some g → bo ≤ g)) (fun i _ => M.ids.length - (intOf i).toNat)
  case atStart => exact ⟨0, none, 0, Nat.zero_le _, rfl, HO2.out, HR2.out, HE1.out, fun g hg => by simp [Value.ownBlock] at hg⟩
  case round =>
    obtain ⟨k, a, c, hk, rfl, hO, hR, hE, hB⟩ := hrel
    have f2 := hE.out.cell_ n9
    by_cases hlt : k < M.ids.length
    · obtain ⟨e1, e2⟩ := icells_at M.ids k hlt
      obtain ⟨ib, io, q1, k1⟩ := HI.out _ _ e1
      have l1 : w.cell? ⟨ib, io + k * 2 + 1, none⟩ = some (.int .i64 M.ids[k].2) := by
        have := RSl.at_ (q1 ▸ HI.out) e2
        rw [← Nat.add_assoc] at this
        exact this
      rw [q1] at f2
      have f3 := hE.out.cell_ k1
      have f4 := hE.out.cell_ l1
      have f1 : wr.cell? ⟨bo, 9, none⟩ = some (.slice a k c) := (hO.out.fld ⟨9, 65, 2, a, k, c, icells (M.ids.take k)⟩ (by simp [idsFlds])).1
      have hltz : (k : Int) < (M.ids.length : Int) := by omega
      have HY : Hid (M.ids.take (k + 1) = M.ids.take k ++ [M.ids[k]]) := Lib.hid (List.take_succ_eq_append_getElem hlt)
      generalize M.ids[k] = y at *
      obtain ⟨y1, y2⟩ := y
      have n9' : w.cell? ⟨b, o + 9, none⟩ = some (.slice (some ⟨ib, io, none⟩) M.ids.length S.I.2) := by rw [← q1]; exact n9
      have HN9 := Lib.hid n9'
      have HK1 := Lib.hid k1
      have HL1 := Lib.hid l1
      have hlo := hO.out.lt
      have hltb : ib < bo := by rw [← hbo]; exact cell_lt k1
      clear e1 e2 q1 n9 k1 l1 n9'
      go_wp2
      refine wp_region_held_drew (S := fun W => W.cell? ⟨b, o + 9, none⟩ = some (.slice (some ⟨ib, io, none⟩) M.ids.length S.I.2) ∧ W.cell? ⟨ib, io + k * 2, none⟩ = some (.int .u64 y1) ∧ W.cell? ⟨ib, io + k * 2 + 1, none⟩ = some (.int .i64 y2)) (by kernel_rfl) ?_ (fun hHeld => ?_)
      · exact ⟨f2, f3, f4⟩
      refine wpAnyH_take (i := 0) (oi := ⟨some 58, _, _, _, _, _⟩) (v := ?_) rfl (by kernel_rfl) (by kernel_rfl) (by kernel_rfl) (fun _ _ _ h => h) (Or.inl ⟨by rfl, ?_⟩) (by assumption) ?_
      rotate_left
      · (intro w hSw; (try dsimp only at hSw); go_simp; try with_reducible rfl)
      try simp only [Act.put, List.setIfInBounds_toArray, List.set_cons_zero, List.set_cons_succ]
      refine wpAnyH_take (i := 1) (oi := ⟨some 59, _, _, _, _, _⟩) (v := ?_) rfl (by kernel_rfl) (by kernel_rfl) (by kernel_rfl) (fun _ _ _ h => h) (Or.inl ⟨by rfl, ?_⟩) (by assumption) ?_
      rotate_left
      · (intro w hSw; (try dsimp only at hSw); go_simp; try with_reducible rfl)
      try simp only [Act.put, List.setIfInBounds_toArray, List.set_cons_zero, List.set_cons_succ]
      refine wpAnyH_take (i := 2) (oi := ⟨some 60, _, _, _, _, _⟩) (v := ?_) rfl (by kernel_rfl) (by kernel_rfl) (by kernel_rfl) (fun _ _ _ h => h) (Or.inl ⟨by rfl, ?_⟩) (by assumption) ?_
      rotate_left
      · (intro w hSw; (try dsimp only at hSw); go_simp; try with_reducible rfl)
      try simp only [Act.put, List.setIfInBounds_toArray, List.set_cons_zero, List.set_cons_succ]
      refine wpAnyH_take (i := 3) (oi := ⟨some 61, _, _, _, _, _⟩) (v := ?_) rfl (by kernel_rfl) (by kernel_rfl) (by kernel_rfl) (fun _ _ _ h => h) (Or.inl ⟨by rfl, ?_⟩) (by assumption) ?_
      rotate_left
      · (intro w hSw; (try dsimp only at hSw); go_simp; try with_reducible rfl)
      try simp only [Act.put, List.setIfInBounds_toArray, List.set_cons_zero, List.set_cons_succ]
      refine wpAnyH_take (i := 5) (oi := ⟨some 63, _, _, _, _, _⟩) (v := ?_) rfl (by kernel_rfl) (by kernel_rfl) (by kernel_rfl) (fun _ _ _ h => h) (Or.inl ⟨by rfl, ?_⟩) (by assumption) ?_
      rotate_left
      · (intro w hSw; (try dsimp only at hSw); go_simp; try with_reducible rfl)
      try simp only [Act.put, List.setIfInBounds_toArray, List.set_cons_zero, List.set_cons_succ]
      refine wpAnyH_take (i := 6) (oi := ⟨some 64, _, _, _, _, _⟩) (v := ?_) rfl (by kernel_rfl) (by kernel_rfl) (by kernel_rfl) (fun _ _ _ h => h) (Or.inl ⟨by rfl, ?_⟩) (by assumption) ?_
      rotate_left
      · (intro w hSw; (try dsimp only at hSw); go_simp; try with_reducible rfl)
      try simp only [Act.put, List.setIfInBounds_toArray, List.set_cons_zero, List.set_cons_succ]
      refine wpAnyH_take (i := 7) (oi := ⟨some 65, _, _, _, _, _⟩) (v := ?_) rfl (by kernel_rfl) (by kernel_rfl) (by kernel_rfl) (fun _ _ _ h => h) (Or.inl ⟨by rfl, ?_⟩) (by assumption) ?_
      rotate_left
      · (intro w hSw; (try dsimp only at hSw); go_simp; try with_reducible rfl)
      try simp only [Act.put, List.setIfInBounds_toArray, List.set_cons_zero, List.set_cons_succ]
      refine wpAnyH_take (i := 8) (oi := ⟨some 66, _, _, _, _, _⟩) (v := ?_) rfl (by kernel_rfl) (by kernel_rfl) (by kernel_rfl) (fun _ _ _ h => h) (Or.inl ⟨by rfl, ?_⟩) (by assumption) ?_
      rotate_left
      · (intro w hSw; (try dsimp only at hSw); go_simp; try with_reducible rfl)
      try simp only [Act.put, List.setIfInBounds_toArray, List.set_cons_zero, List.set_cons_succ]
      refine wpAnyH_take (i := 9) (oi := ⟨some 67, _, _, _, _, _⟩) (v := ?_) rfl (by kernel_rfl) (by kernel_rfl) (by kernel_rfl) (fun _ _ _ h => h) (Or.inl ⟨by rfl, ?_⟩) (by assumption) ?_
      rotate_left
      · (intro w hSw; (try dsimp only at hSw); go_simp; try with_reducible rfl)
      try simp only [Act.put, List.setIfInBounds_toArray, List.set_cons_zero, List.set_cons_succ]
      refine wpAnyH_take (i := 10) (oi := ⟨some 68, _, _, _, _, _⟩) (v := ?_) rfl (by kernel_rfl) (by kernel_rfl) (by kernel_rfl) (fun _ _ _ h => h) (Or.inl ⟨by rfl, ?_⟩) (by assumption) ?_
      rotate_left
      · (intro w hSw; (try dsimp only at hSw); go_simp; try with_reducible rfl)
      try simp only [Act.put, List.setIfInBounds_toArray, List.set_cons_zero, List.set_cons_succ]
      refine wpAnyH_take (i := 11) (oi := ⟨some 69, _, _, _, _, _⟩) (v := ?_) rfl (by kernel_rfl) (by kernel_rfl) (by kernel_rfl) (fun _ _ _ h => h) (Or.inl ⟨by rfl, ?_⟩) (by assumption) ?_
      rotate_left
      · (intro w hSw; (try dsimp only at hSw); go_simp; try with_reducible rfl)
      try simp only [Act.put, List.setIfInBounds_toArray, List.set_cons_zero, List.set_cons_succ]
      refine wpAnyH_take (i := 12) (oi := ⟨some 70, _, _, _, _, _⟩) (v := ?_) rfl (by kernel_rfl) (by kernel_rfl) (by kernel_rfl) (fun _ _ _ h => h) (Or.inl ⟨by rfl, ?_⟩) (by assumption) ?_
      rotate_left
      · (intro w hSw; (try dsimp only at hSw); go_simp; try with_reducible rfl)
      try simp only [Act.put, List.setIfInBounds_toArray, List.set_cons_zero, List.set_cons_succ]
      refine wpAnyH_take (i := 13) (oi := ⟨some 71, _, _, _, _, _⟩) (v := ?_) rfl (by kernel_rfl) (by kernel_rfl) (by kernel_rfl) (fun _ _ _ h => h) (Or.inl ⟨by rfl, ?_⟩) (by assumption) ?_
      rotate_left
      · (intro w hSw; (try dsimp only at hSw); go_simp; try with_reducible rfl)
      try simp only [Act.put, List.setIfInBounds_toArray, List.set_cons_zero, List.set_cons_succ]
      refine wpAnyH_take (i := 14) (oi := ⟨some 72, _, _, _, _, _⟩) (v := ?_) rfl (by kernel_rfl) (by kernel_rfl) (by kernel_rfl) (fun _ _ _ h => h) (Or.inl ⟨by rfl, ?_⟩) (by assumption) ?_
      rotate_left
      · (intro w hSw; (try dsimp only at hSw); go_simp; try with_reducible rfl)
      try simp only [Act.put, List.setIfInBounds_toArray, List.set_cons_zero, List.set_cons_succ]
      refine wpAnyH_take (i := 15) (oi := ⟨some 73, _, _, _, _, _⟩) (v := ?_) rfl (by kernel_rfl) (by kernel_rfl) (by kernel_rfl) (fun _ _ _ h => h) (Or.inl ⟨by rfl, ?_⟩) (by assumption) ?_
      rotate_left
      · (intro w hSw; (try dsimp only at hSw); go_simp; try with_reducible rfl)
      try simp only [Act.put, List.setIfInBounds_toArray, List.set_cons_zero, List.set_cons_succ]
      refine wpAnyH_take (i := 16) (oi := ⟨some 74, _, _, _, _, _⟩) (v := ?_) rfl (by kernel_rfl) (by kernel_rfl) (by kernel_rfl) (fun _ _ _ h => h) (Or.inl ⟨by rfl, ?_⟩) (by assumption) ?_
      rotate_left
      · (intro w hSw; (try dsimp only at hSw); go_simp; try with_reducible rfl)
      try simp only [Act.put, List.setIfInBounds_toArray, List.set_cons_zero, List.set_cons_succ]
      refine wpAnyH_take (i := 17) (oi := ⟨some 75, _, _, _, _, _⟩) (v := ?_) rfl (by kernel_rfl) (by kernel_rfl) (by kernel_rfl) (fun _ _ _ h => h) (Or.inl ⟨by rfl, ?_⟩) (by assumption) ?_
      rotate_left
      · (intro w hSw; (try dsimp only at hSw); go_simp; try with_reducible rfl)
      try simp only [Act.put, List.setIfInBounds_toArray, List.set_cons_zero, List.set_cons_succ]
      refine wpAnyH_take (i := 18) (oi := ⟨some 76, _, _, _, _, _⟩) (v := ?_) rfl (by kernel_rfl) (by kernel_rfl) (by kernel_rfl) (fun _ _ _ h => h) (Or.inl ⟨by rfl, ?_⟩) (by assumption) ?_
      rotate_left
      · (intro w hSw; (try dsimp only at hSw); go_simp; try with_reducible rfl)
      try simp only [Act.put, List.setIfInBounds_toArray, List.set_cons_zero, List.set_cons_succ]
      refine wpAnyH_take (i := 19) (oi := ⟨some 77, _, _, _, _, _⟩) (v := ?_) rfl (by kernel_rfl) (by kernel_rfl) (by kernel_rfl) (fun _ _ _ h => h) (Or.inl ⟨by rfl, ?_⟩) (by assumption) ?_
      rotate_left
      · (intro w hSw; (try dsimp only at hSw); go_simp; try with_reducible rfl)
      try simp only [Act.put, List.setIfInBounds_toArray, List.set_cons_zero, List.set_cons_succ]
      refine wpAnyH_take (i := 20) (oi := ⟨some 78, _, _, _, _, _⟩) (v := ?_) rfl (by kernel_rfl) (by kernel_rfl) (by kernel_rfl) (fun _ _ _ h => h) (Or.inl ⟨by rfl, ?_⟩) (by assumption) ?_
      rotate_left
      · (intro w hSw; (try dsimp only at hSw); go_simp; try with_reducible rfl)
      try simp only [Act.put, List.setIfInBounds_toArray, List.set_cons_zero, List.set_cons_succ]
      refine wpAnyH_take (i := 21) (oi := ⟨some 79, _, _, _, _, _⟩) (v := ?_) rfl (by kernel_rfl) (by kernel_rfl) (by kernel_rfl) (fun _ _ _ h => h) (Or.inl ⟨by rfl, ?_⟩) (by assumption) ?_
      rotate_left
      · (intro w hSw; (try dsimp only at hSw); go_simp; try with_reducible rfl)
      try simp only [Act.put, List.setIfInBounds_toArray, List.set_cons_zero, List.set_cons_succ]
      refine wpAnyH_ready (rs := [4, 22]) (by kernel_rfl) (by simp) ?_
      refine AllReadyH.cons (o := ⟨some 62, _, _, _, _, _⟩) rfl (fun K hK => ?_) (AllReadyH.cons (o := ⟨some 80, _, _, _, _, _⟩) rfl (fun K hK => ?_) AllReadyH.nil)
      · skip
        go_simp
        refine hK.out _ _ ?_ (fun hHeld => ?_)
        · (try dsimp only); exact ⟨Ext.cell_ (w := wr) (by repeat (first | exact Ext.refl _ | (refine Ext.drew_ ?_) | (refine Ext.alloc_ ?_ _))) f2, Ext.cell_ (w := wr) (by repeat (first | exact Ext.refl _ | (refine Ext.drew_ ?_) | (refine Ext.alloc_ ?_ _))) f3, Ext.cell_ (w := wr) (by repeat (first | exact Ext.refl _ | (refine Ext.drew_ ?_) | (refine Ext.alloc_ ?_ _))) f4⟩
        clear hK K
        try simp only [Act.put, List.setIfInBounds_toArray, List.set_cons_zero, List.set_cons_succ]
        refine wpAnyH_ready (rs := [22]) (by kernel_rfl) (by simp) ?_
        refine AllReadyH.cons (o := ⟨some 80, _, _, _, _, _⟩) rfl (fun K hK => ?_) AllReadyH.nil
        go_simp
        skip
        refine hK.out _ _ ?_ (fun hHeld => ?_)
        · (try dsimp only); exact ⟨Ext.cell_ (w := wr) (by repeat (first | exact Ext.refl _ | (refine Ext.drew_ ?_) | (refine Ext.alloc_ ?_ _))) f2, Ext.cell_ (w := wr) (by repeat (first | exact Ext.refl _ | (refine Ext.drew_ ?_) | (refine Ext.alloc_ ?_ _))) f3, Ext.cell_ (w := wr) (by repeat (first | exact Ext.refl _ | (refine Ext.drew_ ?_) | (refine Ext.alloc_ ?_ _))) f4⟩
        clear hK K
        try simp only [Act.put, List.setIfInBounds_toArray, List.set_cons_zero, List.set_cons_succ]
        refine wpAnyH_ready (rs := [23]) (by kernel_rfl) (by simp) ?_
        refine AllReadyH.cons (o := ⟨some 81, _, _, _, _, _⟩) rfl (fun K hK => ?_) AllReadyH.nil
        have hOW : OM (wr.alloc (.cells #[.int .u64 y1, .int .i64 y2] 65)).drew w.heap.size bo (memNums M) (idsFlds 65 M a k c) := hO.out.ext ((Ext.refl wr).alloc_ _).drew_
        have hE2 : Ext w (wr.alloc (.cells #[.int .u64 y1, .int .i64 y2] 65)).drew := Ext.trans_ hE.out ((Ext.refl wr).alloc_ _).drew_
        have hRW : RestC (wr.alloc (.cells #[.int .u64 y1, .int .i64 y2] 65)).drew bo M S := hR.out.of_block (((Ext.refl wr).alloc_ _).drew_.block bo hO.out.lt)
        have hfl := hOW.fld ⟨9, 65, 2, a, k, c, icells (M.ids.take k)⟩ (by simp [idsFlds])
        refine step_append_src (by rfl) _ _ 27 (by rfl) w.heap.size 65 i3 (.agg #[.int .u64 0, .int .i64 0]) 2 16 und3 hi3 h3a h3b h3c (by rfl) (by decide) (.slice a k c) k (icells (M.ids.take k)) (by rfl) hfl.2.1 (some ⟨wr.heap.size, 0, none⟩) 1 1 (icells [(y1, y2)]) (by rfl) (fun e => by cases e) (Nat.le_refl _) (by rfl) (rsl_made wr _ y1 y2) (icells_one _) (by unfold maxLen; omega) (by omega) hE2.size ?_
        intro a2 c2 v2 hown hgrow hat
        have hx : Ext w v2 := Below.grown hE2 hgrow hE2.size (fun g hg => by rw [hbo]; exact hB.out g hg)
        have hbk := hgrow.block bo hOW.lt (fun e => hfl.2.2 e.symm)
        have hRv := hRW.of_block hbk
        have y1c : v2.cell? ⟨bo, 9, none⟩ = some (.slice a k c) := by rw [World.cell?_of_block (w := (wr.alloc (.cells #[.int .u64 y1, .int .i64 y2] 65)).drew) (a := ⟨bo, 9, none⟩) hbk]; exact hfl.1
        have y2c : v2.frozen? ⟨bo, 9, none⟩ = false := by rw [World.frozen?_of_block (w := (wr.alloc (.cells #[.int .u64 y1, .int .i64 y2] 65)).drew) (a := ⟨bo, 9, none⟩) hbk]; exact hOW.frozen 9
        have g2 := hx.cell_ HN9.out
        have g3 := hx.cell_ HK1.out
        have g4 := hx.cell_ HL1.out
        have OW := Lib.hid hown
        have HG := Lib.hid hgrow
        have HAT := Lib.hid hat
        have HX := Lib.hid hx
        have HOW := Lib.hid hOW
        have HRV := Lib.hid hRv
        clear hown hgrow hat hx hOW hE2 hfl hbk hRW hRv
        refine hK.out _ _ ?_ (fun hHeld => ?_)
        · (try dsimp only); exact ⟨g2, g3, g4⟩
        clear hK K
        try simp only [Act.put, List.setIfInBounds_toArray, List.set_cons_zero, List.set_cons_succ]
        refine wpAnyH_take (i := 24) (oi := ⟨some 82, _, _, _, _, _⟩) (v := ?_) rfl (by kernel_rfl) (by kernel_rfl) (by kernel_rfl) (fun _ _ _ h => h) (Or.inl ⟨by rfl, ?_⟩) (by assumption) ?_
        rotate_left
        · (intro w hSw; (try dsimp only at hSw); go_simp; try with_reducible rfl)
        try simp only [Act.put, List.setIfInBounds_toArray, List.set_cons_zero, List.set_cons_succ]
        refine wpAnyH_take (i := 25) (oi := ⟨some 83, _, _, _, _, _⟩) (v := ?_) rfl (by kernel_rfl) (by kernel_rfl) (by kernel_rfl) (fun _ _ _ h => h) (Or.inl ⟨by rfl, ?_⟩) (by assumption) ?_
        rotate_left
        · (intro w hSw; (try dsimp only at hSw); go_simp; try with_reducible rfl)
        try simp only [Act.put, List.setIfInBounds_toArray, List.set_cons_zero, List.set_cons_succ]
        refine wpAnyH_ready (rs := [26]) (by kernel_rfl) (by simp) ?_
        refine AllReadyH.cons (o := ⟨none, _, _, _, _, _⟩) rfl (fun K hK => ?_) AllReadyH.nil
        go_simp
        skip
        refine hK.out _ _ ?_ (fun hHeld => ?_)
        · (try dsimp only); exact ⟨by rw [World.cell?_setCell_far _ _ _ _ (by simp; omega)]; exact g2, by rw [World.cell?_setCell_far _ _ _ _ (by simp; omega)]; exact g3, by rw [World.cell?_setCell_far _ _ _ _ (by simp; omega)]; exact g4⟩
        clear hK K
        try simp only [Act.put, List.setIfInBounds_toArray, List.set_cons_zero, List.set_cons_succ]
        refine wpAnyH_done (by kernel_rfl) ?_ _
        have hN : OM (v2.setCell ⟨bo, 9, none⟩ (.slice a2 (k + 1) c2)) w.heap.size bo (memNums M) (idsFlds 65 M a2 (k + 1) c2) := by
          have h := OM.push (L1 := []) (L2 := []) (f := ⟨9, 65, 2, a, k, c, icells (M.ids.take k)⟩) HOW.out a2 (k + 1) c2 _ HG.out OW.out HAT.out
          unfold idsFlds
          rw [HY.out, show icells (M.ids.take k ++ [(y1, y2)]) = icells (M.ids.take k) ++ icells [(y1, y2)] from by simp [icells]]
          exact h
        have hsz2 : bo ≤ (wr.alloc (.cells #[.int .u64 y1, .int .i64 y2] 65)).drew.heap.size := by have := HOW.out.lt; omega
        clear hHeld y1c y2c g2 g3 g4 f1 f2 f3 f4
        have HNN := Lib.hid hN
        have HS2 := Lib.hid hsz2
        clear hN hsz2
        go_wp2
        refine ⟨⟨k + 1, a2, c2, by omega, by go_num, HNN.out, HRV.out.set9 _, Ext.set_ HX.out (by simp; omega) _, fun g hg => ?_⟩, by simp [intOf]; omega⟩
        rcases HAT.out with e | e
        · exact hB.out g (e ▸ hg)
        · rw [e] at hg; injection hg with hg; rw [← hg]; exact HS2.out
      · skip
        go_simp
        refine hK.out _ _ ?_ (fun hHeld => ?_)
        · (try dsimp only); exact ⟨Ext.cell_ (w := wr) (by repeat (first | exact Ext.refl _ | (refine Ext.drew_ ?_) | (refine Ext.alloc_ ?_ _))) f2, Ext.cell_ (w := wr) (by repeat (first | exact Ext.refl _ | (refine Ext.drew_ ?_) | (refine Ext.alloc_ ?_ _))) f3, Ext.cell_ (w := wr) (by repeat (first | exact Ext.refl _ | (refine Ext.drew_ ?_) | (refine Ext.alloc_ ?_ _))) f4⟩
        clear hK K
        try simp only [Act.put, List.setIfInBounds_toArray, List.set_cons_zero, List.set_cons_succ]
        refine wpAnyH_ready (rs := [4]) (by kernel_rfl) (by simp) ?_
        refine AllReadyH.cons (o := ⟨some 62, _, _, _, _, _⟩) rfl (fun K hK => ?_) AllReadyH.nil
        go_simp
        skip
        refine hK.out _ _ ?_ (fun hHeld => ?_)
        · (try dsimp only); exact ⟨Ext.cell_ (w := wr) (by repeat (first | exact Ext.refl _ | (refine Ext.drew_ ?_) | (refine Ext.alloc_ ?_ _))) f2, Ext.cell_ (w := wr) (by repeat (first | exact Ext.refl _ | (refine Ext.drew_ ?_) | (refine Ext.alloc_ ?_ _))) f3, Ext.cell_ (w := wr) (by repeat (first | exact Ext.refl _ | (refine Ext.drew_ ?_) | (refine Ext.alloc_ ?_ _))) f4⟩
        clear hK K
        try simp only [Act.put, List.setIfInBounds_toArray, List.set_cons_zero, List.set_cons_succ]
        refine wpAnyH_ready (rs := [23]) (by kernel_rfl) (by simp) ?_
        refine AllReadyH.cons (o := ⟨some 81, _, _, _, _, _⟩) rfl (fun K hK => ?_) AllReadyH.nil
        have hOW : OM (wr.alloc (.cells #[.int .u64 y1, .int .i64 y2] 65)).drew w.heap.size bo (memNums M) (idsFlds 65 M a k c) := hO.out.ext ((Ext.refl wr).alloc_ _).drew_
        have hE2 : Ext w (wr.alloc (.cells #[.int .u64 y1, .int .i64 y2] 65)).drew := Ext.trans_ hE.out ((Ext.refl wr).alloc_ _).drew_
        have hRW : RestC (wr.alloc (.cells #[.int .u64 y1, .int .i64 y2] 65)).drew bo M S := hR.out.of_block (((Ext.refl wr).alloc_ _).drew_.block bo hO.out.lt)
        have hfl := hOW.fld ⟨9, 65, 2, a, k, c, icells (M.ids.take k)⟩ (by simp [idsFlds])
        refine step_append_src (by rfl) _ _ 27 (by rfl) w.heap.size 65 i3 (.agg #[.int .u64 0, .int .i64 0]) 2 16 und3 hi3 h3a h3b h3c (by rfl) (by decide) (.slice a k c) k (icells (M.ids.take k)) (by rfl) hfl.2.1 (some ⟨wr.heap.size, 0, none⟩) 1 1 (icells [(y1, y2)]) (by rfl) (fun e => by cases e) (Nat.le_refl _) (by rfl) (rsl_made wr _ y1 y2) (icells_one _) (by unfold maxLen; omega) (by omega) hE2.size ?_
        intro a2 c2 v2 hown hgrow hat
        have hx : Ext w v2 := Below.grown hE2 hgrow hE2.size (fun g hg => by rw [hbo]; exact hB.out g hg)
        have hbk := hgrow.block bo hOW.lt (fun e => hfl.2.2 e.symm)
        have hRv := hRW.of_block hbk
        have y1c : v2.cell? ⟨bo, 9, none⟩ = some (.slice a k c) := by rw [World.cell?_of_block (w := (wr.alloc (.cells #[.int .u64 y1, .int .i64 y2] 65)).drew) (a := ⟨bo, 9, none⟩) hbk]; exact hfl.1
        have y2c : v2.frozen? ⟨bo, 9, none⟩ = false := by rw [World.frozen?_of_block (w := (wr.alloc (.cells #[.int .u64 y1, .int .i64 y2] 65)).drew) (a := ⟨bo, 9, none⟩) hbk]; exact hOW.frozen 9
        have g2 := hx.cell_ HN9.out
        have g3 := hx.cell_ HK1.out
        have g4 := hx.cell_ HL1.out
        have OW := Lib.hid hown
        have HG := Lib.hid hgrow
        have HAT := Lib.hid hat
        have HX := Lib.hid hx
        have HOW := Lib.hid hOW
        have HRV := Lib.hid hRv
        clear hown hgrow hat hx hOW hE2 hfl hbk hRW hRv
        refine hK.out _ _ ?_ (fun hHeld => ?_)
        · (try dsimp only); exact ⟨g2, g3, g4⟩
        clear hK K
        try simp only [Act.put, List.setIfInBounds_toArray, List.set_cons_zero, List.set_cons_succ]
        refine wpAnyH_take (i := 24) (oi := ⟨some 82, _, _, _, _, _⟩) (v := ?_) rfl (by kernel_rfl) (by kernel_rfl) (by kernel_rfl) (fun _ _ _ h => h) (Or.inl ⟨by rfl, ?_⟩) (by assumption) ?_
        rotate_left
        · (intro w hSw; (try dsimp only at hSw); go_simp; try with_reducible rfl)
        try simp only [Act.put, List.setIfInBounds_toArray, List.set_cons_zero, List.set_cons_succ]
        refine wpAnyH_take (i := 25) (oi := ⟨some 83, _, _, _, _, _⟩) (v := ?_) rfl (by kernel_rfl) (by kernel_rfl) (by kernel_rfl) (fun _ _ _ h => h) (Or.inl ⟨by rfl, ?_⟩) (by assumption) ?_
        rotate_left
        · (intro w hSw; (try dsimp only at hSw); go_simp; try with_reducible rfl)
        try simp only [Act.put, List.setIfInBounds_toArray, List.set_cons_zero, List.set_cons_succ]
        refine wpAnyH_ready (rs := [26]) (by kernel_rfl) (by simp) ?_
        refine AllReadyH.cons (o := ⟨none, _, _, _, _, _⟩) rfl (fun K hK => ?_) AllReadyH.nil
        go_simp
        skip
        refine hK.out _ _ ?_ (fun hHeld => ?_)
        · (try dsimp only); exact ⟨by rw [World.cell?_setCell_far _ _ _ _ (by simp; omega)]; exact g2, by rw [World.cell?_setCell_far _ _ _ _ (by simp; omega)]; exact g3, by rw [World.cell?_setCell_far _ _ _ _ (by simp; omega)]; exact g4⟩
        clear hK K
        try simp only [Act.put, List.setIfInBounds_toArray, List.set_cons_zero, List.set_cons_succ]
        refine wpAnyH_done (by kernel_rfl) ?_ _
        have hN : OM (v2.setCell ⟨bo, 9, none⟩ (.slice a2 (k + 1) c2)) w.heap.size bo (memNums M) (idsFlds 65 M a2 (k + 1) c2) := by
          have h := OM.push (L1 := []) (L2 := []) (f := ⟨9, 65, 2, a, k, c, icells (M.ids.take k)⟩) HOW.out a2 (k + 1) c2 _ HG.out OW.out HAT.out
          unfold idsFlds
          rw [HY.out, show icells (M.ids.take k ++ [(y1, y2)]) = icells (M.ids.take k) ++ icells [(y1, y2)] from by simp [icells]]
          exact h
        have hsz2 : bo ≤ (wr.alloc (.cells #[.int .u64 y1, .int .i64 y2] 65)).drew.heap.size := by have := HOW.out.lt; omega
        clear hHeld y1c y2c g2 g3 g4 f1 f2 f3 f4
        have HNN := Lib.hid hN
        have HS2 := Lib.hid hsz2
        clear hN hsz2
        go_wp2
        refine ⟨⟨k + 1, a2, c2, by omega, by go_num, HNN.out, HRV.out.set9 _, Ext.set_ HX.out (by simp; omega) _, fun g hg => ?_⟩, by simp [intOf]; omega⟩
        rcases HAT.out with e | e
        · exact hB.out g (e ▸ hg)
        · rw [e] at hg; injection hg with hg; rw [← hg]; exact HS2.out
    · have hge : (M.ids.length : Int) ≤ (k : Int) := by omega
      obtain rfl : k = M.ids.length := by omega
      have HRM := Lib.hid (rmem_back HM.out hE.out hO.out hR.out)
      go_wp2_with (go_at_call 30; refine (own_walk _ _ M _ _ HRM.out HF.out).mono ?_; rintro e w2 ⟨b2, S2, rfl, hom, hq⟩; have HOM := Lib.hid hom; have HQ := Lib.hid hq; clear hom hq)
      go_ret
      exact ⟨_, b2, S2, rfl, HOM.out, hE.out.size, Ext.trans_ hE.out HQ.out⟩
end Go.Proofs.YtecbbbaafcoliaaGreatDoor
/- The walk of Memory.Alloc: whatever it answers. -/
namespace Go.Proofs.YtecbbbaafcoliaaGreatDoor
open Go.RowKit
set_option linter.unusedVariables false
set_option linter.unusedSimpArgs false

def APost (w : World) (B b : Nat) (M : Mem) (S : Sls) (E : Nat → Addr) (kind : Int) (fs : List Int) (e : Ending) (w' : World) : Prop :=
  (allocC M kind fs ≠ 0 ∧ e = .returned (.tuple #[.int .u64 0, errC E (allocC M kind fs)]) ∧ Ext w w') ∨
  (allocC M kind fs = 0 ∧ e = .returned (.tuple #[.int .u64 (addrW ((M.base + M.top.toNat : Nat) : Int)), .nilIface]) ∧ OMem w' B b 68 (allocM M kind fs) S ∧ Keep (OwnL b S) w w' ∧ goodB M = true ∧ M.base + M.top.toNat + 1 + fs.length ≤ M.W.length)
theorem alloc_any (B b : Nat) (M : Mem) (S : Sls) (E : Nat → Addr) (kind : Int) (fa : Option Addr) (fs : List Int) (fc : Nat) (w : World) (hO : OMem w B b 68 M S) (hok : M.Ok) (hE : G4 E w)
    (hfl : fs.length ≤ 9223372036854775807) (hR : RSl w fa (wcells fs)) (hfb : ∀ x ∈ fs, 0 ≤ x ∧ x ≤ 18446744073709551615) (hno : ∀ x, fa = some x → ¬ OwnL b S x.block) :
    Calls Tryz.prog 24 #[.pointer (some ⟨b, 0, none⟩), .int .i64 kind, .slice fa fs.length fc] w (APost w B b M S E kind fs) := by
  have hM := hO.mem hok
  by_cases h : chk M = 0
  · by_cases hb : kind < 0 ∨ 255 < kind ∨ 4096 < fs.length
    · have e : allocC M kind fs = 2 := by unfold allocC; rw [if_neg (by simp [h]), if_pos hb]
      refine (alloc_bound b 0 M S E kind fa fs.length fc w hM hE h hfl (by omega)).mono fun en w' ⟨he, hx⟩ => Or.inl ⟨by omega, by rw [e]; exact he, hx⟩
    · by_cases hf : rawB kind = false ∧ fieldsB (startsM M) fs = false
      · have e : allocC M kind fs = 3 := by unfold allocC; rw [if_neg (by simp [h]), if_neg hb, if_pos hf]
        exact (alloc_shape b 0 M S E kind fa fs fc w hM hE h (by omega) (by omega) (by omega) hf.1 hf.2 hR hfb).mono fun en w' ⟨he, hx⟩ => Or.inl ⟨by omega, by rw [e]; exact he, hx⟩
      · have hf' : rawB kind = true ∨ fieldsB (startsM M) fs = true := by
          cases h1 : rawB kind <;> cases h2 : fieldsB (startsM M) fs <;> simp_all
        by_cases hfull : M.half < M.top + 1 + (fs.length : Int)
        · have e : allocC M kind fs = 6 := by unfold allocC; rw [if_neg (by simp [h]), if_neg hb, if_neg hf, if_pos hfull]
          exact (alloc_full b 0 M S E kind fa fs fc w hM hE h (by omega) (by omega) (by omega) hf' hR hfb hfull).mono fun en w' ⟨he, hx⟩ => Or.inl ⟨by omega, by rw [e]; exact he, hx⟩
        · have e : allocC M kind fs = 0 := by unfold allocC; rw [if_neg (by simp [h]), if_neg hb, if_neg hf, if_neg hfull]
          obtain ⟨hs, -⟩ := good_parts (chk_zero h).1
          obtain ⟨q1, q2, q3⟩ := hs.base
          have hw := hs.w
          have ht := hs.t1
          have hh := hs.h1
          have ho := hs.o1
          exact (alloc_yes B b M S E kind fa fs fc w hO hok hE h (by omega) (by omega) (by omega) hf' hR hfb hno hfull).mono fun en w' ⟨he, h1, h2⟩ => Or.inr ⟨e, he, h1, h2, (chk_zero h).1, by omega⟩
  · have e : allocC M kind fs = chk M := by unfold allocC; rw [if_pos h]
    exact (alloc_chk b 0 M S E kind fa fs.length fc w hM hE h).mono fun en w' ⟨he, hx⟩ => Or.inl ⟨by rw [e]; exact h, by rw [e]; exact he, hx⟩
/-- A memory's own step leaves all below its base. -/
theorem Keep.belowO {w w' : World} {B b : Nat} {tI : TypeId} {M : Mem} {S : Sls} (h : Keep (OwnL b S) w w') (hO : OMem w B b tI M S) (hB : B ≤ w.heap.size) : Below B w w' :=
  h.below hB fun k hk hl => by have := (hO.ownL hl).1; omega
theorem OMem.hbs {w : World} {B b : Nat} {tI : TypeId} {M : Mem} {S : Sls} (h : OMem w B b tI M S) : B ≤ w.heap.size := by
  have h1 := h.hb
  have h2 := OM.lt h
  omega
/-- A ROOT MORE. -/
theorem OMem.pushRoot {w w1 : World} {B b : Nat} {tI : TypeId} {M : Mem} {S : Sls} (h : OMem w B b tI M S) (x : Int) (a' : Option Addr) (c' : Nat) (hg : w.grownBy w1 (Value.slice S.R.1 M.roots.length S.R.2).ownBlock)
    (ho : w1.ownsRow B 51 1 (.slice a' (M.roots.length + 1) c') (M.roots.length + 1) (wcells M.roots ++ [.int .u64 x])) (hn : (Value.slice a' (M.roots.length + 1) c').ownBlock = (Value.slice S.R.1 M.roots.length S.R.2).ownBlock ∨ (Value.slice a' (M.roots.length + 1) c').ownBlock = some w.heap.size) :
    OMem (w1.setCell ⟨b, 7, none⟩ (.slice a' (M.roots.length + 1) c')) B b tI { M with roots := M.roots ++ [x] } { S with R := (a', c') } := by
  have := OM.push (L1 := (memFlds tI M S).take 1) (L2 := (memFlds tI M S).drop 2) (f := ⟨7, 51, 1, S.R.1, M.roots.length, S.R.2, wcells M.roots⟩) h a' (M.roots.length + 1) c' _ hg ho hn
  unfold OMem memFlds
  rw [show wcells (M.roots ++ [x]) = wcells M.roots ++ [.int .u64 x] from by simp [wcells], show (M.roots ++ [x]).length = M.roots.length + 1 from by simp]
  exact this
end Go.Proofs.YtecbbbaafcoliaaGreatDoor
/- The walks of the document's answer for words: those that only some statements reach. -/
namespace Go.Proofs.YtecbbbaafcoliaaGreatDoor
open Go.RowKit
set_option linter.unusedVariables false
set_option linter.unusedSimpArgs false

theorem intK_bits (a : Int) : IntKind.u64.wrap (IntKind.u64.wrap (IntKind.u64.wrap a * 4) + 1) = intW a := by
  rw [IntKind.wrap_u64, IntKind.wrap_u64, IntKind.wrap_u64]; unfold intW; omega
end Go.Proofs.YtecbbbaafcoliaaGreatDoor
/- The document's FieldsOK; coded at an error by its number; memOf and Alloc at nil; what was appended to nothing lies apart. -/
namespace Go.Proofs.YtecbbbaafcoliaaGreatDoor
open Go.RowKit
set_option linter.unusedVariables false
set_option linter.unusedSimpArgs false

theorem coded_c {E : Nat → Addr} {w : World} (h : ErrEnv E w) (c : Int) (h1 : 1 ≤ c) (h2 : c ≤ 7) :
    Calls Tryz.prog 11 #[errC E c, .int .i64 c] w fun e w' => e = .returned (.bool true) ∧ Ext w w' := by
  rw [errC_pos E c (by omega)]
  refine (coded_env h (c - 1).toNat (by omega) c).mono fun e w' ⟨he, hx⟩ => ⟨?_, hx⟩
  rw [he, show ((((c - 1).toNat : Nat) : Int) + 1) = c by omega]
  simp
theorem memOf_nil (w : World) : Calls Tryz.prog 9 #[.pointer none] w fun e w' => e = .returned (.pointer none) ∧ w' = w := by
  go_enter Tryz.func9, Tryz.ntmps9
  go_wp2
  go_ret
  exact ⟨rfl, rfl⟩
set_option maxRecDepth 100000 in
theorem alloc_nil (kind : Int) (fa : Option Addr) (fn fc : Nat) (E : Nat → Addr) (w : World) (hE : G3 E w) :
    Calls Tryz.prog 24 #[.pointer none, .int .i64 kind, .slice fa fn fc] w fun e w' => e = .returned (.tuple #[.int .u64 0, errC E 3]) ∧ Ext w w' := by
  have HS := Lib.hid hE.shape
  clear hE
  go_enter Tryz.func24, Tryz.ntmps24
  go_wp2_with (go_at_call 20; refine (check_nil _ (E 2) HS.out).mono ?_; rintro e w1 ⟨rfl, hq⟩; have HX1 := Lib.hid hq; clear hq)
  go_ret2
  exact ⟨rfl, HX1.out⟩
theorem alloc_bad (B b : Nat) (M : Mem) (S : Sls) (E : Nat → Addr) (kind : Int) (fa : Option Addr) (fs : List Int) (fc : Nat) (w : World) (hO : OMem w B b 68 M S) (hok : M.Ok) (hE : G4 E w)
    (hfl : fs.length ≤ 9223372036854775807) (hR : RSl w fa (wcells fs)) (hfb : ∀ x ∈ fs, 0 ≤ x ∧ x ≤ 18446744073709551615) (hno : ∀ x, fa = some x → ¬ OwnL b S x.block) (c : Int) (hc : allocC M kind fs = c) (h0 : c ≠ 0) :
    Calls Tryz.prog 24 #[.pointer (some ⟨b, 0, none⟩), .int .i64 kind, .slice fa fs.length fc] w fun e w' => e = .returned (.tuple #[.int .u64 0, errC E c]) ∧ Ext w w' := by
  refine (alloc_any B b M S E kind fa fs fc w hO hok hE hfl hR hfb hno).mono ?_
  rintro e w' (⟨h1, h2, h3⟩ | ⟨h1, -⟩)
  · rw [hc] at h2; exact ⟨h2, h3⟩
  · exact absurd (hc ▸ h1) h0
theorem not_ownW {w w' : World} {B bx : Nat} {tI : TypeId} {M : Mem} {S : Sls} (h : OMem w B bx tI M S) {la : Option Addr} {lc n : Nat} {e : TypeId} {size : Nat} {cs : List Value} (hl : w'.ownsRow w.heap.size e size (.slice la n lc) n cs) : ∀ y, la = some y → ¬ OwnL bx S y.block := fun y hy hk => by
  have h1 := (h.ownL hk).2
  rcases hl.2 with ⟨h2, _⟩ | ⟨g, cap, cur, h2, hg, _⟩
  · injection h2 with h2
    rw [hy] at h2; cases h2
  · injection h2 with h2
    rw [hy] at h2
    injection h2 with h2
    rw [h2] at h1
    simp only at h1
    omega
end Go.Proofs.YtecbbbaafcoliaaGreatDoor
