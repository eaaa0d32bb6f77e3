/- The walk of the document's Own: a copy of a memory. -/
import Derived.Test.YtecbbbaafcoliaaGreatDoorJYa08
import Derived.Deep.RegionHeld3
namespace Go.Proofs.YtecbbbaafcoliaaGreatDoor
open Go.RowKit
set_option linter.unusedVariables false
set_option linter.unusedSimpArgs false

theorem infoF0 : (Tryz.prog.info? 51).map (fun i => (i.zero, i.size, i.bytes)) = some (some (.int .u64 0), 1, 8) := by kernel_rfl
theorem und0 : Tryz.prog.underlying 26 = some (.slice 51) := by kernel_rfl
theorem infoF1 : (Tryz.prog.info? 51).map (fun i => (i.zero, i.size, i.bytes)) = some (some (.int .u64 0), 1, 8) := by kernel_rfl
theorem und1 : Tryz.prog.underlying 26 = some (.slice 51) := by kernel_rfl
theorem infoF2 : (Tryz.prog.info? 51).map (fun i => (i.zero, i.size, i.bytes)) = some (some (.int .u64 0), 1, 8) := by kernel_rfl
theorem und2 : Tryz.prog.underlying 26 = some (.slice 51) := by kernel_rfl
theorem infoF3 : (Tryz.prog.info? 65).map (fun i => (i.zero, i.size, i.bytes)) = some (some (.agg #[.int .u64 0, .int .i64 0]), 2, 16) := by kernel_rfl
theorem und3 : Tryz.prog.underlying 27 = some (.slice 65) := by kernel_rfl
theorem infoF4 : (Tryz.prog.info? 4).map (fun i => (i.zero, i.size, i.bytes)) = some (some (.bool false), 1, 1) := by kernel_rfl
theorem und4 : Tryz.prog.underlying 28 = some (.slice 4) := by kernel_rfl
def OwnPost (w : World) (M : Mem) (e : Ending) (w' : World) : Prop :=
  ∃ b S, e = .returned (.pointer (some ⟨b, 0, none⟩)) ∧ OMem w' w.heap.size b 65 M S ∧ Ext w w'
set_option maxRecDepth 100000 in
set_option maxHeartbeats 4000000 in
theorem own_walk (b o : Nat) (M : Mem) (S : Sls) (w : World) (hM : RMem w b o M S) (hF : Few M) :
    Calls Tryz.prog 30 #[.pointer (some ⟨b, o, none⟩)] w (OwnPost w M) := by
  obtain ⟨i0, hi0, h0a, h0b, h0c⟩ := info_parts infoF0
  obtain ⟨i1, hi1, h1a, h1b, h1c⟩ := info_parts infoF1
  obtain ⟨i2, hi2, h2a, h2b, h2c⟩ := info_parts infoF2
  obtain ⟨i3, hi3, h3a, h3b, h3c⟩ := info_parts infoF3
  obtain ⟨i4, hi4, h4a, h4b, h4c⟩ := info_parts infoF4
  have HM := Lib.hid hM
  have HF := Lib.hid hF
  have hltb := hM.lt
  have n0 := hM.half
  have n1 := hM.old
  have n2 := hM.card
  have n4 := hM.used
  have n5 := hM.top
  have n6 := hM.oldTop
  clear hM hF
  go_enter Tryz.func30, Tryz.ntmps30
  go_wp2
  refine wp_region_held_drew (S := fun W => W.cell? ⟨b, o, none⟩ = some (.int .i64 M.half) ∧ W.cell? ⟨b, o + 1, none⟩ = some (.int .i64 M.old) ∧ W.cell? ⟨b, o + 2, none⟩ = some (.int .i64 M.card) ∧ W.cell? ⟨b, o + 4, none⟩ = some (.int .i64 M.used) ∧ W.cell? ⟨b, o + 5, none⟩ = some (.int .i64 M.top) ∧ W.cell? ⟨b, o + 6, none⟩ = some (.int .i64 M.oldTop)) (by kernel_rfl) ?_ (fun hHeld => ?_)
  · exact ⟨n0, n1, n2, n4, n5, n6⟩
  refine tk 0 ⟨some 4, _, _, _, _, _⟩ ?_ rfl ?_ ?_
  rotate_left
  · (intro w hSw; (try dsimp only at hSw); go_simp; try with_reducible rfl)
  try simp only [tkS]
  refine tk 1 ⟨some 5, _, _, _, _, _⟩ ?_ rfl ?_ ?_
  rotate_left
  · (intro w hSw; (try dsimp only at hSw); go_simp; try with_reducible rfl)
  try simp only [tkS]
  refine tk 2 ⟨some 6, _, _, _, _, _⟩ ?_ rfl ?_ ?_
  rotate_left
  · (intro w hSw; (try dsimp only at hSw); go_simp; try with_reducible rfl)
  try simp only [tkS]
  refine tk 3 ⟨some 7, _, _, _, _, _⟩ ?_ rfl ?_ ?_
  rotate_left
  · (intro w hSw; (try dsimp only at hSw); go_simp; try with_reducible rfl)
  try simp only [tkS]
  refine tk 4 ⟨some 8, _, _, _, _, _⟩ ?_ rfl ?_ ?_
  rotate_left
  · (intro w hSw; (try dsimp only at hSw); go_simp; try with_reducible rfl)
  try simp only [tkS]
  refine tk 5 ⟨some 9, _, _, _, _, _⟩ ?_ rfl ?_ ?_
  rotate_left
  · (intro w hSw; (try dsimp only at hSw); go_simp; try with_reducible rfl)
  try simp only [tkS]
  refine tk 6 ⟨some 10, _, _, _, _, _⟩ ?_ rfl ?_ ?_
  rotate_left
  · (intro w hSw; (try dsimp only at hSw); go_simp; try with_reducible rfl)
  try simp only [tkS]
  refine tk 7 ⟨some 11, _, _, _, _, _⟩ ?_ rfl ?_ ?_
  rotate_left
  · (intro w hSw; (try dsimp only at hSw); go_simp; try with_reducible rfl)
  try simp only [tkS]
  refine tk 8 ⟨some 12, _, _, _, _, _⟩ ?_ rfl ?_ ?_
  rotate_left
  · (intro w hSw; (try dsimp only at hSw); go_simp; try with_reducible rfl)
  try simp only [tkS]
  refine tk 9 ⟨some 13, _, _, _, _, _⟩ ?_ rfl ?_ ?_
  rotate_left
  · (intro w hSw; (try dsimp only at hSw); go_simp; try with_reducible rfl)
  try simp only [tkS]
  refine tk 10 ⟨some 14, _, _, _, _, _⟩ ?_ rfl ?_ ?_
  rotate_left
  · (intro w hSw; (try dsimp only at hSw); go_simp; try with_reducible rfl)
  try simp only [tkS]
  refine tk 11 ⟨some 15, _, _, _, _, _⟩ ?_ rfl ?_ ?_
  rotate_left
  · (intro w hSw; (try dsimp only at hSw); go_simp; try with_reducible rfl)
  try simp only [tkS]
  refine tk 12 ⟨some 16, _, _, _, _, _⟩ ?_ rfl ?_ ?_
  rotate_left
  · (intro w hSw; (try dsimp only at hSw); go_simp; try with_reducible rfl)
  try simp only [tkS]
  refine tk 13 ⟨some 17, _, _, _, _, _⟩ ?_ rfl ?_ ?_
  rotate_left
  · (intro w hSw; (try dsimp only at hSw); go_simp; try with_reducible rfl)
  try simp only [tkS]
  refine tk 14 ⟨some 18, _, _, _, _, _⟩ ?_ rfl ?_ ?_
  rotate_left
  · (intro w hSw; (try dsimp only at hSw); go_simp; try with_reducible rfl)
  try simp only [tkS]
  refine tk 15 ⟨some 19, _, _, _, _, _⟩ ?_ rfl ?_ ?_
  rotate_left
  · (intro w hSw; (try dsimp only at hSw); go_simp; try with_reducible rfl)
  try simp only [tkS]
  refine tk 16 ⟨some 20, _, _, _, _, _⟩ ?_ rfl ?_ ?_
  rotate_left
  · (intro w hSw; (try dsimp only at hSw); go_simp; try with_reducible rfl)
  try simp only [tkS]
  refine tk 17 ⟨some 21, _, _, _, _, _⟩ ?_ rfl ?_ ?_
  rotate_left
  · (intro w hSw; (try dsimp only at hSw); go_simp; try with_reducible rfl)
  try simp only [tkS]
  refine tk 18 ⟨some 22, _, _, _, _, _⟩ ?_ rfl ?_ ?_
  rotate_left
  · (intro w hSw; (try dsimp only at hSw); go_simp; try with_reducible rfl)
  try simp only [tkS]
  refine tk 19 ⟨some 23, _, _, _, _, _⟩ ?_ rfl ?_ ?_
  rotate_left
  · (intro w hSw; (try dsimp only at hSw); go_simp; try with_reducible rfl)
  try simp only [tkS]
  refine tk 20 ⟨some 24, _, _, _, _, _⟩ ?_ rfl ?_ ?_
  rotate_left
  · (intro w hSw; (try dsimp only at hSw); go_simp; try with_reducible rfl)
  try simp only [tkS]
  refine tk 21 ⟨some 25, _, _, _, _, _⟩ ?_ rfl ?_ ?_
  rotate_left
  · (intro w hSw; (try dsimp only at hSw); go_simp; try with_reducible rfl)
  try simp only [tkS]
  refine tk 22 ⟨some 26, _, _, _, _, _⟩ ?_ rfl ?_ ?_
  rotate_left
  · (intro w hSw; (try dsimp only at hSw); go_simp; try with_reducible rfl)
  try simp only [tkS]
  refine tk 23 ⟨some 27, _, _, _, _, _⟩ ?_ rfl ?_ ?_
  rotate_left
  · (intro w hSw; (try dsimp only at hSw); go_simp; try with_reducible rfl)
  try simp only [tkS]
  refine tk 24 ⟨some 28, _, _, _, _, _⟩ ?_ rfl ?_ ?_
  rotate_left
  · (intro w hSw; (try dsimp only at hSw); go_simp; try with_reducible rfl)
  try simp only [tkS]
  refine wpAnyH_ready (rs := [25]) (by kernel_rfl) (by simp) ?_
  refine AllReadyH.cons (o := ⟨some 29, _, _, _, _, _⟩) rfl (fun K hK => ?_) AllReadyH.nil
  go_simp
  skip
  refine hK.out _ _ ?_ (fun hHeld => ?_)
  · (try dsimp only); exact ⟨Ext.cell_ (w := w) (by repeat (first | exact Ext.refl _ | (refine Ext.drew_ ?_) | (refine Ext.alloc_ ?_ _))) n0, Ext.cell_ (w := w) (by repeat (first | exact Ext.refl _ | (refine Ext.drew_ ?_) | (refine Ext.alloc_ ?_ _))) n1, Ext.cell_ (w := w) (by repeat (first | exact Ext.refl _ | (refine Ext.drew_ ?_) | (refine Ext.alloc_ ?_ _))) n2, Ext.cell_ (w := w) (by repeat (first | exact Ext.refl _ | (refine Ext.drew_ ?_) | (refine Ext.alloc_ ?_ _))) n4, Ext.cell_ (w := w) (by repeat (first | exact Ext.refl _ | (refine Ext.drew_ ?_) | (refine Ext.alloc_ ?_ _))) n5, Ext.cell_ (w := w) (by repeat (first | exact Ext.refl _ | (refine Ext.drew_ ?_) | (refine Ext.alloc_ ?_ _))) n6⟩
  clear hK K
  try simp only [tkS]
  refine tk 26 ⟨some 3, _, _, _, _, _⟩ ?_ rfl ?_ ?_
  rotate_left
  · (intro w hSw; (try dsimp only at hSw); go_simp; try with_reducible rfl)
  try simp only [tkS]
  refine wpAnyH_done (by kernel_rfl) ?_ _
  clear n0 n1 n2 n4 n5 n6 hHeld
  go_wp2
  refine named_world' (fun W0 hW0 => ?_)
  have hO0 : OM W0 w.heap.size w.heap.size (memNums M) [⟨3, 51, 1, none, 0, 0, []⟩, ⟨7, 51, 1, none, 0, 0, []⟩, ⟨8, 51, 1, none, 0, 0, []⟩, ⟨9, 65, 2, none, 0, 0, []⟩, ⟨10, 4, 1, none, 0, 0, []⟩] := by rw [hW0]; exact (om_new w M _ _).ext (Ext.refl _).drew_
  have hE0 : Ext w W0 := by rw [hW0]; exact ((Ext.refl w).alloc_ _).drew_
  have x1 : W0.cell? ⟨w.heap.size, 3, none⟩ = some (.slice none 0 0) := (hO0.fld ⟨3, 51, 1, none, 0, 0, []⟩ (by simp)).1
  have s0 : W0.cell? ⟨b, o + 3, none⟩ = some (.slice S.W.1 M.W.length S.W.2) := (HM.out.ext hE0).W
  have HO0 := Lib.hid hO0
  have HE0 := Lib.hid hE0
  have hbe : b ≠ w.heap.size := by omega
  clear hW0 hO0 hE0
  refine wp_region_held_drew (S := fun W => W.cell? ⟨b, o + 3, none⟩ = some (.slice S.W.1 M.W.length S.W.2)) (by kernel_rfl) ?_ (fun hHeld => ?_)
  · exact s0
  refine tk 0 ⟨some 30, _, _, _, _, _⟩ ?_ rfl ?_ ?_
  rotate_left
  · (intro w hSw; (try dsimp only at hSw); go_simp; try with_reducible rfl)
  try simp only [tkS]
  refine tk 1 ⟨some 31, _, _, _, _, _⟩ ?_ rfl ?_ ?_
  rotate_left
  · (intro w hSw; (try dsimp only at hSw); go_simp; try with_reducible rfl)
  try simp only [tkS]
  refine tk 2 ⟨some 32, _, _, _, _, _⟩ ?_ rfl ?_ ?_
  rotate_left
  · (intro w hSw; (try dsimp only at hSw); go_simp; try with_reducible rfl)
  try simp only [tkS]
  refine tk 3 ⟨some 33, _, _, _, _, _⟩ ?_ rfl ?_ ?_
  rotate_left
  · (intro w hSw; (try dsimp only at hSw); go_simp; try with_reducible rfl)
  try simp only [tkS]
  refine tk 5 ⟨some 35, _, _, _, _, _⟩ ?_ rfl ?_ ?_
  rotate_left
  · (intro w hSw; (try dsimp only at hSw); go_simp; try with_reducible rfl)
  try simp only [tkS]
  refine tk 6 ⟨some 36, _, _, _, _, _⟩ ?_ rfl ?_ ?_
  rotate_left
  · (intro w hSw; (try dsimp only at hSw); go_simp; try with_reducible rfl)
  try simp only [tkS]
  refine tk 7 ⟨some 37, _, _, _, _, _⟩ ?_ rfl ?_ ?_
  rotate_left
  · (intro w hSw; (try dsimp only at hSw); go_simp; try with_reducible rfl)
  try simp only [tkS]
  refine tk 8 ⟨some 38, _, _, _, _, _⟩ ?_ rfl ?_ ?_
  rotate_left
  · (intro w hSw; (try dsimp only at hSw); go_simp; try with_reducible rfl)
  try simp only [tkS]
  refine wpAnyH_ready (rs := [4]) (by kernel_rfl) (by simp) ?_
  refine AllReadyH.cons (o := ⟨some 34, _, _, _, _, _⟩) rfl (fun K hK => ?_) AllReadyH.nil
  go_simp
  skip
  refine hK.out _ _ ?_ (fun hHeld => ?_)
  · (try dsimp only); exact hHeld
  clear hK K
  try simp only [tkS]
  refine wpAnyH_ready (rs := [9]) (by kernel_rfl) (by simp) ?_
  refine AllReadyH.cons (o := ⟨some 39, _, _, _, _, _⟩) rfl (fun K hK => ?_) AllReadyH.nil
  refine step_append_src (by rfl) _ _ 26 (by rfl) w.heap.size 51 i0 (.int .u64 0) 1 8 und0 hi0 h0a h0b h0c (by rfl) (by decide) (.slice none 0 0) 0 [] (by rfl) (World.ownsRow_nil _ _ _ _) S.W.1 M.W.length S.W.2 (wcells M.W) (by rfl) HM.out.nilW HM.out.capW (wcells_len _) (((HM.out.ext HE0.out).ext (Ext.refl W0).drew_).rW) (wcells_one _) (by have := HF.out.W; unfold maxLen; omega) (by have := HF.out.W; omega) (by have := HE0.out.size; simp; omega) ?_
  intro a0 c0 v0 hown hgrow hat
  simp only [Nat.zero_add, List.nil_append] at hown hat ⊢
  have hx : Ext W0 v0 := Ext.trans_ (Ext.refl W0).drew_ (Below.grown (Below.refl _ _) hgrow (Nat.le_refl _) (fun k hk => by cases hk))
  have y1 : v0.cell? ⟨w.heap.size, 3, none⟩ = some (.slice none 0 0) := hx.cell_ x1
  have y2 : v0.frozen? ⟨w.heap.size, 3, none⟩ = false := (HO0.out.ext hx).frozen 3
  have y3 := hx.cell_ s0
  have OW := Lib.hid hown
  have HG : Hid (World.grownBy W0 v0 none) := ⟨hgrow.os, hgrow.tape, hgrow.output, hgrow.size, fun k hk e => hgrow.block k hk e⟩
  have HAT := Lib.hid hat
  have HX := Lib.hid hx
  clear hown hgrow hat hx
  refine hK.out _ _ ?_ (fun hHeld => ?_)
  · (try dsimp only); exact y3
  clear hK K
  try simp only [tkS]
  refine tk 10 ⟨some 40, _, _, _, _, _⟩ ?_ rfl ?_ ?_
  rotate_left
  · (intro w hSw; (try dsimp only at hSw); go_simp; try with_reducible rfl)
  try simp only [tkS]
  refine tk 11 ⟨some 41, _, _, _, _, _⟩ ?_ rfl ?_ ?_
  rotate_left
  · (intro w hSw; (try dsimp only at hSw); go_simp; try with_reducible rfl)
  try simp only [tkS]
  refine wpAnyH_ready (rs := [12]) (by kernel_rfl) (by simp) ?_
  refine AllReadyH.cons (o := ⟨none, _, _, _, _, _⟩) rfl (fun K hK => ?_) AllReadyH.nil
  go_simp
  skip
  refine hK.out _ _ ?_ (fun hHeld => ?_)
  · (try dsimp only); exact (by rw [World.cell?_setCell_far _ _ _ _ (by simp; omega)]; exact y3)
  clear hK K
  try simp only [tkS]
  refine wpAnyH_done (by kernel_rfl) ?_ _
  have N0 : Hid (OM (v0.setCell ⟨w.heap.size, 3, none⟩ (.slice a0 M.W.length c0)) w.heap.size w.heap.size (memNums M) [⟨3, 51, 1, a0, M.W.length, c0, wcells M.W⟩, ⟨7, 51, 1, none, 0, 0, []⟩, ⟨8, 51, 1, none, 0, 0, []⟩, ⟨9, 65, 2, none, 0, 0, []⟩, ⟨10, 4, 1, none, 0, 0, []⟩]) :=
    OM.fill (L1 := []) (L2 := [⟨7, 51, 1, none, 0, 0, []⟩, ⟨8, 51, 1, none, 0, 0, []⟩, ⟨9, 65, 2, none, 0, 0, []⟩, ⟨10, 4, 1, none, 0, 0, []⟩]) (f := ⟨3, 51, 1, none, 0, 0, []⟩) HO0.out rfl a0 M.W.length c0 (wcells M.W) HG.out OW.out HAT.out
  have M0 : Hid (Ext w (v0.setCell ⟨w.heap.size, 3, none⟩ (.slice a0 M.W.length c0))) := Ext.set_ (Ext.trans_ HE0.out HX.out) (by simp) _
  clear OW HG HAT HX y1 y2 y3 x1 hHeld HO0
  go_wp2
  refine named_world' (fun W1 hW1 => ?_)
  have hO1 : OM W1 w.heap.size w.heap.size (memNums M) [⟨3, 51, 1, a0, M.W.length, c0, wcells M.W⟩, ⟨7, 51, 1, none, 0, 0, []⟩, ⟨8, 51, 1, none, 0, 0, []⟩, ⟨9, 65, 2, none, 0, 0, []⟩, ⟨10, 4, 1, none, 0, 0, []⟩] := by rw [hW1]; exact N0.out
  have hE1 : Ext w W1 := by rw [hW1]; exact M0.out
  have x1 : W1.cell? ⟨w.heap.size, 7, none⟩ = some (.slice none 0 0) := (hO1.fld ⟨7, 51, 1, none, 0, 0, []⟩ (by simp)).1
  have s1 : W1.cell? ⟨b, o + 7, none⟩ = some (.slice S.R.1 M.roots.length S.R.2) := (HM.out.ext hE1).roots
  have HO1 := Lib.hid hO1
  have HE1 := Lib.hid hE1
  have hbe : b ≠ w.heap.size := by omega
  clear hW1 hO1 hE1
  refine wp_region_held_drew (S := fun W => W.cell? ⟨b, o + 7, none⟩ = some (.slice S.R.1 M.roots.length S.R.2)) (by kernel_rfl) ?_ (fun hHeld => ?_)
  · exact s1
  refine tk 0 ⟨some 42, _, _, _, _, _⟩ ?_ rfl ?_ ?_
  rotate_left
  · (intro w hSw; (try dsimp only at hSw); go_simp; try with_reducible rfl)
  try simp only [tkS]
  refine tk 1 ⟨some 43, _, _, _, _, _⟩ ?_ rfl ?_ ?_
  rotate_left
  · (intro w hSw; (try dsimp only at hSw); go_simp; try with_reducible rfl)
  try simp only [tkS]
  refine tk 2 ⟨some 44, _, _, _, _, _⟩ ?_ rfl ?_ ?_
  rotate_left
  · (intro w hSw; (try dsimp only at hSw); go_simp; try with_reducible rfl)
  try simp only [tkS]
  refine tk 3 ⟨some 45, _, _, _, _, _⟩ ?_ rfl ?_ ?_
  rotate_left
  · (intro w hSw; (try dsimp only at hSw); go_simp; try with_reducible rfl)
  try simp only [tkS]
  refine tk 5 ⟨some 47, _, _, _, _, _⟩ ?_ rfl ?_ ?_
  rotate_left
  · (intro w hSw; (try dsimp only at hSw); go_simp; try with_reducible rfl)
  try simp only [tkS]
  refine tk 6 ⟨some 48, _, _, _, _, _⟩ ?_ rfl ?_ ?_
  rotate_left
  · (intro w hSw; (try dsimp only at hSw); go_simp; try with_reducible rfl)
  try simp only [tkS]
  refine tk 7 ⟨some 49, _, _, _, _, _⟩ ?_ rfl ?_ ?_
  rotate_left
  · (intro w hSw; (try dsimp only at hSw); go_simp; try with_reducible rfl)
  try simp only [tkS]
  refine tk 8 ⟨some 50, _, _, _, _, _⟩ ?_ rfl ?_ ?_
  rotate_left
  · (intro w hSw; (try dsimp only at hSw); go_simp; try with_reducible rfl)
  try simp only [tkS]
  refine wpAnyH_ready (rs := [4]) (by kernel_rfl) (by simp) ?_
  refine AllReadyH.cons (o := ⟨some 46, _, _, _, _, _⟩) rfl (fun K hK => ?_) AllReadyH.nil
  go_simp
  skip
  refine hK.out _ _ ?_ (fun hHeld => ?_)
  · (try dsimp only); exact hHeld
  clear hK K
  try simp only [tkS]
  refine wpAnyH_ready (rs := [9]) (by kernel_rfl) (by simp) ?_
  refine AllReadyH.cons (o := ⟨some 51, _, _, _, _, _⟩) rfl (fun K hK => ?_) AllReadyH.nil
  refine step_append_src (by rfl) _ _ 26 (by rfl) w.heap.size 51 i1 (.int .u64 0) 1 8 und1 hi1 h1a h1b h1c (by rfl) (by decide) (.slice none 0 0) 0 [] (by rfl) (World.ownsRow_nil _ _ _ _) S.R.1 M.roots.length S.R.2 (wcells M.roots) (by rfl) HM.out.nilR HM.out.capR (wcells_len _) (((HM.out.ext HE1.out).ext (Ext.refl W1).drew_).rR) (wcells_one _) (by have := HF.out.R; unfold maxLen; omega) (by have := HF.out.R; omega) (by have := HE1.out.size; simp; omega) ?_
  intro a1 c1 v1 hown hgrow hat
  simp only [Nat.zero_add, List.nil_append] at hown hat ⊢
  have hx : Ext W1 v1 := Ext.trans_ (Ext.refl W1).drew_ (Below.grown (Below.refl _ _) hgrow (Nat.le_refl _) (fun k hk => by cases hk))
  have y1 : v1.cell? ⟨w.heap.size, 7, none⟩ = some (.slice none 0 0) := hx.cell_ x1
  have y2 : v1.frozen? ⟨w.heap.size, 7, none⟩ = false := (HO1.out.ext hx).frozen 7
  have y3 := hx.cell_ s1
  have OW := Lib.hid hown
  have HG : Hid (World.grownBy W1 v1 none) := ⟨hgrow.os, hgrow.tape, hgrow.output, hgrow.size, fun k hk e => hgrow.block k hk e⟩
  have HAT := Lib.hid hat
  have HX := Lib.hid hx
  clear hown hgrow hat hx
  refine hK.out _ _ ?_ (fun hHeld => ?_)
  · (try dsimp only); exact y3
  clear hK K
  try simp only [tkS]
  refine tk 10 ⟨some 52, _, _, _, _, _⟩ ?_ rfl ?_ ?_
  rotate_left
  · (intro w hSw; (try dsimp only at hSw); go_simp; try with_reducible rfl)
  try simp only [tkS]
  refine tk 11 ⟨some 53, _, _, _, _, _⟩ ?_ rfl ?_ ?_
  rotate_left
  · (intro w hSw; (try dsimp only at hSw); go_simp; try with_reducible rfl)
  try simp only [tkS]
  refine wpAnyH_ready (rs := [12]) (by kernel_rfl) (by simp) ?_
  refine AllReadyH.cons (o := ⟨none, _, _, _, _, _⟩) rfl (fun K hK => ?_) AllReadyH.nil
  go_simp
  skip
  refine hK.out _ _ ?_ (fun hHeld => ?_)
  · (try dsimp only); exact (by rw [World.cell?_setCell_far _ _ _ _ (by simp; omega)]; exact y3)
  clear hK K
  try simp only [tkS]
  refine wpAnyH_done (by kernel_rfl) ?_ _
  have N1 : Hid (OM (v1.setCell ⟨w.heap.size, 7, none⟩ (.slice a1 M.roots.length c1)) w.heap.size w.heap.size (memNums M) [⟨3, 51, 1, a0, M.W.length, c0, wcells M.W⟩, ⟨7, 51, 1, a1, M.roots.length, c1, wcells M.roots⟩, ⟨8, 51, 1, none, 0, 0, []⟩, ⟨9, 65, 2, none, 0, 0, []⟩, ⟨10, 4, 1, none, 0, 0, []⟩]) :=
    OM.fill (L1 := [⟨3, 51, 1, a0, M.W.length, c0, wcells M.W⟩]) (L2 := [⟨8, 51, 1, none, 0, 0, []⟩, ⟨9, 65, 2, none, 0, 0, []⟩, ⟨10, 4, 1, none, 0, 0, []⟩]) (f := ⟨7, 51, 1, none, 0, 0, []⟩) HO1.out rfl a1 M.roots.length c1 (wcells M.roots) HG.out OW.out HAT.out
  have M1 : Hid (Ext w (v1.setCell ⟨w.heap.size, 7, none⟩ (.slice a1 M.roots.length c1))) := Ext.set_ (Ext.trans_ HE1.out HX.out) (by simp) _
  clear OW HG HAT HX y1 y2 y3 x1 hHeld HO1
  go_wp2
  refine named_world' (fun W2 hW2 => ?_)
  have hO2 : OM W2 w.heap.size w.heap.size (memNums M) [⟨3, 51, 1, a0, M.W.length, c0, wcells M.W⟩, ⟨7, 51, 1, a1, M.roots.length, c1, wcells M.roots⟩, ⟨8, 51, 1, none, 0, 0, []⟩, ⟨9, 65, 2, none, 0, 0, []⟩, ⟨10, 4, 1, none, 0, 0, []⟩] := by rw [hW2]; exact N1.out
  have hE2 : Ext w W2 := by rw [hW2]; exact M1.out
  have x1 : W2.cell? ⟨w.heap.size, 8, none⟩ = some (.slice none 0 0) := (hO2.fld ⟨8, 51, 1, none, 0, 0, []⟩ (by simp)).1
  have s2 : W2.cell? ⟨b, o + 8, none⟩ = some (.slice S.K.1 M.weak.length S.K.2) := (HM.out.ext hE2).weak
  have HO2 := Lib.hid hO2
  have HE2 := Lib.hid hE2
  have hbe : b ≠ w.heap.size := by omega
  clear hW2 hO2 hE2
  refine wp_region_held_drew (S := fun W => W.cell? ⟨b, o + 8, none⟩ = some (.slice S.K.1 M.weak.length S.K.2)) (by kernel_rfl) ?_ (fun hHeld => ?_)
  · exact s2
  refine tk 0 ⟨some 54, _, _, _, _, _⟩ ?_ rfl ?_ ?_
  rotate_left
  · (intro w hSw; (try dsimp only at hSw); go_simp; try with_reducible rfl)
  try simp only [tkS]
  refine tk 1 ⟨some 55, _, _, _, _, _⟩ ?_ rfl ?_ ?_
  rotate_left
  · (intro w hSw; (try dsimp only at hSw); go_simp; try with_reducible rfl)
  try simp only [tkS]
  refine tk 2 ⟨some 56, _, _, _, _, _⟩ ?_ rfl ?_ ?_
  rotate_left
  · (intro w hSw; (try dsimp only at hSw); go_simp; try with_reducible rfl)
  try simp only [tkS]
  refine tk 3 ⟨some 57, _, _, _, _, _⟩ ?_ rfl ?_ ?_
  rotate_left
  · (intro w hSw; (try dsimp only at hSw); go_simp; try with_reducible rfl)
  try simp only [tkS]
  refine tk 5 ⟨some 59, _, _, _, _, _⟩ ?_ rfl ?_ ?_
  rotate_left
  · (intro w hSw; (try dsimp only at hSw); go_simp; try with_reducible rfl)
  try simp only [tkS]
  refine tk 6 ⟨some 60, _, _, _, _, _⟩ ?_ rfl ?_ ?_
  rotate_left
  · (intro w hSw; (try dsimp only at hSw); go_simp; try with_reducible rfl)
  try simp only [tkS]
  refine tk 7 ⟨some 61, _, _, _, _, _⟩ ?_ rfl ?_ ?_
  rotate_left
  · (intro w hSw; (try dsimp only at hSw); go_simp; try with_reducible rfl)
  try simp only [tkS]
  refine tk 8 ⟨some 62, _, _, _, _, _⟩ ?_ rfl ?_ ?_
  rotate_left
  · (intro w hSw; (try dsimp only at hSw); go_simp; try with_reducible rfl)
  try simp only [tkS]
  refine wpAnyH_ready (rs := [4]) (by kernel_rfl) (by simp) ?_
  refine AllReadyH.cons (o := ⟨some 58, _, _, _, _, _⟩) rfl (fun K hK => ?_) AllReadyH.nil
  go_simp
  skip
  refine hK.out _ _ ?_ (fun hHeld => ?_)
  · (try dsimp only); exact hHeld
  clear hK K
  try simp only [tkS]
  refine wpAnyH_ready (rs := [9]) (by kernel_rfl) (by simp) ?_
  refine AllReadyH.cons (o := ⟨some 63, _, _, _, _, _⟩) rfl (fun K hK => ?_) AllReadyH.nil
  refine step_append_src (by rfl) _ _ 26 (by rfl) w.heap.size 51 i2 (.int .u64 0) 1 8 und2 hi2 h2a h2b h2c (by rfl) (by decide) (.slice none 0 0) 0 [] (by rfl) (World.ownsRow_nil _ _ _ _) S.K.1 M.weak.length S.K.2 (wcells M.weak) (by rfl) HM.out.nilK HM.out.capK (wcells_len _) (((HM.out.ext HE2.out).ext (Ext.refl W2).drew_).rK) (wcells_one _) (by have := HF.out.K; unfold maxLen; omega) (by have := HF.out.K; omega) (by have := HE2.out.size; simp; omega) ?_
  intro a2 c2 v2 hown hgrow hat
  simp only [Nat.zero_add, List.nil_append] at hown hat ⊢
  have hx : Ext W2 v2 := Ext.trans_ (Ext.refl W2).drew_ (Below.grown (Below.refl _ _) hgrow (Nat.le_refl _) (fun k hk => by cases hk))
  have y1 : v2.cell? ⟨w.heap.size, 8, none⟩ = some (.slice none 0 0) := hx.cell_ x1
  have y2 : v2.frozen? ⟨w.heap.size, 8, none⟩ = false := (HO2.out.ext hx).frozen 8
  have y3 := hx.cell_ s2
  have OW := Lib.hid hown
  have HG : Hid (World.grownBy W2 v2 none) := ⟨hgrow.os, hgrow.tape, hgrow.output, hgrow.size, fun k hk e => hgrow.block k hk e⟩
  have HAT := Lib.hid hat
  have HX := Lib.hid hx
  clear hown hgrow hat hx
  refine hK.out _ _ ?_ (fun hHeld => ?_)
  · (try dsimp only); exact y3
  clear hK K
  try simp only [tkS]
  refine tk 10 ⟨some 64, _, _, _, _, _⟩ ?_ rfl ?_ ?_
  rotate_left
  · (intro w hSw; (try dsimp only at hSw); go_simp; try with_reducible rfl)
  try simp only [tkS]
  refine tk 11 ⟨some 65, _, _, _, _, _⟩ ?_ rfl ?_ ?_
  rotate_left
  · (intro w hSw; (try dsimp only at hSw); go_simp; try with_reducible rfl)
  try simp only [tkS]
  refine wpAnyH_ready (rs := [12]) (by kernel_rfl) (by simp) ?_
  refine AllReadyH.cons (o := ⟨none, _, _, _, _, _⟩) rfl (fun K hK => ?_) AllReadyH.nil
  go_simp
  skip
  refine hK.out _ _ ?_ (fun hHeld => ?_)
  · (try dsimp only); exact (by rw [World.cell?_setCell_far _ _ _ _ (by simp; omega)]; exact y3)
  clear hK K
  try simp only [tkS]
  refine wpAnyH_done (by kernel_rfl) ?_ _
  have N2 : Hid (OM (v2.setCell ⟨w.heap.size, 8, none⟩ (.slice a2 M.weak.length c2)) w.heap.size w.heap.size (memNums M) [⟨3, 51, 1, a0, M.W.length, c0, wcells M.W⟩, ⟨7, 51, 1, a1, M.roots.length, c1, wcells M.roots⟩, ⟨8, 51, 1, a2, M.weak.length, c2, wcells M.weak⟩, ⟨9, 65, 2, none, 0, 0, []⟩, ⟨10, 4, 1, none, 0, 0, []⟩]) :=
    OM.fill (L1 := [⟨3, 51, 1, a0, M.W.length, c0, wcells M.W⟩, ⟨7, 51, 1, a1, M.roots.length, c1, wcells M.roots⟩]) (L2 := [⟨9, 65, 2, none, 0, 0, []⟩, ⟨10, 4, 1, none, 0, 0, []⟩]) (f := ⟨8, 51, 1, none, 0, 0, []⟩) HO2.out rfl a2 M.weak.length c2 (wcells M.weak) HG.out OW.out HAT.out
  have M2 : Hid (Ext w (v2.setCell ⟨w.heap.size, 8, none⟩ (.slice a2 M.weak.length c2))) := Ext.set_ (Ext.trans_ HE2.out HX.out) (by simp) _
  clear OW HG HAT HX y1 y2 y3 x1 hHeld HO2
  go_wp2
  refine named_world' (fun W3 hW3 => ?_)
  have hO3 : OM W3 w.heap.size w.heap.size (memNums M) [⟨3, 51, 1, a0, M.W.length, c0, wcells M.W⟩, ⟨7, 51, 1, a1, M.roots.length, c1, wcells M.roots⟩, ⟨8, 51, 1, a2, M.weak.length, c2, wcells M.weak⟩, ⟨9, 65, 2, none, 0, 0, []⟩, ⟨10, 4, 1, none, 0, 0, []⟩] := by rw [hW3]; exact N2.out
  have hE3 : Ext w W3 := by rw [hW3]; exact M2.out
  have x1 : W3.cell? ⟨w.heap.size, 9, none⟩ = some (.slice none 0 0) := (hO3.fld ⟨9, 65, 2, none, 0, 0, []⟩ (by simp)).1
  have s3 : W3.cell? ⟨b, o + 9, none⟩ = some (.slice S.I.1 M.ids.length S.I.2) := (HM.out.ext hE3).ids
  have HO3 := Lib.hid hO3
  have HE3 := Lib.hid hE3
  have hbe : b ≠ w.heap.size := by omega
  clear hW3 hO3 hE3
  refine wp_region_held_drew (S := fun W => W.cell? ⟨b, o + 9, none⟩ = some (.slice S.I.1 M.ids.length S.I.2)) (by kernel_rfl) ?_ (fun hHeld => ?_)
  · exact s3
  refine tk 0 ⟨some 66, _, _, _, _, _⟩ ?_ rfl ?_ ?_
  rotate_left
  · (intro w hSw; (try dsimp only at hSw); go_simp; try with_reducible rfl)
  try simp only [tkS]
  refine tk 1 ⟨some 67, _, _, _, _, _⟩ ?_ rfl ?_ ?_
  rotate_left
  · (intro w hSw; (try dsimp only at hSw); go_simp; try with_reducible rfl)
  try simp only [tkS]
  refine tk 2 ⟨some 68, _, _, _, _, _⟩ ?_ rfl ?_ ?_
  rotate_left
  · (intro w hSw; (try dsimp only at hSw); go_simp; try with_reducible rfl)
  try simp only [tkS]
  refine tk 3 ⟨some 69, _, _, _, _, _⟩ ?_ rfl ?_ ?_
  rotate_left
  · (intro w hSw; (try dsimp only at hSw); go_simp; try with_reducible rfl)
  try simp only [tkS]
  refine tk 5 ⟨some 71, _, _, _, _, _⟩ ?_ rfl ?_ ?_
  rotate_left
  · (intro w hSw; (try dsimp only at hSw); go_simp; try with_reducible rfl)
  try simp only [tkS]
  refine tk 6 ⟨some 72, _, _, _, _, _⟩ ?_ rfl ?_ ?_
  rotate_left
  · (intro w hSw; (try dsimp only at hSw); go_simp; try with_reducible rfl)
  try simp only [tkS]
  refine tk 7 ⟨some 73, _, _, _, _, _⟩ ?_ rfl ?_ ?_
  rotate_left
  · (intro w hSw; (try dsimp only at hSw); go_simp; try with_reducible rfl)
  try simp only [tkS]
  refine tk 8 ⟨some 74, _, _, _, _, _⟩ ?_ rfl ?_ ?_
  rotate_left
  · (intro w hSw; (try dsimp only at hSw); go_simp; try with_reducible rfl)
  try simp only [tkS]
  refine wpAnyH_ready (rs := [4]) (by kernel_rfl) (by simp) ?_
  refine AllReadyH.cons (o := ⟨some 70, _, _, _, _, _⟩) rfl (fun K hK => ?_) AllReadyH.nil
  go_simp
  skip
  refine hK.out _ _ ?_ (fun hHeld => ?_)
  · (try dsimp only); exact hHeld
  clear hK K
  try simp only [tkS]
  refine wpAnyH_ready (rs := [9]) (by kernel_rfl) (by simp) ?_
  refine AllReadyH.cons (o := ⟨some 75, _, _, _, _, _⟩) rfl (fun K hK => ?_) AllReadyH.nil
  refine step_append_src (by rfl) _ _ 27 (by rfl) w.heap.size 65 i3 (.agg #[.int .u64 0, .int .i64 0]) 2 16 und3 hi3 h3a h3b h3c (by rfl) (by decide) (.slice none 0 0) 0 [] (by rfl) (World.ownsRow_nil _ _ _ _) S.I.1 M.ids.length S.I.2 (icells M.ids) (by rfl) HM.out.nilI HM.out.capI (icells_len _) (((HM.out.ext HE3.out).ext (Ext.refl W3).drew_).rI) (icells_one _) (by have := HF.out.I; unfold maxLen; omega) (by have := HF.out.I; omega) (by have := HE3.out.size; simp; omega) ?_
  intro a3 c3 v3 hown hgrow hat
  simp only [Nat.zero_add, List.nil_append] at hown hat ⊢
  have hx : Ext W3 v3 := Ext.trans_ (Ext.refl W3).drew_ (Below.grown (Below.refl _ _) hgrow (Nat.le_refl _) (fun k hk => by cases hk))
  have y1 : v3.cell? ⟨w.heap.size, 9, none⟩ = some (.slice none 0 0) := hx.cell_ x1
  have y2 : v3.frozen? ⟨w.heap.size, 9, none⟩ = false := (HO3.out.ext hx).frozen 9
  have y3 := hx.cell_ s3
  have OW := Lib.hid hown
  have HG : Hid (World.grownBy W3 v3 none) := ⟨hgrow.os, hgrow.tape, hgrow.output, hgrow.size, fun k hk e => hgrow.block k hk e⟩
  have HAT := Lib.hid hat
  have HX := Lib.hid hx
  clear hown hgrow hat hx
  refine hK.out _ _ ?_ (fun hHeld => ?_)
  · (try dsimp only); exact y3
  clear hK K
  try simp only [tkS]
  refine tk 10 ⟨some 76, _, _, _, _, _⟩ ?_ rfl ?_ ?_
  rotate_left
  · (intro w hSw; (try dsimp only at hSw); go_simp; try with_reducible rfl)
  try simp only [tkS]
  refine tk 11 ⟨some 77, _, _, _, _, _⟩ ?_ rfl ?_ ?_
  rotate_left
  · (intro w hSw; (try dsimp only at hSw); go_simp; try with_reducible rfl)
  try simp only [tkS]
  refine wpAnyH_ready (rs := [12]) (by kernel_rfl) (by simp) ?_
  refine AllReadyH.cons (o := ⟨none, _, _, _, _, _⟩) rfl (fun K hK => ?_) AllReadyH.nil
  go_simp
  skip
  refine hK.out _ _ ?_ (fun hHeld => ?_)
  · (try dsimp only); exact (by rw [World.cell?_setCell_far _ _ _ _ (by simp; omega)]; exact y3)
  clear hK K
  try simp only [tkS]
  refine wpAnyH_done (by kernel_rfl) ?_ _
  have N3 : Hid (OM (v3.setCell ⟨w.heap.size, 9, none⟩ (.slice a3 M.ids.length c3)) w.heap.size w.heap.size (memNums M) [⟨3, 51, 1, a0, M.W.length, c0, wcells M.W⟩, ⟨7, 51, 1, a1, M.roots.length, c1, wcells M.roots⟩, ⟨8, 51, 1, a2, M.weak.length, c2, wcells M.weak⟩, ⟨9, 65, 2, a3, M.ids.length, c3, icells M.ids⟩, ⟨10, 4, 1, none, 0, 0, []⟩]) :=
    OM.fill (L1 := [⟨3, 51, 1, a0, M.W.length, c0, wcells M.W⟩, ⟨7, 51, 1, a1, M.roots.length, c1, wcells M.roots⟩, ⟨8, 51, 1, a2, M.weak.length, c2, wcells M.weak⟩]) (L2 := [⟨10, 4, 1, none, 0, 0, []⟩]) (f := ⟨9, 65, 2, none, 0, 0, []⟩) HO3.out rfl a3 M.ids.length c3 (icells M.ids) HG.out OW.out HAT.out
  have M3 : Hid (Ext w (v3.setCell ⟨w.heap.size, 9, none⟩ (.slice a3 M.ids.length c3))) := Ext.set_ (Ext.trans_ HE3.out HX.out) (by simp) _
  clear OW HG HAT HX y1 y2 y3 x1 hHeld HO3
  go_wp2
  refine named_world' (fun W4 hW4 => ?_)
  have hO4 : OM W4 w.heap.size w.heap.size (memNums M) [⟨3, 51, 1, a0, M.W.length, c0, wcells M.W⟩, ⟨7, 51, 1, a1, M.roots.length, c1, wcells M.roots⟩, ⟨8, 51, 1, a2, M.weak.length, c2, wcells M.weak⟩, ⟨9, 65, 2, a3, M.ids.length, c3, icells M.ids⟩, ⟨10, 4, 1, none, 0, 0, []⟩] := by rw [hW4]; exact N3.out
  have hE4 : Ext w W4 := by rw [hW4]; exact M3.out
  have x1 : W4.cell? ⟨w.heap.size, 10, none⟩ = some (.slice none 0 0) := (hO4.fld ⟨10, 4, 1, none, 0, 0, []⟩ (by simp)).1
  have s4 : W4.cell? ⟨b, o + 10, none⟩ = some (.slice S.C.1 M.cards.length S.C.2) := (HM.out.ext hE4).cards
  have HO4 := Lib.hid hO4
  have HE4 := Lib.hid hE4
  have hbe : b ≠ w.heap.size := by omega
  clear hW4 hO4 hE4
  refine wp_region_held_drew (S := fun W => W.cell? ⟨b, o + 10, none⟩ = some (.slice S.C.1 M.cards.length S.C.2)) (by kernel_rfl) ?_ (fun hHeld => ?_)
  · exact s4
  refine tk 0 ⟨some 78, _, _, _, _, _⟩ ?_ rfl ?_ ?_
  rotate_left
  · (intro w hSw; (try dsimp only at hSw); go_simp; try with_reducible rfl)
  try simp only [tkS]
  refine tk 1 ⟨some 79, _, _, _, _, _⟩ ?_ rfl ?_ ?_
  rotate_left
  · (intro w hSw; (try dsimp only at hSw); go_simp; try with_reducible rfl)
  try simp only [tkS]
  refine tk 2 ⟨some 80, _, _, _, _, _⟩ ?_ rfl ?_ ?_
  rotate_left
  · (intro w hSw; (try dsimp only at hSw); go_simp; try with_reducible rfl)
  try simp only [tkS]
  refine tk 3 ⟨some 81, _, _, _, _, _⟩ ?_ rfl ?_ ?_
  rotate_left
  · (intro w hSw; (try dsimp only at hSw); go_simp; try with_reducible rfl)
  try simp only [tkS]
  refine tk 5 ⟨some 83, _, _, _, _, _⟩ ?_ rfl ?_ ?_
  rotate_left
  · (intro w hSw; (try dsimp only at hSw); go_simp; try with_reducible rfl)
  try simp only [tkS]
  refine tk 6 ⟨some 84, _, _, _, _, _⟩ ?_ rfl ?_ ?_
  rotate_left
  · (intro w hSw; (try dsimp only at hSw); go_simp; try with_reducible rfl)
  try simp only [tkS]
  refine tk 7 ⟨some 85, _, _, _, _, _⟩ ?_ rfl ?_ ?_
  rotate_left
  · (intro w hSw; (try dsimp only at hSw); go_simp; try with_reducible rfl)
  try simp only [tkS]
  refine tk 8 ⟨some 86, _, _, _, _, _⟩ ?_ rfl ?_ ?_
  rotate_left
  · (intro w hSw; (try dsimp only at hSw); go_simp; try with_reducible rfl)
  try simp only [tkS]
  refine wpAnyH_ready (rs := [4]) (by kernel_rfl) (by simp) ?_
  refine AllReadyH.cons (o := ⟨some 82, _, _, _, _, _⟩) rfl (fun K hK => ?_) AllReadyH.nil
  go_simp
  skip
  refine hK.out _ _ ?_ (fun hHeld => ?_)
  · (try dsimp only); exact hHeld
  clear hK K
  try simp only [tkS]
  refine wpAnyH_ready (rs := [9]) (by kernel_rfl) (by simp) ?_
  refine AllReadyH.cons (o := ⟨some 87, _, _, _, _, _⟩) rfl (fun K hK => ?_) AllReadyH.nil
  refine step_append_src (by rfl) _ _ 28 (by rfl) w.heap.size 4 i4 (.bool false) 1 1 und4 hi4 h4a h4b h4c (by rfl) (by decide) (.slice none 0 0) 0 [] (by rfl) (World.ownsRow_nil _ _ _ _) S.C.1 M.cards.length S.C.2 (bcells M.cards) (by rfl) HM.out.nilC HM.out.capC (bcells_len _) (((HM.out.ext HE4.out).ext (Ext.refl W4).drew_).rC) (bcells_one _) (by have := HF.out.C; unfold maxLen; omega) (by have := HF.out.C; omega) (by have := HE4.out.size; simp; omega) ?_
  intro a4 c4 v4 hown hgrow hat
  simp only [Nat.zero_add, List.nil_append] at hown hat ⊢
  have hx : Ext W4 v4 := Ext.trans_ (Ext.refl W4).drew_ (Below.grown (Below.refl _ _) hgrow (Nat.le_refl _) (fun k hk => by cases hk))
  have y1 : v4.cell? ⟨w.heap.size, 10, none⟩ = some (.slice none 0 0) := hx.cell_ x1
  have y2 : v4.frozen? ⟨w.heap.size, 10, none⟩ = false := (HO4.out.ext hx).frozen 10
  have y3 := hx.cell_ s4
  have OW := Lib.hid hown
  have HG : Hid (World.grownBy W4 v4 none) := ⟨hgrow.os, hgrow.tape, hgrow.output, hgrow.size, fun k hk e => hgrow.block k hk e⟩
  have HAT := Lib.hid hat
  have HX := Lib.hid hx
  clear hown hgrow hat hx
  refine hK.out _ _ ?_ (fun hHeld => ?_)
  · (try dsimp only); exact y3
  clear hK K
  try simp only [tkS]
  refine tk 10 ⟨some 88, _, _, _, _, _⟩ ?_ rfl ?_ ?_
  rotate_left
  · (intro w hSw; (try dsimp only at hSw); go_simp; try with_reducible rfl)
  try simp only [tkS]
  refine tk 11 ⟨some 89, _, _, _, _, _⟩ ?_ rfl ?_ ?_
  rotate_left
  · (intro w hSw; (try dsimp only at hSw); go_simp; try with_reducible rfl)
  try simp only [tkS]
  refine wpAnyH_ready (rs := [12]) (by kernel_rfl) (by simp) ?_
  refine AllReadyH.cons (o := ⟨none, _, _, _, _, _⟩) rfl (fun K hK => ?_) AllReadyH.nil
  go_simp
  skip
  refine hK.out _ _ ?_ (fun hHeld => ?_)
  · (try dsimp only); exact (by rw [World.cell?_setCell_far _ _ _ _ (by simp; omega)]; exact y3)
  clear hK K
  try simp only [tkS]
  refine wpAnyH_done (by kernel_rfl) ?_ _
  have N4 : Hid (OM (v4.setCell ⟨w.heap.size, 10, none⟩ (.slice a4 M.cards.length c4)) w.heap.size w.heap.size (memNums M) [⟨3, 51, 1, a0, M.W.length, c0, wcells M.W⟩, ⟨7, 51, 1, a1, M.roots.length, c1, wcells M.roots⟩, ⟨8, 51, 1, a2, M.weak.length, c2, wcells M.weak⟩, ⟨9, 65, 2, a3, M.ids.length, c3, icells M.ids⟩, ⟨10, 4, 1, a4, M.cards.length, c4, bcells M.cards⟩]) :=
    OM.fill (L1 := [⟨3, 51, 1, a0, M.W.length, c0, wcells M.W⟩, ⟨7, 51, 1, a1, M.roots.length, c1, wcells M.roots⟩, ⟨8, 51, 1, a2, M.weak.length, c2, wcells M.weak⟩, ⟨9, 65, 2, a3, M.ids.length, c3, icells M.ids⟩]) (L2 := []) (f := ⟨10, 4, 1, none, 0, 0, []⟩) HO4.out rfl a4 M.cards.length c4 (bcells M.cards) HG.out OW.out HAT.out
  have M4 : Hid (Ext w (v4.setCell ⟨w.heap.size, 10, none⟩ (.slice a4 M.cards.length c4))) := Ext.set_ (Ext.trans_ HE4.out HX.out) (by simp) _
  clear OW HG HAT HX y1 y2 y3 x1 hHeld HO4
  go_wp2
  go_ret
  exact ⟨w.heap.size, ⟨(a0, c0), (a1, c1), (a2, c2), (a3, c3), (a4, c4)⟩, rfl, N4.out, M4.out⟩
theorem OM.push {w w1 : World} {B b : Nat} {nums : List (Nat × Int)} {L1 L2 : List Fld} {f : Fld} (h : OM w B b nums (L1 ++ f :: L2)) (a' : Option Addr) (n' c' : Nat) (cs' : List Value)
    (hg : w.grownBy w1 f.val.ownBlock) (ho : w1.ownsRow B f.e f.size (.slice a' n' c') n' cs') (hnew : (Value.slice a' n' c').ownBlock = f.val.ownBlock ∨ (Value.slice a' n' c').ownBlock = some w.heap.size) :
    OM (w1.setCell ⟨b, f.off, none⟩ (.slice a' n' c')) B b nums (L1 ++ ⟨f.off, f.e, f.size, a', n', c', cs'⟩ :: L2) := by
  have hlt := h.lt
  have hap := h.apart
  have hfb := (h.fld f (by simp)).2.2
  have hother : ∀ g ∈ L1 ++ L2, ∀ k, g.val.ownBlock = some k → f.val.ownBlock ≠ some k := fun g hgm k hk e => by
    rw [List.pairwise_append, List.pairwise_cons] at hap
    rcases List.mem_append.1 hgm with q | q
    · exact hap.2.2 g q f (by simp) k hk e
    · exact hap.2.1.1 g q k e hk
  have hbk : w1.heap[b]? = w.heap[b]? := hg.block b hlt (fun e => hfb e.symm)
  have hnb : (Value.slice a' n' c').ownBlock ≠ some b := by
    rcases hnew with e | e
    · rw [e]; exact hfb
    · rw [e]; simp; omega
  have hold : ∀ g ∈ L1 ++ L2, ∀ k, g.val.ownBlock = some k → (Value.slice a' n' c').ownBlock ≠ some k := fun g hgm k hk => by
    have h1 : g ∈ L1 ++ f :: L2 := by rcases List.mem_append.1 hgm with q | q <;> simp [q]
    have := ((h.fld g h1).2.1.lt k hk).2
    rcases hnew with e | e
    · rw [e]; exact hother g hgm k hk
    · rw [e]; simp; omega
  have hrow : ∀ g ∈ L1 ++ L2, w1.ownsRow B g.e g.size g.val g.n g.cs := fun g hgm => by
    have h1 : g ∈ L1 ++ f :: L2 := by rcases List.mem_append.1 hgm with q | q <;> simp [q]
    refine (h.fld g h1).2.1.kept hg ?_
    rcases hv : g.val.ownBlock with _ | k
    · exact Or.inl rfl
    · exact Or.inr fun e => hother g hgm k hv e.symm
  have hoffs := h.offs
  have hfoff : ∀ p ∈ nums, p.1 ≠ f.off := fun p hp e => by
    rw [List.nodup_append] at hoffs
    exact hoffs.2.2 p.1 (List.mem_map_of_mem hp) f.off (List.mem_map_of_mem (by simp)) e
  have hgoff : ∀ g ∈ L1 ++ L2, g.off ≠ f.off := fun g hgm e => by
    have := (List.nodup_append.1 hoffs).2.1
    simp only [List.map_append, List.map_cons] at this
    rw [List.nodup_append, List.nodup_cons] at this
    rcases List.mem_append.1 hgm with q | q
    · exact this.2.2 g.off (List.mem_map_of_mem q) f.off (by simp) e
    · exact this.2.1.1 (by rw [← e]; exact List.mem_map_of_mem q)
  have hcell : ∀ j v, w.cell? ⟨b, j, none⟩ = some v → w1.cell? ⟨b, j, none⟩ = some v := fun j v hc => by
    rw [World.cell?_of_block (w := w) (a := ⟨b, j, none⟩) hbk]; exact hc
  have hblk : ∃ cur t, w1.heap[b]? = some (.cells cur t (0, 0)) := by rw [hbk]; exact h.blk
  have hgood : ∀ g ∈ L1 ++ L2, (w1.setCell ⟨b, f.off, none⟩ (.slice a' n' c')).cell? ⟨b, g.off, none⟩ = some g.val ∧ (w1.setCell ⟨b, f.off, none⟩ (.slice a' n' c')).ownsRow B g.e g.size g.val g.n g.cs ∧ g.val.ownBlock ≠ some b := fun g hgm => by
    have h1 : g ∈ L1 ++ f :: L2 := by rcases List.mem_append.1 hgm with q | q <;> simp [q]
    refine ⟨?_, own_set (hrow g hgm) (h.fld g h1).2.2 _, (h.fld g h1).2.2⟩
    rw [cell_set_off (hgoff g hgm).symm]; exact hcell _ _ (h.fld g h1).1
  refine ⟨h.hb, blk_set hblk, fun p hp => ?_, fun g hgm => ?_, ?_, ?_⟩
  · rw [cell_set_off (hfoff p hp).symm]; exact hcell _ _ (h.num p hp)
  · rcases List.mem_append.1 hgm with q | q
    · exact hgood g (List.mem_append_left _ q)
    · rcases List.mem_cons.1 q with rfl | q
      · exact ⟨cell_set_same (hcell _ _ (h.fld f (by simp)).1), own_set ho hnb _, hnb⟩
      · exact hgood g (List.mem_append_right _ q)
  · rw [List.pairwise_append, List.pairwise_cons] at hap ⊢
    obtain ⟨p1, ⟨p2, p3⟩, p4⟩ := hap
    refine ⟨p1, ⟨fun g hgm k hk e => ?_, p3⟩, fun g hg1 g' hg' k hk => ?_⟩
    · exact hold g (by simp [hgm]) k e hk
    · rcases List.mem_cons.1 hg' with rfl | hg'
      · exact hold g (by simp [hg1]) k hk
      · exact p4 g hg1 g' (by simp [hg']) k hk
  · simpa using hoffs
structure Near (M : Mem) : Prop where
  W : M.W.length ≤ 1000
  R : M.roots.length ≤ 100
  K : M.weak.length ≤ 100
  I : M.ids.length ≤ 100
  C : M.cards.length ≤ 1000
theorem Near.few {M : Mem} (h : Near M) : Few M := by
  obtain ⟨h1, h2, h3, h4, h5⟩ := h
  exact ⟨by omega, by omega, by omega, by omega, by omega⟩
theorem near_nil (w : World) : Calls Tryz.prog 7 #[.pointer none] w fun e w' => e = .returned (.bool true) ∧ w' = w := by
  go_enter Tryz.func7, Tryz.ntmps7
  go_wp2
  go_ret
  exact ⟨rfl, rfl⟩
theorem near_yes (b o : Nat) (M : Mem) (S : Sls) (h : Near M) (w : World) (hM : RMem w b o M S) : Calls Tryz.prog 7 #[.pointer (some ⟨b, o, none⟩)] w fun e w' => e = .returned (.bool true) ∧ w' = w := by
  obtain ⟨h1, h2, h3, h4, h5⟩ := h
  have n3 := hM.W
  have n7 := hM.roots
  have n8 := hM.weak
  have n9 := hM.ids
  have n10 := hM.cards
  clear hM
  go_enter Tryz.func7, Tryz.ntmps7
  go_wp2
  go_ret
  exact ⟨congrArg (fun x => Ending.returned (.bool x)) (decide_eq_true (by omega)), rfl⟩
theorem near_no (b o : Nat) (M : Mem) (S : Sls) (h : ¬ Near M) (w : World) (hM : RMem w b o M S) : Calls Tryz.prog 7 #[.pointer (some ⟨b, o, none⟩)] w fun e w' => e = .returned (.bool false) ∧ w' = w := by
  have hc : 1000 < M.W.length ∨ (M.W.length ≤ 1000 ∧ 100 < M.roots.length) ∨ (M.W.length ≤ 1000 ∧ M.roots.length ≤ 100 ∧ 100 < M.weak.length) ∨ (M.W.length ≤ 1000 ∧ M.roots.length ≤ 100 ∧ M.weak.length ≤ 100 ∧ 100 < M.ids.length) ∨ (M.W.length ≤ 1000 ∧ M.roots.length ≤ 100 ∧ M.weak.length ≤ 100 ∧ M.ids.length ≤ 100 ∧ 1000 < M.cards.length) := by
    by_cases a1 : M.W.length ≤ 1000
    · by_cases a2 : M.roots.length ≤ 100
      · by_cases a3 : M.weak.length ≤ 100
        · by_cases a4 : M.ids.length ≤ 100
          · by_cases a5 : M.cards.length ≤ 1000
            · exact absurd ⟨a1, a2, a3, a4, a5⟩ h
            · exact Or.inr (Or.inr (Or.inr (Or.inr ⟨a1, a2, a3, a4, by omega⟩)))
          · exact Or.inr (Or.inr (Or.inr (Or.inl ⟨a1, a2, a3, by omega⟩)))
        · exact Or.inr (Or.inr (Or.inl ⟨a1, a2, by omega⟩))
      · exact Or.inr (Or.inl ⟨a1, by omega⟩)
    · exact Or.inl (by omega)
  have n3 := hM.W
  have n7 := hM.roots
  have n8 := hM.weak
  have n9 := hM.ids
  have n10 := hM.cards
  have m3 := hM.ok.lenW
  have m7 := hM.ok.lenR
  have m8 := hM.ok.lenK
  have m9 := hM.ok.lenI
  have m10 := hM.ok.lenC
  clear hM h
  rcases hc with h1 | ⟨h1, h2⟩ | ⟨h1, h2, h3⟩ | ⟨h1, h2, h3, h4⟩ | ⟨h1, h2, h3, h4, h5⟩
  all_goals
    go_enter Tryz.func7, Tryz.ntmps7
    go_wp2
    go_ret
    first | exact ⟨rfl, rfl⟩ | exact ⟨congrArg (fun x => Ending.returned (.bool x)) (decide_eq_false (by omega)), rfl⟩
end Go.Proofs.YtecbbbaafcoliaaGreatDoor
