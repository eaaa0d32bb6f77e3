/- The walk of the law's memOf: a memory of mem's, out of the document's. -/
import Derived.Test.YtecbbbaafcoliaaGreatDoorJYa20
import Derived.Test.YtecbbbaafcoliaaGreatDoorJYa21
import Derived.Deep.RegionHeld3
import Derived.Lib.LazyBuf
import Derived.Test.YtecbbbaafcoliaaGreatDoorJYa08
namespace Go.Proofs.YtecbbbaafcoliaaGreatDoor
open Go.RowKit
set_option linter.unusedVariables false
set_option linter.unusedSimpArgs false

theorem infoM : (Tryz.prog.info? 68).map (fun i => (i.zero, i.size, i.bytes)) = some (some (.agg #[.int .u64 0, .int .i64 0]), 2, 16) := by kernel_rfl
theorem undM : Tryz.prog.underlying 54 = some (.slice 68) := by kernel_rfl
def MemOfPost (w : World) (M : Mem) (e : Ending) (w' : World) : Prop :=
  ∃ b S, e = .returned (.pointer (some ⟨b, 0, none⟩)) ∧ OMem w' w.heap.size b 68 M S ∧ Ext w w'
set_option maxRecDepth 100000 in
set_option maxHeartbeats 4000000 in
theorem memOf_walk (b o : Nat) (M : Mem) (S : Sls) (w : World) (hM : RMem w b o M S) (hF : Few M) :
    Calls Tryz.prog 9 #[.pointer (some ⟨b, o, none⟩)] w (MemOfPost w M) := by
  obtain ⟨im, him, hma, hmb, hmc⟩ := info_parts infoM
  have HM := Lib.hid hM
  have HF := Lib.hid hF
  have hok := Lib.hid hM.ok
  clear hM hF
  go_enter Tryz.func9, Tryz.ntmps9
  go_wp2_with (go_at_call 30; refine (own_walk _ _ M _ _ HM.out HF.out).mono ?_; rintro e w1 ⟨bx, Sx, rfl, hom, hq⟩; have HOM := Lib.hid hom; have HQ := Lib.hid hq; clear hom hq)
  have hX := HOM.out.mem hok.out
  have hltx := HOM.out.lt
  have n0 : w1.cell? ⟨bx, 0, none⟩ = some (.int .i64 M.half) := hX.half
  have n1 : w1.cell? ⟨bx, 1, none⟩ = some (.int .i64 M.old) := hX.old
  have n2 : w1.cell? ⟨bx, 2, none⟩ = some (.int .i64 M.card) := hX.card
  have n3 : w1.cell? ⟨bx, 3, none⟩ = some (.slice Sx.W.1 M.W.length Sx.W.2) := hX.W
  have n4 : w1.cell? ⟨bx, 4, none⟩ = some (.int .i64 M.used) := hX.used
  have n5 : w1.cell? ⟨bx, 5, none⟩ = some (.int .i64 M.top) := hX.top
  have n6 : w1.cell? ⟨bx, 6, none⟩ = some (.int .i64 M.oldTop) := hX.oldTop
  have n7 : w1.cell? ⟨bx, 7, none⟩ = some (.slice Sx.R.1 M.roots.length Sx.R.2) := hX.roots
  have n8 : w1.cell? ⟨bx, 8, none⟩ = some (.slice Sx.K.1 M.weak.length Sx.K.2) := hX.weak
  have n10 : w1.cell? ⟨bx, 10, none⟩ = some (.slice Sx.C.1 M.cards.length Sx.C.2) := hX.cards
  have n9 : w1.cell? ⟨bx, 9, none⟩ = some (.slice Sx.I.1 M.ids.length Sx.I.2) := hX.ids
  have hI := hX.rI
  have HI := Lib.hid hI
  have hlI : M.ids.length ≤ 1000000 := HF.out.I
  clear hX hI
  refine wp_region_held_drew (S := fun W => W.cell? ⟨bx, 0, none⟩ = some (.int .i64 M.half) ∧ W.cell? ⟨bx, 1, none⟩ = some (.int .i64 M.old) ∧ W.cell? ⟨bx, 2, none⟩ = some (.int .i64 M.card) ∧ W.cell? ⟨bx, 3, none⟩ = some (.slice Sx.W.1 M.W.length Sx.W.2) ∧ W.cell? ⟨bx, 4, none⟩ = some (.int .i64 M.used) ∧ W.cell? ⟨bx, 5, none⟩ = some (.int .i64 M.top) ∧ W.cell? ⟨bx, 6, none⟩ = some (.int .i64 M.oldTop) ∧ W.cell? ⟨bx, 7, none⟩ = some (.slice Sx.R.1 M.roots.length Sx.R.2) ∧ W.cell? ⟨bx, 8, none⟩ = some (.slice Sx.K.1 M.weak.length Sx.K.2) ∧ W.cell? ⟨bx, 10, none⟩ = some (.slice Sx.C.1 M.cards.length Sx.C.2)) (by kernel_rfl) ?_ (fun hHeld => ?_)
  · exact ⟨n0, n1, n2, n3, n4, n5, n6, n7, n8, n10⟩
  refine tk 0 ⟨some 10, _, _, _, _, _⟩ ?_ rfl ?_ ?_
  rotate_left
  · (intro w hSw; (try dsimp only at hSw); go_simp; try with_reducible rfl)
  try simp only [tkS]
  refine tk 1 ⟨some 11, _, _, _, _, _⟩ ?_ rfl ?_ ?_
  rotate_left
  · (intro w hSw; (try dsimp only at hSw); go_simp; try with_reducible rfl)
  try simp only [tkS]
  refine tk 2 ⟨some 12, _, _, _, _, _⟩ ?_ rfl ?_ ?_
  rotate_left
  · (intro w hSw; (try dsimp only at hSw); go_simp; try with_reducible rfl)
  try simp only [tkS]
  refine tk 3 ⟨some 13, _, _, _, _, _⟩ ?_ rfl ?_ ?_
  rotate_left
  · (intro w hSw; (try dsimp only at hSw); go_simp; try with_reducible rfl)
  try simp only [tkS]
  refine tk 4 ⟨some 14, _, _, _, _, _⟩ ?_ rfl ?_ ?_
  rotate_left
  · (intro w hSw; (try dsimp only at hSw); go_simp; try with_reducible rfl)
  try simp only [tkS]
  refine tk 5 ⟨some 15, _, _, _, _, _⟩ ?_ rfl ?_ ?_
  rotate_left
  · (intro w hSw; (try dsimp only at hSw); go_simp; try with_reducible rfl)
  try simp only [tkS]
  refine tk 6 ⟨some 16, _, _, _, _, _⟩ ?_ rfl ?_ ?_
  rotate_left
  · (intro w hSw; (try dsimp only at hSw); go_simp; try with_reducible rfl)
  try simp only [tkS]
  refine tk 7 ⟨some 17, _, _, _, _, _⟩ ?_ rfl ?_ ?_
  rotate_left
  · (intro w hSw; (try dsimp only at hSw); go_simp; try with_reducible rfl)
  try simp only [tkS]
  refine tk 8 ⟨some 18, _, _, _, _, _⟩ ?_ rfl ?_ ?_
  rotate_left
  · (intro w hSw; (try dsimp only at hSw); go_simp; try with_reducible rfl)
  try simp only [tkS]
  refine tk 9 ⟨some 19, _, _, _, _, _⟩ ?_ rfl ?_ ?_
  rotate_left
  · (intro w hSw; (try dsimp only at hSw); go_simp; try with_reducible rfl)
  try simp only [tkS]
  refine tk 10 ⟨some 20, _, _, _, _, _⟩ ?_ rfl ?_ ?_
  rotate_left
  · (intro w hSw; (try dsimp only at hSw); go_simp; try with_reducible rfl)
  try simp only [tkS]
  refine tk 11 ⟨some 21, _, _, _, _, _⟩ ?_ rfl ?_ ?_
  rotate_left
  · (intro w hSw; (try dsimp only at hSw); go_simp; try with_reducible rfl)
  try simp only [tkS]
  refine tk 12 ⟨some 22, _, _, _, _, _⟩ ?_ rfl ?_ ?_
  rotate_left
  · (intro w hSw; (try dsimp only at hSw); go_simp; try with_reducible rfl)
  try simp only [tkS]
  refine tk 13 ⟨some 23, _, _, _, _, _⟩ ?_ rfl ?_ ?_
  rotate_left
  · (intro w hSw; (try dsimp only at hSw); go_simp; try with_reducible rfl)
  try simp only [tkS]
  refine tk 14 ⟨some 24, _, _, _, _, _⟩ ?_ rfl ?_ ?_
  rotate_left
  · (intro w hSw; (try dsimp only at hSw); go_simp; try with_reducible rfl)
  try simp only [tkS]
  refine tk 15 ⟨some 25, _, _, _, _, _⟩ ?_ rfl ?_ ?_
  rotate_left
  · (intro w hSw; (try dsimp only at hSw); go_simp; try with_reducible rfl)
  try simp only [tkS]
  refine tk 16 ⟨some 26, _, _, _, _, _⟩ ?_ rfl ?_ ?_
  rotate_left
  · (intro w hSw; (try dsimp only at hSw); go_simp; try with_reducible rfl)
  try simp only [tkS]
  refine tk 17 ⟨some 27, _, _, _, _, _⟩ ?_ rfl ?_ ?_
  rotate_left
  · (intro w hSw; (try dsimp only at hSw); go_simp; try with_reducible rfl)
  try simp only [tkS]
  refine tk 18 ⟨some 28, _, _, _, _, _⟩ ?_ rfl ?_ ?_
  rotate_left
  · (intro w hSw; (try dsimp only at hSw); go_simp; try with_reducible rfl)
  try simp only [tkS]
  refine tk 19 ⟨some 29, _, _, _, _, _⟩ ?_ rfl ?_ ?_
  rotate_left
  · (intro w hSw; (try dsimp only at hSw); go_simp; try with_reducible rfl)
  try simp only [tkS]
  refine tk 20 ⟨some 30, _, _, _, _, _⟩ ?_ rfl ?_ ?_
  rotate_left
  · (intro w hSw; (try dsimp only at hSw); go_simp; try with_reducible rfl)
  try simp only [tkS]
  refine tk 21 ⟨some 31, _, _, _, _, _⟩ ?_ rfl ?_ ?_
  rotate_left
  · (intro w hSw; (try dsimp only at hSw); go_simp; try with_reducible rfl)
  try simp only [tkS]
  refine tk 22 ⟨some 32, _, _, _, _, _⟩ ?_ rfl ?_ ?_
  rotate_left
  · (intro w hSw; (try dsimp only at hSw); go_simp; try with_reducible rfl)
  try simp only [tkS]
  refine tk 23 ⟨some 33, _, _, _, _, _⟩ ?_ rfl ?_ ?_
  rotate_left
  · (intro w hSw; (try dsimp only at hSw); go_simp; try with_reducible rfl)
  try simp only [tkS]
  refine tk 24 ⟨some 34, _, _, _, _, _⟩ ?_ rfl ?_ ?_
  rotate_left
  · (intro w hSw; (try dsimp only at hSw); go_simp; try with_reducible rfl)
  try simp only [tkS]
  refine tk 25 ⟨some 35, _, _, _, _, _⟩ ?_ rfl ?_ ?_
  rotate_left
  · (intro w hSw; (try dsimp only at hSw); go_simp; try with_reducible rfl)
  try simp only [tkS]
  refine tk 26 ⟨some 36, _, _, _, _, _⟩ ?_ rfl ?_ ?_
  rotate_left
  · (intro w hSw; (try dsimp only at hSw); go_simp; try with_reducible rfl)
  try simp only [tkS]
  refine tk 27 ⟨some 37, _, _, _, _, _⟩ ?_ rfl ?_ ?_
  rotate_left
  · (intro w hSw; (try dsimp only at hSw); go_simp; try with_reducible rfl)
  try simp only [tkS]
  refine tk 28 ⟨some 38, _, _, _, _, _⟩ ?_ rfl ?_ ?_
  rotate_left
  · (intro w hSw; (try dsimp only at hSw); go_simp; try with_reducible rfl)
  try simp only [tkS]
  refine tk 29 ⟨some 39, _, _, _, _, _⟩ ?_ rfl ?_ ?_
  rotate_left
  · (intro w hSw; (try dsimp only at hSw); go_simp; try with_reducible rfl)
  try simp only [tkS]
  refine tk 30 ⟨some 40, _, _, _, _, _⟩ ?_ rfl ?_ ?_
  rotate_left
  · (intro w hSw; (try dsimp only at hSw); go_simp; try with_reducible rfl)
  try simp only [tkS]
  refine tk 31 ⟨some 41, _, _, _, _, _⟩ ?_ rfl ?_ ?_
  rotate_left
  · (intro w hSw; (try dsimp only at hSw); go_simp; try with_reducible rfl)
  try simp only [tkS]
  refine tk 32 ⟨some 42, _, _, _, _, _⟩ ?_ rfl ?_ ?_
  rotate_left
  · (intro w hSw; (try dsimp only at hSw); go_simp; try with_reducible rfl)
  try simp only [tkS]
  refine tk 33 ⟨some 43, _, _, _, _, _⟩ ?_ rfl ?_ ?_
  rotate_left
  · (intro w hSw; (try dsimp only at hSw); go_simp; try with_reducible rfl)
  try simp only [tkS]
  refine tk 34 ⟨some 44, _, _, _, _, _⟩ ?_ rfl ?_ ?_
  rotate_left
  · (intro w hSw; (try dsimp only at hSw); go_simp; try with_reducible rfl)
  try simp only [tkS]
  refine tk 35 ⟨some 45, _, _, _, _, _⟩ ?_ rfl ?_ ?_
  rotate_left
  · (intro w hSw; (try dsimp only at hSw); go_simp; try with_reducible rfl)
  try simp only [tkS]
  refine tk 36 ⟨some 46, _, _, _, _, _⟩ ?_ rfl ?_ ?_
  rotate_left
  · (intro w hSw; (try dsimp only at hSw); go_simp; try with_reducible rfl)
  try simp only [tkS]
  refine tk 37 ⟨some 47, _, _, _, _, _⟩ ?_ rfl ?_ ?_
  rotate_left
  · (intro w hSw; (try dsimp only at hSw); go_simp; try with_reducible rfl)
  try simp only [tkS]
  refine tk 38 ⟨some 48, _, _, _, _, _⟩ ?_ rfl ?_ ?_
  rotate_left
  · (intro w hSw; (try dsimp only at hSw); go_simp; try with_reducible rfl)
  try simp only [tkS]
  refine tk 39 ⟨some 49, _, _, _, _, _⟩ ?_ rfl ?_ ?_
  rotate_left
  · (intro w hSw; (try dsimp only at hSw); go_simp; try with_reducible rfl)
  try simp only [tkS]
  refine tk 40 ⟨some 50, _, _, _, _, _⟩ ?_ rfl ?_ ?_
  rotate_left
  · (intro w hSw; (try dsimp only at hSw); go_simp; try with_reducible rfl)
  try simp only [tkS]
  refine wpAnyH_ready (rs := [41]) (by kernel_rfl) (by simp) ?_
  refine AllReadyH.cons (o := ⟨some 51, _, _, _, _, _⟩) rfl (fun K hK => ?_) AllReadyH.nil
  go_simp
  skip
  refine hK.out _ _ ?_ (fun hHeld => ?_)
  · (try dsimp only); exact ⟨Ext.cell_ (w := w1) (by repeat (first | exact Ext.refl _ | (refine Ext.drew_ ?_) | (refine Ext.alloc_ ?_ _))) n0, Ext.cell_ (w := w1) (by repeat (first | exact Ext.refl _ | (refine Ext.drew_ ?_) | (refine Ext.alloc_ ?_ _))) n1, Ext.cell_ (w := w1) (by repeat (first | exact Ext.refl _ | (refine Ext.drew_ ?_) | (refine Ext.alloc_ ?_ _))) n2, Ext.cell_ (w := w1) (by repeat (first | exact Ext.refl _ | (refine Ext.drew_ ?_) | (refine Ext.alloc_ ?_ _))) n3, Ext.cell_ (w := w1) (by repeat (first | exact Ext.refl _ | (refine Ext.drew_ ?_) | (refine Ext.alloc_ ?_ _))) n4, Ext.cell_ (w := w1) (by repeat (first | exact Ext.refl _ | (refine Ext.drew_ ?_) | (refine Ext.alloc_ ?_ _))) n5, Ext.cell_ (w := w1) (by repeat (first | exact Ext.refl _ | (refine Ext.drew_ ?_) | (refine Ext.alloc_ ?_ _))) n6, Ext.cell_ (w := w1) (by repeat (first | exact Ext.refl _ | (refine Ext.drew_ ?_) | (refine Ext.alloc_ ?_ _))) n7, Ext.cell_ (w := w1) (by repeat (first | exact Ext.refl _ | (refine Ext.drew_ ?_) | (refine Ext.alloc_ ?_ _))) n8, Ext.cell_ (w := w1) (by repeat (first | exact Ext.refl _ | (refine Ext.drew_ ?_) | (refine Ext.alloc_ ?_ _))) n10⟩
  clear hK K
  try simp only [tkS]
  refine tk 42 ⟨some 4, _, _, _, _, _⟩ ?_ rfl ?_ ?_
  rotate_left
  · (intro w hSw; (try dsimp only at hSw); go_simp; try with_reducible rfl)
  try simp only [tkS]
  refine wpAnyH_done (by kernel_rfl) ?_ _
  clear n0 n1 n2 n3 n4 n5 n6 n7 n8 n10 hHeld
  go_wp2
  refine named_world' (fun W1 hW1 => ?_)
  have hE1 : Ext w1 W1 := by rw [hW1]; exact ((Ext.refl w1).alloc_ _).drew_
  have hO1 : OM W1 w.heap.size w1.heap.size (memNums M) (partFlds 68 M Sx none 0 0) := by rw [hW1]; exact (om_box _ _ HOM.out).ext (Ext.refl _).drew_
  have HE1 := Lib.hid hE1
  have HO1 := Lib.hid hO1
  generalize hbo : w1.heap.size = bo at *
  clear hW1 hE1 hO1
  go_loopw [5] (fun i wr => ∃ (k : Nat) (a : Option Addr) (c : Nat), k ≤ M.ids.length ∧ i = .int .i64 (k : Int) ∧ Hid (OM wr w.heap.size bo (memNums M) (partFlds 68 M Sx a k c)) ∧ Hid (Ext w1 wr) ∧ Hid (∀ g, (Value.slice a k c).ownBlock = some g → bo ≤ g)) (fun i _ => M.ids.length - (intOf i).toNat)
  case atStart => exact ⟨0, none, 0, Nat.zero_le _, rfl, HO1.out, HE1.out, fun g hg => by simp [Value.ownBlock] at hg⟩
  case round =>
    obtain ⟨k, a, c, hk, rfl, hO, hE, hB⟩ := hrel
    have f2 := hE.out.cell_ n9
    by_cases hlt : k < M.ids.length
    · obtain ⟨e1, e2⟩ := icells_at M.ids k hlt
      obtain ⟨ib, io, q1, k1⟩ := HI.out _ _ e1
      have l1 : w1.cell? ⟨ib, io + k * 2 + 1, none⟩ = some (.int .i64 M.ids[k].2) := by
        have := RSl.at_ (q1 ▸ HI.out) e2
        rw [← Nat.add_assoc] at this
        exact this
      rw [q1] at f2
      have f3 := hE.out.cell_ k1
      have f4 := hE.out.cell_ l1
      have f1 : wr.cell? ⟨bo, 9, none⟩ = some (.slice a k c) := (hO.out.fld ⟨9, 68, 2, a, k, c, icells (M.ids.take k)⟩ (by simp [partFlds])).1
      have hltz : (k : Int) < (M.ids.length : Int) := by omega
      have HY : Hid (M.ids.take (k + 1) = M.ids.take k ++ [M.ids[k]]) := Lib.hid (List.take_succ_eq_append_getElem hlt)
      generalize M.ids[k] = y at *
      obtain ⟨y1, y2⟩ := y
      have n9' : w1.cell? ⟨bx, 9, none⟩ = some (.slice (some ⟨ib, io, none⟩) M.ids.length Sx.I.2) := by rw [← q1]; exact n9
      have HN9 := Lib.hid n9'
      have HK1 := Lib.hid k1
      have HL1 := Lib.hid l1
      have hlo := hO.out.lt
      have hltb : ib < bo := by rw [← hbo]; exact cell_lt k1
      clear e1 e2 q1 n9 k1 l1 n9'
      go_wp2
      refine wp_region_held_drew (S := fun W => W.cell? ⟨bx, 9, none⟩ = some (.slice (some ⟨ib, io, none⟩) M.ids.length Sx.I.2) ∧ W.cell? ⟨ib, io + k * 2, none⟩ = some (.int .u64 y1) ∧ W.cell? ⟨ib, io + k * 2 + 1, none⟩ = some (.int .i64 y2)) (by kernel_rfl) ?_ (fun hHeld => ?_)
      · exact ⟨f2, f3, f4⟩
      refine tk 0 ⟨some 61, _, _, _, _, _⟩ ?_ rfl ?_ ?_
      rotate_left
      · (intro w hSw; (try dsimp only at hSw); go_simp; try with_reducible rfl)
      try simp only [tkS]
      refine tk 1 ⟨some 62, _, _, _, _, _⟩ ?_ rfl ?_ ?_
      rotate_left
      · (intro w hSw; (try dsimp only at hSw); go_simp; try with_reducible rfl)
      try simp only [tkS]
      refine tk 2 ⟨some 63, _, _, _, _, _⟩ ?_ rfl ?_ ?_
      rotate_left
      · (intro w hSw; (try dsimp only at hSw); go_simp; try with_reducible rfl)
      try simp only [tkS]
      refine tk 3 ⟨some 64, _, _, _, _, _⟩ ?_ rfl ?_ ?_
      rotate_left
      · (intro w hSw; (try dsimp only at hSw); go_simp; try with_reducible rfl)
      try simp only [tkS]
      refine tk 5 ⟨some 66, _, _, _, _, _⟩ ?_ rfl ?_ ?_
      rotate_left
      · (intro w hSw; (try dsimp only at hSw); go_simp; try with_reducible rfl)
      try simp only [tkS]
      refine tk 6 ⟨some 67, _, _, _, _, _⟩ ?_ rfl ?_ ?_
      rotate_left
      · (intro w hSw; (try dsimp only at hSw); go_simp; try with_reducible rfl)
      try simp only [tkS]
      refine tk 7 ⟨some 68, _, _, _, _, _⟩ ?_ rfl ?_ ?_
      rotate_left
      · (intro w hSw; (try dsimp only at hSw); go_simp; try with_reducible rfl)
      try simp only [tkS]
      refine tk 8 ⟨some 69, _, _, _, _, _⟩ ?_ rfl ?_ ?_
      rotate_left
      · (intro w hSw; (try dsimp only at hSw); go_simp; try with_reducible rfl)
      try simp only [tkS]
      refine tk 9 ⟨some 70, _, _, _, _, _⟩ ?_ rfl ?_ ?_
      rotate_left
      · (intro w hSw; (try dsimp only at hSw); go_simp; try with_reducible rfl)
      try simp only [tkS]
      refine tk 10 ⟨some 71, _, _, _, _, _⟩ ?_ rfl ?_ ?_
      rotate_left
      · (intro w hSw; (try dsimp only at hSw); go_simp; try with_reducible rfl)
      try simp only [tkS]
      refine tk 11 ⟨some 72, _, _, _, _, _⟩ ?_ rfl ?_ ?_
      rotate_left
      · (intro w hSw; (try dsimp only at hSw); go_simp; try with_reducible rfl)
      try simp only [tkS]
      refine tk 12 ⟨some 73, _, _, _, _, _⟩ ?_ rfl ?_ ?_
      rotate_left
      · (intro w hSw; (try dsimp only at hSw); go_simp; try with_reducible rfl)
      try simp only [tkS]
      refine tk 13 ⟨some 74, _, _, _, _, _⟩ ?_ rfl ?_ ?_
      rotate_left
      · (intro w hSw; (try dsimp only at hSw); go_simp; try with_reducible rfl)
      try simp only [tkS]
      refine tk 14 ⟨some 75, _, _, _, _, _⟩ ?_ rfl ?_ ?_
      rotate_left
      · (intro w hSw; (try dsimp only at hSw); go_simp; try with_reducible rfl)
      try simp only [tkS]
      refine tk 15 ⟨some 76, _, _, _, _, _⟩ ?_ rfl ?_ ?_
      rotate_left
      · (intro w hSw; (try dsimp only at hSw); go_simp; try with_reducible rfl)
      try simp only [tkS]
      refine tk 16 ⟨some 77, _, _, _, _, _⟩ ?_ rfl ?_ ?_
      rotate_left
      · (intro w hSw; (try dsimp only at hSw); go_simp; try with_reducible rfl)
      try simp only [tkS]
      refine tk 17 ⟨some 78, _, _, _, _, _⟩ ?_ rfl ?_ ?_
      rotate_left
      · (intro w hSw; (try dsimp only at hSw); go_simp; try with_reducible rfl)
      try simp only [tkS]
      refine tk 18 ⟨some 79, _, _, _, _, _⟩ ?_ rfl ?_ ?_
      rotate_left
      · (intro w hSw; (try dsimp only at hSw); go_simp; try with_reducible rfl)
      try simp only [tkS]
      refine tk 19 ⟨some 80, _, _, _, _, _⟩ ?_ rfl ?_ ?_
      rotate_left
      · (intro w hSw; (try dsimp only at hSw); go_simp; try with_reducible rfl)
      try simp only [tkS]
      refine tk 20 ⟨some 81, _, _, _, _, _⟩ ?_ rfl ?_ ?_
      rotate_left
      · (intro w hSw; (try dsimp only at hSw); go_simp; try with_reducible rfl)
      try simp only [tkS]
      refine tk 21 ⟨some 82, _, _, _, _, _⟩ ?_ rfl ?_ ?_
      rotate_left
      · (intro w hSw; (try dsimp only at hSw); go_simp; try with_reducible rfl)
      try simp only [tkS]
      refine wpAnyH_ready (rs := [4, 22]) (by kernel_rfl) (by simp) ?_
      refine AllReadyH.cons (o := ⟨some 65, _, _, _, _, _⟩) rfl (fun K hK => ?_) (AllReadyH.cons (o := ⟨some 83, _, _, _, _, _⟩) rfl (fun K hK => ?_) AllReadyH.nil)
      · skip
        go_simp
        refine hK.out _ _ ?_ (fun hHeld => ?_)
        · (try dsimp only); exact ⟨Ext.cell_ (w := wr) (by repeat (first | exact Ext.refl _ | (refine Ext.drew_ ?_) | (refine Ext.alloc_ ?_ _))) f2, Ext.cell_ (w := wr) (by repeat (first | exact Ext.refl _ | (refine Ext.drew_ ?_) | (refine Ext.alloc_ ?_ _))) f3, Ext.cell_ (w := wr) (by repeat (first | exact Ext.refl _ | (refine Ext.drew_ ?_) | (refine Ext.alloc_ ?_ _))) f4⟩
        clear hK K
        try simp only [tkS]
        refine wpAnyH_ready (rs := [22]) (by kernel_rfl) (by simp) ?_
        refine AllReadyH.cons (o := ⟨some 83, _, _, _, _, _⟩) rfl (fun K hK => ?_) AllReadyH.nil
        go_simp
        skip
        refine hK.out _ _ ?_ (fun hHeld => ?_)
        · (try dsimp only); exact ⟨Ext.cell_ (w := wr) (by repeat (first | exact Ext.refl _ | (refine Ext.drew_ ?_) | (refine Ext.alloc_ ?_ _))) f2, Ext.cell_ (w := wr) (by repeat (first | exact Ext.refl _ | (refine Ext.drew_ ?_) | (refine Ext.alloc_ ?_ _))) f3, Ext.cell_ (w := wr) (by repeat (first | exact Ext.refl _ | (refine Ext.drew_ ?_) | (refine Ext.alloc_ ?_ _))) f4⟩
        clear hK K
        try simp only [tkS]
        refine wpAnyH_ready (rs := [23]) (by kernel_rfl) (by simp) ?_
        refine AllReadyH.cons (o := ⟨some 84, _, _, _, _, _⟩) rfl (fun K hK => ?_) AllReadyH.nil
        have hOW : OM (wr.alloc (.cells #[.int .u64 y1, .int .i64 y2] 68)).drew w.heap.size bo (memNums M) (partFlds 68 M Sx a k c) := hO.out.ext ((Ext.refl wr).alloc_ _).drew_
        have hE2 : Ext w1 (wr.alloc (.cells #[.int .u64 y1, .int .i64 y2] 68)).drew := Ext.trans_ hE.out ((Ext.refl wr).alloc_ _).drew_
        have hfl := hOW.fld ⟨9, 68, 2, a, k, c, icells (M.ids.take k)⟩ (by simp [partFlds])
        refine step_append_src (by rfl) _ _ 54 (by rfl) w.heap.size 68 im (.agg #[.int .u64 0, .int .i64 0]) 2 16 undM him hma hmb hmc (by rfl) (by decide) (.slice a k c) k (icells (M.ids.take k)) (by rfl) hfl.2.1 (some ⟨wr.heap.size, 0, none⟩) 1 1 (icells [(y1, y2)]) (by rfl) (fun e => by cases e) (Nat.le_refl _) (by rfl) (rsl_made wr _ y1 y2) (icells_one _) (by unfold maxLen; omega) (by omega) (Nat.le_trans HQ.out.size hE2.size) ?_
        intro a2 c2 v2 hown hgrow hat
        have hx : Ext w1 v2 := Below.grown hE2 hgrow hE2.size (fun g hg => by rw [hbo]; exact hB.out g hg)
        have hbk := hgrow.block bo hOW.lt (fun e => hfl.2.2 e.symm)
        have y1c : v2.cell? ⟨bo, 9, none⟩ = some (.slice a k c) := by rw [World.cell?_of_block (w := (wr.alloc (.cells #[.int .u64 y1, .int .i64 y2] 68)).drew) (a := ⟨bo, 9, none⟩) hbk]; exact hfl.1
        have y2c : v2.frozen? ⟨bo, 9, none⟩ = false := by rw [World.frozen?_of_block (w := (wr.alloc (.cells #[.int .u64 y1, .int .i64 y2] 68)).drew) (a := ⟨bo, 9, none⟩) hbk]; exact hOW.frozen 9
        have g2 := hx.cell_ HN9.out
        have g3 := hx.cell_ HK1.out
        have g4 := hx.cell_ HL1.out
        have OW := Lib.hid hown
        have HG := Lib.hid hgrow
        have HAT := Lib.hid hat
        have HX := Lib.hid hx
        have HOW := Lib.hid hOW
        clear hown hgrow hat hx hOW hE2 hfl hbk
        refine hK.out _ _ ?_ (fun hHeld => ?_)
        · (try dsimp only); exact ⟨g2, g3, g4⟩
        clear hK K
        try simp only [tkS]
        refine tk 24 ⟨some 85, _, _, _, _, _⟩ ?_ rfl ?_ ?_
        rotate_left
        · (intro w hSw; (try dsimp only at hSw); go_simp; try with_reducible rfl)
        try simp only [tkS]
        refine tk 25 ⟨some 86, _, _, _, _, _⟩ ?_ rfl ?_ ?_
        rotate_left
        · (intro w hSw; (try dsimp only at hSw); go_simp; try with_reducible rfl)
        try simp only [tkS]
        refine wpAnyH_ready (rs := [26]) (by kernel_rfl) (by simp) ?_
        refine AllReadyH.cons (o := ⟨none, _, _, _, _, _⟩) rfl (fun K hK => ?_) AllReadyH.nil
        go_simp
        skip
        refine hK.out _ _ ?_ (fun hHeld => ?_)
        · (try dsimp only); exact ⟨by rw [World.cell?_setCell_far _ _ _ _ (by simp; omega)]; exact g2, by rw [World.cell?_setCell_far _ _ _ _ (by simp; omega)]; exact g3, by rw [World.cell?_setCell_far _ _ _ _ (by simp; omega)]; exact g4⟩
        clear hK K
        try simp only [tkS]
        refine wpAnyH_done (by kernel_rfl) ?_ _
        have hN : OM (v2.setCell ⟨bo, 9, none⟩ (.slice a2 (k + 1) c2)) w.heap.size bo (memNums M) (partFlds 68 M Sx a2 (k + 1) c2) := by
          have h := OM.push (L1 := (partFlds 68 M Sx a k c).take 3) (L2 := (partFlds 68 M Sx a k c).drop 4) (f := ⟨9, 68, 2, a, k, c, icells (M.ids.take k)⟩) HOW.out a2 (k + 1) c2 _ HG.out OW.out HAT.out
          unfold partFlds
          rw [HY.out, show icells (M.ids.take k ++ [(y1, y2)]) = icells (M.ids.take k) ++ icells [(y1, y2)] from by simp [icells]]
          exact h
        have hsz2 : bo ≤ (wr.alloc (.cells #[.int .u64 y1, .int .i64 y2] 68)).drew.heap.size := by have := HOW.out.lt; omega
        clear hHeld y1c y2c g2 g3 g4 f1 f2 f3 f4
        have HNN := Lib.hid hN
        have HS2 := Lib.hid hsz2
        clear hN hsz2
        go_wp2
        refine ⟨⟨k + 1, a2, c2, by omega, by go_num, HNN.out, Ext.set_ HX.out (by simp; omega) _, fun g hg => ?_⟩, by simp [intOf]; omega⟩
        rcases HAT.out with e | e
        · exact hB.out g (e ▸ hg)
        · rw [e] at hg; injection hg with hg; rw [← hg]; exact HS2.out
      · skip
        go_simp
        refine hK.out _ _ ?_ (fun hHeld => ?_)
        · (try dsimp only); exact ⟨Ext.cell_ (w := wr) (by repeat (first | exact Ext.refl _ | (refine Ext.drew_ ?_) | (refine Ext.alloc_ ?_ _))) f2, Ext.cell_ (w := wr) (by repeat (first | exact Ext.refl _ | (refine Ext.drew_ ?_) | (refine Ext.alloc_ ?_ _))) f3, Ext.cell_ (w := wr) (by repeat (first | exact Ext.refl _ | (refine Ext.drew_ ?_) | (refine Ext.alloc_ ?_ _))) f4⟩
        clear hK K
        try simp only [tkS]
        refine wpAnyH_ready (rs := [4]) (by kernel_rfl) (by simp) ?_
        refine AllReadyH.cons (o := ⟨some 65, _, _, _, _, _⟩) rfl (fun K hK => ?_) AllReadyH.nil
        go_simp
        skip
        refine hK.out _ _ ?_ (fun hHeld => ?_)
        · (try dsimp only); exact ⟨Ext.cell_ (w := wr) (by repeat (first | exact Ext.refl _ | (refine Ext.drew_ ?_) | (refine Ext.alloc_ ?_ _))) f2, Ext.cell_ (w := wr) (by repeat (first | exact Ext.refl _ | (refine Ext.drew_ ?_) | (refine Ext.alloc_ ?_ _))) f3, Ext.cell_ (w := wr) (by repeat (first | exact Ext.refl _ | (refine Ext.drew_ ?_) | (refine Ext.alloc_ ?_ _))) f4⟩
        clear hK K
        try simp only [tkS]
        refine wpAnyH_ready (rs := [23]) (by kernel_rfl) (by simp) ?_
        refine AllReadyH.cons (o := ⟨some 84, _, _, _, _, _⟩) rfl (fun K hK => ?_) AllReadyH.nil
        have hOW : OM (wr.alloc (.cells #[.int .u64 y1, .int .i64 y2] 68)).drew w.heap.size bo (memNums M) (partFlds 68 M Sx a k c) := hO.out.ext ((Ext.refl wr).alloc_ _).drew_
        have hE2 : Ext w1 (wr.alloc (.cells #[.int .u64 y1, .int .i64 y2] 68)).drew := Ext.trans_ hE.out ((Ext.refl wr).alloc_ _).drew_
        have hfl := hOW.fld ⟨9, 68, 2, a, k, c, icells (M.ids.take k)⟩ (by simp [partFlds])
        refine step_append_src (by rfl) _ _ 54 (by rfl) w.heap.size 68 im (.agg #[.int .u64 0, .int .i64 0]) 2 16 undM him hma hmb hmc (by rfl) (by decide) (.slice a k c) k (icells (M.ids.take k)) (by rfl) hfl.2.1 (some ⟨wr.heap.size, 0, none⟩) 1 1 (icells [(y1, y2)]) (by rfl) (fun e => by cases e) (Nat.le_refl _) (by rfl) (rsl_made wr _ y1 y2) (icells_one _) (by unfold maxLen; omega) (by omega) (Nat.le_trans HQ.out.size hE2.size) ?_
        intro a2 c2 v2 hown hgrow hat
        have hx : Ext w1 v2 := Below.grown hE2 hgrow hE2.size (fun g hg => by rw [hbo]; exact hB.out g hg)
        have hbk := hgrow.block bo hOW.lt (fun e => hfl.2.2 e.symm)
        have y1c : v2.cell? ⟨bo, 9, none⟩ = some (.slice a k c) := by rw [World.cell?_of_block (w := (wr.alloc (.cells #[.int .u64 y1, .int .i64 y2] 68)).drew) (a := ⟨bo, 9, none⟩) hbk]; exact hfl.1
        have y2c : v2.frozen? ⟨bo, 9, none⟩ = false := by rw [World.frozen?_of_block (w := (wr.alloc (.cells #[.int .u64 y1, .int .i64 y2] 68)).drew) (a := ⟨bo, 9, none⟩) hbk]; exact hOW.frozen 9
        have g2 := hx.cell_ HN9.out
        have g3 := hx.cell_ HK1.out
        have g4 := hx.cell_ HL1.out
        have OW := Lib.hid hown
        have HG := Lib.hid hgrow
        have HAT := Lib.hid hat
        have HX := Lib.hid hx
        have HOW := Lib.hid hOW
        clear hown hgrow hat hx hOW hE2 hfl hbk
        refine hK.out _ _ ?_ (fun hHeld => ?_)
        · (try dsimp only); exact ⟨g2, g3, g4⟩
        clear hK K
        try simp only [tkS]
        refine tk 24 ⟨some 85, _, _, _, _, _⟩ ?_ rfl ?_ ?_
        rotate_left
        · (intro w hSw; (try dsimp only at hSw); go_simp; try with_reducible rfl)
        try simp only [tkS]
        refine tk 25 ⟨some 86, _, _, _, _, _⟩ ?_ rfl ?_ ?_
        rotate_left
        · (intro w hSw; (try dsimp only at hSw); go_simp; try with_reducible rfl)
        try simp only [tkS]
        refine wpAnyH_ready (rs := [26]) (by kernel_rfl) (by simp) ?_
        refine AllReadyH.cons (o := ⟨none, _, _, _, _, _⟩) rfl (fun K hK => ?_) AllReadyH.nil
        go_simp
        skip
        refine hK.out _ _ ?_ (fun hHeld => ?_)
        · (try dsimp only); exact ⟨by rw [World.cell?_setCell_far _ _ _ _ (by simp; omega)]; exact g2, by rw [World.cell?_setCell_far _ _ _ _ (by simp; omega)]; exact g3, by rw [World.cell?_setCell_far _ _ _ _ (by simp; omega)]; exact g4⟩
        clear hK K
        try simp only [tkS]
        refine wpAnyH_done (by kernel_rfl) ?_ _
        have hN : OM (v2.setCell ⟨bo, 9, none⟩ (.slice a2 (k + 1) c2)) w.heap.size bo (memNums M) (partFlds 68 M Sx a2 (k + 1) c2) := by
          have h := OM.push (L1 := (partFlds 68 M Sx a k c).take 3) (L2 := (partFlds 68 M Sx a k c).drop 4) (f := ⟨9, 68, 2, a, k, c, icells (M.ids.take k)⟩) HOW.out a2 (k + 1) c2 _ HG.out OW.out HAT.out
          unfold partFlds
          rw [HY.out, show icells (M.ids.take k ++ [(y1, y2)]) = icells (M.ids.take k) ++ icells [(y1, y2)] from by simp [icells]]
          exact h
        have hsz2 : bo ≤ (wr.alloc (.cells #[.int .u64 y1, .int .i64 y2] 68)).drew.heap.size := by have := HOW.out.lt; omega
        clear hHeld y1c y2c g2 g3 g4 f1 f2 f3 f4
        have HNN := Lib.hid hN
        have HS2 := Lib.hid hsz2
        clear hN hsz2
        go_wp2
        refine ⟨⟨k + 1, a2, c2, by omega, by go_num, HNN.out, Ext.set_ HX.out (by simp; omega) _, fun g hg => ?_⟩, by simp [intOf]; omega⟩
        rcases HAT.out with e | e
        · exact hB.out g (e ▸ hg)
        · rw [e] at hg; injection hg with hg; rw [← hg]; exact HS2.out
    · have hge : (M.ids.length : Int) ≤ (k : Int) := by omega
      obtain rfl : k = M.ids.length := by omega
      go_wp2
      go_ret
      have := hO.out
      unfold partFlds at this
      rw [List.take_length] at this
      exact ⟨bo, ⟨Sx.W, Sx.R, Sx.K, (a, c), Sx.C⟩, rfl, this, Ext.trans_ HQ.out hE.out⟩
def ClonePost (w : World) (e : TypeId) (size : Nat) (m : Nat) (news : List Value) (en : Ending) (w' : World) : Prop :=
  ∃ a c, en = .returned (.slice a m c) ∧ w'.ownsRow w.heap.size e size (.slice a m c) m news ∧ Ext w w'
theorem owns_zero (W : World) (e : TypeId) (size : Nat) : (W.alloc (.cells #[] e)).ownsRow W.heap.size e size (.slice (some ⟨W.heap.size, 0, none⟩) 0 0) 0 [] :=
  ⟨by simp, Or.inr ⟨W.heap.size, 0, #[], rfl, Nat.le_refl _, heap_alloc_new W _, Nat.le_refl _, by unfold maxLen; omega, by simp, by simp⟩⟩
set_option maxRecDepth 100000 in
theorem cloneU_walk (ad : Option Addr) (m c : Nat) (news : List Value) (w : World) (hnil : ad = none → c = 0) (hmc : m ≤ c) (hl : news.length = m * 1) (hR : RSl w ad news) (h1 : ∀ u ∈ news, u.oneCell' = true) (hm : m ≤ 1000000) :
    Calls Tryz.prog 57 #[.slice ad m c] w (ClonePost w 51 1 m news) := by
  obtain ⟨i0, hi, hz0, hz1, hz2⟩ := info_parts infoF0
  cases ad with
  | none =>
    obtain rfl := hnil rfl
    obtain rfl : m = 0 := by omega
    obtain rfl : news = [] := List.eq_nil_of_length_eq_zero (by omega)
    have q : ∀ W, (binOp .eql 26 (.slice none 0 0) (.slice none 0 0)).run Tryz.prog W = .ok (.bool true) W := fun W => _root_.Go.run_eql_slice_nil W _ _ none 0 0 und0
    go_enter Tryz.func57, Tryz.ntmps57
    go_wp2
    go_ret
    exact ⟨none, 0, rfl, World.ownsRow_nil _ _ _ _, Ext.refl w⟩
  | some p =>
    have HR := Lib.hid hR
    have H1 := Lib.hid h1
    clear hR h1 hnil
    have q : ∀ W, (binOp .eql 26 (.slice (some p) m c) (.slice none 0 0)).run Tryz.prog W = .ok (.bool false) W := fun W => _root_.Go.run_eql_slice_nil W _ _ (some p) m c und0
    go_enter Tryz.func57, Tryz.ntmps57
    go_wp2_with (at_builtin; refine wpList_append_src rfl _ _ 26 rfl w.heap.size 51 i0 (.int .u64 0) 1 8 und0 hi hz0 hz1 hz2 rfl (by decide) _ 0 [] rfl (owns_zero w _ _) (some p) m c news rfl (fun h => by cases h) hmc hl (HR.out.ext ((Ext.refl w).alloc_ _)) H1.out (by unfold maxLen; omega) (by omega) (by simp) ?_)
    intro a2 c2 w2 hown hgrow hat
    have hx : Ext w w2 := Below.grown ((Ext.refl w).alloc_ _) hgrow (by simp) (fun g hg => Nat.le_of_eq (Option.some.inj (show some w.heap.size = some g from hg)))
    have HX := Lib.hid hx
    have HO := Lib.hid hown
    clear hown hgrow hat hx
    go_wp2
    go_ret
    exact ⟨a2, c2, rfl, HO.out, HX.out⟩
theorem own_le {w w' : World} {B B' : Nat} {e : TypeId} {size : Nat} {v : Value} {n : Nat} {xs : List Value} (h : w.ownsRow B e size v n xs) (hB : B' ≤ B) (hx : Ext w w') : w'.ownsRow B' e size v n xs := by
  have hlt := h.lt
  obtain ⟨h1, h2⟩ := h
  refine ⟨h1, ?_⟩
  rcases h2 with h2 | ⟨g, cap, cur, hv, hg, hh, r⟩
  · exact Or.inl h2
  · refine Or.inr ⟨g, cap, cur, hv, by omega, ?_, r⟩
    rw [hx.block g (hlt g (by rw [hv]; rfl)).2]; exact hh
theorem sizeIntT (w : World) : (sizeOf 3).run Tryz.prog w = .ok 1 w := by kernel_rfl
section
variable {w w1 wr : World} {B b : Nat} {M : Mem} {S : Sls} {X X4 : Pl} {C C4 : Col} {ten : Int}
/-- The worklist's front is taken off. -/
theorem work_at (h : At w B b S X X4 C4 wr) (v' : Value) (t : List Int) (ht : Tail wr B 3 v' (tcells t)) (hv : v'.ownBlock = X4.tv.ownBlock) :
    At w B b S X { X4 with tv := v' } { C4 with todo := t } (wr.setCell ⟨X4.c, 5, none⟩ v') := by
  have hk : Keep (OwnC b S X4) wr (wr.setCell ⟨X4.c, 5, none⟩ v') := Keep.set_ (Keep.refl _ wr) (p := ⟨X4.c, 5, none⟩) (Or.inl (Or.inr (Or.inl rfl))) _
  refine ⟨h.c, h.mb, h.col.work (Keep.refl _ wr) v' t ht (fun k hk => Or.inl (by rw [← hv]; exact hk)), h.keep.then_ hk fun i hi hk => ?_, fun i hk => ?_⟩
  · rcases h.own i hk with q | q
    · exact q
    · omega
  · refine h.own i ?_
    rcases hk with hk | hk | hk | hk
    · exact Or.inl hk
    · exact Or.inr (Or.inl hk)
    · exact Or.inr (Or.inr (Or.inl hk))
    · exact Or.inr (Or.inr (Or.inr (by rw [← hv]; exact hk)))
theorem at_eq {C' : Col} (h : At w B b S X X4 C4 wr) (e : C4 = C') : At w B b S X X4 C' wr := e ▸ h
theorem fields_at (c : Nat) (hcx : X.c = c) (n N : Nat) (a z : Int) (ha : a = (n : Int)) (hz : z = (N : Int)) (w : World) (hO : OCol w B b C S X) (h1 : n ≤ 1000000) (h2 : N ≤ 1000000) (hc : CanFields C (n + 1) N) :
    Calls Tryz.prog 37 #[.pointer (some ⟨c, 0, none⟩), .int .i64 a, .int .i64 z] w (fun e w' => e = .returned (.tuple #[]) ∧ CStep w B b S X (fieldsC C (n + 1) N) w') := by
  subst hcx ha hz
  exact fields_walk B b C S X n N w hO h1 h2 hc
theorem last_at (c : Nat) (hcx : X.c = c) (a : Int) (h0 : 0 ≤ a) (h1 : a ≤ 18446744073709551615) (w : World) (hO : OCol w B b C S X) (hok : C.M.Ok) (hs : Shp C.M) :
    Calls Tryz.prog 38 #[.pointer (some ⟨c, 0, none⟩), .int .u64 a] w (fun e w' => e = .returned (.tuple #[.int .u64 (lastC C a).1, .bool (lastC C a).2]) ∧ Ext w w') := by
  subst hcx; exact last_any B b C S X a h0 h1 w hO hok hs
end
/-- The weak words, so many of them turned. -/
def wkC (C : Col) (k : Nat) : Col := { C with M := { C.M with weak := (weakC C).take k ++ C.M.weak.drop k } }
theorem weakC_len (C : Col) : (weakC C).length = C.M.weak.length := by simp [weakC]
theorem wkC_len (C : Col) (k : Nat) : (wkC C k).M.weak.length = C.M.weak.length := by
  simp only [wkC, List.length_append, List.length_take, List.length_drop, weakC_len]; omega
theorem wkC_zero (C : Col) : wkC C 0 = C := by simp [wkC]
theorem wkC_all (C : Col) : wkC C C.M.weak.length = { C with M := { C.M with weak := weakC C } } := by
  have : (weakC C).take C.M.weak.length = weakC C := List.take_of_length_le (by rw [weakC_len]; omega)
  simp [wkC, this]
theorem wkC_at (C : Col) (k : Nat) (hk : k < C.M.weak.length) : (wkC C k).M.weak.getD k 0 = C.M.weak.getD k 0 := by
  simp only [wkC, List.getD_eq_getElem?_getD]
  have hl : ((weakC C).take k).length = k := by rw [List.length_take, weakC_len]; omega
  rw [List.getElem?_append_right (by omega), hl, Nat.sub_self, List.getElem?_drop, Nat.add_zero]
theorem weakC_at (C : Col) (k : Nat) (hk : k < C.M.weak.length) : (weakC C)[k]? = some (if (lastC C (C.M.weak.getD k 0)).2 then (lastC C (C.M.weak.getD k 0)).1 else 2) := by
  unfold weakC
  rw [List.getElem?_map, List.getElem?_eq_getElem hk, List.getD_eq_getElem?_getD, List.getElem?_eq_getElem hk]; rfl
theorem wkC_set (C : Col) (k : Nat) (hk : k < C.M.weak.length) (v : Int) (hv : v = (if (lastC C (C.M.weak.getD k 0)).2 then (lastC C (C.M.weak.getD k 0)).1 else 2)) :
    ({ wkC C k with M := { (wkC C k).M with weak := (wkC C k).M.weak.set k v } } : Col) = wkC C (k + 1) := by
  have h : ((weakC C).take k ++ C.M.weak.drop k).set k v = (weakC C).take (k + 1) ++ C.M.weak.drop (k + 1) := by
    have hl : ((weakC C).take k).length = k := by rw [List.length_take, weakC_len]; omega
    rw [List.set_append_right _ _ (by omega), hl, Nat.sub_self, List.drop_eq_getElem_cons hk, List.set_cons_zero, List.take_add_one, weakC_at C k hk, ← hv]
    simp
  simp only [wkC]
  rw [h]
theorem lastC_u64 (C : Col) (u : Int) (h0 : 0 ≤ u) (h1 : u ≤ 18446744073709551615) : 0 ≤ (lastC C u).1 ∧ (lastC C u).1 ≤ 18446744073709551615 := by
  unfold lastC
  split
  · exact ⟨h0, h1⟩
  · split <;> exact addrW_u64 _
theorem wkC_ok (C : Col) (h : C.M.Ok) (k : Nat) : (wkC C k).M.Ok :=
  ⟨h.half, h.old, h.card, h.used, h.top, h.oldTop, h.W, h.roots, fun x hx => by
    rcases List.mem_append.1 hx with q | q
    · obtain ⟨u, hu, rfl⟩ := List.mem_map.1 (List.mem_of_mem_take q)
      have := h.weak u hu
      split
      · exact lastC_u64 C u this.1 this.2
      · omega
    · exact h.weak x (List.mem_of_mem_drop q), h.ids, h.lenW, h.lenR, by rw [wkC_len]; exact h.lenK, h.lenI, h.lenC⟩
theorem wkC_shp (C : Col) (h : Shp C.M) (k : Nat) : Shp (wkC C k).M := ⟨h.h1, h.h2, h.o1, h.o2, h.c1, h.c2, h.w, h.u1, h.u2, h.t1, h.t2, h.p1, h.p2, h.cl⟩
theorem last_wk {w : World} {B b : Nat} {S : Sls} {X : Pl} (C : Col) (k : Nat) (c : Nat) (hcx : X.c = c) (a : Int) (h0 : 0 ≤ a) (h1 : a ≤ 18446744073709551615) (hO : OCol w B b (wkC C k) S X) (hok : C.M.Ok) (hs : Shp C.M) :
    Calls Tryz.prog 38 #[.pointer (some ⟨c, 0, none⟩), .int .u64 a] w (fun e w' => e = .returned (.tuple #[.int .u64 (lastC C a).1, .bool (lastC C a).2]) ∧ Ext w w') :=
  (last_at (C := wkC C k) c hcx a h0 h1 w hO (wkC_ok C hok k) (wkC_shp C hs k) :)
/-- Each number is an object's. -/
theorem ids_few {M : Mem} (hg : goodB M = true) : M.ids.length ≤ 196608 := by
  obtain ⟨hs, hob, hr, hw, hfo, hid⟩ := good_parts hg
  obtain ⟨h1, h2⟩ := (idsB_iff _ _ _).1 hid
  have hl := len_sub (M.ids.map fun x => placeW x.1) (startsM M) (by
    unfold List.Nodup
    rw [List.pairwise_map]
    refine List.Pairwise.imp_of_mem (fun {p q} hp hq hpq e => ?_) h2
    obtain ⟨⟨p1, p2, p3, p4⟩, -⟩ := h1 p hp
    obtain ⟨⟨q1, q2, q3, q4⟩, -⟩ := h1 q hq
    apply hpq.1
    unfold placeW at e
    unfold kindW at p1 q1
    omega) (fun k hk => by
    obtain ⟨x, hx, rfl⟩ := List.mem_map.1 hk
    exact (inSt_iff _ _).1 (h1 x hx).1.2.2.1)
  have h3 : (startsM M).length = (objsAll M).length := by simp [startsM]
  have h4 := len_small hs
  obtain ⟨hb, b0, b1⟩ := hs.base
  have s1 := hs.h1; have s2 := hs.t2; have s3 := hs.p2; have s4 := hs.w; have s5 := hs.t1; have s6 := hs.p1
  have l1 := part_len M.W (M.base + M.top.toNat - M.base) M.base (M.base + M.top.toNat)
  have l2 := part_len M.W ((2 * M.half).toNat + M.oldTop.toNat - (2 * M.half).toNat) (2 * M.half).toNat ((2 * M.half).toNat + M.oldTop.toNat)
  have e1 : (partN M).1.length ≤ M.base + M.top.toNat - M.base := l1
  have e2 : (partO M).1.length ≤ (2 * M.half).toNat + M.oldTop.toNat - (2 * M.half).toNat := l2
  have e3 : (objsAll M).length = (partN M).1.length + (partO M).1.length := by unfold objsAll; rw [List.length_append]
  rw [List.length_map] at hl
  omega
/-- The numbers, so many of them looked at. -/
def idsM (C : Col) (l : List (Int × Int)) : List (Int × Int) := l.filterMap fun x => if (lastC C x.1).2 then some ((lastC C x.1).1, x.2) else none
theorem idsM_snoc (C : Col) (l : List (Int × Int)) (k : Nat) (hk : k < l.length) : idsM C (l.take (k + 1)) = if (lastC C l[k].1).2 then idsM C (l.take k) ++ [((lastC C l[k].1).1, l[k].2)] else idsM C (l.take k) := by
  unfold idsM
  rw [List.take_add_one, List.getElem?_eq_getElem hk, List.filterMap_append]
  cases h : (lastC C l[k].1).2 <;> simp [h]
theorem idsM_len (C : Col) (l : List (Int × Int)) : (idsM C l).length ≤ l.length := List.length_filterMap_le _ _
theorem icells_snoc2 (v : List (Int × Int)) (x : Int × Int) : icells (v ++ [x]) = icells v ++ [Value.int .u64 x.1, Value.int .i64 x.2] := by simp [icells]
section
variable {w : World} {B b : Nat} {M : Mem} {S : Sls}
/-- The memory as Collect leaves it. -/
theorem coll_end (h : OMem w B b 68 M S) (a : Option Addr) (c : Nat) (l : List (Int × Int)) (ho : w.ownsRow B 68 2 (.slice a l.length c) l.length (icells l)) (hn : ∀ k, (Value.slice a l.length c).ownBlock = some k → ¬ OwnA b S k) (u t : Int) :
    OMem (((w.setCell ⟨b, 9, none⟩ (.slice a l.length c)).setCell ⟨b, 4, none⟩ (.int .i64 u)).setCell ⟨b, 5, none⟩ (.int .i64 t)) B b 68 { M with ids := l, used := u, top := t } { S with I := (a, c) } :=
  OMem.setTop (OMem.setUsed (h.putI a c l ho hn) u) t
theorem coll_keep (u1 u2 u3 : Value) : Keep (OwnA b S) w (((w.setCell ⟨b, 9, none⟩ u1).setCell ⟨b, 4, none⟩ u2).setCell ⟨b, 5, none⟩ u3) :=
  Keep.set_ (Keep.set_ (Keep.set_ (Keep.refl _ w) (p := ⟨b, 9, none⟩) (Or.inl (Or.inl rfl)) _) (p := ⟨b, 4, none⟩) (Or.inl (Or.inl rfl)) _) (p := ⟨b, 5, none⟩) (Or.inl (Or.inl rfl)) _
end
end Go.Proofs.YtecbbbaafcoliaaGreatDoor
