/- The walk of Memory.Copy. -/
import Derived.Test.YtelhoppfidibiaaGreatDoorJOa21
import Derived.Test.YtelhoppfidibiaaGreatDoorJOa08
import Derived.Deep.RegionHeld3
import Derived.Test.YtelhoppfidibiaaGreatDoorJOa20
namespace Go.Proofs.YtelhoppfidibiaaGreatDoor
open Go.RowKit
set_option linter.unusedVariables false
set_option linter.unusedSimpArgs false

def CopyPost (w : World) (M : Mem) (e : Ending) (w' : World) : Prop :=
  ∃ b S, e = .returned (.pointer (some ⟨b, 0, none⟩)) ∧ OMem w' w.heap.size b 140 M S ∧ Ext w w'
def setAll (b : Nat) (w : World) : List Fld → World
  | [] => w
  | f :: fs => setAll b (w.setCell ⟨b, f.off, none⟩ f.val) fs
theorem OM.adds {B b : Nat} {nums : List (Nat × Int)} : ∀ (fs L : List Fld) (w : World), OM w B b nums L → (∀ f ∈ fs, ∃ x, w.cell? ⟨b, f.off, none⟩ = some x) →
    (∀ f ∈ fs, w.ownsRow B f.e f.size f.val f.n f.cs ∧ f.val.ownBlock ≠ some b) → (L ++ fs).Pairwise (fun f g => ∀ k, f.val.ownBlock = some k → g.val.ownBlock ≠ some k) →
    (nums.map (·.1) ++ (L ++ fs).map (·.off)).Nodup → OM (setAll b w fs) B b nums (L ++ fs)
  | [], L, w, h, _, _, _, _ => by simpa [setAll] using h
  | f :: fs, L, w, h, hc, hr, hp, hn => by
    have h1 := h.add f (hc f (by simp)) (hr f (by simp)).1 (hr f (by simp)).2 (fun g hg k hk => (List.pairwise_append.1 hp).2.2 g hg f (by simp) k hk) (fun hm => by
      rw [List.map_append, List.map_cons, ← List.append_assoc, List.nodup_append] at hn
      exact hn.2.2 _ hm _ (by simp) rfl)
    have hoff : ∀ g ∈ fs, f.off ≠ g.off := fun g hg e => by
      rw [List.map_append, List.map_cons, ← List.append_assoc, List.nodup_append] at hn
      exact (List.nodup_cons.1 hn.2.1).1 (by rw [e]; exact List.mem_map_of_mem hg)
    have h2 := OM.adds fs (L ++ [f]) _ h1 (fun g hg => by obtain ⟨x, hx⟩ := hc g (by simp [hg]); exact ⟨x, by rw [cell_set_off (hoff g hg)]; exact hx⟩)
      (fun g hg => ⟨own_set (hr g (by simp [hg])).1 (hr g (by simp [hg])).2 _, (hr g (by simp [hg])).2⟩) (by simpa using hp) (by simpa using hn)
    simpa [setAll] using h2
theorem row_in {w : World} {lo hi : Nat} {e : TypeId} {size : Nat} {a : Option Addr} {n c : Nat} {xs : List Value} (h : w.ownsRow lo e size (.slice a n c) n xs) (hw : w.heap.size ≤ hi) : ∀ k, (Value.slice a n c).ownBlock = some k → lo ≤ k ∧ k < hi := fun k hk => by
  have := h.lt k hk
  omega
theorem own_le {w w' : World} {B B' : Nat} {e : TypeId} {size : Nat} {v : Value} {n : Nat} {xs : List Value} (h : w.ownsRow B e size v n xs) (hB : B' ≤ B) (hx : Ext w w') : w'.ownsRow B' e size v n xs := by
  have hlt := h.lt
  obtain ⟨h1, h2⟩ := h
  refine ⟨h1, ?_⟩
  rcases h2 with h2 | ⟨g, cap, cur, hv, hg, hh, r⟩
  · exact Or.inl h2
  · refine Or.inr ⟨g, cap, cur, hv, by omega, ?_, r⟩
    rw [hx.block g (hlt g (by rw [hv]; rfl)).2]; exact hh
def boxO (M : Mem) (S : Sls) (t : TypeId) : Obj := .cells #[Value.int .i64 M.half, .int .i64 M.old, .int .i64 M.card, .slice S.W.1 M.W.length S.W.2, .int .i64 M.used, .int .i64 M.top, .int .i64 M.oldTop, .slice S.R.1 M.roots.length S.R.2, .slice S.K.1 M.weak.length S.K.2, .slice S.I.1 M.ids.length S.I.2, .slice S.C.1 M.cards.length S.C.2] t
theorem om_copy (w : World) (M : Mem) (S : Sls) (t : TypeId) :
    OM (w.alloc (boxO M S t)) w.heap.size w.heap.size (memNums M) [] ∧ ∀ j, j < 11 → ∃ x, (w.alloc (boxO M S t)).cell? ⟨w.heap.size, j, none⟩ = some x := by
  have hc : ∀ j v, (#[Value.int .i64 M.half, .int .i64 M.old, .int .i64 M.card, .slice S.W.1 M.W.length S.W.2, .int .i64 M.used, .int .i64 M.top, .int .i64 M.oldTop, .slice S.R.1 M.roots.length S.R.2, .slice S.K.1 M.weak.length S.K.2, .slice S.I.1 M.ids.length S.I.2, .slice S.C.1 M.cards.length S.C.2] : Array Value)[j]? = some v → (w.alloc (boxO M S t)).cell? ⟨w.heap.size, j, none⟩ = some v := fun j v hv => by
    unfold boxO
    rw [cell_of_row _ w.heap.size j _ t (0, 0) (heap_alloc_new w _)]; exact hv
  refine ⟨⟨Nat.le_refl _, ⟨_, t, heap_alloc_new w _⟩, fun p hp => ?_, fun f hf => by simp at hf, List.Pairwise.nil, by simp [memNums]⟩, fun j hj => ⟨_, hc j _ (Array.getElem?_eq_getElem (by simpa using hj))⟩⟩
  simp only [memNums, List.mem_cons, List.not_mem_nil, or_false] at hp
  rcases hp with rfl | rfl | rfl | rfl | rfl | rfl <;> exact hc _ _ rfl
set_option maxRecDepth 100000 in
set_option maxHeartbeats 8000000 in
theorem copy_walk (b : Nat) (M : Mem) (S : Sls) (w : World) (hM : RMem w b 0 M S) (hF : Few M) :
    Calls Tryz.prog 76 #[.pointer (some ⟨b, 0, none⟩)] w (CopyPost w M) := by
  have HM := Lib.hid hM
  have HF := Lib.hid hF
  have n0 := hM.half
  have n1 := hM.old
  have n2 := hM.card
  have n3 := hM.W
  have n4 := hM.used
  have n5 := hM.top
  have n6 := hM.oldTop
  have n7 := hM.roots
  have n8 := hM.weak
  have n9 := hM.ids
  have n10 := hM.cards
  simp only [Nat.zero_add] at n0 n1 n2 n3 n4 n5 n6 n7 n8 n9 n10
  have hlt := hM.lt
  clear hM hF
  go_enter Tryz.func76, Tryz.ntmps76
  go_wp2
  obtain ⟨hO0, hc0⟩ := om_copy w M S 82
  have HO0 := Lib.hid hO0
  have HC0 := Lib.hid hc0
  clear hO0 hc0
  refine named_world' (fun W0 hW0 => ?_)
  have hE0 : Ext w W0 := by rw [hW0]; exact (Ext.refl w).alloc_ _
  have hO1 : OM W0 w.heap.size w.heap.size (memNums M) [] := by rw [hW0]; exact HO0.out
  have hC1 : ∀ j, j < 11 → ∃ x, W0.cell? ⟨w.heap.size, j, none⟩ = some x := by rw [hW0]; exact HC0.out
  have HE0 := Lib.hid hE0
  have HO1 := Lib.hid hO1
  have HC1 := Lib.hid hC1
  have hz0 : w.heap.size < W0.heap.size := hO1.lt
  have m3 := hE0.cell_ n3
  have m7 := hE0.cell_ n7
  have m8 := hE0.cell_ n8
  have m9 := hE0.cell_ n9
  have m10 := hE0.cell_ n10
  clear hW0 hE0 hO1 hC1 HO0 HC0 n0 n1 n2 n3 n4 n5 n6 n7 n8 n9 n10
  generalize hbo : w.heap.size = bo at *
  refine wp_region_held_drew (S := fun W => W.cell? ⟨b, 3, none⟩ = some (.slice S.W.1 M.W.length S.W.2) ∧ W.cell? ⟨b, 7, none⟩ = some (.slice S.R.1 M.roots.length S.R.2) ∧ W.cell? ⟨b, 8, none⟩ = some (.slice S.K.1 M.weak.length S.K.2) ∧ W.cell? ⟨b, 9, none⟩ = some (.slice S.I.1 M.ids.length S.I.2) ∧ W.cell? ⟨b, 10, none⟩ = some (.slice S.C.1 M.cards.length S.C.2)) (by kernel_rfl) ?_ (fun hHeld => ?_)
  · exact ⟨m3, m7, m8, m9, m10⟩
  refine tk 0 ⟨some 9, _, _, _, _, _⟩ ?_ rfl ?_ ?_
  rotate_left
  · (intro w hSw; (try dsimp only at hSw); go_simp; try with_reducible rfl)
  try simp only [tkS]
  refine tk 1 ⟨some 10, _, _, _, _, _⟩ ?_ rfl ?_ ?_
  rotate_left
  · (intro w hSw; (try dsimp only at hSw); go_simp; try with_reducible rfl)
  try simp only [tkS]
  refine tk 2 ⟨some 11, _, _, _, _, _⟩ ?_ rfl ?_ ?_
  rotate_left
  · (intro w hSw; (try dsimp only at hSw); go_simp; try with_reducible rfl)
  try simp only [tkS]
  refine tk 3 ⟨some 12, _, _, _, _, _⟩ ?_ rfl ?_ ?_
  rotate_left
  · (intro w hSw; (try dsimp only at hSw); go_simp; try with_reducible rfl)
  try simp only [tkS]
  refine tk 5 ⟨some 14, _, _, _, _, _⟩ ?_ rfl ?_ ?_
  rotate_left
  · (intro w hSw; (try dsimp only at hSw); go_simp; try with_reducible rfl)
  try simp only [tkS]
  refine tk 6 ⟨some 15, _, _, _, _, _⟩ ?_ rfl ?_ ?_
  rotate_left
  · (intro w hSw; (try dsimp only at hSw); go_simp; try with_reducible rfl)
  try simp only [tkS]
  refine tk 7 ⟨some 16, _, _, _, _, _⟩ ?_ rfl ?_ ?_
  rotate_left
  · (intro w hSw; (try dsimp only at hSw); go_simp; try with_reducible rfl)
  try simp only [tkS]
  refine tk 8 ⟨some 17, _, _, _, _, _⟩ ?_ rfl ?_ ?_
  rotate_left
  · (intro w hSw; (try dsimp only at hSw); go_simp; try with_reducible rfl)
  try simp only [tkS]
  refine tk 10 ⟨some 19, _, _, _, _, _⟩ ?_ rfl ?_ ?_
  rotate_left
  · (intro w hSw; (try dsimp only at hSw); go_simp; try with_reducible rfl)
  try simp only [tkS]
  refine tk 11 ⟨some 20, _, _, _, _, _⟩ ?_ rfl ?_ ?_
  rotate_left
  · (intro w hSw; (try dsimp only at hSw); go_simp; try with_reducible rfl)
  try simp only [tkS]
  refine tk 12 ⟨some 21, _, _, _, _, _⟩ ?_ rfl ?_ ?_
  rotate_left
  · (intro w hSw; (try dsimp only at hSw); go_simp; try with_reducible rfl)
  try simp only [tkS]
  refine tk 13 ⟨some 22, _, _, _, _, _⟩ ?_ rfl ?_ ?_
  rotate_left
  · (intro w hSw; (try dsimp only at hSw); go_simp; try with_reducible rfl)
  try simp only [tkS]
  refine tk 15 ⟨some 24, _, _, _, _, _⟩ ?_ rfl ?_ ?_
  rotate_left
  · (intro w hSw; (try dsimp only at hSw); go_simp; try with_reducible rfl)
  try simp only [tkS]
  refine tk 16 ⟨some 25, _, _, _, _, _⟩ ?_ rfl ?_ ?_
  rotate_left
  · (intro w hSw; (try dsimp only at hSw); go_simp; try with_reducible rfl)
  try simp only [tkS]
  refine tk 17 ⟨some 26, _, _, _, _, _⟩ ?_ rfl ?_ ?_
  rotate_left
  · (intro w hSw; (try dsimp only at hSw); go_simp; try with_reducible rfl)
  try simp only [tkS]
  refine tk 18 ⟨some 27, _, _, _, _, _⟩ ?_ rfl ?_ ?_
  rotate_left
  · (intro w hSw; (try dsimp only at hSw); go_simp; try with_reducible rfl)
  try simp only [tkS]
  refine tk 20 ⟨some 29, _, _, _, _, _⟩ ?_ rfl ?_ ?_
  rotate_left
  · (intro w hSw; (try dsimp only at hSw); go_simp; try with_reducible rfl)
  try simp only [tkS]
  refine tk 21 ⟨some 30, _, _, _, _, _⟩ ?_ rfl ?_ ?_
  rotate_left
  · (intro w hSw; (try dsimp only at hSw); go_simp; try with_reducible rfl)
  try simp only [tkS]
  refine tk 22 ⟨some 31, _, _, _, _, _⟩ ?_ rfl ?_ ?_
  rotate_left
  · (intro w hSw; (try dsimp only at hSw); go_simp; try with_reducible rfl)
  try simp only [tkS]
  refine tk 23 ⟨some 32, _, _, _, _, _⟩ ?_ rfl ?_ ?_
  rotate_left
  · (intro w hSw; (try dsimp only at hSw); go_simp; try with_reducible rfl)
  try simp only [tkS]
  refine wpAnyH_ready (rs := [4]) (by kernel_rfl) (by simp) ?_
  refine AllReadyH.cons (o := ⟨some 13, _, _, _, _, _⟩) rfl (fun K hK => ?_) AllReadyH.nil
  go_simp
  refine (cloneU_walk _ _ _ (wcells M.W) _ HM.out.nilW HM.out.capW (wcells_len _) (HM.out.ext (Ext.trans_ HE0.out (by repeat (first | exact Ext.refl _ | (refine Ext.drew_ ?_) | (refine Ext.drewN_ ?_ _))))).rW (wcells_one _) HF.out.W).mono ?_
  rintro e w1 ⟨a1, c1, rfl, ho, hx⟩
  have HR1 := Lib.hid ho
  have HX1 : Hid (Ext W0 w1) := Ext.trans_ (by repeat (first | exact Ext.refl _ | (refine Ext.drew_ ?_) | (refine Ext.drewN_ ?_ _))) hx
  have HA1 : Hid (Ext W0 w1) := HX1.out
  clear ho hx
  refine hK.out _ _ ?_ (fun hHeld => ?_)
  · (try dsimp only); exact ⟨Ext.cell_ (w := W0) HA1.out m3, Ext.cell_ (w := W0) HA1.out m7, Ext.cell_ (w := W0) HA1.out m8, Ext.cell_ (w := W0) HA1.out m9, Ext.cell_ (w := W0) HA1.out m10⟩
  clear hK K
  try simp only [tkS]
  refine wpAnyH_ready (rs := [9]) (by kernel_rfl) (by simp) ?_
  refine AllReadyH.cons (o := ⟨some 18, _, _, _, _, _⟩) rfl (fun K hK => ?_) AllReadyH.nil
  go_simp
  refine (cloneU_walk _ _ _ (wcells M.roots) _ HM.out.nilR HM.out.capR (wcells_len _) (HM.out.ext (Ext.trans_ HE0.out (by repeat (first | exact HA1.out | exact Ext.refl _ | (refine Ext.drew_ ?_) | (refine Ext.drewN_ ?_ _))))).rR (wcells_one _) HF.out.R).mono ?_
  rintro e w2 ⟨a2, c2, rfl, ho, hx⟩
  have HR2 := Lib.hid ho
  have HX2 : Hid (Ext w1 w2) := Ext.trans_ (by repeat (first | exact Ext.refl _ | (refine Ext.drew_ ?_) | (refine Ext.drewN_ ?_ _))) hx
  have HA2 : Hid (Ext W0 w2) := Ext.trans_ HA1.out HX2.out
  clear ho hx
  refine hK.out _ _ ?_ (fun hHeld => ?_)
  · (try dsimp only); exact ⟨Ext.cell_ (w := W0) HA2.out m3, Ext.cell_ (w := W0) HA2.out m7, Ext.cell_ (w := W0) HA2.out m8, Ext.cell_ (w := W0) HA2.out m9, Ext.cell_ (w := W0) HA2.out m10⟩
  clear hK K
  try simp only [tkS]
  refine wpAnyH_ready (rs := [14]) (by kernel_rfl) (by simp) ?_
  refine AllReadyH.cons (o := ⟨some 23, _, _, _, _, _⟩) rfl (fun K hK => ?_) AllReadyH.nil
  go_simp
  refine (cloneU_walk _ _ _ (wcells M.weak) _ HM.out.nilK HM.out.capK (wcells_len _) (HM.out.ext (Ext.trans_ HE0.out (by repeat (first | exact HA2.out | exact Ext.refl _ | (refine Ext.drew_ ?_) | (refine Ext.drewN_ ?_ _))))).rK (wcells_one _) HF.out.K).mono ?_
  rintro e w3 ⟨a3, c3, rfl, ho, hx⟩
  have HR3 := Lib.hid ho
  have HX3 : Hid (Ext w2 w3) := Ext.trans_ (by repeat (first | exact Ext.refl _ | (refine Ext.drew_ ?_) | (refine Ext.drewN_ ?_ _))) hx
  have HA3 : Hid (Ext W0 w3) := Ext.trans_ HA2.out HX3.out
  clear ho hx
  refine hK.out _ _ ?_ (fun hHeld => ?_)
  · (try dsimp only); exact ⟨Ext.cell_ (w := W0) HA3.out m3, Ext.cell_ (w := W0) HA3.out m7, Ext.cell_ (w := W0) HA3.out m8, Ext.cell_ (w := W0) HA3.out m9, Ext.cell_ (w := W0) HA3.out m10⟩
  clear hK K
  try simp only [tkS]
  refine wpAnyH_ready (rs := [19]) (by kernel_rfl) (by simp) ?_
  refine AllReadyH.cons (o := ⟨some 28, _, _, _, _, _⟩) rfl (fun K hK => ?_) AllReadyH.nil
  go_simp
  refine (cloneI_walk _ _ _ (icells M.ids) _ HM.out.nilI HM.out.capI (icells_len _) (HM.out.ext (Ext.trans_ HE0.out (by repeat (first | exact HA3.out | exact Ext.refl _ | (refine Ext.drew_ ?_) | (refine Ext.drewN_ ?_ _))))).rI (icells_one _) HF.out.I).mono ?_
  rintro e w4 ⟨a4, c4, rfl, ho, hx⟩
  have HR4 := Lib.hid ho
  have HX4 : Hid (Ext w3 w4) := Ext.trans_ (by repeat (first | exact Ext.refl _ | (refine Ext.drew_ ?_) | (refine Ext.drewN_ ?_ _))) hx
  have HA4 : Hid (Ext W0 w4) := Ext.trans_ HA3.out HX4.out
  clear ho hx
  refine hK.out _ _ ?_ (fun hHeld => ?_)
  · (try dsimp only); exact ⟨Ext.cell_ (w := W0) HA4.out m3, Ext.cell_ (w := W0) HA4.out m7, Ext.cell_ (w := W0) HA4.out m8, Ext.cell_ (w := W0) HA4.out m9, Ext.cell_ (w := W0) HA4.out m10⟩
  clear hK K
  try simp only [tkS]
  refine wpAnyH_ready (rs := [24]) (by kernel_rfl) (by simp) ?_
  refine AllReadyH.cons (o := ⟨some 33, _, _, _, _, _⟩) rfl (fun K hK => ?_) AllReadyH.nil
  go_simp
  refine (cloneB_walk _ _ _ (bcells M.cards) _ HM.out.nilC HM.out.capC (bcells_len _) (HM.out.ext (Ext.trans_ HE0.out (by repeat (first | exact HA4.out | exact Ext.refl _ | (refine Ext.drew_ ?_) | (refine Ext.drewN_ ?_ _))))).rC (bcells_one _) HF.out.C).mono ?_
  rintro e w5 ⟨a5, c5, rfl, ho, hx⟩
  have HR5 := Lib.hid ho
  have HX5 : Hid (Ext w4 w5) := Ext.trans_ (by repeat (first | exact Ext.refl _ | (refine Ext.drew_ ?_) | (refine Ext.drewN_ ?_ _))) hx
  have HA5 : Hid (Ext W0 w5) := Ext.trans_ HA4.out HX5.out
  clear ho hx
  refine hK.out _ _ ?_ (fun hHeld => ?_)
  · (try dsimp only); exact ⟨Ext.cell_ (w := W0) HA5.out m3, Ext.cell_ (w := W0) HA5.out m7, Ext.cell_ (w := W0) HA5.out m8, Ext.cell_ (w := W0) HA5.out m9, Ext.cell_ (w := W0) HA5.out m10⟩
  clear hK K
  try simp only [tkS]
  have hO5 : OM w5 bo bo (memNums M) [] := HO1.out.ext HA5.out
  obtain ⟨x3, q3⟩ := HC1.out 3 (by decide)
  obtain ⟨x7, q7⟩ := HC1.out 7 (by decide)
  obtain ⟨x8, q8⟩ := HC1.out 8 (by decide)
  obtain ⟨x9, q9⟩ := HC1.out 9 (by decide)
  obtain ⟨x10, q10⟩ := HC1.out 10 (by decide)
  have e3 := HA5.out.cell_ q3
  have e7 := HA5.out.cell_ q7
  have e8 := HA5.out.cell_ q8
  have e9 := HA5.out.cell_ q9
  have e10 := HA5.out.cell_ q10
  have z3 := hO5.frozen 3
  have z7 := hO5.frozen 7
  have z8 := hO5.frozen 8
  have z9 := hO5.frozen 9
  have z10 := hO5.frozen 10
  have g3 := HA5.out.cell_ m3
  have g7 := HA5.out.cell_ m7
  have g8 := HA5.out.cell_ m8
  have g9 := HA5.out.cell_ m9
  have g10 := HA5.out.cell_ m10
  have HO5 := Lib.hid hO5
  clear q3 q7 q8 q9 q10 hO5 m3 m7 m8 m9 m10
  refine tk 25 ⟨some 34, _, _, _, _, _⟩ ?_ rfl ?_ ?_
  rotate_left
  · (intro w hSw; (try dsimp only at hSw); go_simp; try with_reducible rfl)
  try simp only [tkS]
  refine wpAnyH_ready (rs := [26]) (by kernel_rfl) (by simp) ?_
  refine AllReadyH.cons (o := ⟨none, _, _, _, _, _⟩) rfl (fun K hK => ?_) AllReadyH.nil
  go_simp
  skip
  refine hK.out _ _ ?_ (fun hHeld => ?_)
  · (try dsimp only); exact ⟨by (repeat rw [World.cell?_setCell_far _ _ _ _ (by simp; omega)]); exact g3, by (repeat rw [World.cell?_setCell_far _ _ _ _ (by simp; omega)]); exact g7, by (repeat rw [World.cell?_setCell_far _ _ _ _ (by simp; omega)]); exact g8, by (repeat rw [World.cell?_setCell_far _ _ _ _ (by simp; omega)]); exact g9, by (repeat rw [World.cell?_setCell_far _ _ _ _ (by simp; omega)]); exact g10⟩
  clear hK K
  try simp only [tkS]
  refine tk 27 ⟨some 35, _, _, _, _, _⟩ ?_ rfl ?_ ?_
  rotate_left
  · (intro w hSw; (try dsimp only at hSw); go_simp; try with_reducible rfl)
  try simp only [tkS]
  refine wpAnyH_ready (rs := [28]) (by kernel_rfl) (by simp) ?_
  refine AllReadyH.cons (o := ⟨none, _, _, _, _, _⟩) rfl (fun K hK => ?_) AllReadyH.nil
  go_simp
  skip
  refine hK.out _ _ ?_ (fun hHeld => ?_)
  · (try dsimp only); exact ⟨by (repeat rw [World.cell?_setCell_far _ _ _ _ (by simp; omega)]); exact g3, by (repeat rw [World.cell?_setCell_far _ _ _ _ (by simp; omega)]); exact g7, by (repeat rw [World.cell?_setCell_far _ _ _ _ (by simp; omega)]); exact g8, by (repeat rw [World.cell?_setCell_far _ _ _ _ (by simp; omega)]); exact g9, by (repeat rw [World.cell?_setCell_far _ _ _ _ (by simp; omega)]); exact g10⟩
  clear hK K
  try simp only [tkS]
  refine tk 29 ⟨some 36, _, _, _, _, _⟩ ?_ rfl ?_ ?_
  rotate_left
  · (intro w hSw; (try dsimp only at hSw); go_simp; try with_reducible rfl)
  try simp only [tkS]
  refine wpAnyH_ready (rs := [30]) (by kernel_rfl) (by simp) ?_
  refine AllReadyH.cons (o := ⟨none, _, _, _, _, _⟩) rfl (fun K hK => ?_) AllReadyH.nil
  go_simp
  skip
  refine hK.out _ _ ?_ (fun hHeld => ?_)
  · (try dsimp only); exact ⟨by (repeat rw [World.cell?_setCell_far _ _ _ _ (by simp; omega)]); exact g3, by (repeat rw [World.cell?_setCell_far _ _ _ _ (by simp; omega)]); exact g7, by (repeat rw [World.cell?_setCell_far _ _ _ _ (by simp; omega)]); exact g8, by (repeat rw [World.cell?_setCell_far _ _ _ _ (by simp; omega)]); exact g9, by (repeat rw [World.cell?_setCell_far _ _ _ _ (by simp; omega)]); exact g10⟩
  clear hK K
  try simp only [tkS]
  refine tk 31 ⟨some 37, _, _, _, _, _⟩ ?_ rfl ?_ ?_
  rotate_left
  · (intro w hSw; (try dsimp only at hSw); go_simp; try with_reducible rfl)
  try simp only [tkS]
  refine wpAnyH_ready (rs := [32]) (by kernel_rfl) (by simp) ?_
  refine AllReadyH.cons (o := ⟨none, _, _, _, _, _⟩) rfl (fun K hK => ?_) AllReadyH.nil
  go_simp
  skip
  refine hK.out _ _ ?_ (fun hHeld => ?_)
  · (try dsimp only); exact ⟨by (repeat rw [World.cell?_setCell_far _ _ _ _ (by simp; omega)]); exact g3, by (repeat rw [World.cell?_setCell_far _ _ _ _ (by simp; omega)]); exact g7, by (repeat rw [World.cell?_setCell_far _ _ _ _ (by simp; omega)]); exact g8, by (repeat rw [World.cell?_setCell_far _ _ _ _ (by simp; omega)]); exact g9, by (repeat rw [World.cell?_setCell_far _ _ _ _ (by simp; omega)]); exact g10⟩
  clear hK K
  try simp only [tkS]
  refine tk 33 ⟨some 38, _, _, _, _, _⟩ ?_ rfl ?_ ?_
  rotate_left
  · (intro w hSw; (try dsimp only at hSw); go_simp; try with_reducible rfl)
  try simp only [tkS]
  refine wpAnyH_ready (rs := [34]) (by kernel_rfl) (by simp) ?_
  refine AllReadyH.cons (o := ⟨none, _, _, _, _, _⟩) rfl (fun K hK => ?_) AllReadyH.nil
  go_simp
  skip
  refine hK.out _ _ ?_ (fun hHeld => ?_)
  · (try dsimp only); exact ⟨by (repeat rw [World.cell?_setCell_far _ _ _ _ (by simp; omega)]); exact g3, by (repeat rw [World.cell?_setCell_far _ _ _ _ (by simp; omega)]); exact g7, by (repeat rw [World.cell?_setCell_far _ _ _ _ (by simp; omega)]); exact g8, by (repeat rw [World.cell?_setCell_far _ _ _ _ (by simp; omega)]); exact g9, by (repeat rw [World.cell?_setCell_far _ _ _ _ (by simp; omega)]); exact g10⟩
  clear hK K
  try simp only [tkS]
  refine wpAnyH_done (by kernel_rfl) ?_ _
  clear hHeld
  go_wp2
  go_ret
  have s1 := HX1.out.size
  have s2 := HX2.out.size
  have s3 := HX3.out.size
  have s4 := HX4.out.size
  have s5 := HX5.out.size
  have b1 := row_in (hi := w1.heap.size) HR1.out (Nat.le_refl _)
  have b2 := row_in (hi := w2.heap.size) HR2.out (Nat.le_refl _)
  have b3 := row_in (hi := w3.heap.size) HR3.out (Nat.le_refl _)
  have b4 := row_in (hi := w4.heap.size) HR4.out (Nat.le_refl _)
  have b5 := row_in (hi := w5.heap.size) HR5.out (Nat.le_refl _)
  have b0 : W0.drew.heap.size = W0.heap.size := rfl
  have t4 : Ext w4 w5 := HX5.out
  have t3 : Ext w3 w5 := Ext.trans_ HX4.out t4
  have t2 : Ext w2 w5 := Ext.trans_ HX3.out t3
  have t1 : Ext w1 w5 := Ext.trans_ HX2.out t2
  have r1 := own_le (B' := bo) HR1.out (by omega) t1
  have r2 := own_le (B' := bo) HR2.out (by omega) t2
  have r3 := own_le (B' := bo) HR3.out (by omega) t3
  have r4 := own_le (B' := bo) HR4.out (by omega) t4
  have r5 := own_le (B' := bo) HR5.out (by omega) (Ext.refl w5)
  have hfin := OM.adds [⟨3, 78, 1, a1, M.W.length, c1, wcells M.W⟩, ⟨7, 78, 1, a2, M.roots.length, c2, wcells M.roots⟩, ⟨8, 78, 1, a3, M.weak.length, c3, wcells M.weak⟩, ⟨9, 140, 2, a4, M.ids.length, c4, icells M.ids⟩, ⟨10, 4, 1, a5, M.cards.length, c5, bcells M.cards⟩] [] w5 HO5.out (fun f hf => by
      simp only [List.mem_cons, List.not_mem_nil, or_false] at hf
      rcases hf with rfl | rfl | rfl | rfl | rfl
      · exact ⟨_, e3⟩
      · exact ⟨_, e7⟩
      · exact ⟨_, e8⟩
      · exact ⟨_, e9⟩
      · exact ⟨_, e10⟩) (fun f hf => by
      simp only [List.mem_cons, List.not_mem_nil, or_false] at hf
      rcases hf with rfl | rfl | rfl | rfl | rfl
      · exact ⟨r1, fun e => by have := b1 _ e; omega⟩
      · exact ⟨r2, fun e => by have := b2 _ e; omega⟩
      · exact ⟨r3, fun e => by have := b3 _ e; omega⟩
      · exact ⟨r4, fun e => by have := b4 _ e; omega⟩
      · exact ⟨r5, fun e => by have := b5 _ e; omega⟩) (by
      simp only [List.nil_append, List.pairwise_cons, List.mem_cons, List.not_mem_nil, or_false, forall_eq_or_imp, forall_eq]
      refine ⟨⟨?_, ?_, ?_, ?_⟩, ⟨?_, ?_, ?_⟩, ⟨?_, ?_⟩, ?_, fun _ h => h.elim, List.Pairwise.nil⟩
      · intro k hk e; have := b1 k hk; have := b2 k e; omega
      · intro k hk e; have := b1 k hk; have := b3 k e; omega
      · intro k hk e; have := b1 k hk; have := b4 k e; omega
      · intro k hk e; have := b1 k hk; have := b5 k e; omega
      · intro k hk e; have := b2 k hk; have := b3 k e; omega
      · intro k hk e; have := b2 k hk; have := b4 k e; omega
      · intro k hk e; have := b2 k hk; have := b5 k e; omega
      · intro k hk e; have := b3 k hk; have := b4 k e; omega
      · intro k hk e; have := b3 k hk; have := b5 k e; omega
      · intro k hk e; have := b4 k hk; have := b5 k e; omega) (by simp [memNums])
  exact ⟨bo, ⟨(a1, c1), (a2, c2), (a3, c3), (a4, c4), (a5, c5)⟩, rfl, hbo ▸ hfin, Ext.set_ (Ext.set_ (Ext.set_ (Ext.set_ (Ext.set_ (Ext.trans_ HE0.out HA5.out) (by simp; omega) _) (by simp; omega) _) (by simp; omega) _) (by simp; omega) _) (by simp; omega) _⟩
theorem sizeIntT (w : World) : (sizeOf 3).run Tryz.prog w = .ok 1 w := by kernel_rfl
section
variable {w w1 wr : World} {B b : Nat} {M : Mem} {S : Sls} {X X4 : Pl} {C C4 : Col} {ten : Int}
/-- The worklist's front is taken off. -/
theorem work_at (h : At w B b S X X4 C4 wr) (v' : Value) (t : List Int) (ht : Tail wr B 3 v' (tcells t)) (hv : v'.ownBlock = X4.tv.ownBlock) :
    At w B b S X { X4 with tv := v' } { C4 with todo := t } (wr.setCell ⟨X4.c, 5, none⟩ v') := by
  have hk : Keep (OwnC b S X4) wr (wr.setCell ⟨X4.c, 5, none⟩ v') := Keep.set_ (Keep.refl _ wr) (p := ⟨X4.c, 5, none⟩) (Or.inl (Or.inr (Or.inl rfl))) _
  refine ⟨h.c, h.mb, h.col.work (Keep.refl _ wr) v' t ht (fun k hk => Or.inl (by rw [← hv]; exact hk)), h.keep.then_ hk fun i hi hk => ?_, fun i hk => ?_⟩
  · rcases h.own i hk with q | q
    · exact q
    · omega
  · refine h.own i ?_
    rcases hk with hk | hk | hk | hk
    · exact Or.inl hk
    · exact Or.inr (Or.inl hk)
    · exact Or.inr (Or.inr (Or.inl hk))
    · exact Or.inr (Or.inr (Or.inr (by rw [← hv]; exact hk)))
theorem at_eq {C' : Col} (h : At w B b S X X4 C4 wr) (e : C4 = C') : At w B b S X X4 C' wr := e ▸ h
theorem fields_at (c : Nat) (hcx : X.c = c) (n N : Nat) (a z : Int) (ha : a = (n : Int)) (hz : z = (N : Int)) (w : World) (hO : OCol w B b C S X) (h1 : n ≤ 1000000) (h2 : N ≤ 1000000) (hc : CanFields C (n + 1) N) :
    Calls Tryz.prog 94 #[.pointer (some ⟨c, 0, none⟩), .int .i64 a, .int .i64 z] w (fun e w' => e = .returned (.tuple #[]) ∧ CStep w B b S X (fieldsC C (n + 1) N) w') := by
  subst hcx ha hz
  exact fields_walk B b C S X n N w hO h1 h2 hc
theorem last_at (c : Nat) (hcx : X.c = c) (a : Int) (h0 : 0 ≤ a) (h1 : a ≤ 18446744073709551615) (w : World) (hO : OCol w B b C S X) (hok : C.M.Ok) (hs : Shp C.M) :
    Calls Tryz.prog 95 #[.pointer (some ⟨c, 0, none⟩), .int .u64 a] w (fun e w' => e = .returned (.tuple #[.int .u64 (lastC C a).1, .bool (lastC C a).2]) ∧ Ext w w') := by
  subst hcx; exact last_any B b C S X a h0 h1 w hO hok hs
end
/-- The weak words, so many of them turned. -/
def wkC (C : Col) (k : Nat) : Col := { C with M := { C.M with weak := (weakC C).take k ++ C.M.weak.drop k } }
theorem weakC_len (C : Col) : (weakC C).length = C.M.weak.length := by simp [weakC]
theorem wkC_len (C : Col) (k : Nat) : (wkC C k).M.weak.length = C.M.weak.length := by
  simp only [wkC, List.length_append, List.length_take, List.length_drop, weakC_len]; omega
theorem wkC_zero (C : Col) : wkC C 0 = C := by simp [wkC]
theorem wkC_all (C : Col) : wkC C C.M.weak.length = { C with M := { C.M with weak := weakC C } } := by
  have : (weakC C).take C.M.weak.length = weakC C := List.take_of_length_le (by rw [weakC_len]; omega)
  simp [wkC, this]
theorem wkC_at (C : Col) (k : Nat) (hk : k < C.M.weak.length) : (wkC C k).M.weak.getD k 0 = C.M.weak.getD k 0 := by
  simp only [wkC, List.getD_eq_getElem?_getD]
  have hl : ((weakC C).take k).length = k := by rw [List.length_take, weakC_len]; omega
  rw [List.getElem?_append_right (by omega), hl, Nat.sub_self, List.getElem?_drop, Nat.add_zero]
theorem weakC_at (C : Col) (k : Nat) (hk : k < C.M.weak.length) : (weakC C)[k]? = some (if (lastC C (C.M.weak.getD k 0)).2 then (lastC C (C.M.weak.getD k 0)).1 else 2) := by
  unfold weakC
  rw [List.getElem?_map, List.getElem?_eq_getElem hk, List.getD_eq_getElem?_getD, List.getElem?_eq_getElem hk]; rfl
theorem wkC_set (C : Col) (k : Nat) (hk : k < C.M.weak.length) (v : Int) (hv : v = (if (lastC C (C.M.weak.getD k 0)).2 then (lastC C (C.M.weak.getD k 0)).1 else 2)) :
    ({ wkC C k with M := { (wkC C k).M with weak := (wkC C k).M.weak.set k v } } : Col) = wkC C (k + 1) := by
  have h : ((weakC C).take k ++ C.M.weak.drop k).set k v = (weakC C).take (k + 1) ++ C.M.weak.drop (k + 1) := by
    have hl : ((weakC C).take k).length = k := by rw [List.length_take, weakC_len]; omega
    rw [List.set_append_right _ _ (by omega), hl, Nat.sub_self, List.drop_eq_getElem_cons hk, List.set_cons_zero, List.take_add_one, weakC_at C k hk, ← hv]
    simp
  simp only [wkC]
  rw [h]
theorem lastC_u64 (C : Col) (u : Int) (h0 : 0 ≤ u) (h1 : u ≤ 18446744073709551615) : 0 ≤ (lastC C u).1 ∧ (lastC C u).1 ≤ 18446744073709551615 := by
  unfold lastC
  split
  · exact ⟨h0, h1⟩
  · split <;> exact addrW_u64 _
theorem wkC_ok (C : Col) (h : C.M.Ok) (k : Nat) : (wkC C k).M.Ok :=
  ⟨h.half, h.old, h.card, h.used, h.top, h.oldTop, h.W, h.roots, fun x hx => by
    rcases List.mem_append.1 hx with q | q
    · obtain ⟨u, hu, rfl⟩ := List.mem_map.1 (List.mem_of_mem_take q)
      have := h.weak u hu
      split
      · exact lastC_u64 C u this.1 this.2
      · omega
    · exact h.weak x (List.mem_of_mem_drop q), h.ids, h.lenW, h.lenR, by rw [wkC_len]; exact h.lenK, h.lenI, h.lenC⟩
theorem wkC_shp (C : Col) (h : Shp C.M) (k : Nat) : Shp (wkC C k).M := ⟨h.h1, h.h2, h.o1, h.o2, h.c1, h.c2, h.w, h.u1, h.u2, h.t1, h.t2, h.p1, h.p2, h.cl⟩
theorem last_wk {w : World} {B b : Nat} {S : Sls} {X : Pl} (C : Col) (k : Nat) (c : Nat) (hcx : X.c = c) (a : Int) (h0 : 0 ≤ a) (h1 : a ≤ 18446744073709551615) (hO : OCol w B b (wkC C k) S X) (hok : C.M.Ok) (hs : Shp C.M) :
    Calls Tryz.prog 95 #[.pointer (some ⟨c, 0, none⟩), .int .u64 a] w (fun e w' => e = .returned (.tuple #[.int .u64 (lastC C a).1, .bool (lastC C a).2]) ∧ Ext w w') :=
  (last_at (C := wkC C k) c hcx a h0 h1 w hO (wkC_ok C hok k) (wkC_shp C hs k) :)
/-- Each number is an object's. -/
theorem ids_few {M : Mem} (hg : goodB M = true) : M.ids.length ≤ 196608 := by
  obtain ⟨hs, hob, hr, hw, hfo, hid⟩ := good_parts hg
  obtain ⟨h1, h2⟩ := (idsB_iff _ _ _).1 hid
  have hl := len_sub (M.ids.map fun x => placeW x.1) (startsM M) (by
    unfold List.Nodup
    rw [List.pairwise_map]
    refine List.Pairwise.imp_of_mem (fun {p q} hp hq hpq e => ?_) h2
    obtain ⟨⟨p1, p2, p3, p4⟩, -⟩ := h1 p hp
    obtain ⟨⟨q1, q2, q3, q4⟩, -⟩ := h1 q hq
    apply hpq.1
    unfold placeW at e
    unfold kindW at p1 q1
    omega) (fun k hk => by
    obtain ⟨x, hx, rfl⟩ := List.mem_map.1 hk
    exact (inSt_iff _ _).1 (h1 x hx).1.2.2.1)
  have h3 : (startsM M).length = (objsAll M).length := by simp [startsM]
  have h4 := len_small hs
  obtain ⟨hb, b0, b1⟩ := hs.base
  have s1 := hs.h1; have s2 := hs.t2; have s3 := hs.p2; have s4 := hs.w; have s5 := hs.t1; have s6 := hs.p1
  have l1 := part_len M.W (M.base + M.top.toNat - M.base) M.base (M.base + M.top.toNat)
  have l2 := part_len M.W ((2 * M.half).toNat + M.oldTop.toNat - (2 * M.half).toNat) (2 * M.half).toNat ((2 * M.half).toNat + M.oldTop.toNat)
  have e1 : (partN M).1.length ≤ M.base + M.top.toNat - M.base := l1
  have e2 : (partO M).1.length ≤ (2 * M.half).toNat + M.oldTop.toNat - (2 * M.half).toNat := l2
  have e3 : (objsAll M).length = (partN M).1.length + (partO M).1.length := by unfold objsAll; rw [List.length_append]
  rw [List.length_map] at hl
  omega
/-- The numbers, so many of them looked at. -/
def idsM (C : Col) (l : List (Int × Int)) : List (Int × Int) := l.filterMap fun x => if (lastC C x.1).2 then some ((lastC C x.1).1, x.2) else none
theorem idsM_snoc (C : Col) (l : List (Int × Int)) (k : Nat) (hk : k < l.length) : idsM C (l.take (k + 1)) = if (lastC C l[k].1).2 then idsM C (l.take k) ++ [((lastC C l[k].1).1, l[k].2)] else idsM C (l.take k) := by
  unfold idsM
  rw [List.take_add_one, List.getElem?_eq_getElem hk, List.filterMap_append]
  cases h : (lastC C l[k].1).2 <;> simp [h]
theorem idsM_len (C : Col) (l : List (Int × Int)) : (idsM C l).length ≤ l.length := List.length_filterMap_le _ _
theorem icells_snoc2 (v : List (Int × Int)) (x : Int × Int) : icells (v ++ [x]) = icells v ++ [Value.int .u64 x.1, Value.int .i64 x.2] := by simp [icells]
section
variable {w : World} {B b : Nat} {M : Mem} {S : Sls}
/-- The memory as Collect leaves it. -/
theorem coll_end (h : OMem w B b 140 M S) (a : Option Addr) (c : Nat) (l : List (Int × Int)) (ho : w.ownsRow B 140 2 (.slice a l.length c) l.length (icells l)) (hn : ∀ k, (Value.slice a l.length c).ownBlock = some k → ¬ OwnA b S k) (u t : Int) :
    OMem (((w.setCell ⟨b, 9, none⟩ (.slice a l.length c)).setCell ⟨b, 4, none⟩ (.int .i64 u)).setCell ⟨b, 5, none⟩ (.int .i64 t)) B b 140 { M with ids := l, used := u, top := t } { S with I := (a, c) } :=
  OMem.setTop (OMem.setUsed (h.putI a c l ho hn) u) t
theorem coll_keep (u1 u2 u3 : Value) : Keep (OwnA b S) w (((w.setCell ⟨b, 9, none⟩ u1).setCell ⟨b, 4, none⟩ u2).setCell ⟨b, 5, none⟩ u3) :=
  Keep.set_ (Keep.set_ (Keep.set_ (Keep.refl _ w) (p := ⟨b, 9, none⟩) (Or.inl (Or.inl rfl)) _) (p := ⟨b, 4, none⟩) (Or.inl (Or.inl rfl)) _) (p := ⟨b, 5, none⟩) (Or.inl (Or.inl rfl)) _
end
end Go.Proofs.YtelhoppfidibiaaGreatDoor
