/- The walk of Memory.Copy. -/
import Derived.Test.YtecbbbaafcoliaaDoorJCo10
import Derived.Deep.RegionHeld3
import Derived.Test.YtecbbbaafcoliaaDoorJCo06
import Derived.Laws.EntriesVeiled
import Derived.Deep.QuietTactic
import Derived.BigQuiet
import Derived.Test.YtecbbbaafcoliaaDoorJCo07
namespace Go.Proofs.YtecbbbaafcoliaaDoor
open Go.RowKit
set_option linter.unusedVariables false
set_option linter.unusedSimpArgs false

def CopyPost (w : World) (M : Mem) (e : Ending) (w' : World) : Prop :=
  ∃ b S, e = .returned (.pointer (some ⟨b, 0, none⟩)) ∧ OMem w' w.heap.size b 72 M S ∧ Ext w w'
def setAll (b : Nat) (w : World) : List Fld → World
  | [] => w
  | f :: fs => setAll b (w.setCell ⟨b, f.off, none⟩ f.val) fs
theorem OM.adds {B b : Nat} {nums : List (Nat × Int)} : ∀ (fs L : List Fld) (w : World), OM w B b nums L → (∀ f ∈ fs, ∃ x, w.cell? ⟨b, f.off, none⟩ = some x) →
    (∀ f ∈ fs, w.ownsRow B f.e f.size f.val f.n f.cs ∧ f.val.ownBlock ≠ some b) → (L ++ fs).Pairwise (fun f g => ∀ k, f.val.ownBlock = some k → g.val.ownBlock ≠ some k) →
    (nums.map (·.1) ++ (L ++ fs).map (·.off)).Nodup → OM (setAll b w fs) B b nums (L ++ fs)
  | [], L, w, h, _, _, _, _ => by simpa [setAll] using h
  | f :: fs, L, w, h, hc, hr, hp, hn => by
    have h1 := h.add f (hc f (by simp)) (hr f (by simp)).1 (hr f (by simp)).2 (fun g hg k hk => (List.pairwise_append.1 hp).2.2 g hg f (by simp) k hk) (fun hm => by
      rw [List.map_append, List.map_cons, ← List.append_assoc, List.nodup_append] at hn
      exact hn.2.2 _ hm _ (by simp) rfl)
    have hoff : ∀ g ∈ fs, f.off ≠ g.off := fun g hg e => by
      rw [List.map_append, List.map_cons, ← List.append_assoc, List.nodup_append] at hn
      exact (List.nodup_cons.1 hn.2.1).1 (by rw [e]; exact List.mem_map_of_mem hg)
    have h2 := OM.adds fs (L ++ [f]) _ h1 (fun g hg => by obtain ⟨x, hx⟩ := hc g (by simp [hg]); exact ⟨x, by rw [cell_set_off (hoff g hg)]; exact hx⟩)
      (fun g hg => ⟨own_set (hr g (by simp [hg])).1 (hr g (by simp [hg])).2 _, (hr g (by simp [hg])).2⟩) (by simpa using hp) (by simpa using hn)
    simpa [setAll] using h2
theorem row_in {w : World} {lo hi : Nat} {e : TypeId} {size : Nat} {a : Option Addr} {n c : Nat} {xs : List Value} (h : w.ownsRow lo e size (.slice a n c) n xs) (hw : w.heap.size ≤ hi) : ∀ k, (Value.slice a n c).ownBlock = some k → lo ≤ k ∧ k < hi := fun k hk => by
  have := h.lt k hk
  omega
theorem own_le {w w' : World} {B B' : Nat} {e : TypeId} {size : Nat} {v : Value} {n : Nat} {xs : List Value} (h : w.ownsRow B e size v n xs) (hB : B' ≤ B) (hx : Ext w w') : w'.ownsRow B' e size v n xs := by
  have hlt := h.lt
  obtain ⟨h1, h2⟩ := h
  refine ⟨h1, ?_⟩
  rcases h2 with h2 | ⟨g, cap, cur, hv, hg, hh, r⟩
  · exact Or.inl h2
  · refine Or.inr ⟨g, cap, cur, hv, by omega, ?_, r⟩
    rw [hx.block g (hlt g (by rw [hv]; rfl)).2]; exact hh
def boxO (M : Mem) (S : Sls) (t : TypeId) : Obj := .cells #[Value.int .i64 M.half, .int .i64 M.old, .int .i64 M.card, .slice S.W.1 M.W.length S.W.2, .int .i64 M.used, .int .i64 M.top, .int .i64 M.oldTop, .slice S.R.1 M.roots.length S.R.2, .slice S.K.1 M.weak.length S.K.2, .slice S.I.1 M.ids.length S.I.2, .slice S.C.1 M.cards.length S.C.2] t
theorem om_copy (w : World) (M : Mem) (S : Sls) (t : TypeId) :
    OM (w.alloc (boxO M S t)) w.heap.size w.heap.size (memNums M) [] ∧ ∀ j, j < 11 → ∃ x, (w.alloc (boxO M S t)).cell? ⟨w.heap.size, j, none⟩ = some x := by
  have hc : ∀ j v, (#[Value.int .i64 M.half, .int .i64 M.old, .int .i64 M.card, .slice S.W.1 M.W.length S.W.2, .int .i64 M.used, .int .i64 M.top, .int .i64 M.oldTop, .slice S.R.1 M.roots.length S.R.2, .slice S.K.1 M.weak.length S.K.2, .slice S.I.1 M.ids.length S.I.2, .slice S.C.1 M.cards.length S.C.2] : Array Value)[j]? = some v → (w.alloc (boxO M S t)).cell? ⟨w.heap.size, j, none⟩ = some v := fun j v hv => by
    unfold boxO
    rw [cell_of_row _ w.heap.size j _ t (0, 0) (heap_alloc_new w _)]; exact hv
  refine ⟨⟨Nat.le_refl _, ⟨_, t, heap_alloc_new w _⟩, fun p hp => ?_, fun f hf => by simp at hf, List.Pairwise.nil, by simp [memNums]⟩, fun j hj => ⟨_, hc j _ (Array.getElem?_eq_getElem (by simpa using hj))⟩⟩
  simp only [memNums, List.mem_cons, List.not_mem_nil, or_false] at hp
  rcases hp with rfl | rfl | rfl | rfl | rfl | rfl <;> exact hc _ _ rfl
set_option maxRecDepth 100000 in
set_option maxHeartbeats 8000000 in
theorem copy_walk (b : Nat) (M : Mem) (S : Sls) (w : World) (hM : RMem w b 0 M S) (hF : Few M) :
    Calls Tryd.prog 14 #[.pointer (some ⟨b, 0, none⟩)] w (CopyPost w M) := by
  have HM := Lib.hid hM
  have HF := Lib.hid hF
  have n0 := hM.half
  have n1 := hM.old
  have n2 := hM.card
  have n3 := hM.W
  have n4 := hM.used
  have n5 := hM.top
  have n6 := hM.oldTop
  have n7 := hM.roots
  have n8 := hM.weak
  have n9 := hM.ids
  have n10 := hM.cards
  simp only [Nat.zero_add] at n0 n1 n2 n3 n4 n5 n6 n7 n8 n9 n10
  have hlt := hM.lt
  clear hM hF
  go_enter Tryd.func14, Tryd.ntmps14
  go_wp2
  obtain ⟨hO0, hc0⟩ := om_copy w M S 39
  have HO0 := Lib.hid hO0
  have HC0 := Lib.hid hc0
  clear hO0 hc0
  refine named_world' (fun W0 hW0 => ?_)
  have hE0 : Ext w W0 := by rw [hW0]; exact (Ext.refl w).alloc_ _
  have hO1 : OM W0 w.heap.size w.heap.size (memNums M) [] := by rw [hW0]; exact HO0.out
  have hC1 : ∀ j, j < 11 → ∃ x, W0.cell? ⟨w.heap.size, j, none⟩ = some x := by rw [hW0]; exact HC0.out
  have HE0 := Lib.hid hE0
  have HO1 := Lib.hid hO1
  have HC1 := Lib.hid hC1
  have hz0 : w.heap.size < W0.heap.size := hO1.lt
  have m3 := hE0.cell_ n3
  have m7 := hE0.cell_ n7
  have m8 := hE0.cell_ n8
  have m9 := hE0.cell_ n9
  have m10 := hE0.cell_ n10
  clear hW0 hE0 hO1 hC1 HO0 HC0 n0 n1 n2 n3 n4 n5 n6 n7 n8 n9 n10
  generalize hbo : w.heap.size = bo at *
  refine wp_region_held_drew (S := fun W => W.cell? ⟨b, 3, none⟩ = some (.slice S.W.1 M.W.length S.W.2) ∧ W.cell? ⟨b, 7, none⟩ = some (.slice S.R.1 M.roots.length S.R.2) ∧ W.cell? ⟨b, 8, none⟩ = some (.slice S.K.1 M.weak.length S.K.2) ∧ W.cell? ⟨b, 9, none⟩ = some (.slice S.I.1 M.ids.length S.I.2) ∧ W.cell? ⟨b, 10, none⟩ = some (.slice S.C.1 M.cards.length S.C.2)) (by kernel_rfl) ?_ (fun hHeld => ?_)
  · exact ⟨m3, m7, m8, m9, m10⟩
  refine wpAnyH_take (i := 0) (oi := ⟨some 9, _, _, _, _, _⟩) (v := ?_) rfl (by kernel_rfl) (by kernel_rfl) (by kernel_rfl) (fun _ _ _ h => h) (Or.inl ⟨by rfl, ?_⟩) (by assumption) ?_
  rotate_left
  · (intro w hSw; (try dsimp only at hSw); go_simp; try with_reducible rfl)
  try simp only [Act.put, List.setIfInBounds_toArray, List.set_cons_zero, List.set_cons_succ]
  refine wpAnyH_take (i := 1) (oi := ⟨some 10, _, _, _, _, _⟩) (v := ?_) rfl (by kernel_rfl) (by kernel_rfl) (by kernel_rfl) (fun _ _ _ h => h) (Or.inl ⟨by rfl, ?_⟩) (by assumption) ?_
  rotate_left
  · (intro w hSw; (try dsimp only at hSw); go_simp; try with_reducible rfl)
  try simp only [Act.put, List.setIfInBounds_toArray, List.set_cons_zero, List.set_cons_succ]
  refine wpAnyH_take (i := 2) (oi := ⟨some 11, _, _, _, _, _⟩) (v := ?_) rfl (by kernel_rfl) (by kernel_rfl) (by kernel_rfl) (fun _ _ _ h => h) (Or.inl ⟨by rfl, ?_⟩) (by assumption) ?_
  rotate_left
  · (intro w hSw; (try dsimp only at hSw); go_simp; try with_reducible rfl)
  try simp only [Act.put, List.setIfInBounds_toArray, List.set_cons_zero, List.set_cons_succ]
  refine wpAnyH_take (i := 3) (oi := ⟨some 12, _, _, _, _, _⟩) (v := ?_) rfl (by kernel_rfl) (by kernel_rfl) (by kernel_rfl) (fun _ _ _ h => h) (Or.inl ⟨by rfl, ?_⟩) (by assumption) ?_
  rotate_left
  · (intro w hSw; (try dsimp only at hSw); go_simp; try with_reducible rfl)
  try simp only [Act.put, List.setIfInBounds_toArray, List.set_cons_zero, List.set_cons_succ]
  refine wpAnyH_take (i := 5) (oi := ⟨some 14, _, _, _, _, _⟩) (v := ?_) rfl (by kernel_rfl) (by kernel_rfl) (by kernel_rfl) (fun _ _ _ h => h) (Or.inl ⟨by rfl, ?_⟩) (by assumption) ?_
  rotate_left
  · (intro w hSw; (try dsimp only at hSw); go_simp; try with_reducible rfl)
  try simp only [Act.put, List.setIfInBounds_toArray, List.set_cons_zero, List.set_cons_succ]
  refine wpAnyH_take (i := 6) (oi := ⟨some 15, _, _, _, _, _⟩) (v := ?_) rfl (by kernel_rfl) (by kernel_rfl) (by kernel_rfl) (fun _ _ _ h => h) (Or.inl ⟨by rfl, ?_⟩) (by assumption) ?_
  rotate_left
  · (intro w hSw; (try dsimp only at hSw); go_simp; try with_reducible rfl)
  try simp only [Act.put, List.setIfInBounds_toArray, List.set_cons_zero, List.set_cons_succ]
  refine wpAnyH_take (i := 7) (oi := ⟨some 16, _, _, _, _, _⟩) (v := ?_) rfl (by kernel_rfl) (by kernel_rfl) (by kernel_rfl) (fun _ _ _ h => h) (Or.inl ⟨by rfl, ?_⟩) (by assumption) ?_
  rotate_left
  · (intro w hSw; (try dsimp only at hSw); go_simp; try with_reducible rfl)
  try simp only [Act.put, List.setIfInBounds_toArray, List.set_cons_zero, List.set_cons_succ]
  refine wpAnyH_take (i := 8) (oi := ⟨some 17, _, _, _, _, _⟩) (v := ?_) rfl (by kernel_rfl) (by kernel_rfl) (by kernel_rfl) (fun _ _ _ h => h) (Or.inl ⟨by rfl, ?_⟩) (by assumption) ?_
  rotate_left
  · (intro w hSw; (try dsimp only at hSw); go_simp; try with_reducible rfl)
  try simp only [Act.put, List.setIfInBounds_toArray, List.set_cons_zero, List.set_cons_succ]
  refine wpAnyH_take (i := 10) (oi := ⟨some 19, _, _, _, _, _⟩) (v := ?_) rfl (by kernel_rfl) (by kernel_rfl) (by kernel_rfl) (fun _ _ _ h => h) (Or.inl ⟨by rfl, ?_⟩) (by assumption) ?_
  rotate_left
  · (intro w hSw; (try dsimp only at hSw); go_simp; try with_reducible rfl)
  try simp only [Act.put, List.setIfInBounds_toArray, List.set_cons_zero, List.set_cons_succ]
  refine wpAnyH_take (i := 11) (oi := ⟨some 20, _, _, _, _, _⟩) (v := ?_) rfl (by kernel_rfl) (by kernel_rfl) (by kernel_rfl) (fun _ _ _ h => h) (Or.inl ⟨by rfl, ?_⟩) (by assumption) ?_
  rotate_left
  · (intro w hSw; (try dsimp only at hSw); go_simp; try with_reducible rfl)
  try simp only [Act.put, List.setIfInBounds_toArray, List.set_cons_zero, List.set_cons_succ]
  refine wpAnyH_take (i := 12) (oi := ⟨some 21, _, _, _, _, _⟩) (v := ?_) rfl (by kernel_rfl) (by kernel_rfl) (by kernel_rfl) (fun _ _ _ h => h) (Or.inl ⟨by rfl, ?_⟩) (by assumption) ?_
  rotate_left
  · (intro w hSw; (try dsimp only at hSw); go_simp; try with_reducible rfl)
  try simp only [Act.put, List.setIfInBounds_toArray, List.set_cons_zero, List.set_cons_succ]
  refine wpAnyH_take (i := 13) (oi := ⟨some 22, _, _, _, _, _⟩) (v := ?_) rfl (by kernel_rfl) (by kernel_rfl) (by kernel_rfl) (fun _ _ _ h => h) (Or.inl ⟨by rfl, ?_⟩) (by assumption) ?_
  rotate_left
  · (intro w hSw; (try dsimp only at hSw); go_simp; try with_reducible rfl)
  try simp only [Act.put, List.setIfInBounds_toArray, List.set_cons_zero, List.set_cons_succ]
  refine wpAnyH_take (i := 15) (oi := ⟨some 24, _, _, _, _, _⟩) (v := ?_) rfl (by kernel_rfl) (by kernel_rfl) (by kernel_rfl) (fun _ _ _ h => h) (Or.inl ⟨by rfl, ?_⟩) (by assumption) ?_
  rotate_left
  · (intro w hSw; (try dsimp only at hSw); go_simp; try with_reducible rfl)
  try simp only [Act.put, List.setIfInBounds_toArray, List.set_cons_zero, List.set_cons_succ]
  refine wpAnyH_take (i := 16) (oi := ⟨some 25, _, _, _, _, _⟩) (v := ?_) rfl (by kernel_rfl) (by kernel_rfl) (by kernel_rfl) (fun _ _ _ h => h) (Or.inl ⟨by rfl, ?_⟩) (by assumption) ?_
  rotate_left
  · (intro w hSw; (try dsimp only at hSw); go_simp; try with_reducible rfl)
  try simp only [Act.put, List.setIfInBounds_toArray, List.set_cons_zero, List.set_cons_succ]
  refine wpAnyH_take (i := 17) (oi := ⟨some 26, _, _, _, _, _⟩) (v := ?_) rfl (by kernel_rfl) (by kernel_rfl) (by kernel_rfl) (fun _ _ _ h => h) (Or.inl ⟨by rfl, ?_⟩) (by assumption) ?_
  rotate_left
  · (intro w hSw; (try dsimp only at hSw); go_simp; try with_reducible rfl)
  try simp only [Act.put, List.setIfInBounds_toArray, List.set_cons_zero, List.set_cons_succ]
  refine wpAnyH_take (i := 18) (oi := ⟨some 27, _, _, _, _, _⟩) (v := ?_) rfl (by kernel_rfl) (by kernel_rfl) (by kernel_rfl) (fun _ _ _ h => h) (Or.inl ⟨by rfl, ?_⟩) (by assumption) ?_
  rotate_left
  · (intro w hSw; (try dsimp only at hSw); go_simp; try with_reducible rfl)
  try simp only [Act.put, List.setIfInBounds_toArray, List.set_cons_zero, List.set_cons_succ]
  refine wpAnyH_take (i := 20) (oi := ⟨some 29, _, _, _, _, _⟩) (v := ?_) rfl (by kernel_rfl) (by kernel_rfl) (by kernel_rfl) (fun _ _ _ h => h) (Or.inl ⟨by rfl, ?_⟩) (by assumption) ?_
  rotate_left
  · (intro w hSw; (try dsimp only at hSw); go_simp; try with_reducible rfl)
  try simp only [Act.put, List.setIfInBounds_toArray, List.set_cons_zero, List.set_cons_succ]
  refine wpAnyH_take (i := 21) (oi := ⟨some 30, _, _, _, _, _⟩) (v := ?_) rfl (by kernel_rfl) (by kernel_rfl) (by kernel_rfl) (fun _ _ _ h => h) (Or.inl ⟨by rfl, ?_⟩) (by assumption) ?_
  rotate_left
  · (intro w hSw; (try dsimp only at hSw); go_simp; try with_reducible rfl)
  try simp only [Act.put, List.setIfInBounds_toArray, List.set_cons_zero, List.set_cons_succ]
  refine wpAnyH_take (i := 22) (oi := ⟨some 31, _, _, _, _, _⟩) (v := ?_) rfl (by kernel_rfl) (by kernel_rfl) (by kernel_rfl) (fun _ _ _ h => h) (Or.inl ⟨by rfl, ?_⟩) (by assumption) ?_
  rotate_left
  · (intro w hSw; (try dsimp only at hSw); go_simp; try with_reducible rfl)
  try simp only [Act.put, List.setIfInBounds_toArray, List.set_cons_zero, List.set_cons_succ]
  refine wpAnyH_take (i := 23) (oi := ⟨some 32, _, _, _, _, _⟩) (v := ?_) rfl (by kernel_rfl) (by kernel_rfl) (by kernel_rfl) (fun _ _ _ h => h) (Or.inl ⟨by rfl, ?_⟩) (by assumption) ?_
  rotate_left
  · (intro w hSw; (try dsimp only at hSw); go_simp; try with_reducible rfl)
  try simp only [Act.put, List.setIfInBounds_toArray, List.set_cons_zero, List.set_cons_succ]
  refine wpAnyH_ready (rs := [4]) (by kernel_rfl) (by simp) ?_
  refine AllReadyH.cons (o := ⟨some 13, _, _, _, _, _⟩) rfl (fun K hK => ?_) AllReadyH.nil
  go_simp
  refine (cloneU_walk _ _ _ (wcells M.W) _ HM.out.nilW HM.out.capW (wcells_len _) (HM.out.ext (Ext.trans_ HE0.out (by repeat (first | exact Ext.refl _ | (refine Ext.drew_ ?_) | (refine Ext.drewN_ ?_ _))))).rW (wcells_one _) HF.out.W).mono ?_
  rintro e w1 ⟨a1, c1, rfl, ho, hx⟩
  have HR1 := Lib.hid ho
  have HX1 : Hid (Ext W0 w1) := Ext.trans_ (by repeat (first | exact Ext.refl _ | (refine Ext.drew_ ?_) | (refine Ext.drewN_ ?_ _))) hx
  have HA1 : Hid (Ext W0 w1) := HX1.out
  clear ho hx
  refine hK.out _ _ ?_ (fun hHeld => ?_)
  · (try dsimp only); exact ⟨Ext.cell_ (w := W0) HA1.out m3, Ext.cell_ (w := W0) HA1.out m7, Ext.cell_ (w := W0) HA1.out m8, Ext.cell_ (w := W0) HA1.out m9, Ext.cell_ (w := W0) HA1.out m10⟩
  clear hK K
  try simp only [Act.put, List.setIfInBounds_toArray, List.set_cons_zero, List.set_cons_succ]
  refine wpAnyH_ready (rs := [9]) (by kernel_rfl) (by simp) ?_
  refine AllReadyH.cons (o := ⟨some 18, _, _, _, _, _⟩) rfl (fun K hK => ?_) AllReadyH.nil
  go_simp
  refine (cloneU_walk _ _ _ (wcells M.roots) _ HM.out.nilR HM.out.capR (wcells_len _) (HM.out.ext (Ext.trans_ HE0.out (by repeat (first | exact HA1.out | exact Ext.refl _ | (refine Ext.drew_ ?_) | (refine Ext.drewN_ ?_ _))))).rR (wcells_one _) HF.out.R).mono ?_
  rintro e w2 ⟨a2, c2, rfl, ho, hx⟩
  have HR2 := Lib.hid ho
  have HX2 : Hid (Ext w1 w2) := Ext.trans_ (by repeat (first | exact Ext.refl _ | (refine Ext.drew_ ?_) | (refine Ext.drewN_ ?_ _))) hx
  have HA2 : Hid (Ext W0 w2) := Ext.trans_ HA1.out HX2.out
  clear ho hx
  refine hK.out _ _ ?_ (fun hHeld => ?_)
  · (try dsimp only); exact ⟨Ext.cell_ (w := W0) HA2.out m3, Ext.cell_ (w := W0) HA2.out m7, Ext.cell_ (w := W0) HA2.out m8, Ext.cell_ (w := W0) HA2.out m9, Ext.cell_ (w := W0) HA2.out m10⟩
  clear hK K
  try simp only [Act.put, List.setIfInBounds_toArray, List.set_cons_zero, List.set_cons_succ]
  refine wpAnyH_ready (rs := [14]) (by kernel_rfl) (by simp) ?_
  refine AllReadyH.cons (o := ⟨some 23, _, _, _, _, _⟩) rfl (fun K hK => ?_) AllReadyH.nil
  go_simp
  refine (cloneU_walk _ _ _ (wcells M.weak) _ HM.out.nilK HM.out.capK (wcells_len _) (HM.out.ext (Ext.trans_ HE0.out (by repeat (first | exact HA2.out | exact Ext.refl _ | (refine Ext.drew_ ?_) | (refine Ext.drewN_ ?_ _))))).rK (wcells_one _) HF.out.K).mono ?_
  rintro e w3 ⟨a3, c3, rfl, ho, hx⟩
  have HR3 := Lib.hid ho
  have HX3 : Hid (Ext w2 w3) := Ext.trans_ (by repeat (first | exact Ext.refl _ | (refine Ext.drew_ ?_) | (refine Ext.drewN_ ?_ _))) hx
  have HA3 : Hid (Ext W0 w3) := Ext.trans_ HA2.out HX3.out
  clear ho hx
  refine hK.out _ _ ?_ (fun hHeld => ?_)
  · (try dsimp only); exact ⟨Ext.cell_ (w := W0) HA3.out m3, Ext.cell_ (w := W0) HA3.out m7, Ext.cell_ (w := W0) HA3.out m8, Ext.cell_ (w := W0) HA3.out m9, Ext.cell_ (w := W0) HA3.out m10⟩
  clear hK K
  try simp only [Act.put, List.setIfInBounds_toArray, List.set_cons_zero, List.set_cons_succ]
  refine wpAnyH_ready (rs := [19]) (by kernel_rfl) (by simp) ?_
  refine AllReadyH.cons (o := ⟨some 28, _, _, _, _, _⟩) rfl (fun K hK => ?_) AllReadyH.nil
  go_simp
  refine (cloneI_walk _ _ _ (icells M.ids) _ HM.out.nilI HM.out.capI (icells_len _) (HM.out.ext (Ext.trans_ HE0.out (by repeat (first | exact HA3.out | exact Ext.refl _ | (refine Ext.drew_ ?_) | (refine Ext.drewN_ ?_ _))))).rI (icells_one _) HF.out.I).mono ?_
  rintro e w4 ⟨a4, c4, rfl, ho, hx⟩
  have HR4 := Lib.hid ho
  have HX4 : Hid (Ext w3 w4) := Ext.trans_ (by repeat (first | exact Ext.refl _ | (refine Ext.drew_ ?_) | (refine Ext.drewN_ ?_ _))) hx
  have HA4 : Hid (Ext W0 w4) := Ext.trans_ HA3.out HX4.out
  clear ho hx
  refine hK.out _ _ ?_ (fun hHeld => ?_)
  · (try dsimp only); exact ⟨Ext.cell_ (w := W0) HA4.out m3, Ext.cell_ (w := W0) HA4.out m7, Ext.cell_ (w := W0) HA4.out m8, Ext.cell_ (w := W0) HA4.out m9, Ext.cell_ (w := W0) HA4.out m10⟩
  clear hK K
  try simp only [Act.put, List.setIfInBounds_toArray, List.set_cons_zero, List.set_cons_succ]
  refine wpAnyH_ready (rs := [24]) (by kernel_rfl) (by simp) ?_
  refine AllReadyH.cons (o := ⟨some 33, _, _, _, _, _⟩) rfl (fun K hK => ?_) AllReadyH.nil
  go_simp
  refine (cloneB_walk _ _ _ (bcells M.cards) _ HM.out.nilC HM.out.capC (bcells_len _) (HM.out.ext (Ext.trans_ HE0.out (by repeat (first | exact HA4.out | exact Ext.refl _ | (refine Ext.drew_ ?_) | (refine Ext.drewN_ ?_ _))))).rC (bcells_one _) HF.out.C).mono ?_
  rintro e w5 ⟨a5, c5, rfl, ho, hx⟩
  have HR5 := Lib.hid ho
  have HX5 : Hid (Ext w4 w5) := Ext.trans_ (by repeat (first | exact Ext.refl _ | (refine Ext.drew_ ?_) | (refine Ext.drewN_ ?_ _))) hx
  have HA5 : Hid (Ext W0 w5) := Ext.trans_ HA4.out HX5.out
  clear ho hx
  refine hK.out _ _ ?_ (fun hHeld => ?_)
  · (try dsimp only); exact ⟨Ext.cell_ (w := W0) HA5.out m3, Ext.cell_ (w := W0) HA5.out m7, Ext.cell_ (w := W0) HA5.out m8, Ext.cell_ (w := W0) HA5.out m9, Ext.cell_ (w := W0) HA5.out m10⟩
  clear hK K
  try simp only [Act.put, List.setIfInBounds_toArray, List.set_cons_zero, List.set_cons_succ]
  have hO5 : OM w5 bo bo (memNums M) [] := HO1.out.ext HA5.out
  obtain ⟨x3, q3⟩ := HC1.out 3 (by decide)
  obtain ⟨x7, q7⟩ := HC1.out 7 (by decide)
  obtain ⟨x8, q8⟩ := HC1.out 8 (by decide)
  obtain ⟨x9, q9⟩ := HC1.out 9 (by decide)
  obtain ⟨x10, q10⟩ := HC1.out 10 (by decide)
  have e3 := HA5.out.cell_ q3
  have e7 := HA5.out.cell_ q7
  have e8 := HA5.out.cell_ q8
  have e9 := HA5.out.cell_ q9
  have e10 := HA5.out.cell_ q10
  have z3 := hO5.frozen 3
  have z7 := hO5.frozen 7
  have z8 := hO5.frozen 8
  have z9 := hO5.frozen 9
  have z10 := hO5.frozen 10
  have g3 := HA5.out.cell_ m3
  have g7 := HA5.out.cell_ m7
  have g8 := HA5.out.cell_ m8
  have g9 := HA5.out.cell_ m9
  have g10 := HA5.out.cell_ m10
  have HO5 := Lib.hid hO5
  clear q3 q7 q8 q9 q10 hO5 m3 m7 m8 m9 m10
  refine wpAnyH_take (i := 25) (oi := ⟨some 34, _, _, _, _, _⟩) (v := ?_) rfl (by kernel_rfl) (by kernel_rfl) (by kernel_rfl) (fun _ _ _ h => h) (Or.inl ⟨by rfl, ?_⟩) (by assumption) ?_
  rotate_left
  · (intro w hSw; (try dsimp only at hSw); go_simp; try with_reducible rfl)
  try simp only [Act.put, List.setIfInBounds_toArray, List.set_cons_zero, List.set_cons_succ]
  refine wpAnyH_ready (rs := [26]) (by kernel_rfl) (by simp) ?_
  refine AllReadyH.cons (o := ⟨none, _, _, _, _, _⟩) rfl (fun K hK => ?_) AllReadyH.nil
  go_simp
  skip
  refine hK.out _ _ ?_ (fun hHeld => ?_)
  · (try dsimp only); exact ⟨by (repeat rw [World.cell?_setCell_far _ _ _ _ (by simp; omega)]); exact g3, by (repeat rw [World.cell?_setCell_far _ _ _ _ (by simp; omega)]); exact g7, by (repeat rw [World.cell?_setCell_far _ _ _ _ (by simp; omega)]); exact g8, by (repeat rw [World.cell?_setCell_far _ _ _ _ (by simp; omega)]); exact g9, by (repeat rw [World.cell?_setCell_far _ _ _ _ (by simp; omega)]); exact g10⟩
  clear hK K
  try simp only [Act.put, List.setIfInBounds_toArray, List.set_cons_zero, List.set_cons_succ]
  refine wpAnyH_take (i := 27) (oi := ⟨some 35, _, _, _, _, _⟩) (v := ?_) rfl (by kernel_rfl) (by kernel_rfl) (by kernel_rfl) (fun _ _ _ h => h) (Or.inl ⟨by rfl, ?_⟩) (by assumption) ?_
  rotate_left
  · (intro w hSw; (try dsimp only at hSw); go_simp; try with_reducible rfl)
  try simp only [Act.put, List.setIfInBounds_toArray, List.set_cons_zero, List.set_cons_succ]
  refine wpAnyH_ready (rs := [28]) (by kernel_rfl) (by simp) ?_
  refine AllReadyH.cons (o := ⟨none, _, _, _, _, _⟩) rfl (fun K hK => ?_) AllReadyH.nil
  go_simp
  skip
  refine hK.out _ _ ?_ (fun hHeld => ?_)
  · (try dsimp only); exact ⟨by (repeat rw [World.cell?_setCell_far _ _ _ _ (by simp; omega)]); exact g3, by (repeat rw [World.cell?_setCell_far _ _ _ _ (by simp; omega)]); exact g7, by (repeat rw [World.cell?_setCell_far _ _ _ _ (by simp; omega)]); exact g8, by (repeat rw [World.cell?_setCell_far _ _ _ _ (by simp; omega)]); exact g9, by (repeat rw [World.cell?_setCell_far _ _ _ _ (by simp; omega)]); exact g10⟩
  clear hK K
  try simp only [Act.put, List.setIfInBounds_toArray, List.set_cons_zero, List.set_cons_succ]
  refine wpAnyH_take (i := 29) (oi := ⟨some 36, _, _, _, _, _⟩) (v := ?_) rfl (by kernel_rfl) (by kernel_rfl) (by kernel_rfl) (fun _ _ _ h => h) (Or.inl ⟨by rfl, ?_⟩) (by assumption) ?_
  rotate_left
  · (intro w hSw; (try dsimp only at hSw); go_simp; try with_reducible rfl)
  try simp only [Act.put, List.setIfInBounds_toArray, List.set_cons_zero, List.set_cons_succ]
  refine wpAnyH_ready (rs := [30]) (by kernel_rfl) (by simp) ?_
  refine AllReadyH.cons (o := ⟨none, _, _, _, _, _⟩) rfl (fun K hK => ?_) AllReadyH.nil
  go_simp
  skip
  refine hK.out _ _ ?_ (fun hHeld => ?_)
  · (try dsimp only); exact ⟨by (repeat rw [World.cell?_setCell_far _ _ _ _ (by simp; omega)]); exact g3, by (repeat rw [World.cell?_setCell_far _ _ _ _ (by simp; omega)]); exact g7, by (repeat rw [World.cell?_setCell_far _ _ _ _ (by simp; omega)]); exact g8, by (repeat rw [World.cell?_setCell_far _ _ _ _ (by simp; omega)]); exact g9, by (repeat rw [World.cell?_setCell_far _ _ _ _ (by simp; omega)]); exact g10⟩
  clear hK K
  try simp only [Act.put, List.setIfInBounds_toArray, List.set_cons_zero, List.set_cons_succ]
  refine wpAnyH_take (i := 31) (oi := ⟨some 37, _, _, _, _, _⟩) (v := ?_) rfl (by kernel_rfl) (by kernel_rfl) (by kernel_rfl) (fun _ _ _ h => h) (Or.inl ⟨by rfl, ?_⟩) (by assumption) ?_
  rotate_left
  · (intro w hSw; (try dsimp only at hSw); go_simp; try with_reducible rfl)
  try simp only [Act.put, List.setIfInBounds_toArray, List.set_cons_zero, List.set_cons_succ]
  refine wpAnyH_ready (rs := [32]) (by kernel_rfl) (by simp) ?_
  refine AllReadyH.cons (o := ⟨none, _, _, _, _, _⟩) rfl (fun K hK => ?_) AllReadyH.nil
  go_simp
  skip
  refine hK.out _ _ ?_ (fun hHeld => ?_)
  · (try dsimp only); exact ⟨by (repeat rw [World.cell?_setCell_far _ _ _ _ (by simp; omega)]); exact g3, by (repeat rw [World.cell?_setCell_far _ _ _ _ (by simp; omega)]); exact g7, by (repeat rw [World.cell?_setCell_far _ _ _ _ (by simp; omega)]); exact g8, by (repeat rw [World.cell?_setCell_far _ _ _ _ (by simp; omega)]); exact g9, by (repeat rw [World.cell?_setCell_far _ _ _ _ (by simp; omega)]); exact g10⟩
  clear hK K
  try simp only [Act.put, List.setIfInBounds_toArray, List.set_cons_zero, List.set_cons_succ]
  refine wpAnyH_take (i := 33) (oi := ⟨some 38, _, _, _, _, _⟩) (v := ?_) rfl (by kernel_rfl) (by kernel_rfl) (by kernel_rfl) (fun _ _ _ h => h) (Or.inl ⟨by rfl, ?_⟩) (by assumption) ?_
  rotate_left
  · (intro w hSw; (try dsimp only at hSw); go_simp; try with_reducible rfl)
  try simp only [Act.put, List.setIfInBounds_toArray, List.set_cons_zero, List.set_cons_succ]
  refine wpAnyH_ready (rs := [34]) (by kernel_rfl) (by simp) ?_
  refine AllReadyH.cons (o := ⟨none, _, _, _, _, _⟩) rfl (fun K hK => ?_) AllReadyH.nil
  go_simp
  skip
  refine hK.out _ _ ?_ (fun hHeld => ?_)
  · (try dsimp only); exact ⟨by (repeat rw [World.cell?_setCell_far _ _ _ _ (by simp; omega)]); exact g3, by (repeat rw [World.cell?_setCell_far _ _ _ _ (by simp; omega)]); exact g7, by (repeat rw [World.cell?_setCell_far _ _ _ _ (by simp; omega)]); exact g8, by (repeat rw [World.cell?_setCell_far _ _ _ _ (by simp; omega)]); exact g9, by (repeat rw [World.cell?_setCell_far _ _ _ _ (by simp; omega)]); exact g10⟩
  clear hK K
  try simp only [Act.put, List.setIfInBounds_toArray, List.set_cons_zero, List.set_cons_succ]
  refine wpAnyH_done (by kernel_rfl) ?_ _
  clear hHeld
  go_wp2
  go_ret
  have s1 := HX1.out.size
  have s2 := HX2.out.size
  have s3 := HX3.out.size
  have s4 := HX4.out.size
  have s5 := HX5.out.size
  have b1 := row_in (hi := w1.heap.size) HR1.out (Nat.le_refl _)
  have b2 := row_in (hi := w2.heap.size) HR2.out (Nat.le_refl _)
  have b3 := row_in (hi := w3.heap.size) HR3.out (Nat.le_refl _)
  have b4 := row_in (hi := w4.heap.size) HR4.out (Nat.le_refl _)
  have b5 := row_in (hi := w5.heap.size) HR5.out (Nat.le_refl _)
  have b0 : W0.drew.heap.size = W0.heap.size := rfl
  have t4 : Ext w4 w5 := HX5.out
  have t3 : Ext w3 w5 := Ext.trans_ HX4.out t4
  have t2 : Ext w2 w5 := Ext.trans_ HX3.out t3
  have t1 : Ext w1 w5 := Ext.trans_ HX2.out t2
  have r1 := own_le (B' := bo) HR1.out (by omega) t1
  have r2 := own_le (B' := bo) HR2.out (by omega) t2
  have r3 := own_le (B' := bo) HR3.out (by omega) t3
  have r4 := own_le (B' := bo) HR4.out (by omega) t4
  have r5 := own_le (B' := bo) HR5.out (by omega) (Ext.refl w5)
  have hfin := OM.adds [⟨3, 30, 1, a1, M.W.length, c1, wcells M.W⟩, ⟨7, 30, 1, a2, M.roots.length, c2, wcells M.roots⟩, ⟨8, 30, 1, a3, M.weak.length, c3, wcells M.weak⟩, ⟨9, 72, 2, a4, M.ids.length, c4, icells M.ids⟩, ⟨10, 4, 1, a5, M.cards.length, c5, bcells M.cards⟩] [] w5 HO5.out (fun f hf => by
      simp only [List.mem_cons, List.not_mem_nil, or_false] at hf
      rcases hf with rfl | rfl | rfl | rfl | rfl
      · exact ⟨_, e3⟩
      · exact ⟨_, e7⟩
      · exact ⟨_, e8⟩
      · exact ⟨_, e9⟩
      · exact ⟨_, e10⟩) (fun f hf => by
      simp only [List.mem_cons, List.not_mem_nil, or_false] at hf
      rcases hf with rfl | rfl | rfl | rfl | rfl
      · exact ⟨r1, fun e => by have := b1 _ e; omega⟩
      · exact ⟨r2, fun e => by have := b2 _ e; omega⟩
      · exact ⟨r3, fun e => by have := b3 _ e; omega⟩
      · exact ⟨r4, fun e => by have := b4 _ e; omega⟩
      · exact ⟨r5, fun e => by have := b5 _ e; omega⟩) (by
      simp only [List.nil_append, List.pairwise_cons, List.mem_cons, List.not_mem_nil, or_false, forall_eq_or_imp, forall_eq]
      refine ⟨⟨?_, ?_, ?_, ?_⟩, ⟨?_, ?_, ?_⟩, ⟨?_, ?_⟩, ?_, fun _ h => h.elim, List.Pairwise.nil⟩
      · intro k hk e; have := b1 k hk; have := b2 k e; omega
      · intro k hk e; have := b1 k hk; have := b3 k e; omega
      · intro k hk e; have := b1 k hk; have := b4 k e; omega
      · intro k hk e; have := b1 k hk; have := b5 k e; omega
      · intro k hk e; have := b2 k hk; have := b3 k e; omega
      · intro k hk e; have := b2 k hk; have := b4 k e; omega
      · intro k hk e; have := b2 k hk; have := b5 k e; omega
      · intro k hk e; have := b3 k hk; have := b4 k e; omega
      · intro k hk e; have := b3 k hk; have := b5 k e; omega
      · intro k hk e; have := b4 k hk; have := b5 k e; omega) (by simp [memNums])
  exact ⟨bo, ⟨(a1, c1), (a2, c2), (a3, c3), (a4, c4), (a5, c5)⟩, rfl, hbo ▸ hfin, Ext.set_ (Ext.set_ (Ext.set_ (Ext.set_ (Ext.set_ (Ext.trans_ HE0.out HA5.out) (by simp; omega) _) (by simp; omega) _) (by simp; omega) _) (by simp; omega) _) (by simp; omega) _⟩
end Go.Proofs.YtecbbbaafcoliaaDoor
/- The walks of Memory.starts and of its closure; of Alloc's closure. -/
namespace Go.Proofs.YtecbbbaafcoliaaDoor
open Go.RowKit
set_option linter.unusedVariables false
set_option linter.unusedSimpArgs false

theorem s1_enters (args : Array Value) (w : World) : (callFunc 84 args).run Tryd.prog w = .ok (.enter 84 args) w :=
  enters_of Tryd.func84 (by kernel_rfl) rfl args w
theorem s1_any (x : Ob) (bm b3 : Nat) (st : List Int) (w : World) (hm : SMap w bm .i64 st) (hne3 : b3 ≠ bm) (h3 : w.cell? ⟨b3, 0, none⟩ = some (.map (some bm))) :
    Calls Tryd.prog 84 #[.int .i64 (x.a : Int), headV x.w, .pointer (some ⟨b3, 0, none⟩)] w fun e w' =>
      e = .returned (.bool true) ∧ SMap w' bm .i64 (st ++ [(x.a : Int)]) ∧ Keep (· = bm) w w' := by
  have hlt3 := cell_lt h3
  have hltm := hm.lt
  simp only at hlt3
  obtain ⟨w1, hrun, hm2, hbut⟩ := smap_put (hm.ext ((Ext.refl w).alloc_ (.cells #[.int .i64 (hKind x.w), .int .i64 (hAge x.w), .int .i64 (hMark x.w), .int .i64 (hSize x.w)] 88))) (x.a : Int)
  have hk1 := Keep.of_but hbut
  have hkk : Keep (· = bm) w w1 := ((Keep.refl _ w).alloc_ _).trans hk1
  have HM2 := Lib.hid hm2
  have HK := Lib.hid hkk
  clear hm hm2 hbut hk1 hkk
  unfold headV
  go_enter Tryd.func84, Tryd.ntmps84
  go_wp2
  go_ret
  exact ⟨rfl, HM2.out, HK.out⟩
def SAll (bm : Nat) (w : World) (M : Mem) (e : Ending) (w' : World) : Prop :=
  e = .returned (.bool (objsB M fun _ => true)) ∧ (objsB M (fun _ => true) = true → SMap w' bm .i64 (startsM M)) ∧ Keep (· = bm) w w'
theorem objects_s (w0 : World) (b o : Nat) (M : Mem) (S : Sls) (hs : Shp M) (hM : RMem w0 b o M S) (gb gs : Addr) (hG : GBound w0 gb) (hS : GShape w0 gs) (bm b3 : Nat) (w : World) (hE : Ext w0 w)
    (hbm : w0.heap.size ≤ bm) (hne3 : b3 ≠ bm) (hm : SMap w bm .i64 []) (h3 : w.cell? ⟨b3, 0, none⟩ = some (.map (some bm))) :
    Calls Tryd.prog 54 #[.pointer (some ⟨b, o, none⟩), .func (.func 84) #[] #[.pointer (some ⟨b3, 0, none⟩)]] w (SAll bm w M) := by
  refine (objects_walk w0 b o M S hs hM gb gs hG hS (· = bm) _ #[.pointer (some ⟨b3, 0, none⟩)] s1_enters (fun _ => true) (fun v w' => SMap w' bm .i64 (v.map fun (y : Ob) => (y.a : Int))) w hE
    (fun k hk => by subst hk; exact ⟨hbm, hm.lt⟩) (fun v w1 w2 hI hx => hI.ext hx) (fun v x w' hI hK hx => ?_) hm).mono ?_
  · have := s1_any x bm b3 (v.map fun (y : Ob) => (y.a : Int)) w' hI hne3 (hK.cell hne3 h3)
    rw [← ats_snoc] at this
    exact this
  · rintro e w' ⟨v, he, hI, hv, hK⟩
    exact ⟨he, fun h => by rw [hv h] at hI; exact hI, hK⟩
def StartsPost (w : World) (M : Mem) (e : Ending) (w' : World) : Prop :=
  ∃ bm, e = .returned (.map (some bm)) ∧ (objsB M (fun _ => true) = true → SMap w' bm .i64 (startsM M)) ∧ Ext w w'
set_option maxRecDepth 100000 in
set_option maxHeartbeats 4000000 in
theorem starts_any (b o : Nat) (M : Mem) (S : Sls) (hs : Shp M) (gb gs : Addr) (w : World) (hM : RMem w b o M S) (hG : GBound w gb) (hS : GShape w gs) :
    Calls Tryd.prog 39 #[.pointer (some ⟨b, o, none⟩)] w (StartsPost w M) := by
  have hmm := @run_makeMap Tryd.prog
  have HM := Lib.hid hM
  have HG := Lib.hid hG
  have HS := Lib.hid hS
  clear hM hG hS
  go_enter Tryd.func39, Tryd.ntmps39
  go_wp2_with fail
  refine (objects_s w b o M S hs HM.out gb gs HG.out HS.out w.heap.size (w.heap.size + 1) _ ?_ (Nat.le_refl _) (by omega) ?_ ?_).mono ?_
  · repeat (first | exact Ext.refl _ | (refine Ext.set_ ?_ (by simp) _) | (refine Ext.alloc_ ?_ _) | (refine Ext.drewN_ ?_ _))
  · exact SMap.made_ (w := w) _ rfl (by repeat (first | exact Ext.refl _ | (refine Ext.set_ ?_ (by simp) _) | (refine Ext.alloc_ ?_ _)))
  · simp [go_sem]
  rintro e w1 ⟨rfl, hsm, hK⟩
  have hx : Ext w w1 := Ext.keep (by repeat (first | exact Ext.refl _ | (refine Ext.set_ ?_ (by simp) _) | (refine Ext.alloc_ ?_ _) | (refine Ext.drewN_ ?_ _))) hK (fun i hi => by omega)
  have f3 : w1.cell? ⟨w.heap.size + 1, 0, none⟩ = some (.map (some w.heap.size)) := hK.cell (by simp) (by simp [go_sem])
  have HX := Lib.hid hx
  have HSM := Lib.hid hsm
  clear hx hsm hK
  go_wp2
  go_ret
  exact ⟨_, rfl, HSM.out, HX.out⟩
theorem a1_enters (args : Array Value) (w : World) : (callFunc 42 args).run Tryd.prog w = .ok (.enter 42 args) w :=
  enters_of Tryd.func42 (by kernel_rfl) rfl args w
theorem a1_any (a : Int) (h0 : 0 ≤ a) (h1 : a ≤ 18446744073709551615) (bm b3 : Nat) (st : List Int) (w : World) (hm : SMap w bm .i64 st) (h3 : w.cell? ⟨b3, 0, none⟩ = some (.map (some bm))) :
    Calls Tryd.prog 42 #[.int .u64 a, .pointer (some ⟨b3, 0, none⟩)] w fun e w' => e = .returned (.bool (!fldB st a)) ∧ w' = w := by
  go_enter Tryd.func42, Tryd.ntmps42
  go_wp2_with (go_at_call 43; refine (field_any a h0 h1 bm st _ hm).mono ?_; rintro e w' ⟨rfl, rfl⟩)
  go_ret
  exact ⟨rfl, rfl⟩
end Go.Proofs.YtecbbbaafcoliaaDoor
/- The walk of Memory.Fresh. -/
namespace Go.Proofs.YtecbbbaafcoliaaDoor
open Go.RowKit
set_option linter.unusedVariables false
set_option linter.unusedSimpArgs false

/-- A memory with a header more. -/
def freshM (M : Mem) (kind size : Int) : Mem := { M with W := M.W.set (M.base + M.top.toNat) (headW kind 0 0 size), top := M.top + 1 + size }
def FreshPost (w : World) (B b : Nat) (M : Mem) (S : Sls) (kind size : Int) (e : Ending) (w' : World) : Prop :=
  e = .returned (.int .i64 ((M.base + M.top.toNat : Nat) : Int)) ∧ OMem w' B b 72 (freshM M kind size) S ∧ Keep (OwnL b S) w w'
set_option maxRecDepth 100000 in
set_option maxHeartbeats 4000000 in
theorem fresh_obj (B b : Nat) (M : Mem) (S : Sls) (w : World) (hO : OMem w B b 72 M S) (hok : M.Ok) (hs : Shp M) (kind size : Int) (hk : 0 ≤ kind ∧ kind ≤ 255) (hz : 0 ≤ size ∧ size ≤ 4096) (hr : M.top + 1 + size ≤ M.half) :
    Calls Tryd.prog 44 #[.pointer (some ⟨b, 0, none⟩), .int .i64 kind, .int .i64 size] w (FreshPost w B b M S kind size) := by
  obtain ⟨hb, b0, b1⟩ := hs.base
  have s1 := hs.h1
  have s2 := hs.h2
  have s3 := hs.t1
  have s4 := hs.t2
  have s7 := hs.o1
  have s8 := hs.w
  obtain ⟨k0, k1⟩ := hk
  obtain ⟨z0, z1⟩ := hz
  obtain ⟨t, ht⟩ : ∃ t : Nat, M.top = t := ⟨M.top.toNat, by omega⟩
  obtain ⟨at_, hat⟩ : ∃ a : Nat, a = M.base + t := ⟨_, rfl⟩
  have hlen : at_ < M.W.length := by omega
  obtain ⟨g, hg, hgB, hgl, hgf, hgc, cur, hgh, -, -⟩ := own_block hO.fW (by omega)
  have hM := hO.mem hok
  have c3 := hM.W
  have c5 := hM.top
  simp only [Nat.zero_add] at c3 c5
  rw [hg] at c3
  rw [ht] at c5
  have hgb : g ≠ b := fun e => (hO.fld ⟨3, 30, 1, S.W.1, M.W.length, S.W.2, wcells M.W⟩ (by simp [memFlds])).2.2 (by simp [Fld.val, hg, Value.ownBlock, e])
  have hcell : w.cell? ⟨g, at_, none⟩ = some (.int .u64 (M.W.getD at_ 0)) := by
    have := hM.rW
    rw [hg] at this
    simpa using this.at_ (wcells_at M.W at_ hlen)
  have hfb := hO.frozen 5
  have hfg := hgf at_
  have hlb := OM.lt hO
  have e1 : IntKind.i64.wrap ((M.base : Int) + (t : Int)) = (at_ : Int) := by rw [IntWalk.i64_in _ (by omega)]; omega
  have e2 : IntKind.i64.wrap (1 + size) = 1 + size := IntWalk.i64_in _ (by omega)
  have e3 : IntKind.i64.wrap ((t : Int) + (1 + size)) = (t : Int) + 1 + size := by rw [IntWalk.i64_in _ (by omega)]; omega
  have HS := Lib.hid hs
  have HM := Lib.hid hM
  have HO := Lib.hid hO
  have HG := Lib.hid hg
  have HT := Lib.hid ht
  have HAT := Lib.hid hat
  have E1 := Lib.hid e1
  clear hs hM hO hg ht hat hb hgh hgf s8 e1
  go_enter Tryd.func44, Tryd.ntmps44
  go_wp2
  refine wp_region_held_drew (S := fun W => W.cell? ⟨b, 5, none⟩ = some (.int .i64 (t : Int))) (by kernel_rfl) ?_ (fun hHeld => ?_)
  · exact c5
  refine wpAnyH_take (i := 0) (oi := ⟨some 8, _, _, _, _, _⟩) (v := ?_) rfl (by kernel_rfl) (by kernel_rfl) (by kernel_rfl) (fun _ _ _ h => h) (Or.inl ⟨by rfl, ?_⟩) (by assumption) ?_
  rotate_left
  · (intro w hSw; (try dsimp only at hSw); go_simp; try with_reducible rfl)
  try simp only [Act.put, List.setIfInBounds_toArray, List.set_cons_zero, List.set_cons_succ]
  refine wpAnyH_take (i := 2) (oi := ⟨some 10, _, _, _, _, _⟩) (v := ?_) rfl (by kernel_rfl) (by kernel_rfl) (by kernel_rfl) (fun _ _ _ h => h) (Or.inl ⟨by rfl, ?_⟩) (by assumption) ?_
  rotate_left
  · (intro w hSw; (try dsimp only at hSw); go_simp; try with_reducible rfl)
  try simp only [Act.put, List.setIfInBounds_toArray, List.set_cons_zero, List.set_cons_succ]
  refine wpAnyH_take (i := 3) (oi := ⟨some 11, _, _, _, _, _⟩) (v := ?_) rfl (by kernel_rfl) (by kernel_rfl) (by kernel_rfl) (fun _ _ _ h => h) (Or.inl ⟨by rfl, ?_⟩) (by assumption) ?_
  rotate_left
  · (intro w hSw; (try dsimp only at hSw); go_simp; try with_reducible rfl)
  try simp only [Act.put, List.setIfInBounds_toArray, List.set_cons_zero, List.set_cons_succ]
  refine wpAnyH_take (i := 4) (oi := ⟨some 12, _, _, _, _, _⟩) (v := ?_) rfl (by kernel_rfl) (by kernel_rfl) (by kernel_rfl) (fun _ _ _ h => h) (Or.inl ⟨by rfl, ?_⟩) (by assumption) ?_
  rotate_left
  · (intro w hSw; (try dsimp only at hSw); go_simp; try with_reducible rfl)
  try simp only [Act.put, List.setIfInBounds_toArray, List.set_cons_zero, List.set_cons_succ]
  refine wpAnyH_take (i := 5) (oi := ⟨some 13, _, _, _, _, _⟩) (v := ?_) rfl (by kernel_rfl) (by kernel_rfl) (by kernel_rfl) (fun _ _ _ h => h) (Or.inl ⟨by rfl, ?_⟩) (by assumption) ?_
  rotate_left
  · (intro w hSw; (try dsimp only at hSw); go_simp; try with_reducible rfl)
  try simp only [Act.put, List.setIfInBounds_toArray, List.set_cons_zero, List.set_cons_succ]
  refine wpAnyH_ready (rs := [1]) (by kernel_rfl) (by simp) ?_
  refine AllReadyH.cons (o := ⟨some 9, _, _, _, _, _⟩) rfl (fun K hK => ?_) AllReadyH.nil
  go_simp
  refine (base_any _ b 0 M S (HM.out.ext (by repeat (first | exact Ext.refl _ | (refine Ext.drew_ ?_) | (refine Ext.drewN_ ?_ _)))) HS.out).mono ?_
  rintro e w' ⟨rfl, n, rfl⟩
  refine hK.out _ _ ?_ (fun hHeld => ?_)
  · (try dsimp only); exact c5
  clear hK K
  try simp only [Act.put, List.setIfInBounds_toArray, List.set_cons_zero, List.set_cons_succ]
  refine wpAnyH_take (i := 6) (oi := ⟨some 14, _, _, _, _, _⟩) (v := .int .i64 (at_ : Int)) rfl (by kernel_rfl) (by kernel_rfl) (by kernel_rfl) (fun _ _ _ h => h) (Or.inl ⟨by rfl, ?_⟩) (by assumption) ?_
  · (intro w hSw; go_simp; rw [E1.out])
  try simp only [Act.put, List.setIfInBounds_toArray, List.set_cons_zero, List.set_cons_succ]
  refine wpAnyH_take (i := 7) (oi := ⟨some 7, _, _, _, _, _⟩) (v := ?_) rfl (by kernel_rfl) (by kernel_rfl) (by kernel_rfl) (fun _ _ _ h => h) (Or.inl ⟨by rfl, ?_⟩) (by assumption) ?_
  rotate_left
  · (intro w hSw; (try dsimp only at hSw); go_simp; try with_reducible rfl)
  try simp only [Act.put, List.setIfInBounds_toArray, List.set_cons_zero, List.set_cons_succ]
  refine wpAnyH_done (by kernel_rfl) ?_ _
  go_wp2
  refine named_world' (fun W1 hW1 => ?_)
  have hE1 : Ext w W1 := by rw [hW1]; repeat (first | exact Ext.refl _ | (refine Ext.drew_ ?_) | (refine Ext.drewN_ ?_ _))
  have HE1 := Lib.hid hE1
  have d3 := hE1.cell_ c3
  clear hW1 hE1 hHeld
  refine wp_region_held_drew (S := fun W => W.cell? ⟨b, 3, none⟩ = some (.slice (some ⟨g, 0, none⟩) M.W.length S.W.2)) (by kernel_rfl) ?_ (fun hHeld => ?_)
  · exact d3
  refine wpAnyH_take (i := 0) (oi := ⟨some 15, _, _, _, _, _⟩) (v := ?_) rfl (by kernel_rfl) (by kernel_rfl) (by kernel_rfl) (fun _ _ _ h => h) (Or.inl ⟨by rfl, ?_⟩) (by assumption) ?_
  rotate_left
  · (intro w hSw; (try dsimp only at hSw); go_simp; try with_reducible rfl)
  try simp only [Act.put, List.setIfInBounds_toArray, List.set_cons_zero, List.set_cons_succ]
  refine wpAnyH_take (i := 1) (oi := ⟨some 16, _, _, _, _, _⟩) (v := ?_) rfl (by kernel_rfl) (by kernel_rfl) (by kernel_rfl) (fun _ _ _ h => h) (Or.inl ⟨by rfl, ?_⟩) (by assumption) ?_
  rotate_left
  · (intro w hSw; (try dsimp only at hSw); go_simp; try with_reducible rfl)
  try simp only [Act.put, List.setIfInBounds_toArray, List.set_cons_zero, List.set_cons_succ]
  refine wpAnyH_take (i := 2) (oi := ⟨some 17, _, _, _, _, _⟩) (v := ?_) rfl (by kernel_rfl) (by kernel_rfl) (by kernel_rfl) (fun _ _ _ h => h) (Or.inl ⟨by rfl, ?_⟩) (by assumption) ?_
  rotate_left
  · (intro w hSw; (try dsimp only at hSw); go_simp; try with_reducible rfl)
  try simp only [Act.put, List.setIfInBounds_toArray, List.set_cons_zero, List.set_cons_succ]
  refine wpAnyH_take (i := 3) (oi := ⟨some 18, _, _, _, _, _⟩) (v := ?_) rfl (by kernel_rfl) (by kernel_rfl) (by kernel_rfl) (fun _ _ _ h => h) (Or.inl ⟨by rfl, ?_⟩) (by assumption) ?_
  rotate_left
  · (intro w hSw; (try dsimp only at hSw); go_simp; try with_reducible rfl)
  try simp only [Act.put, List.setIfInBounds_toArray, List.set_cons_zero, List.set_cons_succ]
  refine wpAnyH_take (i := 4) (oi := ⟨some 19, _, _, _, _, _⟩) (v := ?_) rfl (by kernel_rfl) (by kernel_rfl) (by kernel_rfl) (fun _ _ _ h => h) (Or.inl ⟨by rfl, ?_⟩) (by assumption) ?_
  rotate_left
  · (intro w hSw; (try dsimp only at hSw); go_simp; try with_reducible rfl)
  try simp only [Act.put, List.setIfInBounds_toArray, List.set_cons_zero, List.set_cons_succ]
  refine wpAnyH_take (i := 5) (oi := ⟨some 20, _, _, _, _, _⟩) (v := ?_) rfl (by kernel_rfl) (by kernel_rfl) (by kernel_rfl) (fun _ _ _ h => h) (Or.inl ⟨by rfl, ?_⟩) (by assumption) ?_
  rotate_left
  · (intro w hSw; (try dsimp only at hSw); go_simp; try with_reducible rfl)
  try simp only [Act.put, List.setIfInBounds_toArray, List.set_cons_zero, List.set_cons_succ]
  refine wpAnyH_take (i := 6) (oi := ⟨some 21, _, _, _, _, _⟩) (v := ?_) rfl (by kernel_rfl) (by kernel_rfl) (by kernel_rfl) (fun _ _ _ h => h) (Or.inl ⟨by rfl, ?_⟩) (by assumption) ?_
  rotate_left
  · (intro w hSw; (try dsimp only at hSw); go_simp; try with_reducible rfl)
  try simp only [Act.put, List.setIfInBounds_toArray, List.set_cons_zero, List.set_cons_succ]
  refine wpAnyH_take (i := 7) (oi := ⟨some 22, _, _, _, _, _⟩) (v := ?_) rfl (by kernel_rfl) (by kernel_rfl) (by kernel_rfl) (fun _ _ _ h => h) (Or.inl ⟨by rfl, ?_⟩) (by assumption) ?_
  rotate_left
  · (intro w hSw; (try dsimp only at hSw); go_simp; try with_reducible rfl)
  try simp only [Act.put, List.setIfInBounds_toArray, List.set_cons_zero, List.set_cons_succ]
  refine wpAnyH_ready (rs := [8]) (by kernel_rfl) (by simp) ?_
  refine AllReadyH.cons (o := ⟨some 23, _, _, _, _, _⟩) rfl (fun K hK => ?_) AllReadyH.nil
  go_simp
  refine (headWord_any kind 0 0 size ⟨k0, k1⟩ (by omega) (by omega) ⟨z0, z1⟩ _).mono ?_
  rintro e w2 ⟨rfl, hq⟩
  have HE2 : Hid (Ext w w2) := Ext.trans_ (by first | exact HE1.out | exact HE1.out.drew_ | exact HE1.out.drewN_ _) hq
  clear hq
  have g3 := HE2.out.cell_ c3
  have gc := HE2.out.cell_ hcell
  have gf : w2.frozen? ⟨g, at_, none⟩ = false := by rw [HE2.out.three.2.1 _ _ hgl]; exact hfg
  refine hK.out _ _ ?_ (fun hHeld => ?_)
  · (try dsimp only); exact g3
  clear hK K
  try simp only [Act.put, List.setIfInBounds_toArray, List.set_cons_zero, List.set_cons_succ]
  refine wpAnyH_take (i := 9) (oi := ⟨some 24, _, _, _, _, _⟩) (v := ?_) rfl (by kernel_rfl) (by kernel_rfl) (by kernel_rfl) (fun _ _ _ h => h) (Or.inl ⟨by rfl, ?_⟩) (by assumption) ?_
  rotate_left
  · (intro w hSw; (try dsimp only at hSw); go_simp; try with_reducible rfl)
  try simp only [Act.put, List.setIfInBounds_toArray, List.set_cons_zero, List.set_cons_succ]
  refine wpAnyH_ready (rs := [10]) (by kernel_rfl) (by simp) ?_
  refine AllReadyH.cons (o := ⟨none, _, _, _, _, _⟩) rfl (fun K hK => ?_) AllReadyH.nil
  go_simp
  skip
  refine hK.out _ _ ?_ (fun hHeld => ?_)
  · (try dsimp only); rw [World.cell?_setCell_far _ _ _ _ (by simp; omega)]; exact g3
  clear hK K
  try simp only [Act.put, List.setIfInBounds_toArray, List.set_cons_zero, List.set_cons_succ]
  refine wpAnyH_done (by kernel_rfl) ?_ _
  clear hHeld
  generalize hW4 : w2.setCell ⟨g, at_, none⟩ (Value.int .u64 (headW kind 0 0 size)) = W4
  have hO4 : OMem W4 B b 72 { M with W := M.W.set at_ (headW kind 0 0 size) } S := by
    rw [← hW4]; exact OMem.setW (OM.ext HO.out HE2.out) HG.out at_ hlen _
  have hK4 : Keep (OwnL b S) w W4 := by
    rw [← hW4]; exact (Keep.of_ext HE2.out).set_ (Or.inl (Or.inr (Or.inl HG.out))) _
  have n5 : W4.cell? ⟨b, 5, none⟩ = some (.int .i64 (t : Int)) := by
    have := hO4.num (5, M.top) (by simp [memNums])
    rw [HT.out] at this
    exact this
  have f5 := hO4.frozen 5
  have l5 := OM.lt hO4
  have HO4 := Lib.hid hO4
  have HK4 := Lib.hid hK4
  clear hO4 hK4 g3 gc gf hW4
  go_wp2
  go_ret
  have hfin := OMem.setTop HO4.out ((t : Int) + 1 + size)
  have hT := HT.out
  have hA : M.base + M.top.toNat = at_ := by rw [HAT.out, hT]; rfl
  refine ⟨by rw [hA]; rfl, ?_, HK4.out.set_ (Or.inl (Or.inl rfl)) _⟩
  unfold freshM
  rw [hA, hT]
  exact hfin
end Go.Proofs.YtecbbbaafcoliaaDoor
/- The walk of Memory.Alloc. -/
namespace Go.Proofs.YtecbbbaafcoliaaDoor
open Go.RowKit
set_option linter.unusedVariables false
set_option linter.unusedSimpArgs false

/-- An error by its number. -/
def errC (E : Nat → Addr) (c : Int) : Value := if c = 0 then .nilIface else errV (E (c - 1).toNat)
theorem chkV_errC (M : Mem) (E : Nat → Addr) : chkV M (E 2) (E 4) = errC E (chk M) := by
  unfold chkV chk errC
  cases goodB M <;> cases cardsM M <;> rfl
theorem check_c (b o : Nat) (M : Mem) (S : Sls) (E : Nat → Addr) (w : World) (hM : RMem w b o M S) (hE : G3 E w) :
    Calls Tryd.prog 24 #[.pointer (some ⟨b, o, none⟩)] w fun e w' => e = .returned (errC E (chk M)) ∧ Ext w w' := by
  rw [← chkV_errC]
  exact check_any b o M S (E 1) (E 2) (E 4) w hM hE.bound hE.shape hE.place
theorem errC_pos (E : Nat → Addr) (c : Int) (h : c ≠ 0) : errC E c = errV (E (c - 1).toNat) := if_neg h
theorem chk_zero {M : Mem} (h : chk M = 0) : goodB M = true ∧ cardsM M = true := by
  unfold chk at h
  cases h1 : goodB M <;> cases h2 : cardsM M <;> simp [h1, h2] at h ⊢
theorem good_parts {M : Mem} (h : goodB M = true) : Shp M ∧ objsB M (okHd M) = true ∧ fieldsB (startsM M) M.roots = true ∧ fieldsB (startsM M) M.weak = true ∧ (objsAll M).all (okFld M (startsM M)) = true ∧ idsB (startsM M) [] M.ids = true := by
  simp only [goodB, Bool.and_eq_true] at h
  obtain ⟨⟨⟨⟨⟨h1, h2⟩, h3⟩, h4⟩, h5⟩, h6⟩ := h
  exact ⟨shp_of h1, h2, h3, h4, h5, h6⟩
theorem objs_true {M : Mem} (h : objsB M (okHd M) = true) : objsB M (fun _ => true) = true := by
  rw [objsB_all h]; simp
/-- What Alloc answers: an error's number. -/
def allocC (M : Mem) (kind : Int) (fs : List Int) : Int :=
  if chk M ≠ 0 then chk M else if kind < 0 ∨ 255 < kind ∨ 4096 < fs.length then 2 else if rawB kind = false ∧ fieldsB (startsM M) fs = false then 3 else if M.half < M.top + 1 + fs.length then 6 else 0
def allocM (M : Mem) (kind : Int) (fs : List Int) : Mem := { M with W := splice (M.W.set (M.base + M.top.toNat) (headW kind 0 0 fs.length)) (M.base + M.top.toNat + 1) fs, top := M.top + 1 + fs.length }
def ANo (w : World) (E : Nat → Addr) (c : Int) (e : Ending) (w' : World) : Prop := e = .returned (.tuple #[.int .u64 0, errC E c]) ∧ Ext w w'
set_option maxRecDepth 100000 in
set_option maxHeartbeats 4000000 in
theorem alloc_chk (b o : Nat) (M : Mem) (S : Sls) (E : Nat → Addr) (kind : Int) (fa : Option Addr) (fn fc : Nat) (w : World) (hM : RMem w b o M S) (hE : G4 E w) (h : chk M ≠ 0) :
    Calls Tryd.prog 17 #[.pointer (some ⟨b, o, none⟩), .int .i64 kind, .slice fa fn fc] w (ANo w E (chk M)) := by
  obtain ⟨a, ha⟩ : ∃ a, errC E (chk M) = errV a := ⟨_, errC_pos E _ h⟩
  have HC := Lib.hid ha
  clear ha
  have HM := Lib.hid hM
  have HE := Lib.hid hE
  clear hM hE h
  go_enter Tryd.func17, Tryd.ntmps17
  go_wp2_with (go_at_call 24; refine (check_c b o M S E w HM.out HE.out.toG3).mono ?_; rintro e w1 ⟨he, hq⟩; rw [HC.out] at he; subst he; have HX1 := Lib.hid hq; clear hq)
  go_ret2
  exact ⟨by rw [HC.out]; rfl, HX1.out⟩
set_option maxRecDepth 100000 in
set_option maxHeartbeats 4000000 in
theorem alloc_bound (b o : Nat) (M : Mem) (S : Sls) (E : Nat → Addr) (kind : Int) (fa : Option Addr) (fn fc : Nat) (w : World) (hM : RMem w b o M S) (hE : G4 E w) (h : chk M = 0) (hfn : fn ≤ 9223372036854775807)
    (hb : kind < 0 ∨ (¬ kind < 0 ∧ 255 < kind) ∨ (¬ kind < 0 ∧ ¬ 255 < kind ∧ (4096 : Int) < (fn : Int))) :
    Calls Tryd.prog 17 #[.pointer (some ⟨b, o, none⟩), .int .i64 kind, .slice fa fn fc] w (ANo w E 2) := by
  have HC : Hid (errC E (chk M) = .nilIface) := by rw [Hid, h]; rfl
  have HM := Lib.hid hM
  have HE := Lib.hid hE
  clear hM hE h
  rcases hb with h1 | ⟨h1, h2⟩ | ⟨h1, h2, h3⟩
  all_goals
    go_enter Tryd.func17, Tryd.ntmps17
    go_wp2_with (go_at_call 24; refine (check_c b o M S E w HM.out HE.out.toG3).mono ?_; rintro e w1 ⟨he, hq⟩; rw [HC.out] at he; subst he; have HX1 := Lib.hid hq; clear hq)
    have k1 := (HE.out.ext HX1.out).bound
    go_region
    go_wp2
    go_ret2
    exact ⟨rfl, by repeat (first | exact HX1.out | (refine Ext.drew_ ?_) | (refine Ext.drewN_ ?_ _))⟩
theorem any_not (st fs : List Int) : (fs.any fun x => !fldB st x) = !fieldsB st fs := by rw [← fieldsB_any]; simp
set_option maxRecDepth 100000 in
set_option maxHeartbeats 4000000 in
theorem alloc_shape (b o : Nat) (M : Mem) (S : Sls) (E : Nat → Addr) (kind : Int) (fa : Option Addr) (fs : List Int) (fc : Nat) (w : World) (hM : RMem w b o M S) (hE : G4 E w) (h : chk M = 0)
    (h1 : ¬ kind < 0) (h2 : ¬ 255 < kind) (h3 : ¬ (4096 : Int) < (fs.length : Int)) (hr : rawB kind = false) (hf : fieldsB (startsM M) fs = false) (hR : RSl w fa (wcells fs)) (hfb : ∀ x ∈ fs, 0 ≤ x ∧ x ≤ 18446744073709551615) :
    Calls Tryd.prog 17 #[.pointer (some ⟨b, o, none⟩), .int .i64 kind, .slice fa fs.length fc] w (ANo w E 3) := by
  obtain ⟨hs, ho, -⟩ := good_parts (chk_zero h).1
  have hany : (fs.any fun x => !fldB (startsM M) x) = true := by rw [any_not, hf]; rfl
  have HC : Hid (errC E (chk M) = .nilIface) := by rw [Hid, h]; rfl
  have HM := Lib.hid hM
  have HE := Lib.hid hE
  have HS := Lib.hid hs
  have HOB := Lib.hid (objs_true ho)
  have HR := Lib.hid hr
  have HANY := Lib.hid hany
  have HFR := Lib.hid hR
  have HFB := Lib.hid hfb
  have HFL : Hid (fs.length ≤ 9223372036854775807) := by unfold Hid; omega
  clear hM hE h hs ho hr hf hany hR hfb
  go_enter Tryd.func17, Tryd.ntmps17
  go_wp2_with (first
    | (go_at_call 24; refine (check_c b o M S E w HM.out HE.out.toG3).mono ?_; rintro e w1 ⟨he, hq⟩; rw [HC.out] at he; subst he; have HX1 := Lib.hid hq; clear hq)
    | (go_at_call 39; refine (starts_any b o M S HS.out (E 1) (E 2) _ (HM.out.ext HX1.out) (HE.out.ext HX1.out).bound (HE.out.ext HX1.out).shape).mono ?_; rintro e w2 ⟨bm, rfl, hsm, hq⟩; have HX2 : Hid (Ext w w2) := Ext.trans_ HX1.out hq; have HSM := Lib.hid (hsm HOB.out); clear hq hsm)
    | (go_at_call 40; refine (raw_any _ _).mono ?_; rintro e w' ⟨he, rfl⟩; rw [HR.out] at he; subst he)
    | (go_at_call 41; refine (containsF_walk (fun x => !fldB (startsM M) x) _ _ a1_enters fa fc fs _ HFL.out ?_ HFB.out ?_).mono ?_; (exact HFR.out.ext (by (repeat (first | exact HX2.out | (refine Ext.set_ ?_ (by have := HX2.out.size; simp; omega) _) | (refine Ext.alloc_ ?_ _) | (refine Ext.drewN_ ?_ _))))); (intro W x hx h0 h1; refine (a1_any x h0 h1 bm w2.heap.size (startsM M) W (HSM.out.ext (Ext.trans_ (by repeat (first | exact Ext.refl _ | (refine Ext.set_ ?_ (by simp) _) | (refine Ext.alloc_ ?_ _))) hx)) (hx.cell_ (by simp [go_sem]))).mono ?_; rintro e w' ⟨rfl, rfl⟩; exact ⟨rfl, hx⟩); rintro e w3 ⟨he, hq⟩; rw [HANY.out] at he; subst he; have HX3 : Hid (Ext w w3) := Ext.trans_ (by (repeat (first | exact HX2.out | (refine Ext.set_ ?_ (by have := HX2.out.size; simp; omega) _) | (refine Ext.alloc_ ?_ _) | (refine Ext.drewN_ ?_ _)))) hq; clear hq))
  have k1 := (HE.out.ext HX3.out).shape
  go_region
  go_wp2
  go_ret2
  exact ⟨rfl, by repeat (first | exact HX3.out | (refine Ext.drew_ ?_) | (refine Ext.drewN_ ?_ _))⟩
theorem fields_any (st fs : List Int) (h : fieldsB st fs = true) : (fs.any fun x => !fldB st x) = false := by rw [any_not, h]; rfl
set_option maxRecDepth 100000 in
set_option maxHeartbeats 4000000 in
theorem alloc_full (b o : Nat) (M : Mem) (S : Sls) (E : Nat → Addr) (kind : Int) (fa : Option Addr) (fs : List Int) (fc : Nat) (w : World) (hM : RMem w b o M S) (hE : G4 E w) (h : chk M = 0)
    (h1 : ¬ kind < 0) (h2 : ¬ 255 < kind) (h3 : ¬ (4096 : Int) < (fs.length : Int)) (hf : rawB kind = true ∨ fieldsB (startsM M) fs = true) (hR : RSl w fa (wcells fs)) (hfb : ∀ x ∈ fs, 0 ≤ x ∧ x ≤ 18446744073709551615)
    (hfull : M.half < M.top + 1 + (fs.length : Int)) :
    Calls Tryd.prog 17 #[.pointer (some ⟨b, o, none⟩), .int .i64 kind, .slice fa fs.length fc] w (ANo w E 6) := by
  obtain ⟨hs, ho, -⟩ := good_parts (chk_zero h).1
  have HC : Hid (errC E (chk M) = .nilIface) := by rw [Hid, h]; rfl
  have s3 := hs.t1
  have s4 := hs.t2
  have s2 := hs.h2
  have e1 : IntKind.i64.wrap (M.top + 1) = M.top + 1 := IntWalk.i64_in _ (by omega)
  have e2 : IntKind.i64.wrap (M.top + 1 + (fs.length : Int)) = M.top + 1 + (fs.length : Int) := IntWalk.i64_in _ (by omega)
  have HM := Lib.hid hM
  have HE := Lib.hid hE
  have HS := Lib.hid hs
  have HOB := Lib.hid (objs_true ho)
  have HFR := Lib.hid hR
  have HFB := Lib.hid hfb
  have HFL : Hid (fs.length ≤ 9223372036854775807) := by unfold Hid; omega
  clear hM hE h hs ho hR hfb
  cases hr : rawB kind with
  | true =>
    have HR := Lib.hid hr
    clear hf hr
    go_enter Tryd.func17, Tryd.ntmps17
    go_wp2_with (first
      | (go_at_call 24; refine (check_c b o M S E w HM.out HE.out.toG3).mono ?_; rintro e w1 ⟨he, hq⟩; rw [HC.out] at he; subst he; have HX1 := Lib.hid hq; clear hq)
      | (go_at_call 39; refine (starts_any b o M S HS.out (E 1) (E 2) _ (HM.out.ext HX1.out) (HE.out.ext HX1.out).bound (HE.out.ext HX1.out).shape).mono ?_; rintro e w2 ⟨bm, rfl, hsm, hq⟩; have HX2 : Hid (Ext w w2) := Ext.trans_ HX1.out hq; have HSM := Lib.hid (hsm HOB.out); clear hq hsm)
      | (go_at_call 40; refine (raw_any _ _).mono ?_; rintro e w' ⟨he, rfl⟩; rw [HR.out] at he; subst he))
    refine named_world' (fun W3 hW3 => ?_)
    have hE3 : Ext w W3 := by rw [hW3]; (repeat (first | exact HX2.out | (refine Ext.set_ ?_ (by have := HX2.out.size; simp; omega) _) | (refine Ext.alloc_ ?_ _) | (refine Ext.drewN_ ?_ _)))
    have d5 := (HM.out.ext hE3).top
    have d0 := (HM.out.ext hE3).half
    have k1 := (HE.out.ext hE3).full
    have HX3 := Lib.hid hE3
    clear hW3 hE3
    go_region
    go_wp2
    go_region
    go_wp2
    go_ret2
    exact ⟨rfl, by repeat (first | exact HX3.out | (refine Ext.drew_ ?_) | (refine Ext.drewN_ ?_ _))⟩
  | false =>
    have hf' : fieldsB (startsM M) fs = true := by rcases hf with q | q; (rw [hr] at q; cases q); exact q
    have HANY := Lib.hid (fields_any _ _ hf')
    have HR := Lib.hid hr
    clear hf hr hf'
    go_enter Tryd.func17, Tryd.ntmps17
    go_wp2_with (first
      | (go_at_call 24; refine (check_c b o M S E w HM.out HE.out.toG3).mono ?_; rintro e w1 ⟨he, hq⟩; rw [HC.out] at he; subst he; have HX1 := Lib.hid hq; clear hq)
      | (go_at_call 39; refine (starts_any b o M S HS.out (E 1) (E 2) _ (HM.out.ext HX1.out) (HE.out.ext HX1.out).bound (HE.out.ext HX1.out).shape).mono ?_; rintro e w2 ⟨bm, rfl, hsm, hq⟩; have HX2 : Hid (Ext w w2) := Ext.trans_ HX1.out hq; have HSM := Lib.hid (hsm HOB.out); clear hq hsm)
      | (go_at_call 40; refine (raw_any _ _).mono ?_; rintro e w' ⟨he, rfl⟩; rw [HR.out] at he; subst he)
      | (go_at_call 41; refine (containsF_walk (fun x => !fldB (startsM M) x) _ _ a1_enters fa fc fs _ HFL.out ?_ HFB.out ?_).mono ?_; (exact HFR.out.ext (by (repeat (first | exact HX2.out | (refine Ext.set_ ?_ (by have := HX2.out.size; simp; omega) _) | (refine Ext.alloc_ ?_ _) | (refine Ext.drewN_ ?_ _))))); (intro W x hx h0 h1; refine (a1_any x h0 h1 bm w2.heap.size (startsM M) W (HSM.out.ext (Ext.trans_ (by repeat (first | exact Ext.refl _ | (refine Ext.set_ ?_ (by simp) _) | (refine Ext.alloc_ ?_ _))) hx)) (hx.cell_ (by simp [go_sem]))).mono ?_; rintro e w' ⟨rfl, rfl⟩; exact ⟨rfl, hx⟩); rintro e w3 ⟨he, hq⟩; rw [HANY.out] at he; subst he; have HX3 : Hid (Ext w w3) := Ext.trans_ (by (repeat (first | exact HX2.out | (refine Ext.set_ ?_ (by have := HX2.out.size; simp; omega) _) | (refine Ext.alloc_ ?_ _) | (refine Ext.drewN_ ?_ _)))) hq; clear hq))
    have d5 := (HM.out.ext HX3.out).top
    have d0 := (HM.out.ext HX3.out).half
    have k1 := (HE.out.ext HX3.out).full
    go_region
    go_wp2
    go_region
    go_wp2
    go_ret2
    exact ⟨rfl, by repeat (first | exact HX3.out | (refine Ext.drew_ ?_) | (refine Ext.drewN_ ?_ _))⟩
end Go.Proofs.YtecbbbaafcoliaaDoor
/- The walk of Memory.Alloc where it gives an object; whatever it answers. -/
namespace Go.Proofs.YtecbbbaafcoliaaDoor
open Go.RowKit
set_option linter.unusedVariables false
set_option linter.unusedSimpArgs false

theorem sizeF0 : (Tryd.prog.info? 30).map (·.size) = some 1 := by kernel_rfl
theorem run_tail {P : Program} {t e : TypeId} (ht : P.underlying t = some (.slice e)) (hz : ∀ w, (sizeOf e).run P w = .ok 1 w) (g len cap i : Nat) (x : Int) (hx : x = (i : Int)) (hi : i ≤ len) (hc : len ≤ cap) :
    ∃ A C, (∀ w' : World, (Instr.slice t (.slice (some ⟨g, 0, none⟩) len cap) (some (.int .i64 x)) none none).run P w' = .ok (.slice A (len - i) C) w') ∧ (i < cap → A = some ⟨g, i, none⟩) := by
  have he : P.elem t = e := by simp [Program.elem, ht]
  have ht' : P.underlying t = some (.slice (P.elem t)) := by rw [he]; exact ht
  refine ⟨if cap = i then some ⟨g, 0, none⟩ else some ⟨g, i, none⟩, cap - i, fun w' => ?_, fun h => by rw [if_neg (by omega)]⟩
  subst hx
  rw [run_slice_l w' t (some ⟨g, 0, none⟩) len cap ht' .i64 (i : Int) (by omega) (by omega), he, hz]
  simp [Result.andThen, sliced, Addr.add]
  split
  · rfl
  · split
    · rename_i h0; subst h0; simp
    · rfl
theorem wcells_splice (l fs : List Int) (off : Nat) : wcells (splice l off fs) = splice (wcells l) off (wcells fs) := by
  simp [wcells, splice, List.map_take, List.map_drop]
section
variable {w5 w6 : World} {B b : Nat} {M : Mem} {S : Sls} {kind size : Int} {g : Nat}
theorem fresh_n3 (h : OMem w5 B b 72 (freshM M kind size) S) (hg : S.W.1 = some ⟨g, 0, none⟩) : w5.cell? ⟨b, 3, none⟩ = some (.slice (some ⟨g, 0, none⟩) M.W.length S.W.2) := by
  have := (h.fld ⟨3, 30, 1, S.W.1, (freshM M kind size).W.length, S.W.2, wcells (freshM M kind size).W⟩ (by simp [memFlds])).1
  simp only [Fld.val, hg, freshM, List.length_set] at this
  exact this
theorem fresh_cur (h : OMem w5 B b 72 (freshM M kind size) S) (hg : S.W.1 = some ⟨g, 0, none⟩) {at_ : Nat} (hl : at_ < M.W.length) :
    ∃ cur : List Value, w5.heap[g]? = some (.cells cur.toArray 30 (0, 0)) ∧ M.W.length ≤ cur.length := by
  have hf := h.fW
  have e : (freshM M kind size).W.length = M.W.length := by simp [freshM]
  rw [e] at hf
  obtain ⟨g', hg', -, -, -, hc, cur, hh, hl', -⟩ := own_block hf (by omega)
  rw [hg] at hg'
  injection hg' with hg'
  injection hg' with hg'
  subst hg'
  exact ⟨cur, hh, by omega⟩
/-- What Alloc leaves where it gives an object. -/
def AYes (w : World) (B b : Nat) (M : Mem) (S : Sls) (kind : Int) (fs : List Int) (e : Ending) (w' : World) : Prop :=
  e = .returned (.tuple #[.int .u64 (addrW ((M.base + M.top.toNat : Nat) : Int)), .nilIface]) ∧ OMem w' B b 72 (allocM M kind fs) S ∧ Keep (OwnL b S) w w'
theorem alloc_fin {w : World} {fs : List Int} (h : OMem w5 B b 72 (freshM M kind (fs.length : Int)) S) (hk : Keep (OwnL b S) w w5) (hg : S.W.1 = some ⟨g, 0, none⟩) {at_ : Nat} (ha : M.base + M.top.toNat = at_) {cur : List Value}
    (hc : w5.heap[g]? = some (.cells cur.toArray 30 (0, 0)) ∧ M.W.length ≤ cur.length) (hb : But g w5 w6) (hw : w6.heap[g]? = some (.cells (splice cur (at_ + 1) (wcells fs)).toArray 30 (0, 0))) (hf : at_ + 1 + fs.length ≤ M.W.length) :
    AYes w B b M S kind fs (.returned (.tuple #[.int .u64 (addrW (at_ : Int)), .nilIface])) w6 := by
  have e : (freshM M kind (fs.length : Int)).W.length = M.W.length := by simp [freshM]
  have h1 := OMem.rowW h hg hb (splice (freshM M kind (fs.length : Int)).W (at_ + 1) fs) (by rw [length_splice]; omega)
    (by rw [wcells_splice]; exact own_splice h.fW hg hc.1 (at_ + 1) (wcells fs) (by rw [e]; simpa [wcells] using hf) hw)
  refine ⟨by rw [ha], ?_, hk.trans ((Keep.of_but hb).sub fun k hk => by subst hk; exact Or.inr (Or.inl hg))⟩
  unfold freshM at h1
  rw [ha] at h1
  unfold allocM
  rw [ha]
  exact h1
end
set_option maxRecDepth 100000 in
set_option maxHeartbeats 8000000 in
theorem alloc_yes (B b : Nat) (M : Mem) (S : Sls) (E : Nat → Addr) (kind : Int) (fa : Option Addr) (fs : List Int) (fc : Nat) (w : World) (hO : OMem w B b 72 M S) (hok : M.Ok) (hE : G4 E w) (h : chk M = 0)
    (h1 : ¬ kind < 0) (h2 : ¬ 255 < kind) (h3 : ¬ (4096 : Int) < (fs.length : Int)) (hf : rawB kind = true ∨ fieldsB (startsM M) fs = true) (hR : RSl w fa (wcells fs)) (hfb : ∀ x ∈ fs, 0 ≤ x ∧ x ≤ 18446744073709551615)
    (hno : ∀ x, fa = some x → ¬ OwnL b S x.block) (hfull : ¬ M.half < M.top + 1 + (fs.length : Int)) :
    Calls Tryd.prog 17 #[.pointer (some ⟨b, 0, none⟩), .int .i64 kind, .slice fa fs.length fc] w (AYes w B b M S kind fs) := by
  obtain ⟨hs, ho, -⟩ := good_parts (chk_zero h).1
  have HC : Hid (errC E (chk M) = .nilIface) := by rw [Hid, h]; rfl
  have hM := hO.mem hok
  have s3 := hs.t1
  have s4 := hs.t2
  have s2 := hs.h2
  have s7 := hs.o1
  have s8 := hs.w
  obtain ⟨hb, b0, b1⟩ := hs.base
  have e1 : IntKind.i64.wrap (M.top + 1) = M.top + 1 := IntWalk.i64_in _ (by omega)
  have e2 : IntKind.i64.wrap (M.top + 1 + (fs.length : Int)) = M.top + 1 + (fs.length : Int) := IntWalk.i64_in _ (by omega)
  obtain ⟨at_, hat⟩ : ∃ a : Nat, a = M.base + M.top.toNat := ⟨_, rfl⟩
  have hlen : at_ < M.W.length := by omega
  have hfit : at_ + 1 + fs.length ≤ M.W.length := by omega
  obtain ⟨g, hg, hgB, hgl, hgf, hgc, -⟩ := own_block hO.fW (by omega)
  obtain ⟨A, C, hsl, hA⟩ := run_tail (P := Tryd.prog) undU64 sizeU64 g M.W.length S.W.2 (at_ + 1) ((at_ : Int) + 1) (by omega) (by omega) hgc
  have e3 : IntKind.i64.wrap ((at_ : Int) + 1) = (at_ : Int) + 1 := IntWalk.i64_in _ (by omega)
  have HPOS : Hid (∀ W : World, RSl W fa (wcells fs) → 0 < (wcells fs).length → A = some ⟨g, at_ + 1, none⟩ ∧ ∃ ad, fa = some ad ∧ ∀ j v, (wcells fs)[j]? = some v → W.cell? (ad.add j) = some v) := fun W hW hp => by
    have hl : (wcells fs).length = fs.length := by simp [wcells]
    refine ⟨hA (by omega), ?_⟩
    obtain ⟨b', off, hfa, -⟩ := hW 0 _ (List.getElem?_eq_getElem hp)
    refine ⟨_, hfa, fun j v hv => ?_⟩
    obtain ⟨b2, off2, hfa2, hcell⟩ := hW j v hv
    rw [hfa] at hfa2
    injection hfa2 with hfa2
    injection hfa2 with q1 q2
    subst q1 q2
    by_cases e : j = 0
    · subst e; simpa [Addr.add] using hcell
    · simpa [Addr.add, e] using hcell
  have HMIN : Hid ((wcells fs).length = Nat.min fs.length (M.W.length - (at_ + 1))) := by
    have hl : (wcells fs).length = fs.length := by simp [wcells]
    unfold Hid; rw [hl]; exact (Nat.min_eq_left (by omega)).symm
  have HFIT : Hid (∀ cur : List Value, M.W.length ≤ cur.length → at_ + 1 + (wcells fs).length ≤ cur.length) := fun cur hc => by
    have hl : (wcells fs).length = fs.length := by simp [wcells]
    omega
  have HFITN := Lib.hid hfit
  have HATN : Hid (M.base + M.top.toNat = at_) := hat.symm
  have HAT : Hid (((M.base + M.top.toNat : Nat) : Int) = (at_ : Int)) := by unfold Hid; rw [hat]
  have HM := Lib.hid hM
  have HO := Lib.hid hO
  have HOK := Lib.hid hok
  have HG := Lib.hid hg
  have HE := Lib.hid hE
  have HS := Lib.hid hs
  have HOB := Lib.hid (objs_true ho)
  have HFR := Lib.hid hR
  have HFB := Lib.hid hfb
  have HNO := Lib.hid hno
  have HFL : Hid (fs.length ≤ 9223372036854775807) := by unfold Hid; omega
  clear hM hE h hs ho hR hfb hO hok hg hno hat hA hgf hb s8 hfit
  cases hr : rawB kind with
  | true =>
    have HR := Lib.hid hr
    clear hf hr
    go_enter Tryd.func17, Tryd.ntmps17
    go_wp2_with (first
      | (go_at_call 24; refine (check_c b 0 M S E w HM.out HE.out.toG3).mono ?_; rintro e w1 ⟨he, hq⟩; rw [HC.out] at he; subst he; have HX1 := Lib.hid hq; clear hq)
      | (go_at_call 39; refine (starts_any b 0 M S HS.out (E 1) (E 2) _ (HM.out.ext HX1.out) (HE.out.ext HX1.out).bound (HE.out.ext HX1.out).shape).mono ?_; rintro e w2 ⟨bm, rfl, hsm, hq⟩; have HX2 : Hid (Ext w w2) := Ext.trans_ HX1.out hq; have HSM := Lib.hid (hsm HOB.out); clear hq hsm)
      | (go_at_call 40; refine (raw_any _ _).mono ?_; rintro e w' ⟨he, rfl⟩; rw [HR.out] at he; subst he))
    refine named_world' (fun W3 hW3 => ?_)
    have hE3 : Ext w W3 := by rw [hW3]; (repeat (first | exact HX2.out | (refine Ext.set_ ?_ (by have := HX2.out.size; simp; omega) _) | (refine Ext.alloc_ ?_ _) | (refine Ext.drewN_ ?_ _)))
    have d5 := (HM.out.ext hE3).top
    have d0 := (HM.out.ext hE3).half
    have HX3 := Lib.hid hE3
    clear hW3 hE3
    go_region
    go_wp2_with (first
      | (go_at_call 44; refine (fresh_obj B b M S _ (OM.ext HO.out (by (repeat (first | exact HX3.out | (refine Ext.drew_ ?_) | (refine Ext.drewN_ ?_ _))))) HOK.out HS.out kind (fs.length : Int) ⟨by omega, by omega⟩ ⟨by omega, by omega⟩ (by omega)).mono ?_; rintro e w5 ⟨he, hq1, hq2⟩; rw [HAT.out] at he; subst he; have HK5 : Hid (Keep (OwnL b S) w w5) := Keep.trans (Keep.of_ext (by (repeat (first | exact HX3.out | (refine Ext.drew_ ?_) | (refine Ext.drewN_ ?_ _))))) hq2; have HO5 := Lib.hid hq1; clear hq1 hq2; have n3 := fresh_n3 HO5.out HG.out; obtain ⟨cur, hcur⟩ := fresh_cur HO5.out HG.out hlen; have HCUR := Lib.hid hcur; obtain ⟨w6, hrun, hg6, hb6⟩ := run_copy_but (P := Tryd.prog) 35 35 3 30 undU64 sizeF0 A fa (M.W.length - (at_ + 1)) C fs.length fc g (at_ + 1) cur 30 hcur.1 (wcells fs) HMIN.out (HPOS.out w5 (HFR.out.keep HK5.out HNO.out)) (HFIT.out cur hcur.2) (wcells_one fs); have HG6 := Lib.hid hg6; have HB6 := Lib.hid hb6; clear hcur hg6 hb6)
      | (go_at_call 45; refine (addr_any _ _).mono ?_; rintro e w' ⟨rfl, rfl⟩))
    go_ret2
    exact alloc_fin HO5.out HK5.out HG.out HATN.out HCUR.out HB6.out HG6.out (HFITN.out)
  | false =>
    have hf' : fieldsB (startsM M) fs = true := by rcases hf with q | q; (rw [hr] at q; cases q); exact q
    have HANY := Lib.hid (fields_any _ _ hf')
    have HR := Lib.hid hr
    clear hf hr hf'
    go_enter Tryd.func17, Tryd.ntmps17
    go_wp2_with (first
      | (go_at_call 24; refine (check_c b 0 M S E w HM.out HE.out.toG3).mono ?_; rintro e w1 ⟨he, hq⟩; rw [HC.out] at he; subst he; have HX1 := Lib.hid hq; clear hq)
      | (go_at_call 39; refine (starts_any b 0 M S HS.out (E 1) (E 2) _ (HM.out.ext HX1.out) (HE.out.ext HX1.out).bound (HE.out.ext HX1.out).shape).mono ?_; rintro e w2 ⟨bm, rfl, hsm, hq⟩; have HX2 : Hid (Ext w w2) := Ext.trans_ HX1.out hq; have HSM := Lib.hid (hsm HOB.out); clear hq hsm)
      | (go_at_call 40; refine (raw_any _ _).mono ?_; rintro e w' ⟨he, rfl⟩; rw [HR.out] at he; subst he)
      | (go_at_call 41; refine (containsF_walk (fun x => !fldB (startsM M) x) _ _ a1_enters fa fc fs _ HFL.out ?_ HFB.out ?_).mono ?_; (exact HFR.out.ext (by (repeat (first | exact HX2.out | (refine Ext.set_ ?_ (by have := HX2.out.size; simp; omega) _) | (refine Ext.alloc_ ?_ _) | (refine Ext.drewN_ ?_ _))))); (intro W x hx h0 h1; refine (a1_any x h0 h1 bm w2.heap.size (startsM M) W (HSM.out.ext (Ext.trans_ (by repeat (first | exact Ext.refl _ | (refine Ext.set_ ?_ (by simp) _) | (refine Ext.alloc_ ?_ _))) hx)) (hx.cell_ (by simp [go_sem]))).mono ?_; rintro e w' ⟨rfl, rfl⟩; exact ⟨rfl, hx⟩); rintro e w3 ⟨he, hq⟩; rw [HANY.out] at he; subst he; have HX3 : Hid (Ext w w3) := Ext.trans_ (by (repeat (first | exact HX2.out | (refine Ext.set_ ?_ (by have := HX2.out.size; simp; omega) _) | (refine Ext.alloc_ ?_ _) | (refine Ext.drewN_ ?_ _)))) hq; clear hq))
    have d5 := (HM.out.ext HX3.out).top
    have d0 := (HM.out.ext HX3.out).half
    go_region
    go_wp2_with (first
      | (go_at_call 44; refine (fresh_obj B b M S _ (OM.ext HO.out (by (repeat (first | exact HX3.out | (refine Ext.drew_ ?_) | (refine Ext.drewN_ ?_ _))))) HOK.out HS.out kind (fs.length : Int) ⟨by omega, by omega⟩ ⟨by omega, by omega⟩ (by omega)).mono ?_; rintro e w5 ⟨he, hq1, hq2⟩; rw [HAT.out] at he; subst he; have HK5 : Hid (Keep (OwnL b S) w w5) := Keep.trans (Keep.of_ext (by (repeat (first | exact HX3.out | (refine Ext.drew_ ?_) | (refine Ext.drewN_ ?_ _))))) hq2; have HO5 := Lib.hid hq1; clear hq1 hq2; have n3 := fresh_n3 HO5.out HG.out; obtain ⟨cur, hcur⟩ := fresh_cur HO5.out HG.out hlen; have HCUR := Lib.hid hcur; obtain ⟨w6, hrun, hg6, hb6⟩ := run_copy_but (P := Tryd.prog) 35 35 3 30 undU64 sizeF0 A fa (M.W.length - (at_ + 1)) C fs.length fc g (at_ + 1) cur 30 hcur.1 (wcells fs) HMIN.out (HPOS.out w5 (HFR.out.keep HK5.out HNO.out)) (HFIT.out cur hcur.2) (wcells_one fs); have HG6 := Lib.hid hg6; have HB6 := Lib.hid hb6; clear hcur hg6 hb6)
      | (go_at_call 45; refine (addr_any _ _).mono ?_; rintro e w' ⟨rfl, rfl⟩))
    go_ret2
    exact alloc_fin HO5.out HK5.out HG.out HATN.out HCUR.out HB6.out HG6.out (HFITN.out)
end Go.Proofs.YtecbbbaafcoliaaDoor
