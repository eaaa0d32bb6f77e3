/- The walk of Memory.Check: where a root, a weak word or a field is wrong. -/
import Derived.Test.YtecbbbaafcoliaaGreatDoorJZn11
import Derived.Laws.EntriesVeiled
namespace Go.Proofs.YtecbbbaafcoliaaGreatDoor
open Go.RowKit
set_option linter.unusedVariables false
set_option linter.unusedSimpArgs false

theorem named_world {P : Program} {c : Code} {Q : Exit → Act → World → Prop} {a : Act} {W : World} (h : ∀ W9, W9 = W → Code.wp P c Q a W9) : Code.wp P c Q a W := h W rfl
set_option maxRecDepth 100000 in
set_option maxHeartbeats 4000000 in
theorem check_b1 (b o : Nat) (M : Mem) (S : Sls) (gb gs gp : Addr) (w : World) (hM : RMem w b o M S) (hG : GBound w gb) (hS : GShape w gs) (hP : GPlace w gp) (hs : shapeB M = true) (h1 : objsB M (okHd M) = true) (h2 : fieldsB (startsM M) M.roots = false) :
    Calls Tryz.prog 20 #[.pointer (some ⟨b, o, none⟩)] w fun e w' => e = .returned (errV gs) ∧ Ext w w' := by
  have hh := shp_of hs
  have hmm := @run_makeMap Tryz.prog
  have HM := Lib.hid hM
  have HG := Lib.hid hG
  have HH := Lib.hid hh
  have HS := Lib.hid hS
  have HP := Lib.hid hP
  have H1 := Lib.hid h1
  have HR := Lib.hid h2
  clear h2
  have hltb := hM.lt
  have hltg := cell_lt hS
  have hltp := cell_lt hP
  simp only at hltg hltp
  clear hM hG hh hP
  go_enter Tryz.func20, Tryz.ntmps20
  go_wp2_with (first
    | (go_at_call 59; refine (shape_any _ b o M S ?_).mono ?_; (exact HM.out.ext ((Ext.refl w).alloc_ _)); rintro e w' ⟨rfl, n, rfl⟩; rw [hs]))
  refine (objects_c1 w b o M S HH.out HM.out gb gs HG.out hS (w.heap.size + 1) (w.heap.size + 1 + 1) w.heap.size _ ?_ (by omega) (by omega) (by omega) ?_ ?_ ?_).mono ?_
  · repeat (first | exact Ext.refl _ | (refine Ext.set_ ?_ (by simp) _) | (refine Ext.alloc_ ?_ _) | (refine Ext.drewN_ ?_ _))
  · exact SMap.made_ (w := (w.alloc _).drewN n) _ (by simp) (by repeat (first | exact Ext.refl _ | (refine Ext.set_ ?_ (by simp) _) | (refine Ext.alloc_ ?_ _)))
  · simp [go_sem]
  · simp [go_sem]
  rintro e w1 ⟨rfl, hsm, hK⟩
  rw [h1]
  have hx : Ext w w1 := Ext.keep (by repeat (first | exact Ext.refl _ | (refine Ext.set_ ?_ (by simp) _) | (refine Ext.alloc_ ?_ _) | (refine Ext.drewN_ ?_ _))) hK (fun i hi => by omega)
  have f1 : w1.cell? ⟨w.heap.size, 0, none⟩ = some (.pointer (some ⟨b, o, none⟩)) := hK.cell (by simp) (by simp [go_sem])
  have f3 : w1.cell? ⟨w.heap.size + 1 + 1, 0, none⟩ = some (.map (some (w.heap.size + 1))) := hK.cell (by simp) (by simp [go_sem])
  have z1 : w.heap.size + 1 + 1 < w1.heap.size := by have := hK.size; simp at this; omega
  have HX1 := Lib.hid hx
  have HSM := Lib.hid (hsm h1)
  clear hsm hK hx hS h1
  go_wp2
  refine named_world (fun W9 hW9 => ?_)
  have g5 : W9.cell? ⟨w1.heap.size + 1, 0, none⟩ = some (.func (.func 64) #[] #[.pointer (some ⟨w1.heap.size, 0, none⟩)]) := by rw [hW9]; simp [go_sem]
  have g4 : W9.cell? ⟨w1.heap.size, 0, none⟩ = some (.func (.func 62) #[] #[.pointer (some ⟨w.heap.size + 1 + 1, 0, none⟩)]) := by rw [hW9]; simp [go_sem]
  have g6 : W9.cell? ⟨w1.heap.size + 1 + 1, 0, none⟩ = some (.bool true) := by rw [hW9]; simp [go_sem]
  have u6 : W9.frozen? ⟨w1.heap.size + 1 + 1, 0, none⟩ = false := by rw [hW9]; simp [go_sem]
  have hx9 : Ext w1 W9 := by rw [hW9]; repeat (first | exact Ext.refl _ | (refine Ext.alloc_ ?_ _))
  have g1 := hx9.cell_ f1
  have g3 := hx9.cell_ f3
  have hsm9 := HSM.out.ext hx9
  have hxx : Ext w W9 := Ext.trans_ HX1.out hx9
  have hM9 := HM.out.ext hxx
  have gr := hM9.roots
  have gk := hM9.weak
  have z9 : w1.heap.size + 1 + 1 < W9.heap.size := cell_lt g6
  have G3 := Lib.hid g3
  have G4 := Lib.hid g4
  have G6 := Lib.hid g6
  have U6 := Lib.hid u6
  have SM9 := Lib.hid hsm9
  have HX9 := Lib.hid hxx
  clear hW9 hx9 f1 f3 g3 g4 g6 u6 hsm9 hxx hM9 HSM
  refine wp_region_held_drew (S := fun W => W.cell? ⟨w1.heap.size + 1, 0, none⟩ = some (.func (.func 64) #[] #[.pointer (some ⟨w1.heap.size, 0, none⟩)]) ∧ W.cell? ⟨w.heap.size, 0, none⟩ = some (.pointer (some ⟨b, o, none⟩)) ∧ W.cell? ⟨b, o + 7, none⟩ = some (.slice S.R.1 M.roots.length S.R.2) ∧ W.cell? ⟨b, o + 8, none⟩ = some (.slice S.K.1 M.weak.length S.K.2)) (by kernel_rfl) ?_ (fun hHeld => ?_)
  · exact ⟨g5, g1, gr, gk⟩
  refine wpAnyH_take (i := 0) (oi := ⟨some 27, _, _, _, _, _⟩) (v := ?_) rfl (by kernel_rfl) (by kernel_rfl) (by kernel_rfl) (fun _ _ _ h => h) (Or.inl ⟨by rfl, ?_⟩) (by assumption) ?_
  rotate_left
  · (intro w hSw; (try dsimp only at hSw); go_simp; try with_reducible rfl)
  try simp only [Act.put, List.setIfInBounds_toArray, List.set_cons_zero, List.set_cons_succ]
  refine wpAnyH_take (i := 1) (oi := ⟨some 28, _, _, _, _, _⟩) (v := ?_) rfl (by kernel_rfl) (by kernel_rfl) (by kernel_rfl) (fun _ _ _ h => h) (Or.inl ⟨by rfl, ?_⟩) (by assumption) ?_
  rotate_left
  · (intro w hSw; (try dsimp only at hSw); go_simp; try with_reducible rfl)
  try simp only [Act.put, List.setIfInBounds_toArray, List.set_cons_zero, List.set_cons_succ]
  refine wpAnyH_take (i := 2) (oi := ⟨some 29, _, _, _, _, _⟩) (v := ?_) rfl (by kernel_rfl) (by kernel_rfl) (by kernel_rfl) (fun _ _ _ h => h) (Or.inl ⟨by rfl, ?_⟩) (by assumption) ?_
  rotate_left
  · (intro w hSw; (try dsimp only at hSw); go_simp; try with_reducible rfl)
  try simp only [Act.put, List.setIfInBounds_toArray, List.set_cons_zero, List.set_cons_succ]
  refine wpAnyH_take (i := 3) (oi := ⟨some 30, _, _, _, _, _⟩) (v := ?_) rfl (by kernel_rfl) (by kernel_rfl) (by kernel_rfl) (fun _ _ _ h => h) (Or.inl ⟨by rfl, ?_⟩) (by assumption) ?_
  rotate_left
  · (intro w hSw; (try dsimp only at hSw); go_simp; try with_reducible rfl)
  try simp only [Act.put, List.setIfInBounds_toArray, List.set_cons_zero, List.set_cons_succ]
  refine wpAnyH_take (i := 4) (oi := ⟨some 31, _, _, _, _, _⟩) (v := ?_) rfl (by kernel_rfl) (by kernel_rfl) (by kernel_rfl) (fun _ _ _ h => h) (Or.inl ⟨by rfl, ?_⟩) (by assumption) ?_
  rotate_left
  · (intro w hSw; (try dsimp only at hSw); go_simp; try with_reducible rfl)
  try simp only [Act.put, List.setIfInBounds_toArray, List.set_cons_zero, List.set_cons_succ]
  refine wpAnyH_ready (rs := [5]) (by kernel_rfl) (by simp) ?_
  refine AllReadyH.cons (o := ⟨some 32, _, _, _, _, _⟩) rfl (fun K hK => ?_) AllReadyH.nil
  go_simp
  refine (c3_any S.R.1 S.R.2 M.roots ?_ ?_ (w.heap.size + 1) (w.heap.size + 1 + 1) w1.heap.size (startsM M) _ ?_ ?_ ?_ ?_).mono ?_
  · exact HM.out.ok.lenR
  · exact HM.out.ok.roots
  · exact (HM.out.ext (Ext.trans_ HX9.out (by repeat (first | exact Ext.refl _ | (refine Ext.drew_ ?_))))).rR
  · exact SM9.out.ext (by repeat (first | exact Ext.refl _ | (refine Ext.drew_ ?_)))
  · exact Ext.cell_ (by repeat (first | exact Ext.refl _ | (refine Ext.drew_ ?_))) G3.out
  · exact Ext.cell_ (by repeat (first | exact Ext.refl _ | (refine Ext.drew_ ?_))) G4.out
  rintro e w2 ⟨he, hq⟩
  rw [HR.out] at he
  subst he
  have HE2 : Hid (Ext W9 w2) := Ext.trans_ (by repeat (first | exact Ext.refl _ | (refine Ext.drew_ ?_))) hq
  have d2 := hq.cell_ hHeld.1
  have d2a := hq.cell_ hHeld.2.1
  have d2b := hq.cell_ hHeld.2.2.1
  have d2c := hq.cell_ hHeld.2.2.2
  clear hq
  refine hK.out _ _ ?_ (fun hHeld => ?_)
  · (try dsimp only); exact ⟨d2, d2a, d2b, d2c⟩
  clear hK K
  try simp only [Act.put, List.setIfInBounds_toArray, List.set_cons_zero, List.set_cons_succ]
  refine wpAnyH_take (i := 6) (oi := ⟨some 33, _, _, _, _, _⟩) (v := ?_) rfl (by kernel_rfl) (by kernel_rfl) (by kernel_rfl) (fun _ _ _ h => h) (Or.inl ⟨by rfl, ?_⟩) (by assumption) ?_
  rotate_left
  · (intro w hSw; (try dsimp only at hSw); go_simp; try with_reducible rfl)
  try simp only [Act.put, List.setIfInBounds_toArray, List.set_cons_zero, List.set_cons_succ]
  refine wpAnyH_take (i := 7) (oi := ⟨some 34, _, _, _, _, _⟩) (v := ?_) rfl (by kernel_rfl) (by kernel_rfl) (by kernel_rfl) (fun _ _ _ h => h) (Or.inl ⟨by rfl, ?_⟩) (by assumption) ?_
  rotate_left
  · (intro w hSw; (try dsimp only at hSw); go_simp; try with_reducible rfl)
  try simp only [Act.put, List.setIfInBounds_toArray, List.set_cons_zero, List.set_cons_succ]
  refine wpAnyH_take (i := 8) (oi := ⟨some 35, _, _, _, _, _⟩) (v := undef) rfl (by kernel_rfl) (by kernel_rfl) (by kernel_rfl) (fun _ _ _ h => h) (Or.inr ⟨by rfl, rfl⟩) (by assumption) ?_
  try simp only [Act.put, List.setIfInBounds_toArray, List.set_cons_zero, List.set_cons_succ]
  refine wpAnyH_take (i := 9) (oi := ⟨some 36, _, _, _, _, _⟩) (v := undef) rfl (by kernel_rfl) (by kernel_rfl) (by kernel_rfl) (fun _ _ _ h => h) (Or.inr ⟨by rfl, rfl⟩) (by assumption) ?_
  try simp only [Act.put, List.setIfInBounds_toArray, List.set_cons_zero, List.set_cons_succ]
  refine wpAnyH_take (i := 10) (oi := ⟨some 37, _, _, _, _, _⟩) (v := undef) rfl (by kernel_rfl) (by kernel_rfl) (by kernel_rfl) (fun _ _ _ h => h) (Or.inr ⟨by rfl, rfl⟩) (by assumption) ?_
  try simp only [Act.put, List.setIfInBounds_toArray, List.set_cons_zero, List.set_cons_succ]
  refine wpAnyH_take (i := 11) (oi := ⟨some 38, _, _, _, _, _⟩) (v := undef) rfl (by kernel_rfl) (by kernel_rfl) (by kernel_rfl) (fun _ _ _ h => h) (Or.inr ⟨by rfl, rfl⟩) (by assumption) ?_
  try simp only [Act.put, List.setIfInBounds_toArray, List.set_cons_zero, List.set_cons_succ]
  refine wpAnyH_take (i := 12) (oi := ⟨some 39, _, _, _, _, _⟩) (v := undef) rfl (by kernel_rfl) (by kernel_rfl) (by kernel_rfl) (fun _ _ _ h => h) (Or.inr ⟨by rfl, rfl⟩) (by assumption) ?_
  try simp only [Act.put, List.setIfInBounds_toArray, List.set_cons_zero, List.set_cons_succ]
  refine wpAnyH_take (i := 13) (oi := ⟨some 40, _, _, _, _, _⟩) (v := undef) rfl (by kernel_rfl) (by kernel_rfl) (by kernel_rfl) (fun _ _ _ h => h) (Or.inr ⟨by rfl, rfl⟩) (by assumption) ?_
  try simp only [Act.put, List.setIfInBounds_toArray, List.set_cons_zero, List.set_cons_succ]
  refine wpAnyH_take (i := 14) (oi := ⟨some 41, _, _, _, _, _⟩) (v := undef) rfl (by kernel_rfl) (by kernel_rfl) (by kernel_rfl) (fun _ _ _ h => h) (Or.inr ⟨by rfl, rfl⟩) (by assumption) ?_
  try simp only [Act.put, List.setIfInBounds_toArray, List.set_cons_zero, List.set_cons_succ]
  refine wpAnyH_take (i := 15) (oi := ⟨some 42, _, _, _, _, _⟩) (v := ?_) rfl (by kernel_rfl) (by kernel_rfl) (by kernel_rfl) (fun _ _ _ h => h) (Or.inl ⟨by rfl, ?_⟩) (by assumption) ?_
  rotate_left
  · (intro w hSw; (try dsimp only at hSw); go_simp; try with_reducible rfl)
  try simp only [Act.put, List.setIfInBounds_toArray, List.set_cons_zero, List.set_cons_succ]
  refine wpAnyH_take (i := 16) (oi := ⟨some 43, _, _, _, _, _⟩) (v := ?_) rfl (by kernel_rfl) (by kernel_rfl) (by kernel_rfl) (fun _ _ _ h => h) (Or.inl ⟨by rfl, ?_⟩) (by assumption) ?_
  rotate_left
  · (intro w hSw; (try dsimp only at hSw); go_simp; try with_reducible rfl)
  try simp only [Act.put, List.setIfInBounds_toArray, List.set_cons_zero, List.set_cons_succ]
  refine wpAnyH_take (i := 17) (oi := ⟨some 44, _, _, _, _, _⟩) (v := undef) rfl (by kernel_rfl) (by kernel_rfl) (by kernel_rfl) (fun _ _ _ h => h) (Or.inr ⟨by rfl, rfl⟩) (by assumption) ?_
  try simp only [Act.put, List.setIfInBounds_toArray, List.set_cons_zero, List.set_cons_succ]
  refine wpAnyH_take (i := 18) (oi := ⟨some 45, _, _, _, _, _⟩) (v := undef) rfl (by kernel_rfl) (by kernel_rfl) (by kernel_rfl) (fun _ _ _ h => h) (Or.inr ⟨by rfl, rfl⟩) (by assumption) ?_
  try simp only [Act.put, List.setIfInBounds_toArray, List.set_cons_zero, List.set_cons_succ]
  refine wpAnyH_take (i := 19) (oi := ⟨some 46, _, _, _, _, _⟩) (v := undef) rfl (by kernel_rfl) (by kernel_rfl) (by kernel_rfl) (fun _ _ _ h => h) (Or.inr ⟨by rfl, rfl⟩) (by assumption) ?_
  try simp only [Act.put, List.setIfInBounds_toArray, List.set_cons_zero, List.set_cons_succ]
  refine wpAnyH_take (i := 20) (oi := ⟨some 47, _, _, _, _, _⟩) (v := undef) rfl (by kernel_rfl) (by kernel_rfl) (by kernel_rfl) (fun _ _ _ h => h) (Or.inr ⟨by rfl, rfl⟩) (by assumption) ?_
  try simp only [Act.put, List.setIfInBounds_toArray, List.set_cons_zero, List.set_cons_succ]
  refine wpAnyH_take (i := 21) (oi := ⟨some 48, _, _, _, _, _⟩) (v := ?_) rfl (by kernel_rfl) (by kernel_rfl) (by kernel_rfl) (fun _ _ _ h => h) (Or.inl ⟨by rfl, ?_⟩) (by assumption) ?_
  rotate_left
  · (intro w hSw; (try dsimp only at hSw); go_simp; try with_reducible rfl)
  try simp only [Act.put, List.setIfInBounds_toArray, List.set_cons_zero, List.set_cons_succ]
  refine wpAnyH_done (by kernel_rfl) ?_ _
  have hx : Ext w w2 := Ext.trans_ HX9.out HE2.out
  have hS1 : GShape w2 gs := hx.cell_ HS.out
  go_wp2
  go_ret
  exact ⟨rfl, hx⟩
set_option maxRecDepth 100000 in
set_option maxHeartbeats 4000000 in
theorem check_b2 (b o : Nat) (M : Mem) (S : Sls) (gb gs gp : Addr) (w : World) (hM : RMem w b o M S) (hG : GBound w gb) (hS : GShape w gs) (hP : GPlace w gp) (hs : shapeB M = true) (h1 : objsB M (okHd M) = true) (h2 : fieldsB (startsM M) M.roots = true) (h3 : fieldsB (startsM M) M.weak = false) :
    Calls Tryz.prog 20 #[.pointer (some ⟨b, o, none⟩)] w fun e w' => e = .returned (errV gs) ∧ Ext w w' := by
  have hh := shp_of hs
  have hmm := @run_makeMap Tryz.prog
  have HM := Lib.hid hM
  have HG := Lib.hid hG
  have HH := Lib.hid hh
  have HS := Lib.hid hS
  have HP := Lib.hid hP
  have H1 := Lib.hid h1
  have HR := Lib.hid h2
  have HW := Lib.hid h3
  clear h2 h3
  have hltb := hM.lt
  have hltg := cell_lt hS
  have hltp := cell_lt hP
  simp only at hltg hltp
  clear hM hG hh hP
  go_enter Tryz.func20, Tryz.ntmps20
  go_wp2_with (first
    | (go_at_call 59; refine (shape_any _ b o M S ?_).mono ?_; (exact HM.out.ext ((Ext.refl w).alloc_ _)); rintro e w' ⟨rfl, n, rfl⟩; rw [hs]))
  refine (objects_c1 w b o M S HH.out HM.out gb gs HG.out hS (w.heap.size + 1) (w.heap.size + 1 + 1) w.heap.size _ ?_ (by omega) (by omega) (by omega) ?_ ?_ ?_).mono ?_
  · repeat (first | exact Ext.refl _ | (refine Ext.set_ ?_ (by simp) _) | (refine Ext.alloc_ ?_ _) | (refine Ext.drewN_ ?_ _))
  · exact SMap.made_ (w := (w.alloc _).drewN n) _ (by simp) (by repeat (first | exact Ext.refl _ | (refine Ext.set_ ?_ (by simp) _) | (refine Ext.alloc_ ?_ _)))
  · simp [go_sem]
  · simp [go_sem]
  rintro e w1 ⟨rfl, hsm, hK⟩
  rw [h1]
  have hx : Ext w w1 := Ext.keep (by repeat (first | exact Ext.refl _ | (refine Ext.set_ ?_ (by simp) _) | (refine Ext.alloc_ ?_ _) | (refine Ext.drewN_ ?_ _))) hK (fun i hi => by omega)
  have f1 : w1.cell? ⟨w.heap.size, 0, none⟩ = some (.pointer (some ⟨b, o, none⟩)) := hK.cell (by simp) (by simp [go_sem])
  have f3 : w1.cell? ⟨w.heap.size + 1 + 1, 0, none⟩ = some (.map (some (w.heap.size + 1))) := hK.cell (by simp) (by simp [go_sem])
  have z1 : w.heap.size + 1 + 1 < w1.heap.size := by have := hK.size; simp at this; omega
  have HX1 := Lib.hid hx
  have HSM := Lib.hid (hsm h1)
  clear hsm hK hx hS h1
  go_wp2
  refine named_world (fun W9 hW9 => ?_)
  have g5 : W9.cell? ⟨w1.heap.size + 1, 0, none⟩ = some (.func (.func 64) #[] #[.pointer (some ⟨w1.heap.size, 0, none⟩)]) := by rw [hW9]; simp [go_sem]
  have g4 : W9.cell? ⟨w1.heap.size, 0, none⟩ = some (.func (.func 62) #[] #[.pointer (some ⟨w.heap.size + 1 + 1, 0, none⟩)]) := by rw [hW9]; simp [go_sem]
  have g6 : W9.cell? ⟨w1.heap.size + 1 + 1, 0, none⟩ = some (.bool true) := by rw [hW9]; simp [go_sem]
  have u6 : W9.frozen? ⟨w1.heap.size + 1 + 1, 0, none⟩ = false := by rw [hW9]; simp [go_sem]
  have hx9 : Ext w1 W9 := by rw [hW9]; repeat (first | exact Ext.refl _ | (refine Ext.alloc_ ?_ _))
  have g1 := hx9.cell_ f1
  have g3 := hx9.cell_ f3
  have hsm9 := HSM.out.ext hx9
  have hxx : Ext w W9 := Ext.trans_ HX1.out hx9
  have hM9 := HM.out.ext hxx
  have gr := hM9.roots
  have gk := hM9.weak
  have z9 : w1.heap.size + 1 + 1 < W9.heap.size := cell_lt g6
  have G3 := Lib.hid g3
  have G4 := Lib.hid g4
  have G6 := Lib.hid g6
  have U6 := Lib.hid u6
  have SM9 := Lib.hid hsm9
  have HX9 := Lib.hid hxx
  clear hW9 hx9 f1 f3 g3 g4 g6 u6 hsm9 hxx hM9 HSM
  refine wp_region_held_drew (S := fun W => W.cell? ⟨w1.heap.size + 1, 0, none⟩ = some (.func (.func 64) #[] #[.pointer (some ⟨w1.heap.size, 0, none⟩)]) ∧ W.cell? ⟨w.heap.size, 0, none⟩ = some (.pointer (some ⟨b, o, none⟩)) ∧ W.cell? ⟨b, o + 7, none⟩ = some (.slice S.R.1 M.roots.length S.R.2) ∧ W.cell? ⟨b, o + 8, none⟩ = some (.slice S.K.1 M.weak.length S.K.2)) (by kernel_rfl) ?_ (fun hHeld => ?_)
  · exact ⟨g5, g1, gr, gk⟩
  refine wpAnyH_take (i := 0) (oi := ⟨some 27, _, _, _, _, _⟩) (v := ?_) rfl (by kernel_rfl) (by kernel_rfl) (by kernel_rfl) (fun _ _ _ h => h) (Or.inl ⟨by rfl, ?_⟩) (by assumption) ?_
  rotate_left
  · (intro w hSw; (try dsimp only at hSw); go_simp; try with_reducible rfl)
  try simp only [Act.put, List.setIfInBounds_toArray, List.set_cons_zero, List.set_cons_succ]
  refine wpAnyH_take (i := 1) (oi := ⟨some 28, _, _, _, _, _⟩) (v := ?_) rfl (by kernel_rfl) (by kernel_rfl) (by kernel_rfl) (fun _ _ _ h => h) (Or.inl ⟨by rfl, ?_⟩) (by assumption) ?_
  rotate_left
  · (intro w hSw; (try dsimp only at hSw); go_simp; try with_reducible rfl)
  try simp only [Act.put, List.setIfInBounds_toArray, List.set_cons_zero, List.set_cons_succ]
  refine wpAnyH_take (i := 2) (oi := ⟨some 29, _, _, _, _, _⟩) (v := ?_) rfl (by kernel_rfl) (by kernel_rfl) (by kernel_rfl) (fun _ _ _ h => h) (Or.inl ⟨by rfl, ?_⟩) (by assumption) ?_
  rotate_left
  · (intro w hSw; (try dsimp only at hSw); go_simp; try with_reducible rfl)
  try simp only [Act.put, List.setIfInBounds_toArray, List.set_cons_zero, List.set_cons_succ]
  refine wpAnyH_take (i := 3) (oi := ⟨some 30, _, _, _, _, _⟩) (v := ?_) rfl (by kernel_rfl) (by kernel_rfl) (by kernel_rfl) (fun _ _ _ h => h) (Or.inl ⟨by rfl, ?_⟩) (by assumption) ?_
  rotate_left
  · (intro w hSw; (try dsimp only at hSw); go_simp; try with_reducible rfl)
  try simp only [Act.put, List.setIfInBounds_toArray, List.set_cons_zero, List.set_cons_succ]
  refine wpAnyH_take (i := 4) (oi := ⟨some 31, _, _, _, _, _⟩) (v := ?_) rfl (by kernel_rfl) (by kernel_rfl) (by kernel_rfl) (fun _ _ _ h => h) (Or.inl ⟨by rfl, ?_⟩) (by assumption) ?_
  rotate_left
  · (intro w hSw; (try dsimp only at hSw); go_simp; try with_reducible rfl)
  try simp only [Act.put, List.setIfInBounds_toArray, List.set_cons_zero, List.set_cons_succ]
  refine wpAnyH_ready (rs := [5]) (by kernel_rfl) (by simp) ?_
  refine AllReadyH.cons (o := ⟨some 32, _, _, _, _, _⟩) rfl (fun K hK => ?_) AllReadyH.nil
  go_simp
  refine (c3_any S.R.1 S.R.2 M.roots ?_ ?_ (w.heap.size + 1) (w.heap.size + 1 + 1) w1.heap.size (startsM M) _ ?_ ?_ ?_ ?_).mono ?_
  · exact HM.out.ok.lenR
  · exact HM.out.ok.roots
  · exact (HM.out.ext (Ext.trans_ HX9.out (by repeat (first | exact Ext.refl _ | (refine Ext.drew_ ?_))))).rR
  · exact SM9.out.ext (by repeat (first | exact Ext.refl _ | (refine Ext.drew_ ?_)))
  · exact Ext.cell_ (by repeat (first | exact Ext.refl _ | (refine Ext.drew_ ?_))) G3.out
  · exact Ext.cell_ (by repeat (first | exact Ext.refl _ | (refine Ext.drew_ ?_))) G4.out
  rintro e w2 ⟨he, hq⟩
  rw [HR.out] at he
  subst he
  have HE2 : Hid (Ext W9 w2) := Ext.trans_ (by repeat (first | exact Ext.refl _ | (refine Ext.drew_ ?_))) hq
  have d2 := hq.cell_ hHeld.1
  have d2a := hq.cell_ hHeld.2.1
  have d2b := hq.cell_ hHeld.2.2.1
  have d2c := hq.cell_ hHeld.2.2.2
  clear hq
  refine hK.out _ _ ?_ (fun hHeld => ?_)
  · (try dsimp only); exact ⟨d2, d2a, d2b, d2c⟩
  clear hK K
  try simp only [Act.put, List.setIfInBounds_toArray, List.set_cons_zero, List.set_cons_succ]
  refine wpAnyH_take (i := 6) (oi := ⟨some 33, _, _, _, _, _⟩) (v := ?_) rfl (by kernel_rfl) (by kernel_rfl) (by kernel_rfl) (fun _ _ _ h => h) (Or.inl ⟨by rfl, ?_⟩) (by assumption) ?_
  rotate_left
  · (intro w hSw; (try dsimp only at hSw); go_simp; try with_reducible rfl)
  try simp only [Act.put, List.setIfInBounds_toArray, List.set_cons_zero, List.set_cons_succ]
  refine wpAnyH_take (i := 7) (oi := ⟨some 34, _, _, _, _, _⟩) (v := ?_) rfl (by kernel_rfl) (by kernel_rfl) (by kernel_rfl) (fun _ _ _ h => h) (Or.inl ⟨by rfl, ?_⟩) (by assumption) ?_
  rotate_left
  · (intro w hSw; (try dsimp only at hSw); go_simp; try with_reducible rfl)
  try simp only [Act.put, List.setIfInBounds_toArray, List.set_cons_zero, List.set_cons_succ]
  refine wpAnyH_take (i := 8) (oi := ⟨some 35, _, _, _, _, _⟩) (v := ?_) rfl (by kernel_rfl) (by kernel_rfl) (by kernel_rfl) (fun _ _ _ h => h) (Or.inl ⟨by rfl, ?_⟩) (by assumption) ?_
  rotate_left
  · (intro w hSw; (try dsimp only at hSw); go_simp; try with_reducible rfl)
  try simp only [Act.put, List.setIfInBounds_toArray, List.set_cons_zero, List.set_cons_succ]
  refine wpAnyH_take (i := 9) (oi := ⟨some 36, _, _, _, _, _⟩) (v := ?_) rfl (by kernel_rfl) (by kernel_rfl) (by kernel_rfl) (fun _ _ _ h => h) (Or.inl ⟨by rfl, ?_⟩) (by assumption) ?_
  rotate_left
  · (intro w hSw; (try dsimp only at hSw); go_simp; try with_reducible rfl)
  try simp only [Act.put, List.setIfInBounds_toArray, List.set_cons_zero, List.set_cons_succ]
  refine wpAnyH_take (i := 10) (oi := ⟨some 37, _, _, _, _, _⟩) (v := ?_) rfl (by kernel_rfl) (by kernel_rfl) (by kernel_rfl) (fun _ _ _ h => h) (Or.inl ⟨by rfl, ?_⟩) (by assumption) ?_
  rotate_left
  · (intro w hSw; (try dsimp only at hSw); go_simp; try with_reducible rfl)
  try simp only [Act.put, List.setIfInBounds_toArray, List.set_cons_zero, List.set_cons_succ]
  refine wpAnyH_take (i := 11) (oi := ⟨some 38, _, _, _, _, _⟩) (v := ?_) rfl (by kernel_rfl) (by kernel_rfl) (by kernel_rfl) (fun _ _ _ h => h) (Or.inl ⟨by rfl, ?_⟩) (by assumption) ?_
  rotate_left
  · (intro w hSw; (try dsimp only at hSw); go_simp; try with_reducible rfl)
  try simp only [Act.put, List.setIfInBounds_toArray, List.set_cons_zero, List.set_cons_succ]
  refine wpAnyH_take (i := 12) (oi := ⟨some 39, _, _, _, _, _⟩) (v := ?_) rfl (by kernel_rfl) (by kernel_rfl) (by kernel_rfl) (fun _ _ _ h => h) (Or.inl ⟨by rfl, ?_⟩) (by assumption) ?_
  rotate_left
  · (intro w hSw; (try dsimp only at hSw); go_simp; try with_reducible rfl)
  try simp only [Act.put, List.setIfInBounds_toArray, List.set_cons_zero, List.set_cons_succ]
  refine wpAnyH_ready (rs := [13]) (by kernel_rfl) (by simp) ?_
  refine AllReadyH.cons (o := ⟨some 40, _, _, _, _, _⟩) rfl (fun K hK => ?_) AllReadyH.nil
  go_simp
  refine (c3_any S.K.1 S.K.2 M.weak ?_ ?_ (w.heap.size + 1) (w.heap.size + 1 + 1) w1.heap.size (startsM M) _ ?_ ?_ ?_ ?_).mono ?_
  · exact HM.out.ok.lenK
  · exact HM.out.ok.weak
  · exact (HM.out.ext (Ext.trans_ HX9.out (by exact HE2.out))).rK
  · exact SM9.out.ext (by exact HE2.out)
  · exact Ext.cell_ (by exact HE2.out) G3.out
  · exact Ext.cell_ (by exact HE2.out) G4.out
  rintro e w3 ⟨he, hq⟩
  rw [HW.out] at he
  subst he
  have HE3 : Hid (Ext W9 w3) := Ext.trans_ (by exact HE2.out) hq
  have d3 := hq.cell_ hHeld.1
  have d3a := hq.cell_ hHeld.2.1
  have d3b := hq.cell_ hHeld.2.2.1
  have d3c := hq.cell_ hHeld.2.2.2
  clear hq
  refine hK.out _ _ ?_ (fun hHeld => ?_)
  · (try dsimp only); exact ⟨d3, d3a, d3b, d3c⟩
  clear hK K
  try simp only [Act.put, List.setIfInBounds_toArray, List.set_cons_zero, List.set_cons_succ]
  refine wpAnyH_take (i := 14) (oi := ⟨some 41, _, _, _, _, _⟩) (v := ?_) rfl (by kernel_rfl) (by kernel_rfl) (by kernel_rfl) (fun _ _ _ h => h) (Or.inl ⟨by rfl, ?_⟩) (by assumption) ?_
  rotate_left
  · (intro w hSw; (try dsimp only at hSw); go_simp; try with_reducible rfl)
  try simp only [Act.put, List.setIfInBounds_toArray, List.set_cons_zero, List.set_cons_succ]
  refine wpAnyH_take (i := 15) (oi := ⟨some 42, _, _, _, _, _⟩) (v := ?_) rfl (by kernel_rfl) (by kernel_rfl) (by kernel_rfl) (fun _ _ _ h => h) (Or.inl ⟨by rfl, ?_⟩) (by assumption) ?_
  rotate_left
  · (intro w hSw; (try dsimp only at hSw); go_simp; try with_reducible rfl)
  try simp only [Act.put, List.setIfInBounds_toArray, List.set_cons_zero, List.set_cons_succ]
  refine wpAnyH_take (i := 16) (oi := ⟨some 43, _, _, _, _, _⟩) (v := ?_) rfl (by kernel_rfl) (by kernel_rfl) (by kernel_rfl) (fun _ _ _ h => h) (Or.inl ⟨by rfl, ?_⟩) (by assumption) ?_
  rotate_left
  · (intro w hSw; (try dsimp only at hSw); go_simp; try with_reducible rfl)
  try simp only [Act.put, List.setIfInBounds_toArray, List.set_cons_zero, List.set_cons_succ]
  refine wpAnyH_take (i := 17) (oi := ⟨some 44, _, _, _, _, _⟩) (v := undef) rfl (by kernel_rfl) (by kernel_rfl) (by kernel_rfl) (fun _ _ _ h => h) (Or.inr ⟨by rfl, rfl⟩) (by assumption) ?_
  try simp only [Act.put, List.setIfInBounds_toArray, List.set_cons_zero, List.set_cons_succ]
  refine wpAnyH_take (i := 18) (oi := ⟨some 45, _, _, _, _, _⟩) (v := undef) rfl (by kernel_rfl) (by kernel_rfl) (by kernel_rfl) (fun _ _ _ h => h) (Or.inr ⟨by rfl, rfl⟩) (by assumption) ?_
  try simp only [Act.put, List.setIfInBounds_toArray, List.set_cons_zero, List.set_cons_succ]
  refine wpAnyH_take (i := 19) (oi := ⟨some 46, _, _, _, _, _⟩) (v := undef) rfl (by kernel_rfl) (by kernel_rfl) (by kernel_rfl) (fun _ _ _ h => h) (Or.inr ⟨by rfl, rfl⟩) (by assumption) ?_
  try simp only [Act.put, List.setIfInBounds_toArray, List.set_cons_zero, List.set_cons_succ]
  refine wpAnyH_take (i := 20) (oi := ⟨some 47, _, _, _, _, _⟩) (v := undef) rfl (by kernel_rfl) (by kernel_rfl) (by kernel_rfl) (fun _ _ _ h => h) (Or.inr ⟨by rfl, rfl⟩) (by assumption) ?_
  try simp only [Act.put, List.setIfInBounds_toArray, List.set_cons_zero, List.set_cons_succ]
  refine wpAnyH_take (i := 21) (oi := ⟨some 48, _, _, _, _, _⟩) (v := ?_) rfl (by kernel_rfl) (by kernel_rfl) (by kernel_rfl) (fun _ _ _ h => h) (Or.inl ⟨by rfl, ?_⟩) (by assumption) ?_
  rotate_left
  · (intro w hSw; (try dsimp only at hSw); go_simp; try with_reducible rfl)
  try simp only [Act.put, List.setIfInBounds_toArray, List.set_cons_zero, List.set_cons_succ]
  refine wpAnyH_done (by kernel_rfl) ?_ _
  have hx : Ext w w3 := Ext.trans_ HX9.out HE3.out
  have hS1 : GShape w3 gs := hx.cell_ HS.out
  go_wp2
  go_ret
  exact ⟨rfl, hx⟩
set_option maxRecDepth 100000 in
set_option maxHeartbeats 4000000 in
theorem check_b3 (b o : Nat) (M : Mem) (S : Sls) (gb gs gp : Addr) (w : World) (hM : RMem w b o M S) (hG : GBound w gb) (hS : GShape w gs) (hP : GPlace w gp) (hs : shapeB M = true) (h1 : objsB M (okHd M) = true) (h2 : fieldsB (startsM M) M.roots = true) (h3 : fieldsB (startsM M) M.weak = true) (h4 : objsB M (okFld M (startsM M)) = false) :
    Calls Tryz.prog 20 #[.pointer (some ⟨b, o, none⟩)] w fun e w' => e = .returned (errV gs) ∧ Ext w w' := by
  have hh := shp_of hs
  have hmm := @run_makeMap Tryz.prog
  have HM := Lib.hid hM
  have HG := Lib.hid hG
  have HH := Lib.hid hh
  have HS := Lib.hid hS
  have HP := Lib.hid hP
  have H1 := Lib.hid h1
  have HR := Lib.hid h2
  have HW := Lib.hid h3
  have HO := Lib.hid h4
  clear h2 h3 h4
  have hltb := hM.lt
  have hltg := cell_lt hS
  have hltp := cell_lt hP
  simp only at hltg hltp
  clear hM hG hh hP
  go_enter Tryz.func20, Tryz.ntmps20
  go_wp2_with (first
    | (go_at_call 59; refine (shape_any _ b o M S ?_).mono ?_; (exact HM.out.ext ((Ext.refl w).alloc_ _)); rintro e w' ⟨rfl, n, rfl⟩; rw [hs]))
  refine (objects_c1 w b o M S HH.out HM.out gb gs HG.out hS (w.heap.size + 1) (w.heap.size + 1 + 1) w.heap.size _ ?_ (by omega) (by omega) (by omega) ?_ ?_ ?_).mono ?_
  · repeat (first | exact Ext.refl _ | (refine Ext.set_ ?_ (by simp) _) | (refine Ext.alloc_ ?_ _) | (refine Ext.drewN_ ?_ _))
  · exact SMap.made_ (w := (w.alloc _).drewN n) _ (by simp) (by repeat (first | exact Ext.refl _ | (refine Ext.set_ ?_ (by simp) _) | (refine Ext.alloc_ ?_ _)))
  · simp [go_sem]
  · simp [go_sem]
  rintro e w1 ⟨rfl, hsm, hK⟩
  rw [h1]
  have hx : Ext w w1 := Ext.keep (by repeat (first | exact Ext.refl _ | (refine Ext.set_ ?_ (by simp) _) | (refine Ext.alloc_ ?_ _) | (refine Ext.drewN_ ?_ _))) hK (fun i hi => by omega)
  have f1 : w1.cell? ⟨w.heap.size, 0, none⟩ = some (.pointer (some ⟨b, o, none⟩)) := hK.cell (by simp) (by simp [go_sem])
  have f3 : w1.cell? ⟨w.heap.size + 1 + 1, 0, none⟩ = some (.map (some (w.heap.size + 1))) := hK.cell (by simp) (by simp [go_sem])
  have z1 : w.heap.size + 1 + 1 < w1.heap.size := by have := hK.size; simp at this; omega
  have HX1 := Lib.hid hx
  have HSM := Lib.hid (hsm h1)
  clear hsm hK hx hS h1
  go_wp2
  refine named_world (fun W9 hW9 => ?_)
  have g5 : W9.cell? ⟨w1.heap.size + 1, 0, none⟩ = some (.func (.func 64) #[] #[.pointer (some ⟨w1.heap.size, 0, none⟩)]) := by rw [hW9]; simp [go_sem]
  have g4 : W9.cell? ⟨w1.heap.size, 0, none⟩ = some (.func (.func 62) #[] #[.pointer (some ⟨w.heap.size + 1 + 1, 0, none⟩)]) := by rw [hW9]; simp [go_sem]
  have g6 : W9.cell? ⟨w1.heap.size + 1 + 1, 0, none⟩ = some (.bool true) := by rw [hW9]; simp [go_sem]
  have u6 : W9.frozen? ⟨w1.heap.size + 1 + 1, 0, none⟩ = false := by rw [hW9]; simp [go_sem]
  have hx9 : Ext w1 W9 := by rw [hW9]; repeat (first | exact Ext.refl _ | (refine Ext.alloc_ ?_ _))
  have g1 := hx9.cell_ f1
  have g3 := hx9.cell_ f3
  have hsm9 := HSM.out.ext hx9
  have hxx : Ext w W9 := Ext.trans_ HX1.out hx9
  have hM9 := HM.out.ext hxx
  have gr := hM9.roots
  have gk := hM9.weak
  have z9 : w1.heap.size + 1 + 1 < W9.heap.size := cell_lt g6
  have G3 := Lib.hid g3
  have G4 := Lib.hid g4
  have G6 := Lib.hid g6
  have U6 := Lib.hid u6
  have SM9 := Lib.hid hsm9
  have HX9 := Lib.hid hxx
  clear hW9 hx9 f1 f3 g3 g4 g6 u6 hsm9 hxx hM9 HSM
  refine wp_region_held_drew (S := fun W => W.cell? ⟨w1.heap.size + 1, 0, none⟩ = some (.func (.func 64) #[] #[.pointer (some ⟨w1.heap.size, 0, none⟩)]) ∧ W.cell? ⟨w.heap.size, 0, none⟩ = some (.pointer (some ⟨b, o, none⟩)) ∧ W.cell? ⟨b, o + 7, none⟩ = some (.slice S.R.1 M.roots.length S.R.2) ∧ W.cell? ⟨b, o + 8, none⟩ = some (.slice S.K.1 M.weak.length S.K.2)) (by kernel_rfl) ?_ (fun hHeld => ?_)
  · exact ⟨g5, g1, gr, gk⟩
  refine wpAnyH_take (i := 0) (oi := ⟨some 27, _, _, _, _, _⟩) (v := ?_) rfl (by kernel_rfl) (by kernel_rfl) (by kernel_rfl) (fun _ _ _ h => h) (Or.inl ⟨by rfl, ?_⟩) (by assumption) ?_
  rotate_left
  · (intro w hSw; (try dsimp only at hSw); go_simp; try with_reducible rfl)
  try simp only [Act.put, List.setIfInBounds_toArray, List.set_cons_zero, List.set_cons_succ]
  refine wpAnyH_take (i := 1) (oi := ⟨some 28, _, _, _, _, _⟩) (v := ?_) rfl (by kernel_rfl) (by kernel_rfl) (by kernel_rfl) (fun _ _ _ h => h) (Or.inl ⟨by rfl, ?_⟩) (by assumption) ?_
  rotate_left
  · (intro w hSw; (try dsimp only at hSw); go_simp; try with_reducible rfl)
  try simp only [Act.put, List.setIfInBounds_toArray, List.set_cons_zero, List.set_cons_succ]
  refine wpAnyH_take (i := 2) (oi := ⟨some 29, _, _, _, _, _⟩) (v := ?_) rfl (by kernel_rfl) (by kernel_rfl) (by kernel_rfl) (fun _ _ _ h => h) (Or.inl ⟨by rfl, ?_⟩) (by assumption) ?_
  rotate_left
  · (intro w hSw; (try dsimp only at hSw); go_simp; try with_reducible rfl)
  try simp only [Act.put, List.setIfInBounds_toArray, List.set_cons_zero, List.set_cons_succ]
  refine wpAnyH_take (i := 3) (oi := ⟨some 30, _, _, _, _, _⟩) (v := ?_) rfl (by kernel_rfl) (by kernel_rfl) (by kernel_rfl) (fun _ _ _ h => h) (Or.inl ⟨by rfl, ?_⟩) (by assumption) ?_
  rotate_left
  · (intro w hSw; (try dsimp only at hSw); go_simp; try with_reducible rfl)
  try simp only [Act.put, List.setIfInBounds_toArray, List.set_cons_zero, List.set_cons_succ]
  refine wpAnyH_take (i := 4) (oi := ⟨some 31, _, _, _, _, _⟩) (v := ?_) rfl (by kernel_rfl) (by kernel_rfl) (by kernel_rfl) (fun _ _ _ h => h) (Or.inl ⟨by rfl, ?_⟩) (by assumption) ?_
  rotate_left
  · (intro w hSw; (try dsimp only at hSw); go_simp; try with_reducible rfl)
  try simp only [Act.put, List.setIfInBounds_toArray, List.set_cons_zero, List.set_cons_succ]
  refine wpAnyH_ready (rs := [5]) (by kernel_rfl) (by simp) ?_
  refine AllReadyH.cons (o := ⟨some 32, _, _, _, _, _⟩) rfl (fun K hK => ?_) AllReadyH.nil
  go_simp
  refine (c3_any S.R.1 S.R.2 M.roots ?_ ?_ (w.heap.size + 1) (w.heap.size + 1 + 1) w1.heap.size (startsM M) _ ?_ ?_ ?_ ?_).mono ?_
  · exact HM.out.ok.lenR
  · exact HM.out.ok.roots
  · exact (HM.out.ext (Ext.trans_ HX9.out (by repeat (first | exact Ext.refl _ | (refine Ext.drew_ ?_))))).rR
  · exact SM9.out.ext (by repeat (first | exact Ext.refl _ | (refine Ext.drew_ ?_)))
  · exact Ext.cell_ (by repeat (first | exact Ext.refl _ | (refine Ext.drew_ ?_))) G3.out
  · exact Ext.cell_ (by repeat (first | exact Ext.refl _ | (refine Ext.drew_ ?_))) G4.out
  rintro e w2 ⟨he, hq⟩
  rw [HR.out] at he
  subst he
  have HE2 : Hid (Ext W9 w2) := Ext.trans_ (by repeat (first | exact Ext.refl _ | (refine Ext.drew_ ?_))) hq
  have d2 := hq.cell_ hHeld.1
  have d2a := hq.cell_ hHeld.2.1
  have d2b := hq.cell_ hHeld.2.2.1
  have d2c := hq.cell_ hHeld.2.2.2
  clear hq
  refine hK.out _ _ ?_ (fun hHeld => ?_)
  · (try dsimp only); exact ⟨d2, d2a, d2b, d2c⟩
  clear hK K
  try simp only [Act.put, List.setIfInBounds_toArray, List.set_cons_zero, List.set_cons_succ]
  refine wpAnyH_take (i := 6) (oi := ⟨some 33, _, _, _, _, _⟩) (v := ?_) rfl (by kernel_rfl) (by kernel_rfl) (by kernel_rfl) (fun _ _ _ h => h) (Or.inl ⟨by rfl, ?_⟩) (by assumption) ?_
  rotate_left
  · (intro w hSw; (try dsimp only at hSw); go_simp; try with_reducible rfl)
  try simp only [Act.put, List.setIfInBounds_toArray, List.set_cons_zero, List.set_cons_succ]
  refine wpAnyH_take (i := 7) (oi := ⟨some 34, _, _, _, _, _⟩) (v := ?_) rfl (by kernel_rfl) (by kernel_rfl) (by kernel_rfl) (fun _ _ _ h => h) (Or.inl ⟨by rfl, ?_⟩) (by assumption) ?_
  rotate_left
  · (intro w hSw; (try dsimp only at hSw); go_simp; try with_reducible rfl)
  try simp only [Act.put, List.setIfInBounds_toArray, List.set_cons_zero, List.set_cons_succ]
  refine wpAnyH_take (i := 8) (oi := ⟨some 35, _, _, _, _, _⟩) (v := ?_) rfl (by kernel_rfl) (by kernel_rfl) (by kernel_rfl) (fun _ _ _ h => h) (Or.inl ⟨by rfl, ?_⟩) (by assumption) ?_
  rotate_left
  · (intro w hSw; (try dsimp only at hSw); go_simp; try with_reducible rfl)
  try simp only [Act.put, List.setIfInBounds_toArray, List.set_cons_zero, List.set_cons_succ]
  refine wpAnyH_take (i := 9) (oi := ⟨some 36, _, _, _, _, _⟩) (v := ?_) rfl (by kernel_rfl) (by kernel_rfl) (by kernel_rfl) (fun _ _ _ h => h) (Or.inl ⟨by rfl, ?_⟩) (by assumption) ?_
  rotate_left
  · (intro w hSw; (try dsimp only at hSw); go_simp; try with_reducible rfl)
  try simp only [Act.put, List.setIfInBounds_toArray, List.set_cons_zero, List.set_cons_succ]
  refine wpAnyH_take (i := 10) (oi := ⟨some 37, _, _, _, _, _⟩) (v := ?_) rfl (by kernel_rfl) (by kernel_rfl) (by kernel_rfl) (fun _ _ _ h => h) (Or.inl ⟨by rfl, ?_⟩) (by assumption) ?_
  rotate_left
  · (intro w hSw; (try dsimp only at hSw); go_simp; try with_reducible rfl)
  try simp only [Act.put, List.setIfInBounds_toArray, List.set_cons_zero, List.set_cons_succ]
  refine wpAnyH_take (i := 11) (oi := ⟨some 38, _, _, _, _, _⟩) (v := ?_) rfl (by kernel_rfl) (by kernel_rfl) (by kernel_rfl) (fun _ _ _ h => h) (Or.inl ⟨by rfl, ?_⟩) (by assumption) ?_
  rotate_left
  · (intro w hSw; (try dsimp only at hSw); go_simp; try with_reducible rfl)
  try simp only [Act.put, List.setIfInBounds_toArray, List.set_cons_zero, List.set_cons_succ]
  refine wpAnyH_take (i := 12) (oi := ⟨some 39, _, _, _, _, _⟩) (v := ?_) rfl (by kernel_rfl) (by kernel_rfl) (by kernel_rfl) (fun _ _ _ h => h) (Or.inl ⟨by rfl, ?_⟩) (by assumption) ?_
  rotate_left
  · (intro w hSw; (try dsimp only at hSw); go_simp; try with_reducible rfl)
  try simp only [Act.put, List.setIfInBounds_toArray, List.set_cons_zero, List.set_cons_succ]
  refine wpAnyH_ready (rs := [13]) (by kernel_rfl) (by simp) ?_
  refine AllReadyH.cons (o := ⟨some 40, _, _, _, _, _⟩) rfl (fun K hK => ?_) AllReadyH.nil
  go_simp
  refine (c3_any S.K.1 S.K.2 M.weak ?_ ?_ (w.heap.size + 1) (w.heap.size + 1 + 1) w1.heap.size (startsM M) _ ?_ ?_ ?_ ?_).mono ?_
  · exact HM.out.ok.lenK
  · exact HM.out.ok.weak
  · exact (HM.out.ext (Ext.trans_ HX9.out (by exact HE2.out))).rK
  · exact SM9.out.ext (by exact HE2.out)
  · exact Ext.cell_ (by exact HE2.out) G3.out
  · exact Ext.cell_ (by exact HE2.out) G4.out
  rintro e w3 ⟨he, hq⟩
  rw [HW.out] at he
  subst he
  have HE3 : Hid (Ext W9 w3) := Ext.trans_ (by exact HE2.out) hq
  have d3 := hq.cell_ hHeld.1
  have d3a := hq.cell_ hHeld.2.1
  have d3b := hq.cell_ hHeld.2.2.1
  have d3c := hq.cell_ hHeld.2.2.2
  clear hq
  refine hK.out _ _ ?_ (fun hHeld => ?_)
  · (try dsimp only); exact ⟨d3, d3a, d3b, d3c⟩
  clear hK K
  try simp only [Act.put, List.setIfInBounds_toArray, List.set_cons_zero, List.set_cons_succ]
  refine wpAnyH_take (i := 14) (oi := ⟨some 41, _, _, _, _, _⟩) (v := ?_) rfl (by kernel_rfl) (by kernel_rfl) (by kernel_rfl) (fun _ _ _ h => h) (Or.inl ⟨by rfl, ?_⟩) (by assumption) ?_
  rotate_left
  · (intro w hSw; (try dsimp only at hSw); go_simp; try with_reducible rfl)
  try simp only [Act.put, List.setIfInBounds_toArray, List.set_cons_zero, List.set_cons_succ]
  refine wpAnyH_take (i := 15) (oi := ⟨some 42, _, _, _, _, _⟩) (v := ?_) rfl (by kernel_rfl) (by kernel_rfl) (by kernel_rfl) (fun _ _ _ h => h) (Or.inl ⟨by rfl, ?_⟩) (by assumption) ?_
  rotate_left
  · (intro w hSw; (try dsimp only at hSw); go_simp; try with_reducible rfl)
  try simp only [Act.put, List.setIfInBounds_toArray, List.set_cons_zero, List.set_cons_succ]
  refine wpAnyH_take (i := 16) (oi := ⟨some 43, _, _, _, _, _⟩) (v := ?_) rfl (by kernel_rfl) (by kernel_rfl) (by kernel_rfl) (fun _ _ _ h => h) (Or.inl ⟨by rfl, ?_⟩) (by assumption) ?_
  rotate_left
  · (intro w hSw; (try dsimp only at hSw); go_simp; try with_reducible rfl)
  try simp only [Act.put, List.setIfInBounds_toArray, List.set_cons_zero, List.set_cons_succ]
  refine wpAnyH_take (i := 17) (oi := ⟨some 44, _, _, _, _, _⟩) (v := ?_) rfl (by kernel_rfl) (by kernel_rfl) (by kernel_rfl) (fun _ _ _ h => h) (Or.inl ⟨by rfl, ?_⟩) (by assumption) ?_
  rotate_left
  · (intro w hSw; (try dsimp only at hSw); go_simp; try with_reducible rfl)
  try simp only [Act.put, List.setIfInBounds_toArray, List.set_cons_zero, List.set_cons_succ]
  refine wpAnyH_take (i := 18) (oi := ⟨some 45, _, _, _, _, _⟩) (v := ?_) rfl (by kernel_rfl) (by kernel_rfl) (by kernel_rfl) (fun _ _ _ h => h) (Or.inl ⟨by rfl, ?_⟩) (by assumption) ?_
  rotate_left
  · (intro w hSw; (try dsimp only at hSw); go_simp; try with_reducible rfl)
  try simp only [Act.put, List.setIfInBounds_toArray, List.set_cons_zero, List.set_cons_succ]
  refine wpAnyH_ready (rs := [19]) (by kernel_rfl) (by simp) ?_
  refine AllReadyH.cons (o := ⟨some 46, _, _, _, _, _⟩) rfl (fun K hK => ?_) AllReadyH.nil
  go_simp
  refine (objects_c4 w b o M S HH.out HM.out gb gs HG.out HS.out w.heap.size (w.heap.size + 1 + 1) w1.heap.size (w1.heap.size + 1) (w1.heap.size + 1 + 1) (w.heap.size + 1) (startsM M) _ ?_ (by omega) (by omega) (by omega) (by omega) (by omega) (by omega) ?_ ?_ ?_ ?_ ?_ ?_ ?_).mono ?_
  · exact Ext.trans_ HX9.out HE3.out
  · exact SM9.out.ext HE3.out
  · exact hHeld.2.1
  · exact HE3.out.cell_ G3.out
  · exact HE3.out.cell_ G4.out
  · exact hHeld.1
  · exact HE3.out.cell_ G6.out
  · rw [HE3.out.three.2.1 _ _ z9]; exact U6.out
  rintro e w4 ⟨he, hc6, hK⟩
  rw [HO.out] at he
  subst he
  have HE4 : Hid (Ext w w4) := Ext.keep (Ext.trans_ HX9.out HE3.out) hK (fun i hi => by omega)
  have d4 := hK.cell (by simp) hHeld.1
  have d4a := hK.cell (by simp; omega) hHeld.2.1
  have d4b := hK.cell (by simp; omega) hHeld.2.2.1
  have d4c := hK.cell (by simp; omega) hHeld.2.2.2
  have HC6 := Lib.hid hc6
  have HK4 := Lib.hid hK
  clear hc6 hK
  refine hK.out _ _ ?_ (fun hHeld => ?_)
  · (try dsimp only); exact ⟨d4, d4a, d4b, d4c⟩
  clear hK K
  try simp only [Act.put, List.setIfInBounds_toArray, List.set_cons_zero, List.set_cons_succ]
  refine wpAnyH_take (i := 20) (oi := ⟨some 47, _, _, _, _, _⟩) (v := ?_) rfl (by kernel_rfl) (by kernel_rfl) (by kernel_rfl) (fun _ _ _ h => h) (Or.inl ⟨by rfl, ?_⟩) (by assumption) ?_
  rotate_left
  · (intro w hSw; (try dsimp only at hSw); go_simp; try with_reducible rfl)
  try simp only [Act.put, List.setIfInBounds_toArray, List.set_cons_zero, List.set_cons_succ]
  refine wpAnyH_take (i := 21) (oi := ⟨some 48, _, _, _, _, _⟩) (v := ?_) rfl (by kernel_rfl) (by kernel_rfl) (by kernel_rfl) (fun _ _ _ h => h) (Or.inl ⟨by rfl, ?_⟩) (by assumption) ?_
  rotate_left
  · (intro w hSw; (try dsimp only at hSw); go_simp; try with_reducible rfl)
  try simp only [Act.put, List.setIfInBounds_toArray, List.set_cons_zero, List.set_cons_succ]
  refine wpAnyH_done (by kernel_rfl) ?_ _
  have hx : Ext w w4 := HE4.out
  have hS1 : GShape w4 gs := hx.cell_ HS.out
  go_wp2
  go_ret
  exact ⟨rfl, hx⟩
end Go.Proofs.YtecbbbaafcoliaaGreatDoor
