/- The walk of Memory.Check: the numbered objects, the cards. -/
import Derived.Test.YtecbbbaafcoliaaDoorJWa05
import Derived.Test.YtecbbbaafcoliaaDoorJWa03
import Derived.Laws.EntriesVeiled
import Derived.Test.YtecbbbaafcoliaaDoorJWa01
import Derived.LaidEql
import Derived.Stop.Asserts
import Derived.RowKitTokens
namespace Go.Proofs.YtecbbbaafcoliaaDoor
open Go.RowKit
set_option linter.unusedVariables false
set_option linter.unusedSimpArgs false

theorem undAts : Tryd.prog.underlying 95 = some (.map 30 4) := by kernel_rfl
theorem undWord : Tryd.prog.underlying 30 = some (.int .u64) := by kernel_rfl
theorem smapU_look {w : World} {bm : Nat} {st : List Int} (h : SMap w bm .u64 st) (a : Int) :
    (Instr.lookup 95 (.map (some bm)) (.int .u64 a) false).run Tryd.prog w = .ok (.bool (inSt st a)) w := by
  obtain ⟨es, hm, hg⟩ := h
  rw [run_lookup_mapi undAts undWord (zeroBool w) hm a false, hg a]
  unfold inSt
  cases st.contains a <;> rfl
theorem smapU_put {w : World} {bm : Nat} {st : List Int} (h : SMap w bm .u64 st) (a : Int) :
    ∃ w', (Instr.mapUpdate 95 (.map (some bm)) (.int .u64 a) (.bool true)).run Tryd.prog w = .ok () w' ∧ SMap w' bm .u64 (st ++ [a]) ∧ But bm w w' := by
  obtain ⟨es, hm, hg⟩ := h
  obtain ⟨w', h1, h2, h3⟩ := run_update_mapi (P := Tryd.prog) undAts undWord hm a (.bool true)
  exact ⟨w', h1, SMap.put a hg h2, h3⟩
/-- What the last part of Check answers. -/
def idsRes (M : Mem) (gs gp : Addr) : Value := if idsB (startsM M) [] M.ids = true then (if cardsM M = true then .nilIface else errV gp) else errV gs
theorem idOK_eq (st : List Int) (pre : List (Int × Int)) (x1 x2 : Int) : idOK st pre (x1, x2) = (!(((((kindW x1 != 0) || (x1 == 0)) || !fldB st x1) || decide (x2 < 1)) || inSt (pre.map (·.1)) x1) && !inSt (pre.map (·.2)) x2) := rfl
set_option maxRecDepth 100000 in
set_option maxHeartbeats 4000000 in
theorem check_e (b o : Nat) (M : Mem) (S : Sls) (gb gs gp : Addr) (w : World) (hM : RMem w b o M S) (hG : GBound w gb) (hS : GShape w gs) (hP : GPlace w gp) (hs : shapeB M = true) (h1 : objsB M (okHd M) = true) (h2 : fieldsB (startsM M) M.roots = true) (h3 : fieldsB (startsM M) M.weak = true) (h4 : objsB M (okFld M (startsM M)) = true) :
    Calls Tryd.prog 24 #[.pointer (some ⟨b, o, none⟩)] w fun e w' => e = .returned (idsRes M gs gp) ∧ Ext w w' := by
  have hh := shp_of hs
  have hmm := @run_makeMap Tryd.prog
  have HM := Lib.hid hM
  have HG := Lib.hid hG
  have HH := Lib.hid hh
  have HS := Lib.hid hS
  have HP := Lib.hid hP
  have H1 := Lib.hid h1
  have HR := Lib.hid h2
  have HW := Lib.hid h3
  have HO := Lib.hid h4
  clear h2 h3 h4
  have hltb := hM.lt
  have hltg := cell_lt hS
  have hltp := cell_lt hP
  simp only at hltg hltp
  clear hM hG hh hP
  go_enter Tryd.func24, Tryd.ntmps24
  go_wp2_with (first
    | (go_at_call 53; refine (shape_any _ b o M S ?_).mono ?_; (exact HM.out.ext ((Ext.refl w).alloc_ _)); rintro e w' ⟨rfl, n, rfl⟩; rw [hs]))
  refine (objects_c1 w b o M S HH.out HM.out gb gs HG.out hS (w.heap.size + 1) (w.heap.size + 1 + 1) w.heap.size _ ?_ (by omega) (by omega) (by omega) ?_ ?_ ?_).mono ?_
  · repeat (first | exact Ext.refl _ | (refine Ext.set_ ?_ (by simp) _) | (refine Ext.alloc_ ?_ _) | (refine Ext.drewN_ ?_ _))
  · exact SMap.made_ (w := (w.alloc _).drewN n) _ (by simp) (by repeat (first | exact Ext.refl _ | (refine Ext.set_ ?_ (by simp) _) | (refine Ext.alloc_ ?_ _)))
  · simp [go_sem]
  · simp [go_sem]
  rintro e w1 ⟨rfl, hsm, hK⟩
  rw [h1]
  have hx : Ext w w1 := Ext.keep (by repeat (first | exact Ext.refl _ | (refine Ext.set_ ?_ (by simp) _) | (refine Ext.alloc_ ?_ _) | (refine Ext.drewN_ ?_ _))) hK (fun i hi => by omega)
  have f1 : w1.cell? ⟨w.heap.size, 0, none⟩ = some (.pointer (some ⟨b, o, none⟩)) := hK.cell (by simp) (by simp [go_sem])
  have f3 : w1.cell? ⟨w.heap.size + 1 + 1, 0, none⟩ = some (.map (some (w.heap.size + 1))) := hK.cell (by simp) (by simp [go_sem])
  have z1 : w.heap.size + 1 + 1 < w1.heap.size := by have := hK.size; simp at this; omega
  have HX1 := Lib.hid hx
  have HSM := Lib.hid (hsm h1)
  clear hsm hK hx hS h1
  go_wp2
  refine named_world (fun W9 hW9 => ?_)
  have g5 : W9.cell? ⟨w1.heap.size + 1, 0, none⟩ = some (.func (.func 58) #[] #[.pointer (some ⟨w1.heap.size, 0, none⟩)]) := by rw [hW9]; simp [go_sem]
  have g4 : W9.cell? ⟨w1.heap.size, 0, none⟩ = some (.func (.func 57) #[] #[.pointer (some ⟨w.heap.size + 1 + 1, 0, none⟩)]) := by rw [hW9]; simp [go_sem]
  have g6 : W9.cell? ⟨w1.heap.size + 1 + 1, 0, none⟩ = some (.bool true) := by rw [hW9]; simp [go_sem]
  have u6 : W9.frozen? ⟨w1.heap.size + 1 + 1, 0, none⟩ = false := by rw [hW9]; simp [go_sem]
  have hx9 : Ext w1 W9 := by rw [hW9]; repeat (first | exact Ext.refl _ | (refine Ext.alloc_ ?_ _))
  have g1 := hx9.cell_ f1
  have g3 := hx9.cell_ f3
  have hsm9 := HSM.out.ext hx9
  have hxx : Ext w W9 := Ext.trans_ HX1.out hx9
  have hM9 := HM.out.ext hxx
  have gr := hM9.roots
  have gk := hM9.weak
  have z9 : w1.heap.size + 1 + 1 < W9.heap.size := cell_lt g6
  have G3 := Lib.hid g3
  have G4 := Lib.hid g4
  have G6 := Lib.hid g6
  have U6 := Lib.hid u6
  have SM9 := Lib.hid hsm9
  have HX9 := Lib.hid hxx
  clear hW9 hx9 f1 f3 g3 g4 g6 u6 hsm9 hxx hM9 HSM
  refine wp_region_held_drew (S := fun W => W.cell? ⟨w1.heap.size + 1, 0, none⟩ = some (.func (.func 58) #[] #[.pointer (some ⟨w1.heap.size, 0, none⟩)]) ∧ W.cell? ⟨w.heap.size, 0, none⟩ = some (.pointer (some ⟨b, o, none⟩)) ∧ W.cell? ⟨b, o + 7, none⟩ = some (.slice S.R.1 M.roots.length S.R.2) ∧ W.cell? ⟨b, o + 8, none⟩ = some (.slice S.K.1 M.weak.length S.K.2)) (by kernel_rfl) ?_ (fun hHeld => ?_)
  · exact ⟨g5, g1, gr, gk⟩
  refine wpAnyH_take (i := 0) (oi := ⟨some 27, _, _, _, _, _⟩) (v := ?_) rfl (by kernel_rfl) (by kernel_rfl) (by kernel_rfl) (fun _ _ _ h => h) (Or.inl ⟨by rfl, ?_⟩) (by assumption) ?_
  rotate_left
  · (intro w hSw; (try dsimp only at hSw); go_simp; try with_reducible rfl)
  try simp only [Act.put, List.setIfInBounds_toArray, List.set_cons_zero, List.set_cons_succ]
  refine wpAnyH_take (i := 1) (oi := ⟨some 28, _, _, _, _, _⟩) (v := ?_) rfl (by kernel_rfl) (by kernel_rfl) (by kernel_rfl) (fun _ _ _ h => h) (Or.inl ⟨by rfl, ?_⟩) (by assumption) ?_
  rotate_left
  · (intro w hSw; (try dsimp only at hSw); go_simp; try with_reducible rfl)
  try simp only [Act.put, List.setIfInBounds_toArray, List.set_cons_zero, List.set_cons_succ]
  refine wpAnyH_take (i := 2) (oi := ⟨some 29, _, _, _, _, _⟩) (v := ?_) rfl (by kernel_rfl) (by kernel_rfl) (by kernel_rfl) (fun _ _ _ h => h) (Or.inl ⟨by rfl, ?_⟩) (by assumption) ?_
  rotate_left
  · (intro w hSw; (try dsimp only at hSw); go_simp; try with_reducible rfl)
  try simp only [Act.put, List.setIfInBounds_toArray, List.set_cons_zero, List.set_cons_succ]
  refine wpAnyH_take (i := 3) (oi := ⟨some 30, _, _, _, _, _⟩) (v := ?_) rfl (by kernel_rfl) (by kernel_rfl) (by kernel_rfl) (fun _ _ _ h => h) (Or.inl ⟨by rfl, ?_⟩) (by assumption) ?_
  rotate_left
  · (intro w hSw; (try dsimp only at hSw); go_simp; try with_reducible rfl)
  try simp only [Act.put, List.setIfInBounds_toArray, List.set_cons_zero, List.set_cons_succ]
  refine wpAnyH_take (i := 4) (oi := ⟨some 31, _, _, _, _, _⟩) (v := ?_) rfl (by kernel_rfl) (by kernel_rfl) (by kernel_rfl) (fun _ _ _ h => h) (Or.inl ⟨by rfl, ?_⟩) (by assumption) ?_
  rotate_left
  · (intro w hSw; (try dsimp only at hSw); go_simp; try with_reducible rfl)
  try simp only [Act.put, List.setIfInBounds_toArray, List.set_cons_zero, List.set_cons_succ]
  refine wpAnyH_ready (rs := [5]) (by kernel_rfl) (by simp) ?_
  refine AllReadyH.cons (o := ⟨some 32, _, _, _, _, _⟩) rfl (fun K hK => ?_) AllReadyH.nil
  go_simp
  refine (c3_any S.R.1 S.R.2 M.roots ?_ ?_ (w.heap.size + 1) (w.heap.size + 1 + 1) w1.heap.size (startsM M) _ ?_ ?_ ?_ ?_).mono ?_
  · exact HM.out.ok.lenR
  · exact HM.out.ok.roots
  · exact (HM.out.ext (Ext.trans_ HX9.out (by repeat (first | exact Ext.refl _ | (refine Ext.drew_ ?_))))).rR
  · exact SM9.out.ext (by repeat (first | exact Ext.refl _ | (refine Ext.drew_ ?_)))
  · exact Ext.cell_ (by repeat (first | exact Ext.refl _ | (refine Ext.drew_ ?_))) G3.out
  · exact Ext.cell_ (by repeat (first | exact Ext.refl _ | (refine Ext.drew_ ?_))) G4.out
  rintro e w2 ⟨he, hq⟩
  rw [HR.out] at he
  subst he
  have HE2 : Hid (Ext W9 w2) := Ext.trans_ (by repeat (first | exact Ext.refl _ | (refine Ext.drew_ ?_))) hq
  have d2 := hq.cell_ hHeld.1
  have d2a := hq.cell_ hHeld.2.1
  have d2b := hq.cell_ hHeld.2.2.1
  have d2c := hq.cell_ hHeld.2.2.2
  clear hq
  refine hK.out _ _ ?_ (fun hHeld => ?_)
  · (try dsimp only); exact ⟨d2, d2a, d2b, d2c⟩
  clear hK K
  try simp only [Act.put, List.setIfInBounds_toArray, List.set_cons_zero, List.set_cons_succ]
  refine wpAnyH_take (i := 6) (oi := ⟨some 33, _, _, _, _, _⟩) (v := ?_) rfl (by kernel_rfl) (by kernel_rfl) (by kernel_rfl) (fun _ _ _ h => h) (Or.inl ⟨by rfl, ?_⟩) (by assumption) ?_
  rotate_left
  · (intro w hSw; (try dsimp only at hSw); go_simp; try with_reducible rfl)
  try simp only [Act.put, List.setIfInBounds_toArray, List.set_cons_zero, List.set_cons_succ]
  refine wpAnyH_take (i := 7) (oi := ⟨some 34, _, _, _, _, _⟩) (v := ?_) rfl (by kernel_rfl) (by kernel_rfl) (by kernel_rfl) (fun _ _ _ h => h) (Or.inl ⟨by rfl, ?_⟩) (by assumption) ?_
  rotate_left
  · (intro w hSw; (try dsimp only at hSw); go_simp; try with_reducible rfl)
  try simp only [Act.put, List.setIfInBounds_toArray, List.set_cons_zero, List.set_cons_succ]
  refine wpAnyH_take (i := 8) (oi := ⟨some 35, _, _, _, _, _⟩) (v := ?_) rfl (by kernel_rfl) (by kernel_rfl) (by kernel_rfl) (fun _ _ _ h => h) (Or.inl ⟨by rfl, ?_⟩) (by assumption) ?_
  rotate_left
  · (intro w hSw; (try dsimp only at hSw); go_simp; try with_reducible rfl)
  try simp only [Act.put, List.setIfInBounds_toArray, List.set_cons_zero, List.set_cons_succ]
  refine wpAnyH_take (i := 9) (oi := ⟨some 36, _, _, _, _, _⟩) (v := ?_) rfl (by kernel_rfl) (by kernel_rfl) (by kernel_rfl) (fun _ _ _ h => h) (Or.inl ⟨by rfl, ?_⟩) (by assumption) ?_
  rotate_left
  · (intro w hSw; (try dsimp only at hSw); go_simp; try with_reducible rfl)
  try simp only [Act.put, List.setIfInBounds_toArray, List.set_cons_zero, List.set_cons_succ]
  refine wpAnyH_take (i := 10) (oi := ⟨some 37, _, _, _, _, _⟩) (v := ?_) rfl (by kernel_rfl) (by kernel_rfl) (by kernel_rfl) (fun _ _ _ h => h) (Or.inl ⟨by rfl, ?_⟩) (by assumption) ?_
  rotate_left
  · (intro w hSw; (try dsimp only at hSw); go_simp; try with_reducible rfl)
  try simp only [Act.put, List.setIfInBounds_toArray, List.set_cons_zero, List.set_cons_succ]
  refine wpAnyH_take (i := 11) (oi := ⟨some 38, _, _, _, _, _⟩) (v := ?_) rfl (by kernel_rfl) (by kernel_rfl) (by kernel_rfl) (fun _ _ _ h => h) (Or.inl ⟨by rfl, ?_⟩) (by assumption) ?_
  rotate_left
  · (intro w hSw; (try dsimp only at hSw); go_simp; try with_reducible rfl)
  try simp only [Act.put, List.setIfInBounds_toArray, List.set_cons_zero, List.set_cons_succ]
  refine wpAnyH_take (i := 12) (oi := ⟨some 39, _, _, _, _, _⟩) (v := ?_) rfl (by kernel_rfl) (by kernel_rfl) (by kernel_rfl) (fun _ _ _ h => h) (Or.inl ⟨by rfl, ?_⟩) (by assumption) ?_
  rotate_left
  · (intro w hSw; (try dsimp only at hSw); go_simp; try with_reducible rfl)
  try simp only [Act.put, List.setIfInBounds_toArray, List.set_cons_zero, List.set_cons_succ]
  refine wpAnyH_ready (rs := [13]) (by kernel_rfl) (by simp) ?_
  refine AllReadyH.cons (o := ⟨some 40, _, _, _, _, _⟩) rfl (fun K hK => ?_) AllReadyH.nil
  go_simp
  refine (c3_any S.K.1 S.K.2 M.weak ?_ ?_ (w.heap.size + 1) (w.heap.size + 1 + 1) w1.heap.size (startsM M) _ ?_ ?_ ?_ ?_).mono ?_
  · exact HM.out.ok.lenK
  · exact HM.out.ok.weak
  · exact (HM.out.ext (Ext.trans_ HX9.out (by exact HE2.out))).rK
  · exact SM9.out.ext (by exact HE2.out)
  · exact Ext.cell_ (by exact HE2.out) G3.out
  · exact Ext.cell_ (by exact HE2.out) G4.out
  rintro e w3 ⟨he, hq⟩
  rw [HW.out] at he
  subst he
  have HE3 : Hid (Ext W9 w3) := Ext.trans_ (by exact HE2.out) hq
  have d3 := hq.cell_ hHeld.1
  have d3a := hq.cell_ hHeld.2.1
  have d3b := hq.cell_ hHeld.2.2.1
  have d3c := hq.cell_ hHeld.2.2.2
  clear hq
  refine hK.out _ _ ?_ (fun hHeld => ?_)
  · (try dsimp only); exact ⟨d3, d3a, d3b, d3c⟩
  clear hK K
  try simp only [Act.put, List.setIfInBounds_toArray, List.set_cons_zero, List.set_cons_succ]
  refine wpAnyH_take (i := 14) (oi := ⟨some 41, _, _, _, _, _⟩) (v := ?_) rfl (by kernel_rfl) (by kernel_rfl) (by kernel_rfl) (fun _ _ _ h => h) (Or.inl ⟨by rfl, ?_⟩) (by assumption) ?_
  rotate_left
  · (intro w hSw; (try dsimp only at hSw); go_simp; try with_reducible rfl)
  try simp only [Act.put, List.setIfInBounds_toArray, List.set_cons_zero, List.set_cons_succ]
  refine wpAnyH_take (i := 15) (oi := ⟨some 42, _, _, _, _, _⟩) (v := ?_) rfl (by kernel_rfl) (by kernel_rfl) (by kernel_rfl) (fun _ _ _ h => h) (Or.inl ⟨by rfl, ?_⟩) (by assumption) ?_
  rotate_left
  · (intro w hSw; (try dsimp only at hSw); go_simp; try with_reducible rfl)
  try simp only [Act.put, List.setIfInBounds_toArray, List.set_cons_zero, List.set_cons_succ]
  refine wpAnyH_take (i := 16) (oi := ⟨some 43, _, _, _, _, _⟩) (v := ?_) rfl (by kernel_rfl) (by kernel_rfl) (by kernel_rfl) (fun _ _ _ h => h) (Or.inl ⟨by rfl, ?_⟩) (by assumption) ?_
  rotate_left
  · (intro w hSw; (try dsimp only at hSw); go_simp; try with_reducible rfl)
  try simp only [Act.put, List.setIfInBounds_toArray, List.set_cons_zero, List.set_cons_succ]
  refine wpAnyH_take (i := 17) (oi := ⟨some 44, _, _, _, _, _⟩) (v := ?_) rfl (by kernel_rfl) (by kernel_rfl) (by kernel_rfl) (fun _ _ _ h => h) (Or.inl ⟨by rfl, ?_⟩) (by assumption) ?_
  rotate_left
  · (intro w hSw; (try dsimp only at hSw); go_simp; try with_reducible rfl)
  try simp only [Act.put, List.setIfInBounds_toArray, List.set_cons_zero, List.set_cons_succ]
  refine wpAnyH_take (i := 18) (oi := ⟨some 45, _, _, _, _, _⟩) (v := ?_) rfl (by kernel_rfl) (by kernel_rfl) (by kernel_rfl) (fun _ _ _ h => h) (Or.inl ⟨by rfl, ?_⟩) (by assumption) ?_
  rotate_left
  · (intro w hSw; (try dsimp only at hSw); go_simp; try with_reducible rfl)
  try simp only [Act.put, List.setIfInBounds_toArray, List.set_cons_zero, List.set_cons_succ]
  refine wpAnyH_ready (rs := [19]) (by kernel_rfl) (by simp) ?_
  refine AllReadyH.cons (o := ⟨some 46, _, _, _, _, _⟩) rfl (fun K hK => ?_) AllReadyH.nil
  go_simp
  refine (objects_c4 w b o M S HH.out HM.out gb gs HG.out HS.out w.heap.size (w.heap.size + 1 + 1) w1.heap.size (w1.heap.size + 1) (w1.heap.size + 1 + 1) (w.heap.size + 1) (startsM M) _ ?_ (by omega) (by omega) (by omega) (by omega) (by omega) (by omega) ?_ ?_ ?_ ?_ ?_ ?_ ?_).mono ?_
  · exact Ext.trans_ HX9.out HE3.out
  · exact SM9.out.ext HE3.out
  · exact hHeld.2.1
  · exact HE3.out.cell_ G3.out
  · exact HE3.out.cell_ G4.out
  · exact hHeld.1
  · exact HE3.out.cell_ G6.out
  · rw [HE3.out.three.2.1 _ _ z9]; exact U6.out
  rintro e w4 ⟨he, hc6, hK⟩
  rw [HO.out] at he
  subst he
  have HE4 : Hid (Ext w w4) := Ext.keep (Ext.trans_ HX9.out HE3.out) hK (fun i hi => by omega)
  have d4 := hK.cell (by simp) hHeld.1
  have d4a := hK.cell (by simp; omega) hHeld.2.1
  have d4b := hK.cell (by simp; omega) hHeld.2.2.1
  have d4c := hK.cell (by simp; omega) hHeld.2.2.2
  have HC6 := Lib.hid hc6
  have HK4 := Lib.hid hK
  clear hc6 hK
  refine hK.out _ _ ?_ (fun hHeld => ?_)
  · (try dsimp only); exact ⟨d4, d4a, d4b, d4c⟩
  clear hK K
  try simp only [Act.put, List.setIfInBounds_toArray, List.set_cons_zero, List.set_cons_succ]
  refine wpAnyH_take (i := 20) (oi := ⟨some 47, _, _, _, _, _⟩) (v := ?_) rfl (by kernel_rfl) (by kernel_rfl) (by kernel_rfl) (fun _ _ _ h => h) (Or.inl ⟨by rfl, ?_⟩) (by assumption) ?_
  rotate_left
  · (intro w hSw; (try dsimp only at hSw); go_simp; try with_reducible rfl)
  try simp only [Act.put, List.setIfInBounds_toArray, List.set_cons_zero, List.set_cons_succ]
  refine wpAnyH_take (i := 21) (oi := ⟨some 48, _, _, _, _, _⟩) (v := ?_) rfl (by kernel_rfl) (by kernel_rfl) (by kernel_rfl) (fun _ _ _ h => h) (Or.inl ⟨by rfl, ?_⟩) (by assumption) ?_
  rotate_left
  · (intro w hSw; (try dsimp only at hSw); go_simp; try with_reducible rfl)
  try simp only [Act.put, List.setIfInBounds_toArray, List.set_cons_zero, List.set_cons_succ]
  refine wpAnyH_done (by kernel_rfl) ?_ _
  have hx : Ext w w4 := HE4.out
  have hM4 := HM.out.ext hx
  have ci := hM4.ids
  have hc6 := HC6.out HO.out
  have z4 := cell_lt hc6
  simp only at z4
  have z5 : w.heap.size < w4.heap.size := by omega
  have z6 : b < w4.heap.size := by omega
  have hil : M.ids.length ≤ 9223372036854775807 := HM.out.ok.lenI
  have HI4 := Lib.hid hM4.rI
  have hK4 : Keep (· = w1.heap.size + 1 + 1) W9 w4 := Keep.trans (Keep.of_ext HE3.out) HK4.out
  have G34 := Lib.hid (hK4.cell (by simp; omega) G3.out)
  have G44 := Lib.hid (hK4.cell (by simp; omega) G4.out)
  have SM4 := Lib.hid (SM9.out.keep hK4 (by simp; omega))
  have HX4 := Lib.hid hx
  have C64 := Lib.hid hc6
  have hcap := HM.out.capI
  clear hHeld hM4 hx hK4 hc6 HC6 HK4
  go_wp2
  go_loopw [57] (fun i wr => ∃ k : Nat, k ≤ M.ids.length ∧ i = .int .i64 (k : Int) ∧ Hid (SMap wr w4.heap.size .u64 ((M.ids.take k).map (·.1))) ∧ Hid (SMap wr (w4.heap.size + 1) .i64 ((M.ids.take k).map (·.2))) ∧
      Hid (idsB (startsM M) [] M.ids = idsB (startsM M) (M.ids.take k) (M.ids.drop k)) ∧ Hid (Ext w4 wr))
    (fun i _ => M.ids.length - (intOf i).toNat)
  case atStart =>
    exact ⟨0, Nat.zero_le _, rfl, SMap.made_ (w := w4) _ rfl ((Ext.refl _).alloc_ _), SMap.made_ (w := w4.alloc (.map #[] 0)) _ (by simp) (Ext.refl _), rfl, ((Ext.refl w4).alloc_ _).alloc_ _⟩
  case round =>
    obtain ⟨k, hk, rfl, hA, hB, hP, hq⟩ := hrel
    have z7 := hq.out.size
    have z8 : w.heap.size < wr.heap.size := by omega
    have z9' : b < wr.heap.size := by omega
    by_cases hlt : k < M.ids.length
    · obtain ⟨p1, p2⟩ := icells_at M.ids k hlt
      obtain ⟨ib, io, hIa, hc1⟩ := HI4.out _ _ p1
      have hc2 := (hIa ▸ HI4.out).at_ p2
      replace hc1 := hq.out.cell_ hc1
      replace hc2 := hq.out.cell_ hc2
      rw [← Nat.add_assoc] at hc2
      have hltc := cell_lt hc1
      simp only at hltc
      obtain ⟨⟨hb0, hb1⟩, -⟩ := HM.out.ok.ids M.ids[k] (List.getElem_mem hlt)
      have HD : Hid (M.ids.drop k = (M.ids[k].1, M.ids[k].2) :: M.ids.drop (k + 1)) := List.drop_eq_getElem_cons hlt
      have HT : Hid (M.ids.take (k + 1) = M.ids.take k ++ [(M.ids[k].1, M.ids[k].2)]) := by
        unfold Hid; rw [List.take_succ_eq_append_getElem hlt]
      generalize M.ids[k].1 = x1 at *
      generalize M.ids[k].2 = x2 at *
      have f1r := hq.out.cell_ d4a
      have f4r := hq.out.cell_ G44.out
      have G3r := Lib.hid (((Ext.refl wr).alloc_ (Obj.cells #[.int .u64 x1, .int .i64 x2] 72)).cell_ (hq.out.cell_ G34.out))
      have SM := Lib.hid (SM4.out.ext hq.out)
      have l1 := smapU_look (hA.out.ext ((Ext.refl wr).alloc_ (Obj.cells #[.int .u64 x1, .int .i64 x2] 72))) x1
      have l2 := smap_look (hB.out.ext ((Ext.refl wr).alloc_ (Obj.cells #[.int .u64 x1, .int .i64 x2] 72))) x2
      have hgs : GShape wr gs := hq.out.cell_ (HX4.out.cell_ HS.out)
      have z10 : w1.heap.size < wr.heap.size := by omega
      have zg := cell_lt hgs
      have z11 : w.heap.size + 1 + 1 < wr.heap.size := by omega
      simp only at zg
      have hix : ∀ W : World, (Instr.indexAt 36 (.slice S.I.1 M.ids.length S.I.2) (.int .i64 (k : Int))).run Tryd.prog W = .ok (.pointer (some ⟨ib, io + k * 2, none⟩)) W := fun W => by
        rw [hIa]; go_simp
      clear p1 p2 ci hIa
      obtain ⟨T1, hT1⟩ : ∃ T : List Int, T = (M.ids.take k).map (·.1) := ⟨_, rfl⟩
      obtain ⟨T2, hT2⟩ : ∃ T : List Int, T = (M.ids.take k).map (·.2) := ⟨_, rfl⟩
      rw [← hT1] at l1
      rw [← hT2] at l2
      have HT1 := Lib.hid hT1
      have HT2 := Lib.hid hT2
      clear hT1 hT2
      cases q1 : (kindW x1 != 0) with
      | true =>
        have HB : Hid (idOK (startsM M) (M.ids.take k) (x1, x2) = false) := by rw [Hid, idOK_eq, ← HT1.out, ← HT2.out, q1]; simp
        go_wp2_with (first
                      | (go_at_call 63; refine (kind_any _ hb0 hb1 _).mono ?_; rintro e w' ⟨rfl, rfl⟩)
                      | (go_at_call 57; refine (c2_any _ hb0 hb1 (w.heap.size + 1) (w.heap.size + 1 + 1) (startsM M) _ (SM.out.ext ((Ext.refl wr).alloc_ _)) G3r.out).mono ?_; rintro e w' ⟨rfl, rfl⟩))
        go_ret
        refine ⟨?_, Ext.trans_ HX4.out (Ext.alloc_ hq.out _)⟩
        have hf : idsRes M gs gp = errV gs := by unfold idsRes; rw [hP.out, HD.out, idsB, HB.out]; rfl
        rw [hf]; rfl
      | false =>
        cases q2 : (x1 == 0) with
        | true =>
          have HB : Hid (idOK (startsM M) (M.ids.take k) (x1, x2) = false) := by rw [Hid, idOK_eq, ← HT1.out, ← HT2.out, q1, q2]; simp
          go_wp2_with (first
                        | (go_at_call 63; refine (kind_any _ hb0 hb1 _).mono ?_; rintro e w' ⟨rfl, rfl⟩)
                        | (go_at_call 57; refine (c2_any _ hb0 hb1 (w.heap.size + 1) (w.heap.size + 1 + 1) (startsM M) _ (SM.out.ext ((Ext.refl wr).alloc_ _)) G3r.out).mono ?_; rintro e w' ⟨rfl, rfl⟩))
          go_ret
          refine ⟨?_, Ext.trans_ HX4.out (Ext.alloc_ hq.out _)⟩
          have hf : idsRes M gs gp = errV gs := by unfold idsRes; rw [hP.out, HD.out, idsB, HB.out]; rfl
          rw [hf]; rfl
        | false =>
          cases q3 : fldB (startsM M) x1 with
          | false =>
            have HB : Hid (idOK (startsM M) (M.ids.take k) (x1, x2) = false) := by rw [Hid, idOK_eq, ← HT1.out, ← HT2.out, q1, q2, q3]; simp
            go_wp2_with (first
                          | (go_at_call 63; refine (kind_any _ hb0 hb1 _).mono ?_; rintro e w' ⟨rfl, rfl⟩)
                          | (go_at_call 57; refine (c2_any _ hb0 hb1 (w.heap.size + 1) (w.heap.size + 1 + 1) (startsM M) _ (SM.out.ext ((Ext.refl wr).alloc_ _)) G3r.out).mono ?_; rintro e w' ⟨rfl, rfl⟩))
            go_ret
            refine ⟨?_, Ext.trans_ HX4.out (Ext.alloc_ hq.out _)⟩
            have hf : idsRes M gs gp = errV gs := by unfold idsRes; rw [hP.out, HD.out, idsB, HB.out]; rfl
            rw [hf]; rfl
          | true =>
            by_cases q4 : x2 < 1
            ·
              have HB : Hid (idOK (startsM M) (M.ids.take k) (x1, x2) = false) := by rw [Hid, idOK_eq, ← HT1.out, ← HT2.out, q1, q2, q3, decide_eq_true q4]; simp
              go_wp2_with (first
                            | (go_at_call 63; refine (kind_any _ hb0 hb1 _).mono ?_; rintro e w' ⟨rfl, rfl⟩)
                            | (go_at_call 57; refine (c2_any _ hb0 hb1 (w.heap.size + 1) (w.heap.size + 1 + 1) (startsM M) _ (SM.out.ext ((Ext.refl wr).alloc_ _)) G3r.out).mono ?_; rintro e w' ⟨rfl, rfl⟩))
              go_ret
              refine ⟨?_, Ext.trans_ HX4.out (Ext.alloc_ hq.out _)⟩
              have hf : idsRes M gs gp = errV gs := by unfold idsRes; rw [hP.out, HD.out, idsB, HB.out]; rfl
              rw [hf]; rfl
            · cases q5 : inSt T1 x1 with
              | true =>
                have HB : Hid (idOK (startsM M) (M.ids.take k) (x1, x2) = false) := by rw [Hid, idOK_eq, ← HT1.out, ← HT2.out, q1, q2, q3, decide_eq_false q4, q5]; simp
                go_wp2_with (first
                              | (go_at_call 63; refine (kind_any _ hb0 hb1 _).mono ?_; rintro e w' ⟨rfl, rfl⟩)
                              | (go_at_call 57; refine (c2_any _ hb0 hb1 (w.heap.size + 1) (w.heap.size + 1 + 1) (startsM M) _ (SM.out.ext ((Ext.refl wr).alloc_ _)) G3r.out).mono ?_; rintro e w' ⟨rfl, rfl⟩))
                go_ret
                refine ⟨?_, Ext.trans_ HX4.out (Ext.alloc_ hq.out _)⟩
                have hf : idsRes M gs gp = errV gs := by unfold idsRes; rw [hP.out, HD.out, idsB, HB.out]; rfl
                rw [hf]; rfl
              | false =>
                cases q6 : inSt T2 x2 with
                | true =>
                  have HB : Hid (idOK (startsM M) (M.ids.take k) (x1, x2) = false) := by rw [Hid, idOK_eq, ← HT1.out, ← HT2.out, q1, q2, q3, decide_eq_false q4, q5, q6]; simp
                  go_wp2_with (first
                                | (go_at_call 63; refine (kind_any _ hb0 hb1 _).mono ?_; rintro e w' ⟨rfl, rfl⟩)
                                | (go_at_call 57; refine (c2_any _ hb0 hb1 (w.heap.size + 1) (w.heap.size + 1 + 1) (startsM M) _ (SM.out.ext ((Ext.refl wr).alloc_ _)) G3r.out).mono ?_; rintro e w' ⟨rfl, rfl⟩))
                  go_ret
                  refine ⟨?_, Ext.trans_ HX4.out (Ext.alloc_ hq.out _)⟩
                  have hf : idsRes M gs gp = errV gs := by unfold idsRes; rw [hP.out, HD.out, idsB, HB.out]; rfl
                  rw [hf]; rfl
                | false =>
                  have HB : Hid (idOK (startsM M) (M.ids.take k) (x1, x2) = true) := by rw [Hid, idOK_eq, ← HT1.out, ← HT2.out, q1, q2, q3, decide_eq_false q4, q5, q6]; rfl
                  go_wp2_with (first
              | (go_at_call 63; refine (kind_any _ hb0 hb1 _).mono ?_; rintro e w' ⟨rfl, rfl⟩)
              | (go_at_call 57; refine (c2_any _ hb0 hb1 (w.heap.size + 1) (w.heap.size + 1 + 1) (startsM M) _ (SM.out.ext ((Ext.refl wr).alloc_ _)) G3r.out).mono ?_; rintro e w' ⟨rfl, rfl⟩))
                  have z12 := hB.out.lt
                  refine named_world (fun W5 hW5 => ?_)
                  have y1 : W5.cell? ⟨wr.heap.size, 0, none⟩ = some (.int .u64 x1) := by rw [hW5]; simp [go_sem]
                  have y2 : W5.cell? ⟨wr.heap.size, 1, none⟩ = some (.int .i64 x2) := by rw [hW5]; simp [go_sem]
                  have hx5 : Ext wr W5 := by rw [hW5]; repeat (first | exact Ext.refl _ | (refine Ext.alloc_ ?_ _))
                  have hE5 : Ext w4 W5 := Ext.trans_ hq.out hx5
                  have hA5 := hA.out.ext hx5
                  have hB5 := hB.out.ext hx5
                  obtain ⟨wa, hu1, hm1, hb1⟩ := smapU_put (hA5.ext (Ext.refl W5).drew_) x1
                  have hK1 := Keep.of_but hb1
                  have e1 : Ext w4 wa := Ext.keep (Ext.trans_ hE5 (Ext.refl W5).drew_) hK1 (fun i hi => by omega)
                  have y3 := hK1.cell (p := ⟨wr.heap.size, 0, none⟩) (by simp; omega) (show W5.drew.cell? _ = _ from y1)
                  have y4 := hK1.cell (p := ⟨wr.heap.size, 1, none⟩) (by simp; omega) (show W5.drew.cell? _ = _ from y2)
                  obtain ⟨wb, hu2, hm2, hb2⟩ := smap_put ((hB5.ext (Ext.refl W5).drew_).keep hK1 (by omega)) x2
                  have hK2 := Keep.of_but hb2
                  have e2 : Ext w4 wb := Ext.keep e1 hK2 (fun i hi => by omega)
                  have y5 := hK2.cell (p := ⟨wr.heap.size, 0, none⟩) (by simp; omega) y3
                  have y6 := hK2.cell (p := ⟨wr.heap.size, 1, none⟩) (by simp; omega) y4
                  have HM1 := Lib.hid (hm1.keep hK2 (by omega))
                  have HM2 := Lib.hid hm2
                  have HE9 := Lib.hid e2
                  clear hW5 hA5 hB5 hx5 hE5 hm1 hm2 hb1 hb2 hK1 hK2 e1 e2
                  refine wp_region_held_drew (S := fun W => W.cell? ⟨wr.heap.size, 0, none⟩ = some (.int .u64 x1) ∧ W.cell? ⟨wr.heap.size, 1, none⟩ = some (.int .i64 x2)) (by kernel_rfl) ?_ (fun hHeld => ?_)
                  · exact ⟨y1, y2⟩
                  refine wpAnyH_take (i := 0) (oi := ⟨some 95, _, _, _, _, _⟩) (v := ?_) rfl (by kernel_rfl) (by kernel_rfl) (by kernel_rfl) (fun _ _ _ h => h) (Or.inl ⟨by rfl, ?_⟩) (by assumption) ?_
                  rotate_left
                  · (intro w hSw; (try dsimp only at hSw); go_simp; try with_reducible rfl)
                  try simp only [Act.put, List.setIfInBounds_toArray, List.set_cons_zero, List.set_cons_succ]
                  refine wpAnyH_take (i := 1) (oi := ⟨some 96, _, _, _, _, _⟩) (v := ?_) rfl (by kernel_rfl) (by kernel_rfl) (by kernel_rfl) (fun _ _ _ h => h) (Or.inl ⟨by rfl, ?_⟩) (by assumption) ?_
                  rotate_left
                  · (intro w hSw; (try dsimp only at hSw); go_simp; try with_reducible rfl)
                  try simp only [Act.put, List.setIfInBounds_toArray, List.set_cons_zero, List.set_cons_succ]
                  refine wpAnyH_take (i := 2) (oi := ⟨some 97, _, _, _, _, _⟩) (v := ?_) rfl (by kernel_rfl) (by kernel_rfl) (by kernel_rfl) (fun _ _ _ h => h) (Or.inl ⟨by rfl, ?_⟩) (by assumption) ?_
                  rotate_left
                  · (intro w hSw; (try dsimp only at hSw); go_simp; try with_reducible rfl)
                  try simp only [Act.put, List.setIfInBounds_toArray, List.set_cons_zero, List.set_cons_succ]
                  refine wpAnyH_take (i := 3) (oi := ⟨some 98, _, _, _, _, _⟩) (v := ?_) rfl (by kernel_rfl) (by kernel_rfl) (by kernel_rfl) (fun _ _ _ h => h) (Or.inl ⟨by rfl, ?_⟩) (by assumption) ?_
                  rotate_left
                  · (intro w hSw; (try dsimp only at hSw); go_simp; try with_reducible rfl)
                  try simp only [Act.put, List.setIfInBounds_toArray, List.set_cons_zero, List.set_cons_succ]
                  refine wpAnyH_take (i := 4) (oi := ⟨some 99, _, _, _, _, _⟩) (v := ?_) rfl (by kernel_rfl) (by kernel_rfl) (by kernel_rfl) (fun _ _ _ h => h) (Or.inl ⟨by rfl, ?_⟩) (by assumption) ?_
                  rotate_left
                  · (intro w hSw; (try dsimp only at hSw); go_simp; try with_reducible rfl)
                  try simp only [Act.put, List.setIfInBounds_toArray, List.set_cons_zero, List.set_cons_succ]
                  refine wpAnyH_take (i := 5) (oi := ⟨some 100, _, _, _, _, _⟩) (v := ?_) rfl (by kernel_rfl) (by kernel_rfl) (by kernel_rfl) (fun _ _ _ h => h) (Or.inl ⟨by rfl, ?_⟩) (by assumption) ?_
                  rotate_left
                  · (intro w hSw; (try dsimp only at hSw); go_simp; try with_reducible rfl)
                  try simp only [Act.put, List.setIfInBounds_toArray, List.set_cons_zero, List.set_cons_succ]
                  refine wpAnyH_ready (rs := [6]) (by kernel_rfl) (by simp) ?_
                  refine AllReadyH.cons (o := ⟨none, _, _, _, _, _⟩) rfl (fun K hK => ?_) AllReadyH.nil
                  go_simp
                  skip
                  refine hK.out _ _ ?_ (fun hHeld => ?_)
                  · (try dsimp only); exact ⟨y3, y4⟩
                  clear hK K
                  try simp only [Act.put, List.setIfInBounds_toArray, List.set_cons_zero, List.set_cons_succ]
                  refine wpAnyH_ready (rs := [7]) (by kernel_rfl) (by simp) ?_
                  refine AllReadyH.cons (o := ⟨none, _, _, _, _, _⟩) rfl (fun K hK => ?_) AllReadyH.nil
                  go_simp
                  skip
                  refine hK.out _ _ ?_ (fun hHeld => ?_)
                  · (try dsimp only); exact ⟨y5, y6⟩
                  clear hK K
                  try simp only [Act.put, List.setIfInBounds_toArray, List.set_cons_zero, List.set_cons_succ]
                  refine wpAnyH_done (by kernel_rfl) ?_ _
                  go_wp2
                  go_roundw
                  case rel =>
                    have r1 : SMap wb w4.heap.size .u64 ((M.ids.take (k + 1)).map (·.1)) := by rw [HT.out, List.map_append]; exact HM1.out
                    have r2 : SMap wb (w4.heap.size + 1) .i64 ((M.ids.take (k + 1)).map (·.2)) := by rw [HT.out, List.map_append]; exact HM2.out
                    have r3 : idsB (startsM M) [] M.ids = idsB (startsM M) (M.ids.take (k + 1)) (M.ids.drop (k + 1)) := by rw [hP.out, HD.out, idsB, HB.out, HT.out]; rfl
                    first
                      | exact ⟨k + 1, by omega, by go_num, r1, r2, r3, HE9.out⟩
                      | ((repeat apply Exists.intro); exact ⟨⟨k + 1, by omega, by go_num, r1, r2, r3, HE9.out⟩, rfl⟩)
                  case measure => simp [intOf]; omega
    · obtain rfl : k = M.ids.length := by omega
      have hc6r := hq.out.cell_ C64.out
      have hgp : GPlace wr gp := hq.out.cell_ (HX4.out.cell_ HP.out)
      have hT : idsB (startsM M) [] M.ids = true := by rw [hP.out, List.drop_length]; rfl
      have HTT := Lib.hid hT
      clear hT
      cases hcd : cardsM M with
      | true =>
        have HCD := Lib.hid hcd
        rw [hcd] at hc6r
        clear hcd
        go_wp2
        go_ret
        refine ⟨?_, Ext.trans_ HX4.out hq.out⟩
        unfold idsRes; rw [HTT.out, HCD.out]; rfl
      | false =>
        have HCD := Lib.hid hcd
        rw [hcd] at hc6r
        clear hcd
        go_wp2
        go_ret
        refine ⟨?_, Ext.trans_ HX4.out hq.out⟩
        unfold idsRes; rw [HTT.out, HCD.out]; rfl
end Go.Proofs.YtecbbbaafcoliaaDoor
/- Memory.Check: what it answers of any memory. -/
namespace Go.Proofs.YtecbbbaafcoliaaDoor
open Go.RowKit
set_option linter.unusedVariables false
set_option linter.unusedSimpArgs false

def chkV (M : Mem) (gs gp : Addr) : Value := if goodB M then (if cardsM M then .nilIface else errV gp) else errV gs
theorem check_nil (w : World) (gs : Addr) (hS : GShape w gs) : Calls Tryd.prog 24 #[.pointer none] w fun e w' => e = .returned (errV gs) ∧ Ext w w' := by
  have hltg := cell_lt hS
  simp only at hltg
  go_enter Tryd.func24, Tryd.ntmps24
  go_wp2
  go_ret
  exact ⟨rfl, (Ext.refl _).alloc_ _⟩
set_option maxRecDepth 100000 in
theorem check_0 (b o : Nat) (M : Mem) (S : Sls) (gs : Addr) (w : World) (hM : RMem w b o M S) (hS : GShape w gs) (hs : shapeB M = false) :
    Calls Tryd.prog 24 #[.pointer (some ⟨b, o, none⟩)] w fun e w' => e = .returned (errV gs) ∧ Ext w w' := by
  have HM := Lib.hid hM
  have hltb := hM.lt
  have hltg := cell_lt hS
  simp only at hltg
  clear hM
  go_enter Tryd.func24, Tryd.ntmps24
  go_wp2_with (first
    | (go_at_call 53; refine (shape_any _ b o M S ?_).mono ?_; (exact HM.out.ext ((Ext.refl w).alloc_ _)); rintro e w' ⟨rfl, n, rfl⟩; rw [hs]))
  go_ret
  exact ⟨rfl, ((Ext.refl w).alloc_ _).drewN_ _⟩
theorem check_any (b o : Nat) (M : Mem) (S : Sls) (gb gs gp : Addr) (w : World) (hM : RMem w b o M S) (hG : GBound w gb) (hS : GShape w gs) (hP : GPlace w gp) :
    Calls Tryd.prog 24 #[.pointer (some ⟨b, o, none⟩)] w fun e w' => e = .returned (chkV M gs gp) ∧ Ext w w' := by
  cases hs : shapeB M with
  | false =>
    have e : chkV M gs gp = errV gs := by unfold chkV goodB; rw [hs]; rfl
    rw [e]; exact check_0 b o M S gs w hM hS hs
  | true =>
    cases h1 : objsB M (okHd M) with
    | false =>
      have e : chkV M gs gp = errV gs := by unfold chkV goodB; rw [hs, h1]; rfl
      rw [e]; exact check_a b o M S gb gs gp w hM hG hS hs h1
    | true =>
      cases h2 : fieldsB (startsM M) M.roots with
      | false =>
        have e : chkV M gs gp = errV gs := by unfold chkV goodB; rw [hs, h1, h2]; rfl
        rw [e]; exact check_b1 b o M S gb gs gp w hM hG hS hP hs h1 h2
      | true =>
        cases h3 : fieldsB (startsM M) M.weak with
        | false =>
          have e : chkV M gs gp = errV gs := by unfold chkV goodB; rw [hs, h1, h2, h3]; rfl
          rw [e]; exact check_b2 b o M S gb gs gp w hM hG hS hP hs h1 h2 h3
        | true =>
          have h5 := objsB_all (q := okFld M (startsM M)) h1
          cases h4 : objsB M (okFld M (startsM M)) with
          | false =>
            have e : chkV M gs gp = errV gs := by unfold chkV goodB; rw [hs, h1, h2, h3, ← h5, h4]; rfl
            rw [e]; exact check_b3 b o M S gb gs gp w hM hG hS hP hs h1 h2 h3 h4
          | true =>
            have e : chkV M gs gp = idsRes M gs gp := by
              unfold chkV goodB idsRes
              rw [hs, h1, h2, h3, ← h5, h4]
              simp
            rw [e]; exact check_e b o M S gb gs gp w hM hG hS hP hs h1 h2 h3 h4
end Go.Proofs.YtecbbbaafcoliaaDoor
/- errors.Is over errors of errors.New's make, by its contracts. (Turned from the guide's worked text SentryIs.) -/
namespace Go.Proofs.YtecbbbaafcoliaaDoor
open Go.RowKit Go.Extern.Stop Go.Stop Go.Extern
set_option linter.unusedVariables false
set_option linter.unusedSimpArgs false

/-! Closed facts: what reflectlite.TypeOf(target).Comparable() gives -/
theorem isTypeOf (v : Value) (w : World) : (Extern.ReflectliteType.typeOf #[.iface 189 v]).run Tryd.prog w = .ok (.iface 169 (.agg #[.pointer (some ⟨8, 189, none⟩)])) w := by kernel_rfl
theorem isComparable (w : World) : ((Extern.ReflectliteType.method fun t => do Rtype.noPackHeld "Comparable" t; (fun a => Value.bool a.comparable) <$> typeInfo t) #[.agg #[.pointer (some ⟨8, 189, none⟩)]]).run Tryd.prog w = .ok (.bool true) w := by kernel_rfl
theorem isMethodComparable (v : Value) (w : World) : (Go.method 321 169 v "Comparable").run Tryd.prog w = .ok (151, v) w := by kernel_rfl
theorem isComp : (Tryd.prog.info? 189).map (·.comparable) = some true := by kernel_rfl
theorem isSize : (Tryd.prog.info? 209).map (·.size) = some 1 := by kernel_rfl
theorem noIsE (v : Value) (xT : TypeId) (w : World) : (Instr.typeAssert (.iface 189 v) xT 179 true).run Tryd.prog w = .ok (.tuple #[.nilIface, .bool false]) w := run_typeAssert_lacksB Tryd.underlying179 (by kernel_rfl) (by kernel_rfl) v xT w
theorem noUnwrapE (v : Value) (xT : TypeId) (w : World) : (Instr.typeAssert (.iface 189 v) xT 176 true).run Tryd.prog w = .ok (.tuple #[.nilIface, .bool false]) w := run_typeAssert_lacksB Tryd.underlying176 (by kernel_rfl) (by kernel_rfl) v xT w
theorem noUnwrapsE (v : Value) (xT : TypeId) (w : World) : (Instr.typeAssert (.iface 189 v) xT 177 true).run Tryd.prog w = .ok (.tuple #[.nilIface, .bool false]) w := run_typeAssert_lacksB Tryd.underlying177 (by kernel_rfl) (by kernel_rfl) v xT w

set_option maxRecDepth 100000 in
set_option maxHeartbeats 1000000 in
theorem is_same (a : Addr) (w : World) :
    Calls Tryd.prog 97 #[errV a, errV a] w fun e w' => e = .returned (.bool true) ∧ w' = w := by
  obtain ⟨i, hi, hcmp⟩ := Option.map_eq_some_iff.1 isComp
  obtain ⟨j, hj, hjs⟩ := Option.map_eq_some_iff.1 isSize
  have h8 := @run_callFunc_extern Tryd.prog 107 _ Extern.ReflectliteType.typeOf Tryd.func107 (by kernel_rfl) (by kernel_rfl) (by kernel_rfl) (by kernel_rfl)
  have h32 := @run_callFunc_extern Tryd.prog 151 _ (Extern.ReflectliteType.method fun t => do Rtype.noPackHeld "Comparable" t; pure (.bool (← typeInfo t).comparable)) Tryd.func151 (by kernel_rfl) (by kernel_rfl) (by kernel_rfl) (by kernel_rfl)
  have tT := isTypeOf
  have cT := isComparable
  have mR := isMethodComparable
  have heq := run_eql_iface_ptr_same (P := Tryd.prog) w a Tryd.underlying32 Tryd.underlying189 hi hcmp hj
  go_enter Tryd.func97, Tryd.ntmps97
  go_wp2
  refine wp_loop_rounds 1 ?_
  rw [rounds_succ]
  go_wp2
  go_ret
  exact ⟨rfl, rfl⟩
set_option maxRecDepth 100000 in
set_option maxHeartbeats 1000000 in
theorem is_other (a b : Addr) (ca cb : Array Value) (ta tb : TypeId) (w : World) (hne : a ≠ b) (ha : w.heap[a.block]? = some (.cells ca ta (0, 0))) (hb : w.heap[b.block]? = some (.cells cb tb (0, 0))) :
    Calls Tryd.prog 97 #[errV a, errV b] w fun e w' => e = .returned (.bool false) ∧ w' = w := by
  obtain ⟨i, hi, hcmp⟩ := Option.map_eq_some_iff.1 isComp
  obtain ⟨j, hj, hjs⟩ := Option.map_eq_some_iff.1 isSize
  have h8 := @run_callFunc_extern Tryd.prog 107 _ Extern.ReflectliteType.typeOf Tryd.func107 (by kernel_rfl) (by kernel_rfl) (by kernel_rfl) (by kernel_rfl)
  have h32 := @run_callFunc_extern Tryd.prog 151 _ (Extern.ReflectliteType.method fun t => do Rtype.noPackHeld "Comparable" t; pure (.bool (← typeInfo t).comparable)) Tryd.func151 (by kernel_rfl) (by kernel_rfl) (by kernel_rfl) (by kernel_rfl)
  have tT := isTypeOf
  have cT := isComparable
  have mR := isMethodComparable
  have nE := noIsE
  have uE := noUnwrapE
  have vE := noUnwrapsE
  have heq := run_eql_iface_ptr_other (P := Tryd.prog) w Tryd.underlying32 Tryd.underlying189 hi hcmp hj (by rw [hjs]; decide) hne ha hb
  go_enter Tryd.func97, Tryd.ntmps97
  go_wp2
  refine wp_loop_rounds 1 ?_
  rw [rounds_succ]
  go_wp2
  go_ret
  exact ⟨rfl, rfl⟩
end Go.Proofs.YtecbbbaafcoliaaDoor
/- errors.As over an error of errors.New's make, sought as an *api.Fault: none. (Turned from the guide's worked text ToyasAs.) -/
namespace Go.Proofs.YtecbbbaafcoliaaDoor
open Go.RowKit Go.Extern.Stop Go.Stop Go.Extern
set_option linter.unusedVariables false
set_option linter.unusedSimpArgs false

theorem valueOfFF (t : Addr) (w : World) : (ReflectliteValue.unpack (.iface 136 (.pointer (some t)))).run Tryd.prog w
    = .ok (.agg #[.pointer (some ⟨8, 136, none⟩), .pointer (some ⟨w.heap.size, 0, none⟩), .int .u64 150]) (w.alloc (.cells #[.pointer (some t)] 136)) := by kernel_rfl
theorem typeFF (a : Addr) (w : World) : (ReflectliteValue.methodAny (ReflectliteValue.valueError "reflectlite.Value.Type" 0) (fun t _ _ _ => ReflectliteType.toType t) #[.agg #[.pointer (some ⟨8, 136, none⟩), .pointer (some a), .int .u64 150]]).run Tryd.prog w
    = .ok (.iface 169 (.agg #[.pointer (some ⟨8, 136, none⟩)])) w := by kernel_rfl
theorem methodKind (h : Value) (w : World) : (Go.method 321 169 (.agg #[h]) "Kind").run Tryd.prog w = .ok (141, h) w := by kernel_rfl
theorem kindFF (w : World) : ((ReflectliteType.abiMethod fun t => (fun a : Nat => Value.int IntKind.u8 (a : Int)) <$> Rtype.kind t) #[.pointer (some ⟨8, 136, none⟩)]).run Tryd.prog w = .ok (.int .u8 22) w := by kernel_rfl
theorem kindF (w : World) : ((ReflectliteType.abiMethod fun t => (fun a : Nat => Value.int IntKind.u8 (a : Int)) <$> Rtype.kind t) #[.pointer (some ⟨8, 134, none⟩)]).run Tryd.prog w = .ok (.int .u8 22) w := by kernel_rfl
theorem rlm (z : Sem Value) (f : TypeId → Addr → Nat → Nat → Sem Value) (v : Value) :
    ReflectliteValue.method z f #[v] = (do match ← ReflectliteValue.parts v with | none => z | some (t, a, fl) => f t a fl (fl % 32)) := rfl
theorem partsFF (a : Addr) (w : World) : (ReflectliteValue.parts (.agg #[.pointer (some ⟨8, 136, none⟩), .pointer (some a), .int .u64 150])).run Tryd.prog w = .ok (some (136, a, 150)) w := by kernel_rfl
theorem isNilFF (a p : Addr) (W : World) (ha : W.cell? a = some (.pointer (some p))) :
    (ReflectliteValue.method (ReflectliteValue.valueError "reflectlite.Value.IsNil" 0) ReflectliteValue.isNil #[.agg #[.pointer (some ⟨8, 136, none⟩), .pointer (some a), .int .u64 150]]).run Tryd.prog W = .ok (.bool false) W := by
  rw [rlm]
  simp only [Sem.run_bind, partsFF, Result.andThen]
  simp [ReflectliteValue.isNil, loadVar, isAgg, underlying, Tryd.underlying136, ha, Result.andThen]
theorem methodElem (h : Value) (w : World) : (Go.method 321 169 (.agg #[h]) "Elem").run Tryd.prog w = .ok (152, .agg #[h]) w := by kernel_rfl
theorem methodImplements (h : Value) (w : World) : (Go.method 321 169 (.agg #[h]) "Implements").run Tryd.prog w = .ok (153, .agg #[h]) w := by kernel_rfl
theorem methodAssignableTo (h : Value) (w : World) : (Go.method 321 169 (.agg #[h]) "AssignableTo").run Tryd.prog w = .ok (150, .agg #[h]) w := by kernel_rfl
theorem elemFF (w : World) : (ReflectliteType.method ReflectliteType.elem #[.agg #[.pointer (some ⟨8, 136, none⟩)]]).run Tryd.prog w = .ok (.iface 169 (.agg #[.pointer (some ⟨8, 134, none⟩)])) w := by kernel_rfl
theorem implementsF (w : World) : (ReflectliteType.relation "Implements" ReflectliteType.implements_ #[.agg #[.pointer (some ⟨8, 134, none⟩)], .iface 169 (.agg #[.pointer (some ⟨8, 32, none⟩)])]).run Tryd.prog w = .ok (.bool true) w := by kernel_rfl
theorem assignableE (w : World) : (ReflectliteType.relation "AssignableTo" ReflectliteType.assignableTo #[.agg #[.pointer (some ⟨8, 189, none⟩)], .iface 169 (.agg #[.pointer (some ⟨8, 134, none⟩)])]).run Tryd.prog w = .ok (.bool false) w := by kernel_rfl
theorem noAsE (v : Value) (xT : TypeId) (w : World) : (Instr.typeAssert (.iface 189 v) xT 173 true).run Tryd.prog w = .ok (.tuple #[.nilIface, .bool false]) w := run_typeAssert_lacksB Tryd.underlying173 (by kernel_rfl) (by kernel_rfl) v xT w

/-- What errors.errorType holds. -/
abbrev GEType (w : World) : Prop := w.cell? ⟨7, 0, none⟩ = some (.iface 169 (.agg #[.pointer (some ⟨8, 32, none⟩)]))

set_option maxRecDepth 100000 in
set_option maxHeartbeats 4000000 in
theorem as_miss (a t : Addr) (w : World) (hg : GEType w) :
    Calls Tryd.prog 96 #[errV a, .iface 136 (.pointer (some t))] w fun ev w' => ev = .returned (.bool false) ∧ Ext w w' := by
  have h6 := @run_callFunc_extern Tryd.prog 103 _ (fun args => ReflectliteValue.unpack (args.getD 0 (.tuple #[]))) Tryd.func103 (by kernel_rfl) (by kernel_rfl) (by kernel_rfl) (by kernel_rfl)
  have h7 := @run_callFunc_extern Tryd.prog 104 _ (ReflectliteValue.methodAny (ReflectliteValue.valueError "reflectlite.Value.Type" 0) (fun t _ _ _ => ReflectliteType.toType t)) Tryd.func104 (by kernel_rfl) (by kernel_rfl) (by kernel_rfl) (by kernel_rfl)
  have h8 := @run_callFunc_extern Tryd.prog 105 _ (ReflectliteValue.method (ReflectliteValue.valueError "reflectlite.Value.IsNil" 0) ReflectliteValue.isNil) Tryd.func105 (by kernel_rfl) (by kernel_rfl) (by kernel_rfl) (by kernel_rfl)
  have h27 := @run_callFunc_extern Tryd.prog 141 _ (ReflectliteType.abiMethod fun t => do pure (.int .u8 (← Rtype.kind t))) Tryd.func141 (by kernel_rfl) (by kernel_rfl) (by kernel_rfl) (by kernel_rfl)
  have h37 := @run_callFunc_extern Tryd.prog 152 _ (ReflectliteType.method ReflectliteType.elem) Tryd.func152 (by kernel_rfl) (by kernel_rfl) (by kernel_rfl) (by kernel_rfl)
  have h38 := @run_callFunc_extern Tryd.prog 153 _ (ReflectliteType.relation "Implements" ReflectliteType.implements_) Tryd.func153 (by kernel_rfl) (by kernel_rfl) (by kernel_rfl) (by kernel_rfl)
  have h10 := @run_callFunc_extern Tryd.prog 107 _ ReflectliteType.typeOf Tryd.func107 (by kernel_rfl) (by kernel_rfl) (by kernel_rfl) (by kernel_rfl)
  have h35 := @run_callFunc_extern Tryd.prog 150 _ (ReflectliteType.relation "AssignableTo" ReflectliteType.assignableTo) Tryd.func150 (by kernel_rfl) (by kernel_rfl) (by kernel_rfl) (by kernel_rfl)
  have tO := isTypeOf
  have mA := methodAssignableTo
  have aE := assignableE
  have f6 := valueOfFF
  have f7 := typeFF
  have mK := methodKind
  have mE := methodElem
  have mI := methodImplements
  have k27 := kindFF
  have k25 := kindF
  have e27 := elemFF
  have i25 := implementsF
  have nA := noAsE
  have uE := noUnwrapE
  have vE := noUnwrapsE
  have n8 := isNilFF ⟨w.heap.size, 0, none⟩ t ((w.alloc (.cells #[.pointer (some t)] 136)).alloc (.cells #[.pointer (some ⟨8, 136, none⟩), .pointer (some ⟨w.heap.size, 0, none⟩), .int .u64 150] 147)) (by simp)
  have hlt := cell_lt hg
  simp only at hlt
  go_enter Tryd.func96, Tryd.ntmps96
  go_wp2
  refine wp_loop_rounds 1 ?_
  rw [rounds_succ]
  go_wp2
  go_ret
  refine ⟨rfl, ?_⟩
  repeat (first | exact Ext.refl _ | refine Ext.alloc_ ?_ _)
end Go.Proofs.YtecbbbaafcoliaaDoor
/- plain.Code over nil and over the seven package-level errors: their numbers. -/
namespace Go.Proofs.YtecbbbaafcoliaaDoor
open Go.RowKit
set_option linter.unusedVariables false
set_option linter.unusedSimpArgs false

/-- The seven package-level errors: their places; each is another one. -/
structure ErrEnv (E : Nat → Addr) (w : World) : Prop where
  text : w.cell? ⟨4, 0, none⟩ = some (errV (E 0))
  bound : w.cell? ⟨0, 0, none⟩ = some (errV (E 1))
  shape : w.cell? ⟨1, 0, none⟩ = some (errV (E 2))
  name : w.cell? ⟨5, 0, none⟩ = some (errV (E 3))
  place : w.cell? ⟨3, 0, none⟩ = some (errV (E 4))
  full : w.cell? ⟨2, 0, none⟩ = some (errV (E 5))
  nothing : w.cell? ⟨6, 0, none⟩ = some (errV (E 6))
  etype : GEType w
  blk : ∀ i, i < 7 → ∃ c t, w.heap[(E i).block]? = some (.cells c t (0, 0))
  ne : ∀ i j, i < 7 → j < 7 → i ≠ j → E i ≠ E j

theorem ErrEnv.g4 {E : Nat → Addr} {w : World} (h : ErrEnv E w) : G4 E w := ⟨⟨h.bound, h.shape, h.place⟩, h.full⟩
theorem ErrEnv.g3 {E : Nat → Addr} {w : World} (h : ErrEnv E w) : G3 E w := h.g4.toG3
theorem block_lt {w : World} {b : Nat} {o : Obj} (h : w.heap[b]? = some o) : b < w.heap.size := by
  rcases Nat.lt_or_ge b w.heap.size with g | g
  · exact g
  · simp [Array.getElem?_eq_none g] at h
theorem Ext.block_ {w w' : World} (h : Ext w w') {b : Nat} {o : Obj} (hb : w.heap[b]? = some o) : w'.heap[b]? = some o := by
  rw [Below.block h b (block_lt hb)]; exact hb
theorem ErrEnv.ext {E : Nat → Addr} {w w' : World} (h : ErrEnv E w) (hx : Ext w w') : ErrEnv E w' :=
  ⟨hx.cell_ h.text, hx.cell_ h.bound, hx.cell_ h.shape, hx.cell_ h.name, hx.cell_ h.place, hx.cell_ h.full, hx.cell_ h.nothing, hx.cell_ h.etype,
    fun i hi => let ⟨c, t, hc⟩ := h.blk i hi; ⟨c, t, hx.block_ hc⟩, h.ne⟩

theorem is_env {E : Nat → Addr} {w : World} (h : ErrEnv E w) (i j : Nat) (hi : i < 7) (hj : j < 7) :
    Calls Tryd.prog 97 #[errV (E i), errV (E j)] w fun e w' => e = .returned (.bool (decide (i = j))) ∧ w' = w := by
  by_cases hij : i = j
  · subst hij; simp only [decide_true]; exact is_same _ w
  · simp only [hij, decide_false]
    obtain ⟨c, t, hc⟩ := h.blk i hi
    obtain ⟨c', t', hc'⟩ := h.blk j hj
    exact is_other _ _ _ _ _ _ w (h.ne i j hi hj hij) hc hc'

theorem code_nil (w : World) : Calls Tryd.prog 75 #[.nilIface] w fun e w' => e = .returned (.tuple #[.int .i64 0, .int .i64 (-1)]) ∧ w' = w := by
  go_enter Tryd.func75, Tryd.ntmps75
  go_wp2_with fail
  go_ret2
  exact ⟨rfl, rfl⟩

set_option maxRecDepth 100000 in
set_option maxHeartbeats 4000000 in
theorem code_env {E : Nat → Addr} {w : World} (h : ErrEnv E w) (k : Nat) (hk : k < 7) :
    Calls Tryd.prog 75 #[errV (E k)] w fun e w' => e = .returned (.tuple #[.int .i64 (k + 1), .int .i64 (-1)]) ∧ Ext w w' := by
  have l0 := cell_lt h.text
  have l1 := cell_lt h.bound
  have l2 := cell_lt h.shape
  have l3 := cell_lt h.name
  have l4 := cell_lt h.place
  have l5 := cell_lt h.full
  have l6 := cell_lt h.nothing
  simp only at l0 l1 l2 l3 l4 l5 l6
  have H := Lib.hid h
  clear h
  go_enter Tryd.func75, Tryd.ntmps75
  go_wp2_with (first
    | (go_at_call 96; refine (as_miss _ _ _ (((Ext.refl w).alloc_ _).cell_ H.out.etype)).mono ?_; rintro e w1 ⟨rfl, hb⟩; have h1 := H.out.ext (((Ext.refl w).alloc_ _).trans_ hb); have hz : w.heap.size < w1.heap.size := (by have := hb.size; simp only [World.size_alloc] at this; omega); have c0 := h1.text; have c1 := h1.bound; have c2 := h1.shape; have c3 := h1.name; have c4 := h1.place; have c5 := h1.full; have c6 := h1.nothing))
  have hx : Ext w (w1.alloc (.cells #[errV (E 0), errV (E 1), errV (E 2), errV (E 3), errV (E 4), errV (E 5), errV (E 6)] 32)) := (((Ext.refl w).alloc_ _).trans_ hb).alloc_ _
  have h2 := Lib.hid (h1.ext ((Ext.refl w1).alloc_ (.cells #[errV (E 0), errV (E 1), errV (E 2), errV (E 3), errV (E 4), errV (E 5), errV (E 6)] 32)))
  have hcell : ∀ j, j < 7 → (w1.alloc (.cells #[errV (E 0), errV (E 1), errV (E 2), errV (E 3), errV (E 4), errV (E 5), errV (E 6)] 32)).cell? ⟨w1.heap.size, j, none⟩ = some (errV (E j)) := by
    intro j hj
    rw [World.cell?_alloc_new]
    match j, hj with
    | 0, _ => rfl
    | 1, _ => rfl
    | 2, _ => rfl
    | 3, _ => rfl
    | 4, _ => rfl
    | 5, _ => rfl
    | 6, _ => rfl
  clear h1 hb hz c0 c1 c2 c3 c4 c5 c6 l0 l1 l2 l3 l4 l5 l6
  generalize w1.heap.size = nb at *
  generalize (w1.alloc (.cells #[errV (E 0), errV (E 1), errV (E 2), errV (E 3), errV (E 4), errV (E 5), errV (E 6)] 32)) = W at *
  have HC := Lib.hid hcell
  clear hcell
  go_loop [3, 25] (fun c i => ∃ j : Nat, j ≤ k ∧ c = .int .i64 (-1) ∧ i = .int .i64 j) (fun _ i => 7 - (intOf i).toNat)
  case atStart => exact ⟨0, Nat.zero_le _, rfl, rfl⟩
  case round =>
    obtain ⟨j, hj, rfl, rfl⟩ := hrel
    have hc := HC.out j (by omega)
    by_cases hjk : k = j
    · subst hjk
      go_wp2_with (first
        | (go_at_call 97; refine (is_same _ _).mono ?_; rintro e w' ⟨rfl, rfl⟩))
      go_ret2
      exact ⟨rfl, hx⟩
    · have hd : j < k := by omega
      obtain ⟨ca, ta, ha⟩ := h2.out.blk k hk
      obtain ⟨cb, tb, hb⟩ := h2.out.blk j (by omega)
      have hne := h2.out.ne k j hk (by omega) hjk
      have Ha := Lib.hid ha
      have Hb := Lib.hid hb
      clear ha hb
      go_wp2_with (first
        | (go_at_call 97; refine (is_other _ _ _ _ _ _ _ hne Ha.out Hb.out).mono ?_; rintro e w' ⟨rfl, rfl⟩))
      go_round
      case rel => exact ⟨j + 1, by omega, rfl, by go_num⟩
      case measure => simp [intOf]; omega

theorem coded_nil (c : Int) (w : World) : Calls Tryd.prog 30 #[.nilIface, .int .i64 c] w fun e w' => e = .returned (.bool (0 == c)) ∧ w' = w := by
  rcases hc : (0 == c) with _ | _
  all_goals
    go_enter Tryd.func30, Tryd.ntmps30
    go_wp2_with (go_at_call 75; refine (code_nil _).mono ?_; rintro e w' ⟨rfl, rfl⟩)
    go_ret
    exact ⟨rfl, rfl⟩
theorem coded_env {E : Nat → Addr} {w : World} (h : ErrEnv E w) (k : Nat) (hk : k < 7) (c : Int) :
    Calls Tryd.prog 30 #[errV (E k), .int .i64 c] w fun e w' => e = .returned (.bool ((k + 1 : Int) == c)) ∧ Ext w w' := by
  have H := Lib.hid h
  clear h
  rcases hc : ((k + 1 : Int) == c) with _ | _
  all_goals
    go_enter Tryd.func30, Tryd.ntmps30
    go_wp2_with (go_at_call 75; refine (code_env H.out k hk).mono ?_; rintro e w' ⟨rfl, hb⟩)
    go_ret
    exact ⟨rfl, hb⟩
end Go.Proofs.YtecbbbaafcoliaaDoor
/- The closed fact on a new memory. -/
namespace Go.Proofs.YtecbbbaafcoliaaDoor
open Go.RowKit
set_option linter.unusedVariables false
set_option linter.unusedSimpArgs false

theorem newM_ok (half old card : Int) (h : newOK half old card = true) : (newM half old card).Ok := by
  simp only [newOK, Bool.and_eq_true] at h
  obtain ⟨⟨h1, h2⟩, h3⟩ := h
  obtain ⟨a1, a2⟩ := inR_true.1 h1
  obtain ⟨a3, a4⟩ := inR_true.1 h2
  obtain ⟨a5, a6⟩ := inR_true.1 h3
  have q0 : 0 ≤ (old + card - 1) / card := Int.ediv_nonneg (by omega) (by omega)
  have q1 : (old + card - 1) / card ≤ old + card - 1 := Int.ediv_le_self _ (by omega)
  refine ⟨by simp only [newM]; omega, by simp only [newM]; omega, by simp only [newM]; omega, by simp [newM], by simp [newM], by simp [newM], ?_, by simp [newM], by simp [newM], by simp [newM], ?_, by simp [newM], by simp [newM], by simp [newM], ?_⟩
  · intro x hx; simp only [newM] at hx; have := (List.mem_replicate.1 hx).2; omega
  · simp only [newM, List.length_replicate]; omega
  · simp only [newM, List.length_replicate]; omega
theorem fresh_chk : goodB (newM 4 5 2) = true ∧ cardsM (newM 4 5 2) = true := by decide
set_option maxRecDepth 100000 in
theorem fresh_any (w : World) (E : Nat → Addr) (h : G3 E w) : Calls Tryd.prog 11 #[] w fun e w' => e = .returned (.bool true) ∧ Ext w w' := by
  have H := Lib.hid h
  clear h
  go_enter Tryd.func11, Tryd.ntmps11
  go_wp2_with (first
    | (go_at_call 35; refine (new_yes 4 5 2 (by decide) _).mono ?_; rintro e w1 ⟨b, S, rfl, hom, hx⟩; have hM := hom.mem (newM_ok 4 5 2 (by decide)); have k3 : w1.cell? ⟨b, 3, none⟩ = some (.slice S.W.1 (13 : Nat) S.W.2) := hM.W; have k5 : w1.cell? ⟨b, 5, none⟩ = some (.int .i64 0) := hM.top; have k10 : w1.cell? ⟨b, 10, none⟩ = some (.slice S.C.1 (3 : Nat) S.C.2) := hM.cards; have HM := Lib.hid hM; have HX := Lib.hid hx; clear hom hM hx)
    | (go_at_call 24; refine (check_any b 0 (newM 4 5 2) S (E 1) (E 2) (E 4) _ HM.out (HX.out.cell_ H.out.bound) (HX.out.cell_ H.out.shape) (HX.out.cell_ H.out.place)).mono ?_; rintro e w2 ⟨he, hq⟩; rw [show chkV (newM 4 5 2) (E 2) (E 4) = .nilIface by unfold chkV; rw [fresh_chk.1, fresh_chk.2]; rfl] at he; subst he; have k6 := hq.cell_ k5; have HQ := Lib.hid hq; clear hq k5))
  go_ret
  exact ⟨rfl, Ext.trans_ HX.out HQ.out⟩
end Go.Proofs.YtecbbbaafcoliaaDoor
