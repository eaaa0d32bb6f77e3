/- The walk of Memory.Check: where a header is wrong. -/
import Derived.Test.YtelhoppfidibiaaGreatDoorJOa10
import Derived.Test.YtelhoppfidibiaaGreatDoorJOa08
import Derived.Laws.EntriesVeiled
import Derived.Deep.RegionHeld3
import Derived.Deep.QuietTactic
import Derived.BigQuiet
namespace Go.Proofs.YtelhoppfidibiaaGreatDoor
open Go.RowKit
set_option linter.unusedVariables false
set_option linter.unusedSimpArgs false

theorem SMap.made_ {w w' : World} {b : Nat} (q : IntKind) (hb : w.heap.size = b) (hx : Ext (w.alloc (.map #[] 0)) w') : SMap w' b q [] := by
  subst hb; exact (SMap.made w q).ext hx

set_option maxRecDepth 100000 in
set_option maxHeartbeats 4000000 in
theorem check_a (b o : Nat) (M : Mem) (S : Sls) (gb gs gp : Addr) (w : World) (hM : RMem w b o M S) (hG : GBound w gb) (hS : GShape w gs) (hs : shapeB M = true) (h1 : objsB M (okHd M) = false) :
    Calls Tryz.prog 90 #[.pointer (some ⟨b, o, none⟩)] w fun e w' => e = .returned (errV gs) ∧ Ext w w' := by
  have hh := shp_of hs
  have hmm := @run_makeMap Tryz.prog
  have HM := Lib.hid hM
  have HG := Lib.hid hG
  have HH := Lib.hid hh
  have hltb := hM.lt
  have hltg := cell_lt hS
  simp only at hltg
  clear hM hG hh
  go_enter Tryz.func90, Tryz.ntmps90
  go_wp2_with (first
    | (go_at_call 134; refine (shape_any _ b o M S ?_).mono ?_; (exact HM.out.ext ((Ext.refl w).alloc_ _)); rintro e w' ⟨rfl, n, rfl⟩; rw [hs]))
  refine (objects_c1 w b o M S HH.out HM.out gb gs HG.out hS (w.heap.size + 1) (w.heap.size + 1 + 1) w.heap.size _ ?_ (by omega) (by omega) (by omega) ?_ ?_ ?_).mono ?_
  · repeat (first | exact Ext.refl _ | (refine Ext.set_ ?_ (by simp) _) | (refine Ext.alloc_ ?_ _) | (refine Ext.drewN_ ?_ _))
  · exact SMap.made_ (w := (w.alloc _).drewN n) _ (by simp) (by repeat (first | exact Ext.refl _ | (refine Ext.set_ ?_ (by simp) _) | (refine Ext.alloc_ ?_ _)))
  · simp [go_sem]
  · simp [go_sem]
  rintro e w1 ⟨rfl, hsm, hK⟩
  rw [h1]
  have hx : Ext w w1 := Ext.keep (by repeat (first | exact Ext.refl _ | (refine Ext.set_ ?_ (by simp) _) | (refine Ext.alloc_ ?_ _) | (refine Ext.drewN_ ?_ _))) hK (fun i hi => by omega)
  have hS1 : GShape w1 gs := hx.cell_ hS
  clear hsm hK
  go_wp2
  go_ret
  exact ⟨rfl, hx⟩
/- The walks of Memory.starts and of its closure; of Alloc's closure. -/
/-- A memory with a header more. -/
def freshM (M : Mem) (kind size : Int) : Mem := { M with W := M.W.set (M.base + M.top.toNat) (headW kind 0 0 size), top := M.top + 1 + size }
def FreshPost (w : World) (B b : Nat) (M : Mem) (S : Sls) (kind size : Int) (e : Ending) (w' : World) : Prop :=
  e = .returned (.int .i64 ((M.base + M.top.toNat : Nat) : Int)) ∧ OMem w' B b 140 (freshM M kind size) S ∧ Keep (OwnL b S) w w'
set_option maxRecDepth 100000 in
set_option maxHeartbeats 4000000 in
theorem fresh_obj (B b : Nat) (M : Mem) (S : Sls) (w : World) (hO : OMem w B b 140 M S) (hok : M.Ok) (hs : Shp M) (kind size : Int) (hk : 0 ≤ kind ∧ kind ≤ 255) (hz : 0 ≤ size ∧ size ≤ 4096) (hr : M.top + 1 + size ≤ M.half) :
    Calls Tryz.prog 87 #[.pointer (some ⟨b, 0, none⟩), .int .i64 kind, .int .i64 size] w (FreshPost w B b M S kind size) := by
  obtain ⟨hb, b0, b1⟩ := hs.base
  have s1 := hs.h1
  have s2 := hs.h2
  have s3 := hs.t1
  have s4 := hs.t2
  have s7 := hs.o1
  have s8 := hs.w
  obtain ⟨k0, k1⟩ := hk
  obtain ⟨z0, z1⟩ := hz
  obtain ⟨t, ht⟩ : ∃ t : Nat, M.top = t := ⟨M.top.toNat, by omega⟩
  obtain ⟨at_, hat⟩ : ∃ a : Nat, a = M.base + t := ⟨_, rfl⟩
  have hlen : at_ < M.W.length := by omega
  obtain ⟨g, hg, hgB, hgl, hgf, hgc, cur, hgh, -, -⟩ := own_block hO.fW (by omega)
  have hM := hO.mem hok
  have c3 := hM.W
  have c5 := hM.top
  simp only [Nat.zero_add] at c3 c5
  rw [hg] at c3
  rw [ht] at c5
  have hgb : g ≠ b := fun e => (hO.fld ⟨3, 78, 1, S.W.1, M.W.length, S.W.2, wcells M.W⟩ (by simp [memFlds])).2.2 (by simp [Fld.val, hg, Value.ownBlock, e])
  have hcell : w.cell? ⟨g, at_, none⟩ = some (.int .u64 (M.W.getD at_ 0)) := by
    have := hM.rW
    rw [hg] at this
    simpa using this.at_ (wcells_at M.W at_ hlen)
  have hfb := hO.frozen 5
  have hfg := hgf at_
  have hlb := OM.lt hO
  have e1 : IntKind.i64.wrap ((M.base : Int) + (t : Int)) = (at_ : Int) := by rw [IntWalk.i64_in _ (by omega)]; omega
  have e2 : IntKind.i64.wrap (1 + size) = 1 + size := IntWalk.i64_in _ (by omega)
  have e3 : IntKind.i64.wrap ((t : Int) + (1 + size)) = (t : Int) + 1 + size := by rw [IntWalk.i64_in _ (by omega)]; omega
  have HS := Lib.hid hs
  have HM := Lib.hid hM
  have HO := Lib.hid hO
  have HG := Lib.hid hg
  have HT := Lib.hid ht
  have HAT := Lib.hid hat
  have E1 := Lib.hid e1
  clear hs hM hO hg ht hat hb hgh hgf s8 e1
  go_enter Tryz.func87, Tryz.ntmps87
  go_wp2
  refine wp_region_held_drew (S := fun W => W.cell? ⟨b, 5, none⟩ = some (.int .i64 (t : Int))) (by kernel_rfl) ?_ (fun hHeld => ?_)
  · exact c5
  refine tk 0 ⟨some 8, _, _, _, _, _⟩ ?_ rfl ?_ ?_
  rotate_left
  · (intro w hSw; (try dsimp only at hSw); go_simp; try with_reducible rfl)
  try simp only [tkS]
  refine tk 2 ⟨some 10, _, _, _, _, _⟩ ?_ rfl ?_ ?_
  rotate_left
  · (intro w hSw; (try dsimp only at hSw); go_simp; try with_reducible rfl)
  try simp only [tkS]
  refine tk 3 ⟨some 11, _, _, _, _, _⟩ ?_ rfl ?_ ?_
  rotate_left
  · (intro w hSw; (try dsimp only at hSw); go_simp; try with_reducible rfl)
  try simp only [tkS]
  refine tk 4 ⟨some 12, _, _, _, _, _⟩ ?_ rfl ?_ ?_
  rotate_left
  · (intro w hSw; (try dsimp only at hSw); go_simp; try with_reducible rfl)
  try simp only [tkS]
  refine tk 5 ⟨some 13, _, _, _, _, _⟩ ?_ rfl ?_ ?_
  rotate_left
  · (intro w hSw; (try dsimp only at hSw); go_simp; try with_reducible rfl)
  try simp only [tkS]
  refine wpAnyH_ready (rs := [1]) (by kernel_rfl) (by simp) ?_
  refine AllReadyH.cons (o := ⟨some 9, _, _, _, _, _⟩) rfl (fun K hK => ?_) AllReadyH.nil
  go_simp
  refine (base_any _ b 0 M S (HM.out.ext (by repeat (first | exact Ext.refl _ | (refine Ext.drew_ ?_) | (refine Ext.drewN_ ?_ _)))) HS.out).mono ?_
  rintro e w' ⟨rfl, n, rfl⟩
  refine hK.out _ _ ?_ (fun hHeld => ?_)
  · (try dsimp only); exact c5
  clear hK K
  try simp only [tkS]
  refine tk 6 ⟨some 14, _, _, _, _, _⟩ (.int .i64 (at_ : Int)) rfl ?_ ?_
  · (intro w hSw; go_simp; rw [E1.out])
  try simp only [tkS]
  refine tk 7 ⟨some 7, _, _, _, _, _⟩ ?_ rfl ?_ ?_
  rotate_left
  · (intro w hSw; (try dsimp only at hSw); go_simp; try with_reducible rfl)
  try simp only [tkS]
  refine wpAnyH_done (by kernel_rfl) ?_ _
  go_wp2
  refine named_world' (fun W1 hW1 => ?_)
  have hE1 : Ext w W1 := by rw [hW1]; repeat (first | exact Ext.refl _ | (refine Ext.drew_ ?_) | (refine Ext.drewN_ ?_ _))
  have HE1 := Lib.hid hE1
  have d3 := hE1.cell_ c3
  clear hW1 hE1 hHeld
  refine wp_region_held_drew (S := fun W => W.cell? ⟨b, 3, none⟩ = some (.slice (some ⟨g, 0, none⟩) M.W.length S.W.2)) (by kernel_rfl) ?_ (fun hHeld => ?_)
  · exact d3
  refine tk 0 ⟨some 15, _, _, _, _, _⟩ ?_ rfl ?_ ?_
  rotate_left
  · (intro w hSw; (try dsimp only at hSw); go_simp; try with_reducible rfl)
  try simp only [tkS]
  refine tk 1 ⟨some 16, _, _, _, _, _⟩ ?_ rfl ?_ ?_
  rotate_left
  · (intro w hSw; (try dsimp only at hSw); go_simp; try with_reducible rfl)
  try simp only [tkS]
  refine tk 2 ⟨some 17, _, _, _, _, _⟩ ?_ rfl ?_ ?_
  rotate_left
  · (intro w hSw; (try dsimp only at hSw); go_simp; try with_reducible rfl)
  try simp only [tkS]
  refine tk 3 ⟨some 18, _, _, _, _, _⟩ ?_ rfl ?_ ?_
  rotate_left
  · (intro w hSw; (try dsimp only at hSw); go_simp; try with_reducible rfl)
  try simp only [tkS]
  refine tk 4 ⟨some 19, _, _, _, _, _⟩ ?_ rfl ?_ ?_
  rotate_left
  · (intro w hSw; (try dsimp only at hSw); go_simp; try with_reducible rfl)
  try simp only [tkS]
  refine tk 5 ⟨some 20, _, _, _, _, _⟩ ?_ rfl ?_ ?_
  rotate_left
  · (intro w hSw; (try dsimp only at hSw); go_simp; try with_reducible rfl)
  try simp only [tkS]
  refine tk 6 ⟨some 21, _, _, _, _, _⟩ ?_ rfl ?_ ?_
  rotate_left
  · (intro w hSw; (try dsimp only at hSw); go_simp; try with_reducible rfl)
  try simp only [tkS]
  refine tk 7 ⟨some 22, _, _, _, _, _⟩ ?_ rfl ?_ ?_
  rotate_left
  · (intro w hSw; (try dsimp only at hSw); go_simp; try with_reducible rfl)
  try simp only [tkS]
  refine wpAnyH_ready (rs := [8]) (by kernel_rfl) (by simp) ?_
  refine AllReadyH.cons (o := ⟨some 23, _, _, _, _, _⟩) rfl (fun K hK => ?_) AllReadyH.nil
  go_simp
  refine (headWord_any kind 0 0 size ⟨k0, k1⟩ (by omega) (by omega) ⟨z0, z1⟩ _).mono ?_
  rintro e w2 ⟨rfl, hq⟩
  have HE2 : Hid (Ext w w2) := Ext.trans_ (by first | exact HE1.out | exact HE1.out.drew_ | exact HE1.out.drewN_ _) hq
  clear hq
  have g3 := HE2.out.cell_ c3
  have gc := HE2.out.cell_ hcell
  have gf : w2.frozen? ⟨g, at_, none⟩ = false := by rw [HE2.out.three.2.1 _ _ hgl]; exact hfg
  refine hK.out _ _ ?_ (fun hHeld => ?_)
  · (try dsimp only); exact g3
  clear hK K
  try simp only [tkS]
  refine tk 9 ⟨some 24, _, _, _, _, _⟩ ?_ rfl ?_ ?_
  rotate_left
  · (intro w hSw; (try dsimp only at hSw); go_simp; try with_reducible rfl)
  try simp only [tkS]
  refine wpAnyH_ready (rs := [10]) (by kernel_rfl) (by simp) ?_
  refine AllReadyH.cons (o := ⟨none, _, _, _, _, _⟩) rfl (fun K hK => ?_) AllReadyH.nil
  go_simp
  skip
  refine hK.out _ _ ?_ (fun hHeld => ?_)
  · (try dsimp only); rw [World.cell?_setCell_far _ _ _ _ (by simp; omega)]; exact g3
  clear hK K
  try simp only [tkS]
  refine wpAnyH_done (by kernel_rfl) ?_ _
  clear hHeld
  generalize hW4 : w2.setCell ⟨g, at_, none⟩ (Value.int .u64 (headW kind 0 0 size)) = W4
  have hO4 : OMem W4 B b 140 { M with W := M.W.set at_ (headW kind 0 0 size) } S := by
    rw [← hW4]; exact OMem.setW (OM.ext HO.out HE2.out) HG.out at_ hlen _
  have hK4 : Keep (OwnL b S) w W4 := by
    rw [← hW4]; exact (Keep.of_ext HE2.out).set_ (Or.inl (Or.inr (Or.inl HG.out))) _
  have n5 : W4.cell? ⟨b, 5, none⟩ = some (.int .i64 (t : Int)) := by
    have := hO4.num (5, M.top) (by simp [memNums])
    rw [HT.out] at this
    exact this
  have f5 := hO4.frozen 5
  have l5 := OM.lt hO4
  have HO4 := Lib.hid hO4
  have HK4 := Lib.hid hK4
  clear hO4 hK4 g3 gc gf hW4
  go_wp2
  go_ret
  have hfin := OMem.setTop HO4.out ((t : Int) + 1 + size)
  have hT := HT.out
  have hA : M.base + M.top.toNat = at_ := by rw [HAT.out, hT]; rfl
  refine ⟨by rw [hA]; rfl, ?_, HK4.out.set_ (Or.inl (Or.inl rfl)) _⟩
  unfold freshM
  rw [hA, hT]
  exact hfin
theorem named_world {P : Program} {c : Code} {Q : Exit → Act → World → Prop} {a : Act} {W : World} (h : ∀ W9, W9 = W → Code.wp P c Q a W9) : Code.wp P c Q a W := h W rfl
set_option maxRecDepth 100000 in
set_option maxHeartbeats 4000000 in
theorem check_b1 (b o : Nat) (M : Mem) (S : Sls) (gb gs gp : Addr) (w : World) (hM : RMem w b o M S) (hG : GBound w gb) (hS : GShape w gs) (hP : GPlace w gp) (hs : shapeB M = true) (h1 : objsB M (okHd M) = true) (h2 : fieldsB (startsM M) M.roots = false) :
    Calls Tryz.prog 90 #[.pointer (some ⟨b, o, none⟩)] w fun e w' => e = .returned (errV gs) ∧ Ext w w' := by
  have hh := shp_of hs
  have hmm := @run_makeMap Tryz.prog
  have HM := Lib.hid hM
  have HG := Lib.hid hG
  have HH := Lib.hid hh
  have HS := Lib.hid hS
  have HP := Lib.hid hP
  have H1 := Lib.hid h1
  have HR := Lib.hid h2
  clear h2
  have hltb := hM.lt
  have hltg := cell_lt hS
  have hltp := cell_lt hP
  simp only at hltg hltp
  clear hM hG hh hP
  go_enter Tryz.func90, Tryz.ntmps90
  go_wp2_with (first
    | (go_at_call 134; refine (shape_any _ b o M S ?_).mono ?_; (exact HM.out.ext ((Ext.refl w).alloc_ _)); rintro e w' ⟨rfl, n, rfl⟩; rw [hs]))
  refine (objects_c1 w b o M S HH.out HM.out gb gs HG.out hS (w.heap.size + 1) (w.heap.size + 1 + 1) w.heap.size _ ?_ (by omega) (by omega) (by omega) ?_ ?_ ?_).mono ?_
  · repeat (first | exact Ext.refl _ | (refine Ext.set_ ?_ (by simp) _) | (refine Ext.alloc_ ?_ _) | (refine Ext.drewN_ ?_ _))
  · exact SMap.made_ (w := (w.alloc _).drewN n) _ (by simp) (by repeat (first | exact Ext.refl _ | (refine Ext.set_ ?_ (by simp) _) | (refine Ext.alloc_ ?_ _)))
  · simp [go_sem]
  · simp [go_sem]
  rintro e w1 ⟨rfl, hsm, hK⟩
  rw [h1]
  have hx : Ext w w1 := Ext.keep (by repeat (first | exact Ext.refl _ | (refine Ext.set_ ?_ (by simp) _) | (refine Ext.alloc_ ?_ _) | (refine Ext.drewN_ ?_ _))) hK (fun i hi => by omega)
  have f1 : w1.cell? ⟨w.heap.size, 0, none⟩ = some (.pointer (some ⟨b, o, none⟩)) := hK.cell (by simp) (by simp [go_sem])
  have f3 : w1.cell? ⟨w.heap.size + 1 + 1, 0, none⟩ = some (.map (some (w.heap.size + 1))) := hK.cell (by simp) (by simp [go_sem])
  have z1 : w.heap.size + 1 + 1 < w1.heap.size := by have := hK.size; simp at this; omega
  have HX1 := Lib.hid hx
  have HSM := Lib.hid (hsm h1)
  clear hsm hK hx hS h1
  go_wp2
  refine named_world (fun W9 hW9 => ?_)
  have g5 : W9.cell? ⟨w1.heap.size + 1, 0, none⟩ = some (.func (.func 139) #[] #[.pointer (some ⟨w1.heap.size, 0, none⟩)]) := by rw [hW9]; simp [go_sem]
  have g4 : W9.cell? ⟨w1.heap.size, 0, none⟩ = some (.func (.func 137) #[] #[.pointer (some ⟨w.heap.size + 1 + 1, 0, none⟩)]) := by rw [hW9]; simp [go_sem]
  have g6 : W9.cell? ⟨w1.heap.size + 1 + 1, 0, none⟩ = some (.bool true) := by rw [hW9]; simp [go_sem]
  have u6 : W9.frozen? ⟨w1.heap.size + 1 + 1, 0, none⟩ = false := by rw [hW9]; simp [go_sem]
  have hx9 : Ext w1 W9 := by rw [hW9]; repeat (first | exact Ext.refl _ | (refine Ext.alloc_ ?_ _))
  have g1 := hx9.cell_ f1
  have g3 := hx9.cell_ f3
  have hsm9 := HSM.out.ext hx9
  have hxx : Ext w W9 := Ext.trans_ HX1.out hx9
  have hM9 := HM.out.ext hxx
  have gr := hM9.roots
  have gk := hM9.weak
  have z9 : w1.heap.size + 1 + 1 < W9.heap.size := cell_lt g6
  have G3 := Lib.hid g3
  have G4 := Lib.hid g4
  have G6 := Lib.hid g6
  have U6 := Lib.hid u6
  have SM9 := Lib.hid hsm9
  have HX9 := Lib.hid hxx
  clear hW9 hx9 f1 f3 g3 g4 g6 u6 hsm9 hxx hM9 HSM
  refine wp_region_held_drew (S := fun W => W.cell? ⟨w1.heap.size + 1, 0, none⟩ = some (.func (.func 139) #[] #[.pointer (some ⟨w1.heap.size, 0, none⟩)]) ∧ W.cell? ⟨w.heap.size, 0, none⟩ = some (.pointer (some ⟨b, o, none⟩)) ∧ W.cell? ⟨b, o + 7, none⟩ = some (.slice S.R.1 M.roots.length S.R.2) ∧ W.cell? ⟨b, o + 8, none⟩ = some (.slice S.K.1 M.weak.length S.K.2)) (by kernel_rfl) ?_ (fun hHeld => ?_)
  · exact ⟨g5, g1, gr, gk⟩
  refine tk 0 ⟨some 27, _, _, _, _, _⟩ ?_ rfl ?_ ?_
  rotate_left
  · (intro w hSw; (try dsimp only at hSw); go_simp; try with_reducible rfl)
  try simp only [tkS]
  refine tk 1 ⟨some 28, _, _, _, _, _⟩ ?_ rfl ?_ ?_
  rotate_left
  · (intro w hSw; (try dsimp only at hSw); go_simp; try with_reducible rfl)
  try simp only [tkS]
  refine tk 2 ⟨some 29, _, _, _, _, _⟩ ?_ rfl ?_ ?_
  rotate_left
  · (intro w hSw; (try dsimp only at hSw); go_simp; try with_reducible rfl)
  try simp only [tkS]
  refine tk 3 ⟨some 30, _, _, _, _, _⟩ ?_ rfl ?_ ?_
  rotate_left
  · (intro w hSw; (try dsimp only at hSw); go_simp; try with_reducible rfl)
  try simp only [tkS]
  refine tk 4 ⟨some 31, _, _, _, _, _⟩ ?_ rfl ?_ ?_
  rotate_left
  · (intro w hSw; (try dsimp only at hSw); go_simp; try with_reducible rfl)
  try simp only [tkS]
  refine wpAnyH_ready (rs := [5]) (by kernel_rfl) (by simp) ?_
  refine AllReadyH.cons (o := ⟨some 32, _, _, _, _, _⟩) rfl (fun K hK => ?_) AllReadyH.nil
  go_simp
  refine (c3_any S.R.1 S.R.2 M.roots ?_ ?_ (w.heap.size + 1) (w.heap.size + 1 + 1) w1.heap.size (startsM M) _ ?_ ?_ ?_ ?_).mono ?_
  · exact HM.out.ok.lenR
  · exact HM.out.ok.roots
  · exact (HM.out.ext (Ext.trans_ HX9.out (by repeat (first | exact Ext.refl _ | (refine Ext.drew_ ?_))))).rR
  · exact SM9.out.ext (by repeat (first | exact Ext.refl _ | (refine Ext.drew_ ?_)))
  · exact Ext.cell_ (by repeat (first | exact Ext.refl _ | (refine Ext.drew_ ?_))) G3.out
  · exact Ext.cell_ (by repeat (first | exact Ext.refl _ | (refine Ext.drew_ ?_))) G4.out
  rintro e w2 ⟨he, hq⟩
  rw [HR.out] at he
  subst he
  have HE2 : Hid (Ext W9 w2) := Ext.trans_ (by repeat (first | exact Ext.refl _ | (refine Ext.drew_ ?_))) hq
  have d2 := hq.cell_ hHeld.1
  have d2a := hq.cell_ hHeld.2.1
  have d2b := hq.cell_ hHeld.2.2.1
  have d2c := hq.cell_ hHeld.2.2.2
  clear hq
  refine hK.out _ _ ?_ (fun hHeld => ?_)
  · (try dsimp only); exact ⟨d2, d2a, d2b, d2c⟩
  clear hK K
  try simp only [tkS]
  refine tk 6 ⟨some 33, _, _, _, _, _⟩ ?_ rfl ?_ ?_
  rotate_left
  · (intro w hSw; (try dsimp only at hSw); go_simp; try with_reducible rfl)
  try simp only [tkS]
  refine tk 7 ⟨some 34, _, _, _, _, _⟩ ?_ rfl ?_ ?_
  rotate_left
  · (intro w hSw; (try dsimp only at hSw); go_simp; try with_reducible rfl)
  try simp only [tkS]
  refine tn 8 ⟨some 35, _, _, _, _, _⟩ rfl ?_
  try simp only [tkS]
  refine tn 9 ⟨some 36, _, _, _, _, _⟩ rfl ?_
  try simp only [tkS]
  refine tn 10 ⟨some 37, _, _, _, _, _⟩ rfl ?_
  try simp only [tkS]
  refine tn 11 ⟨some 38, _, _, _, _, _⟩ rfl ?_
  try simp only [tkS]
  refine tn 12 ⟨some 39, _, _, _, _, _⟩ rfl ?_
  try simp only [tkS]
  refine tn 13 ⟨some 40, _, _, _, _, _⟩ rfl ?_
  try simp only [tkS]
  refine tn 14 ⟨some 41, _, _, _, _, _⟩ rfl ?_
  try simp only [tkS]
  refine tk 15 ⟨some 42, _, _, _, _, _⟩ ?_ rfl ?_ ?_
  rotate_left
  · (intro w hSw; (try dsimp only at hSw); go_simp; try with_reducible rfl)
  try simp only [tkS]
  refine tk 16 ⟨some 43, _, _, _, _, _⟩ ?_ rfl ?_ ?_
  rotate_left
  · (intro w hSw; (try dsimp only at hSw); go_simp; try with_reducible rfl)
  try simp only [tkS]
  refine tn 17 ⟨some 44, _, _, _, _, _⟩ rfl ?_
  try simp only [tkS]
  refine tn 18 ⟨some 45, _, _, _, _, _⟩ rfl ?_
  try simp only [tkS]
  refine tn 19 ⟨some 46, _, _, _, _, _⟩ rfl ?_
  try simp only [tkS]
  refine tn 20 ⟨some 47, _, _, _, _, _⟩ rfl ?_
  try simp only [tkS]
  refine tk 21 ⟨some 48, _, _, _, _, _⟩ ?_ rfl ?_ ?_
  rotate_left
  · (intro w hSw; (try dsimp only at hSw); go_simp; try with_reducible rfl)
  try simp only [tkS]
  refine wpAnyH_done (by kernel_rfl) ?_ _
  have hx : Ext w w2 := Ext.trans_ HX9.out HE2.out
  have hS1 : GShape w2 gs := hx.cell_ HS.out
  go_wp2
  go_ret
  exact ⟨rfl, hx⟩
set_option maxRecDepth 100000 in
set_option maxHeartbeats 4000000 in
theorem check_b2 (b o : Nat) (M : Mem) (S : Sls) (gb gs gp : Addr) (w : World) (hM : RMem w b o M S) (hG : GBound w gb) (hS : GShape w gs) (hP : GPlace w gp) (hs : shapeB M = true) (h1 : objsB M (okHd M) = true) (h2 : fieldsB (startsM M) M.roots = true) (h3 : fieldsB (startsM M) M.weak = false) :
    Calls Tryz.prog 90 #[.pointer (some ⟨b, o, none⟩)] w fun e w' => e = .returned (errV gs) ∧ Ext w w' := by
  have hh := shp_of hs
  have hmm := @run_makeMap Tryz.prog
  have HM := Lib.hid hM
  have HG := Lib.hid hG
  have HH := Lib.hid hh
  have HS := Lib.hid hS
  have HP := Lib.hid hP
  have H1 := Lib.hid h1
  have HR := Lib.hid h2
  have HW := Lib.hid h3
  clear h2 h3
  have hltb := hM.lt
  have hltg := cell_lt hS
  have hltp := cell_lt hP
  simp only at hltg hltp
  clear hM hG hh hP
  go_enter Tryz.func90, Tryz.ntmps90
  go_wp2_with (first
    | (go_at_call 134; refine (shape_any _ b o M S ?_).mono ?_; (exact HM.out.ext ((Ext.refl w).alloc_ _)); rintro e w' ⟨rfl, n, rfl⟩; rw [hs]))
  refine (objects_c1 w b o M S HH.out HM.out gb gs HG.out hS (w.heap.size + 1) (w.heap.size + 1 + 1) w.heap.size _ ?_ (by omega) (by omega) (by omega) ?_ ?_ ?_).mono ?_
  · repeat (first | exact Ext.refl _ | (refine Ext.set_ ?_ (by simp) _) | (refine Ext.alloc_ ?_ _) | (refine Ext.drewN_ ?_ _))
  · exact SMap.made_ (w := (w.alloc _).drewN n) _ (by simp) (by repeat (first | exact Ext.refl _ | (refine Ext.set_ ?_ (by simp) _) | (refine Ext.alloc_ ?_ _)))
  · simp [go_sem]
  · simp [go_sem]
  rintro e w1 ⟨rfl, hsm, hK⟩
  rw [h1]
  have hx : Ext w w1 := Ext.keep (by repeat (first | exact Ext.refl _ | (refine Ext.set_ ?_ (by simp) _) | (refine Ext.alloc_ ?_ _) | (refine Ext.drewN_ ?_ _))) hK (fun i hi => by omega)
  have f1 : w1.cell? ⟨w.heap.size, 0, none⟩ = some (.pointer (some ⟨b, o, none⟩)) := hK.cell (by simp) (by simp [go_sem])
  have f3 : w1.cell? ⟨w.heap.size + 1 + 1, 0, none⟩ = some (.map (some (w.heap.size + 1))) := hK.cell (by simp) (by simp [go_sem])
  have z1 : w.heap.size + 1 + 1 < w1.heap.size := by have := hK.size; simp at this; omega
  have HX1 := Lib.hid hx
  have HSM := Lib.hid (hsm h1)
  clear hsm hK hx hS h1
  go_wp2
  refine named_world (fun W9 hW9 => ?_)
  have g5 : W9.cell? ⟨w1.heap.size + 1, 0, none⟩ = some (.func (.func 139) #[] #[.pointer (some ⟨w1.heap.size, 0, none⟩)]) := by rw [hW9]; simp [go_sem]
  have g4 : W9.cell? ⟨w1.heap.size, 0, none⟩ = some (.func (.func 137) #[] #[.pointer (some ⟨w.heap.size + 1 + 1, 0, none⟩)]) := by rw [hW9]; simp [go_sem]
  have g6 : W9.cell? ⟨w1.heap.size + 1 + 1, 0, none⟩ = some (.bool true) := by rw [hW9]; simp [go_sem]
  have u6 : W9.frozen? ⟨w1.heap.size + 1 + 1, 0, none⟩ = false := by rw [hW9]; simp [go_sem]
  have hx9 : Ext w1 W9 := by rw [hW9]; repeat (first | exact Ext.refl _ | (refine Ext.alloc_ ?_ _))
  have g1 := hx9.cell_ f1
  have g3 := hx9.cell_ f3
  have hsm9 := HSM.out.ext hx9
  have hxx : Ext w W9 := Ext.trans_ HX1.out hx9
  have hM9 := HM.out.ext hxx
  have gr := hM9.roots
  have gk := hM9.weak
  have z9 : w1.heap.size + 1 + 1 < W9.heap.size := cell_lt g6
  have G3 := Lib.hid g3
  have G4 := Lib.hid g4
  have G6 := Lib.hid g6
  have U6 := Lib.hid u6
  have SM9 := Lib.hid hsm9
  have HX9 := Lib.hid hxx
  clear hW9 hx9 f1 f3 g3 g4 g6 u6 hsm9 hxx hM9 HSM
  refine wp_region_held_drew (S := fun W => W.cell? ⟨w1.heap.size + 1, 0, none⟩ = some (.func (.func 139) #[] #[.pointer (some ⟨w1.heap.size, 0, none⟩)]) ∧ W.cell? ⟨w.heap.size, 0, none⟩ = some (.pointer (some ⟨b, o, none⟩)) ∧ W.cell? ⟨b, o + 7, none⟩ = some (.slice S.R.1 M.roots.length S.R.2) ∧ W.cell? ⟨b, o + 8, none⟩ = some (.slice S.K.1 M.weak.length S.K.2)) (by kernel_rfl) ?_ (fun hHeld => ?_)
  · exact ⟨g5, g1, gr, gk⟩
  refine tk 0 ⟨some 27, _, _, _, _, _⟩ ?_ rfl ?_ ?_
  rotate_left
  · (intro w hSw; (try dsimp only at hSw); go_simp; try with_reducible rfl)
  try simp only [tkS]
  refine tk 1 ⟨some 28, _, _, _, _, _⟩ ?_ rfl ?_ ?_
  rotate_left
  · (intro w hSw; (try dsimp only at hSw); go_simp; try with_reducible rfl)
  try simp only [tkS]
  refine tk 2 ⟨some 29, _, _, _, _, _⟩ ?_ rfl ?_ ?_
  rotate_left
  · (intro w hSw; (try dsimp only at hSw); go_simp; try with_reducible rfl)
  try simp only [tkS]
  refine tk 3 ⟨some 30, _, _, _, _, _⟩ ?_ rfl ?_ ?_
  rotate_left
  · (intro w hSw; (try dsimp only at hSw); go_simp; try with_reducible rfl)
  try simp only [tkS]
  refine tk 4 ⟨some 31, _, _, _, _, _⟩ ?_ rfl ?_ ?_
  rotate_left
  · (intro w hSw; (try dsimp only at hSw); go_simp; try with_reducible rfl)
  try simp only [tkS]
  refine wpAnyH_ready (rs := [5]) (by kernel_rfl) (by simp) ?_
  refine AllReadyH.cons (o := ⟨some 32, _, _, _, _, _⟩) rfl (fun K hK => ?_) AllReadyH.nil
  go_simp
  refine (c3_any S.R.1 S.R.2 M.roots ?_ ?_ (w.heap.size + 1) (w.heap.size + 1 + 1) w1.heap.size (startsM M) _ ?_ ?_ ?_ ?_).mono ?_
  · exact HM.out.ok.lenR
  · exact HM.out.ok.roots
  · exact (HM.out.ext (Ext.trans_ HX9.out (by repeat (first | exact Ext.refl _ | (refine Ext.drew_ ?_))))).rR
  · exact SM9.out.ext (by repeat (first | exact Ext.refl _ | (refine Ext.drew_ ?_)))
  · exact Ext.cell_ (by repeat (first | exact Ext.refl _ | (refine Ext.drew_ ?_))) G3.out
  · exact Ext.cell_ (by repeat (first | exact Ext.refl _ | (refine Ext.drew_ ?_))) G4.out
  rintro e w2 ⟨he, hq⟩
  rw [HR.out] at he
  subst he
  have HE2 : Hid (Ext W9 w2) := Ext.trans_ (by repeat (first | exact Ext.refl _ | (refine Ext.drew_ ?_))) hq
  have d2 := hq.cell_ hHeld.1
  have d2a := hq.cell_ hHeld.2.1
  have d2b := hq.cell_ hHeld.2.2.1
  have d2c := hq.cell_ hHeld.2.2.2
  clear hq
  refine hK.out _ _ ?_ (fun hHeld => ?_)
  · (try dsimp only); exact ⟨d2, d2a, d2b, d2c⟩
  clear hK K
  try simp only [tkS]
  refine tk 6 ⟨some 33, _, _, _, _, _⟩ ?_ rfl ?_ ?_
  rotate_left
  · (intro w hSw; (try dsimp only at hSw); go_simp; try with_reducible rfl)
  try simp only [tkS]
  refine tk 7 ⟨some 34, _, _, _, _, _⟩ ?_ rfl ?_ ?_
  rotate_left
  · (intro w hSw; (try dsimp only at hSw); go_simp; try with_reducible rfl)
  try simp only [tkS]
  refine tk 8 ⟨some 35, _, _, _, _, _⟩ ?_ rfl ?_ ?_
  rotate_left
  · (intro w hSw; (try dsimp only at hSw); go_simp; try with_reducible rfl)
  try simp only [tkS]
  refine tk 9 ⟨some 36, _, _, _, _, _⟩ ?_ rfl ?_ ?_
  rotate_left
  · (intro w hSw; (try dsimp only at hSw); go_simp; try with_reducible rfl)
  try simp only [tkS]
  refine tk 10 ⟨some 37, _, _, _, _, _⟩ ?_ rfl ?_ ?_
  rotate_left
  · (intro w hSw; (try dsimp only at hSw); go_simp; try with_reducible rfl)
  try simp only [tkS]
  refine tk 11 ⟨some 38, _, _, _, _, _⟩ ?_ rfl ?_ ?_
  rotate_left
  · (intro w hSw; (try dsimp only at hSw); go_simp; try with_reducible rfl)
  try simp only [tkS]
  refine tk 12 ⟨some 39, _, _, _, _, _⟩ ?_ rfl ?_ ?_
  rotate_left
  · (intro w hSw; (try dsimp only at hSw); go_simp; try with_reducible rfl)
  try simp only [tkS]
  refine wpAnyH_ready (rs := [13]) (by kernel_rfl) (by simp) ?_
  refine AllReadyH.cons (o := ⟨some 40, _, _, _, _, _⟩) rfl (fun K hK => ?_) AllReadyH.nil
  go_simp
  refine (c3_any S.K.1 S.K.2 M.weak ?_ ?_ (w.heap.size + 1) (w.heap.size + 1 + 1) w1.heap.size (startsM M) _ ?_ ?_ ?_ ?_).mono ?_
  · exact HM.out.ok.lenK
  · exact HM.out.ok.weak
  · exact (HM.out.ext (Ext.trans_ HX9.out (by exact HE2.out))).rK
  · exact SM9.out.ext (by exact HE2.out)
  · exact Ext.cell_ (by exact HE2.out) G3.out
  · exact Ext.cell_ (by exact HE2.out) G4.out
  rintro e w3 ⟨he, hq⟩
  rw [HW.out] at he
  subst he
  have HE3 : Hid (Ext W9 w3) := Ext.trans_ (by exact HE2.out) hq
  have d3 := hq.cell_ hHeld.1
  have d3a := hq.cell_ hHeld.2.1
  have d3b := hq.cell_ hHeld.2.2.1
  have d3c := hq.cell_ hHeld.2.2.2
  clear hq
  refine hK.out _ _ ?_ (fun hHeld => ?_)
  · (try dsimp only); exact ⟨d3, d3a, d3b, d3c⟩
  clear hK K
  try simp only [tkS]
  refine tk 14 ⟨some 41, _, _, _, _, _⟩ ?_ rfl ?_ ?_
  rotate_left
  · (intro w hSw; (try dsimp only at hSw); go_simp; try with_reducible rfl)
  try simp only [tkS]
  refine tk 15 ⟨some 42, _, _, _, _, _⟩ ?_ rfl ?_ ?_
  rotate_left
  · (intro w hSw; (try dsimp only at hSw); go_simp; try with_reducible rfl)
  try simp only [tkS]
  refine tk 16 ⟨some 43, _, _, _, _, _⟩ ?_ rfl ?_ ?_
  rotate_left
  · (intro w hSw; (try dsimp only at hSw); go_simp; try with_reducible rfl)
  try simp only [tkS]
  refine tn 17 ⟨some 44, _, _, _, _, _⟩ rfl ?_
  try simp only [tkS]
  refine tn 18 ⟨some 45, _, _, _, _, _⟩ rfl ?_
  try simp only [tkS]
  refine tn 19 ⟨some 46, _, _, _, _, _⟩ rfl ?_
  try simp only [tkS]
  refine tn 20 ⟨some 47, _, _, _, _, _⟩ rfl ?_
  try simp only [tkS]
  refine tk 21 ⟨some 48, _, _, _, _, _⟩ ?_ rfl ?_ ?_
  rotate_left
  · (intro w hSw; (try dsimp only at hSw); go_simp; try with_reducible rfl)
  try simp only [tkS]
  refine wpAnyH_done (by kernel_rfl) ?_ _
  have hx : Ext w w3 := Ext.trans_ HX9.out HE3.out
  have hS1 : GShape w3 gs := hx.cell_ HS.out
  go_wp2
  go_ret
  exact ⟨rfl, hx⟩
set_option maxRecDepth 100000 in
set_option maxHeartbeats 4000000 in
theorem check_b3 (b o : Nat) (M : Mem) (S : Sls) (gb gs gp : Addr) (w : World) (hM : RMem w b o M S) (hG : GBound w gb) (hS : GShape w gs) (hP : GPlace w gp) (hs : shapeB M = true) (h1 : objsB M (okHd M) = true) (h2 : fieldsB (startsM M) M.roots = true) (h3 : fieldsB (startsM M) M.weak = true) (h4 : objsB M (okFld M (startsM M)) = false) :
    Calls Tryz.prog 90 #[.pointer (some ⟨b, o, none⟩)] w fun e w' => e = .returned (errV gs) ∧ Ext w w' := by
  have hh := shp_of hs
  have hmm := @run_makeMap Tryz.prog
  have HM := Lib.hid hM
  have HG := Lib.hid hG
  have HH := Lib.hid hh
  have HS := Lib.hid hS
  have HP := Lib.hid hP
  have H1 := Lib.hid h1
  have HR := Lib.hid h2
  have HW := Lib.hid h3
  have HO := Lib.hid h4
  clear h2 h3 h4
  have hltb := hM.lt
  have hltg := cell_lt hS
  have hltp := cell_lt hP
  simp only at hltg hltp
  clear hM hG hh hP
  go_enter Tryz.func90, Tryz.ntmps90
  go_wp2_with (first
    | (go_at_call 134; refine (shape_any _ b o M S ?_).mono ?_; (exact HM.out.ext ((Ext.refl w).alloc_ _)); rintro e w' ⟨rfl, n, rfl⟩; rw [hs]))
  refine (objects_c1 w b o M S HH.out HM.out gb gs HG.out hS (w.heap.size + 1) (w.heap.size + 1 + 1) w.heap.size _ ?_ (by omega) (by omega) (by omega) ?_ ?_ ?_).mono ?_
  · repeat (first | exact Ext.refl _ | (refine Ext.set_ ?_ (by simp) _) | (refine Ext.alloc_ ?_ _) | (refine Ext.drewN_ ?_ _))
  · exact SMap.made_ (w := (w.alloc _).drewN n) _ (by simp) (by repeat (first | exact Ext.refl _ | (refine Ext.set_ ?_ (by simp) _) | (refine Ext.alloc_ ?_ _)))
  · simp [go_sem]
  · simp [go_sem]
  rintro e w1 ⟨rfl, hsm, hK⟩
  rw [h1]
  have hx : Ext w w1 := Ext.keep (by repeat (first | exact Ext.refl _ | (refine Ext.set_ ?_ (by simp) _) | (refine Ext.alloc_ ?_ _) | (refine Ext.drewN_ ?_ _))) hK (fun i hi => by omega)
  have f1 : w1.cell? ⟨w.heap.size, 0, none⟩ = some (.pointer (some ⟨b, o, none⟩)) := hK.cell (by simp) (by simp [go_sem])
  have f3 : w1.cell? ⟨w.heap.size + 1 + 1, 0, none⟩ = some (.map (some (w.heap.size + 1))) := hK.cell (by simp) (by simp [go_sem])
  have z1 : w.heap.size + 1 + 1 < w1.heap.size := by have := hK.size; simp at this; omega
  have HX1 := Lib.hid hx
  have HSM := Lib.hid (hsm h1)
  clear hsm hK hx hS h1
  go_wp2
  refine named_world (fun W9 hW9 => ?_)
  have g5 : W9.cell? ⟨w1.heap.size + 1, 0, none⟩ = some (.func (.func 139) #[] #[.pointer (some ⟨w1.heap.size, 0, none⟩)]) := by rw [hW9]; simp [go_sem]
  have g4 : W9.cell? ⟨w1.heap.size, 0, none⟩ = some (.func (.func 137) #[] #[.pointer (some ⟨w.heap.size + 1 + 1, 0, none⟩)]) := by rw [hW9]; simp [go_sem]
  have g6 : W9.cell? ⟨w1.heap.size + 1 + 1, 0, none⟩ = some (.bool true) := by rw [hW9]; simp [go_sem]
  have u6 : W9.frozen? ⟨w1.heap.size + 1 + 1, 0, none⟩ = false := by rw [hW9]; simp [go_sem]
  have hx9 : Ext w1 W9 := by rw [hW9]; repeat (first | exact Ext.refl _ | (refine Ext.alloc_ ?_ _))
  have g1 := hx9.cell_ f1
  have g3 := hx9.cell_ f3
  have hsm9 := HSM.out.ext hx9
  have hxx : Ext w W9 := Ext.trans_ HX1.out hx9
  have hM9 := HM.out.ext hxx
  have gr := hM9.roots
  have gk := hM9.weak
  have z9 : w1.heap.size + 1 + 1 < W9.heap.size := cell_lt g6
  have G3 := Lib.hid g3
  have G4 := Lib.hid g4
  have G6 := Lib.hid g6
  have U6 := Lib.hid u6
  have SM9 := Lib.hid hsm9
  have HX9 := Lib.hid hxx
  clear hW9 hx9 f1 f3 g3 g4 g6 u6 hsm9 hxx hM9 HSM
  refine wp_region_held_drew (S := fun W => W.cell? ⟨w1.heap.size + 1, 0, none⟩ = some (.func (.func 139) #[] #[.pointer (some ⟨w1.heap.size, 0, none⟩)]) ∧ W.cell? ⟨w.heap.size, 0, none⟩ = some (.pointer (some ⟨b, o, none⟩)) ∧ W.cell? ⟨b, o + 7, none⟩ = some (.slice S.R.1 M.roots.length S.R.2) ∧ W.cell? ⟨b, o + 8, none⟩ = some (.slice S.K.1 M.weak.length S.K.2)) (by kernel_rfl) ?_ (fun hHeld => ?_)
  · exact ⟨g5, g1, gr, gk⟩
  refine tk 0 ⟨some 27, _, _, _, _, _⟩ ?_ rfl ?_ ?_
  rotate_left
  · (intro w hSw; (try dsimp only at hSw); go_simp; try with_reducible rfl)
  try simp only [tkS]
  refine tk 1 ⟨some 28, _, _, _, _, _⟩ ?_ rfl ?_ ?_
  rotate_left
  · (intro w hSw; (try dsimp only at hSw); go_simp; try with_reducible rfl)
  try simp only [tkS]
  refine tk 2 ⟨some 29, _, _, _, _, _⟩ ?_ rfl ?_ ?_
  rotate_left
  · (intro w hSw; (try dsimp only at hSw); go_simp; try with_reducible rfl)
  try simp only [tkS]
  refine tk 3 ⟨some 30, _, _, _, _, _⟩ ?_ rfl ?_ ?_
  rotate_left
  · (intro w hSw; (try dsimp only at hSw); go_simp; try with_reducible rfl)
  try simp only [tkS]
  refine tk 4 ⟨some 31, _, _, _, _, _⟩ ?_ rfl ?_ ?_
  rotate_left
  · (intro w hSw; (try dsimp only at hSw); go_simp; try with_reducible rfl)
  try simp only [tkS]
  refine wpAnyH_ready (rs := [5]) (by kernel_rfl) (by simp) ?_
  refine AllReadyH.cons (o := ⟨some 32, _, _, _, _, _⟩) rfl (fun K hK => ?_) AllReadyH.nil
  go_simp
  refine (c3_any S.R.1 S.R.2 M.roots ?_ ?_ (w.heap.size + 1) (w.heap.size + 1 + 1) w1.heap.size (startsM M) _ ?_ ?_ ?_ ?_).mono ?_
  · exact HM.out.ok.lenR
  · exact HM.out.ok.roots
  · exact (HM.out.ext (Ext.trans_ HX9.out (by repeat (first | exact Ext.refl _ | (refine Ext.drew_ ?_))))).rR
  · exact SM9.out.ext (by repeat (first | exact Ext.refl _ | (refine Ext.drew_ ?_)))
  · exact Ext.cell_ (by repeat (first | exact Ext.refl _ | (refine Ext.drew_ ?_))) G3.out
  · exact Ext.cell_ (by repeat (first | exact Ext.refl _ | (refine Ext.drew_ ?_))) G4.out
  rintro e w2 ⟨he, hq⟩
  rw [HR.out] at he
  subst he
  have HE2 : Hid (Ext W9 w2) := Ext.trans_ (by repeat (first | exact Ext.refl _ | (refine Ext.drew_ ?_))) hq
  have d2 := hq.cell_ hHeld.1
  have d2a := hq.cell_ hHeld.2.1
  have d2b := hq.cell_ hHeld.2.2.1
  have d2c := hq.cell_ hHeld.2.2.2
  clear hq
  refine hK.out _ _ ?_ (fun hHeld => ?_)
  · (try dsimp only); exact ⟨d2, d2a, d2b, d2c⟩
  clear hK K
  try simp only [tkS]
  refine tk 6 ⟨some 33, _, _, _, _, _⟩ ?_ rfl ?_ ?_
  rotate_left
  · (intro w hSw; (try dsimp only at hSw); go_simp; try with_reducible rfl)
  try simp only [tkS]
  refine tk 7 ⟨some 34, _, _, _, _, _⟩ ?_ rfl ?_ ?_
  rotate_left
  · (intro w hSw; (try dsimp only at hSw); go_simp; try with_reducible rfl)
  try simp only [tkS]
  refine tk 8 ⟨some 35, _, _, _, _, _⟩ ?_ rfl ?_ ?_
  rotate_left
  · (intro w hSw; (try dsimp only at hSw); go_simp; try with_reducible rfl)
  try simp only [tkS]
  refine tk 9 ⟨some 36, _, _, _, _, _⟩ ?_ rfl ?_ ?_
  rotate_left
  · (intro w hSw; (try dsimp only at hSw); go_simp; try with_reducible rfl)
  try simp only [tkS]
  refine tk 10 ⟨some 37, _, _, _, _, _⟩ ?_ rfl ?_ ?_
  rotate_left
  · (intro w hSw; (try dsimp only at hSw); go_simp; try with_reducible rfl)
  try simp only [tkS]
  refine tk 11 ⟨some 38, _, _, _, _, _⟩ ?_ rfl ?_ ?_
  rotate_left
  · (intro w hSw; (try dsimp only at hSw); go_simp; try with_reducible rfl)
  try simp only [tkS]
  refine tk 12 ⟨some 39, _, _, _, _, _⟩ ?_ rfl ?_ ?_
  rotate_left
  · (intro w hSw; (try dsimp only at hSw); go_simp; try with_reducible rfl)
  try simp only [tkS]
  refine wpAnyH_ready (rs := [13]) (by kernel_rfl) (by simp) ?_
  refine AllReadyH.cons (o := ⟨some 40, _, _, _, _, _⟩) rfl (fun K hK => ?_) AllReadyH.nil
  go_simp
  refine (c3_any S.K.1 S.K.2 M.weak ?_ ?_ (w.heap.size + 1) (w.heap.size + 1 + 1) w1.heap.size (startsM M) _ ?_ ?_ ?_ ?_).mono ?_
  · exact HM.out.ok.lenK
  · exact HM.out.ok.weak
  · exact (HM.out.ext (Ext.trans_ HX9.out (by exact HE2.out))).rK
  · exact SM9.out.ext (by exact HE2.out)
  · exact Ext.cell_ (by exact HE2.out) G3.out
  · exact Ext.cell_ (by exact HE2.out) G4.out
  rintro e w3 ⟨he, hq⟩
  rw [HW.out] at he
  subst he
  have HE3 : Hid (Ext W9 w3) := Ext.trans_ (by exact HE2.out) hq
  have d3 := hq.cell_ hHeld.1
  have d3a := hq.cell_ hHeld.2.1
  have d3b := hq.cell_ hHeld.2.2.1
  have d3c := hq.cell_ hHeld.2.2.2
  clear hq
  refine hK.out _ _ ?_ (fun hHeld => ?_)
  · (try dsimp only); exact ⟨d3, d3a, d3b, d3c⟩
  clear hK K
  try simp only [tkS]
  refine tk 14 ⟨some 41, _, _, _, _, _⟩ ?_ rfl ?_ ?_
  rotate_left
  · (intro w hSw; (try dsimp only at hSw); go_simp; try with_reducible rfl)
  try simp only [tkS]
  refine tk 15 ⟨some 42, _, _, _, _, _⟩ ?_ rfl ?_ ?_
  rotate_left
  · (intro w hSw; (try dsimp only at hSw); go_simp; try with_reducible rfl)
  try simp only [tkS]
  refine tk 16 ⟨some 43, _, _, _, _, _⟩ ?_ rfl ?_ ?_
  rotate_left
  · (intro w hSw; (try dsimp only at hSw); go_simp; try with_reducible rfl)
  try simp only [tkS]
  refine tk 17 ⟨some 44, _, _, _, _, _⟩ ?_ rfl ?_ ?_
  rotate_left
  · (intro w hSw; (try dsimp only at hSw); go_simp; try with_reducible rfl)
  try simp only [tkS]
  refine tk 18 ⟨some 45, _, _, _, _, _⟩ ?_ rfl ?_ ?_
  rotate_left
  · (intro w hSw; (try dsimp only at hSw); go_simp; try with_reducible rfl)
  try simp only [tkS]
  refine wpAnyH_ready (rs := [19]) (by kernel_rfl) (by simp) ?_
  refine AllReadyH.cons (o := ⟨some 46, _, _, _, _, _⟩) rfl (fun K hK => ?_) AllReadyH.nil
  go_simp
  refine (objects_c4 w b o M S HH.out HM.out gb gs HG.out HS.out w.heap.size (w.heap.size + 1 + 1) w1.heap.size (w1.heap.size + 1) (w1.heap.size + 1 + 1) (w.heap.size + 1) (startsM M) _ ?_ (by omega) (by omega) (by omega) (by omega) (by omega) (by omega) ?_ ?_ ?_ ?_ ?_ ?_ ?_).mono ?_
  · exact Ext.trans_ HX9.out HE3.out
  · exact SM9.out.ext HE3.out
  · exact hHeld.2.1
  · exact HE3.out.cell_ G3.out
  · exact HE3.out.cell_ G4.out
  · exact hHeld.1
  · exact HE3.out.cell_ G6.out
  · rw [HE3.out.three.2.1 _ _ z9]; exact U6.out
  rintro e w4 ⟨he, hc6, hK⟩
  rw [HO.out] at he
  subst he
  have HE4 : Hid (Ext w w4) := Ext.keep (Ext.trans_ HX9.out HE3.out) hK (fun i hi => by omega)
  have d4 := hK.cell (by simp) hHeld.1
  have d4a := hK.cell (by simp; omega) hHeld.2.1
  have d4b := hK.cell (by simp; omega) hHeld.2.2.1
  have d4c := hK.cell (by simp; omega) hHeld.2.2.2
  have HC6 := Lib.hid hc6
  have HK4 := Lib.hid hK
  clear hc6 hK
  refine hK.out _ _ ?_ (fun hHeld => ?_)
  · (try dsimp only); exact ⟨d4, d4a, d4b, d4c⟩
  clear hK K
  try simp only [tkS]
  refine tk 20 ⟨some 47, _, _, _, _, _⟩ ?_ rfl ?_ ?_
  rotate_left
  · (intro w hSw; (try dsimp only at hSw); go_simp; try with_reducible rfl)
  try simp only [tkS]
  refine tk 21 ⟨some 48, _, _, _, _, _⟩ ?_ rfl ?_ ?_
  rotate_left
  · (intro w hSw; (try dsimp only at hSw); go_simp; try with_reducible rfl)
  try simp only [tkS]
  refine wpAnyH_done (by kernel_rfl) ?_ _
  have hx : Ext w w4 := HE4.out
  have hS1 : GShape w4 gs := hx.cell_ HS.out
  go_wp2
  go_ret
  exact ⟨rfl, hx⟩
end Go.Proofs.YtelhoppfidibiaaGreatDoor
