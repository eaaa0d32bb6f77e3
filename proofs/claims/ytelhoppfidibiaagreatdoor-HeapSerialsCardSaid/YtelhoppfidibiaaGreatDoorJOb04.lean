/- The walks of heap's Identity and Serial. -/
import Derived.Test.YtelhoppfidibiaaGreatDoorJOb03
import Derived.Test.YtelhoppfidibiaaGreatDoorJOb02
import Derived.Test.YtelhoppfidibiaaGreatDoorJOa34
namespace Go.Proofs.YtelhoppfidibiaaGreatDoor
open Go.RowKit
set_option linter.unusedVariables false
set_option linter.unusedSimpArgs false

set_option maxRecDepth 100000 in
set_option maxHeartbeats 2000000 in
theorem idC_walk (W : World) (xb : Nat) (u a s : Int) (h : W.cell? ⟨xb, 0, none⟩ = some (.int .u64 u)) :
    Calls Tryz.prog 107 #[.agg #[.int .u64 a, .int .i64 s], .pointer (some ⟨xb, 0, none⟩)] W fun e w' => e = .returned (.bool (a == u)) ∧ Ext W w' := by
  have h2 : ∀ o, (W.alloc o).cell? ⟨xb, 0, none⟩ = some (.int .u64 u) := fun o => ((Ext.refl W).alloc_ o).cell_ h
  cases hq : (a == u) with
  | true =>
    have e : a = u := by simpa using hq
    subst e
    go_enter Tryz.func107, Tryz.ntmps107
    go_wp2
    go_ret
    exact ⟨rfl, (Ext.refl _).alloc_ _⟩
  | false =>
    have e : ¬ a = u := by simpa using hq
    go_enter Tryz.func107, Tryz.ntmps107
    go_wp2
    go_ret
    exact ⟨rfl, (Ext.refl _).alloc_ _⟩
def IdIdx (ids : List (Int × Int)) (u n : Int) : Prop := (n = -1 ∧ ∀ x ∈ ids, x.1 ≠ u) ∨ ∃ i : Nat, n = (i : Int) ∧ i < ids.length ∧ (ids.getD i (0, 0)).1 = u
set_option maxRecDepth 100000 in
set_option maxHeartbeats 2000000 in
theorem indexID_walk (xb : Nat) (u : Int) (ia : Option Addr) (c : Nat) (ids : List (Int × Int)) (w : World) (hz : ids.length ≤ 9223372036854775807) (hR : RSl w ia (icells ids)) (hx : w.cell? ⟨xb, 0, none⟩ = some (.int .u64 u)) :
    Calls Tryz.prog 106 #[.slice ia ids.length c, .func (.func 107) #[] #[.pointer (some ⟨xb, 0, none⟩)]] w fun e w' => ∃ n : Int, e = .returned (.int .i64 n) ∧ IdIdx ids u n ∧ Ext w w' := by
  have HR := Lib.hid hR
  have HX := Lib.hid hx
  clear hR hx
  go_enter Tryz.func106, Tryz.ntmps106
  go_wp2
  go_loopw [5, 8] (fun _ i wr => ∃ k : Nat, k ≤ ids.length ∧ i = .int .i64 (k : Int) ∧ Hid (Ext w wr) ∧ Hid (∀ j, j < k → (ids.getD j (0, 0)).1 ≠ u))
    (fun _ i _ => ids.length - (intOf i).toNat)
  case atStart => exact ⟨0, Nat.zero_le _, rfl, Ext.refl w, fun j hj => absurd hj (Nat.not_lt_zero _)⟩
  case round =>
    obtain ⟨k, hk, rfl, hE, hA⟩ := hrel
    by_cases hlt : k < ids.length
    · obtain ⟨p0, p1⟩ := icells_at ids k hlt
      obtain ⟨ib, io, hIa, c0⟩ := (HR.out.ext hE.out) _ _ p0
      have hRs := HR.out.ext hE.out
      rw [hIa] at hRs
      have c1 := hRs.at_ p1
      rw [← Nat.add_assoc] at c1
      obtain rfl : ia = some ⟨ib, io, none⟩ := hIa
      have hltz : (k : Int) < (ids.length : Int) := by omega
      have hgd : ids.getD k (0, 0) = ids[k] := by rw [List.getD_eq_getElem?_getD, List.getElem?_eq_getElem hlt]; rfl
      have HGD := Lib.hid hgd
      have hcall := idC_walk wr xb u ids[k].1 ids[k].2 (hE.out.cell_ HX.out)
      generalize ids[k] = x at *
      have hibz := cell_lt c0
      simp only at hibz
      clear hRs p0 p1 hgd
      cases hq : (x.1 == u) with
      | true =>
        have HQ : Hid (x.1 = u) := by simpa [Hid] using hq
        rw [hq] at hcall
        clear hq
        have HCL := Lib.hid hcall
        clear hcall
        go_wp2_with (go_at_call 107; refine HCL.out.mono ?_; rintro e w' ⟨rfl, hb'⟩; have HB' : Hid (Ext w w') := hE.out.trans_ hb'; clear hb')
        go_ret
        exact ⟨_, rfl, Or.inr ⟨k, rfl, hlt, by rw [HGD.out]; exact HQ.out⟩, HB'.out⟩
      | false =>
        have HQ : Hid (x.1 ≠ u) := by simpa [Hid] using hq
        rw [hq] at hcall
        clear hq
        have HCL := Lib.hid hcall
        clear hcall
        go_wp2_with (go_at_call 107; refine HCL.out.mono ?_; rintro e w' ⟨rfl, hb'⟩; have HB' : Hid (Ext w w') := hE.out.trans_ hb'; clear hb')
        go_roundw
        case rel => exact ⟨k + 1, by omega, by go_num, HB'.out, fun j hj => by
          by_cases e : j = k
          · subst e; rw [HGD.out]; exact HQ.out
          · exact hA.out j (by omega)⟩
        case measure => simp [intOf]; omega
    · have hltz : ¬ (k : Int) < (ids.length : Int) := by omega
      go_wp2
      go_ret
      refine ⟨_, rfl, Or.inl ⟨rfl, fun x hx => ?_⟩, hE.out⟩
      obtain ⟨j, hj, rfl⟩ := List.mem_iff_getElem.1 hx
      have := hA.out j (by omega)
      rw [List.getD_eq_getElem?_getD, List.getElem?_eq_getElem hj] at this
      exact this
section
variable {B hb b : Nat} {M : Mem} {S : Sls} {E : Nat → Addr} {ten nx : Int}
theorem OHeap.setNext {w : World} (h : OHeap w B hb b M S ten nx) (x : Int) : OHeap (w.setCell ⟨hb, 2, none⟩ (.int .i64 x)) B hb b M S ten x ∧ HStep hb b w S (w.setCell ⟨hb, 2, none⟩ (.int .i64 x)) S := by
  have hm : OMem (w.setCell ⟨hb, 2, none⟩ (.int .i64 x)) B b 140 M S := OM.kept h.mem fun k hk ho => by
    refine heap_setCell_other w ⟨hb, 2, none⟩ k _ (fun e => ?_)
    have e2 : k = hb := e
    subst e2
    rcases ho with q | ⟨f, hf, q⟩
    · exact h.ne (Or.inl q)
    · exact h.ne (OMem.own_of h.mem hf q)
  refine ⟨⟨hm, h.hB, blk_set h.blk, ?_, ?_, cell_set_same h.nxt, h.ne⟩, ⟨⟨rfl, rfl, rfl, by simp [World.setCell], fun k hk hn => heap_setCell_other w ⟨hb, 2, none⟩ k _ (fun e => hn (Or.inl e))⟩, fun k hk => Or.inl hk⟩⟩
  · rw [cell_set_off (by decide)]; exact h.ptr
  · rw [cell_set_off (by decide)]; exact h.tn
/-- Which number an object has, or is given. -/
def IdPost (w : World) (B hb b : Nat) (M : Mem) (S : Sls) (ten nx u : Int) (e : Ending) (w' : World) : Prop :=
  (∃ i : Nat, i < M.ids.length ∧ (M.ids.getD i (0, 0)).1 = u ∧ e = .returned (.int .i64 (M.ids.getD i (0, 0)).2) ∧ Ext w w') ∨
  ((∀ x ∈ M.ids, x.1 ≠ u) ∧ ∃ S', e = .returned (.int .i64 nx) ∧ OHeap w' B hb b { M with ids := M.ids ++ [(u, nx)] } S' ten (nx + 1) ∧ HStep hb b w S w' S')
set_option maxRecDepth 100000 in
set_option maxHeartbeats 4000000 in
theorem identity_walk (w : World) (hH : OHeap w B hb b M S ten nx) (hok : M.Ok) (hn0 : 0 ≤ nx ∧ nx ≤ 1000000000) (hl : M.ids.length ≤ 1000000) (u : Int) :
    Calls Tryz.prog 48 #[.pointer (some ⟨hb, 0, none⟩), .int .u64 u] w (IdPost w B hb b M S ten nx u) := by
  have hM0 := hH.mem.mem hok
  have HM := Lib.hid hM0
  have HH := Lib.hid hH
  have q0 := hH.ptr
  have c9 := hM0.ids
  simp only [Nat.zero_add] at c9
  have hQ0 := Lib.hid q0
  have hC9 := Lib.hid c9
  obtain ⟨i0, hi0, hz0, hz1, hz2⟩ := info_parts infoM
  have hbl := OM.lt hH.mem
  have hhl := hH.lt
  clear hH
  go_enter Tryz.func48, Tryz.ntmps48
  go_upto_region 2 with (go_at_call 106; refine (indexID_walk w.heap.size u S.I.1 S.I.2 M.ids _ hM0.ok.lenI (hM0.rI.ext ((Ext.refl w).alloc_ _)) (by rw [World.cell?, heap_alloc_new]; rfl)).mono ?_; rintro e w1 ⟨n, rfl, hn, hq⟩; have HN := Lib.hid hn; have HX1 : Hid (Ext w w1) := ((Ext.refl w).alloc_ _).trans_ hq; have HBX : Hid (w1.cell? ⟨w.heap.size, 0, none⟩ = some (.int .u64 u)) := hq.cell_ (by rw [World.cell?, heap_alloc_new]; rfl); clear hn hq)
  have h2 := HN.out
  clear hM0
  rcases h2 with ⟨rfl, hall⟩ | ⟨i, rfl, hil, hiu⟩
  · have HALL := Lib.hid hall
    have d0 := HX1.out.cell_ hQ0.out
    have d9 := HX1.out.cell_ hC9.out
    clear q0 c9 hall
    go_upto_region 4 with fail
    refine named_world' (fun wD hwD => ?_)
    have HXD : Hid (Ext w wD) := by rw [hwD]; exact HX1.out
    have hBX : wD.cell? ⟨w.heap.size, 0, none⟩ = some (.int .u64 u) := by rw [hwD]; exact HBX.out
    clear hwD
    have j1 := HXD.out.cell_ hQ0.out
    have j2 := HXD.out.cell_ hC9.out
    have j3 := (HH.out.ext HXD.out).nxt
    have HHD := Lib.hid (HH.out.ext HXD.out)
    have HSD : Hid (HStep hb b w S wD S) := HStep.of_ext HXD.out
    have j2a := fun o => (Ext.alloc_ (Ext.refl wD) o).cell_ j2
    clear d0 d9
    refine wp_region_held_drew (S := fun W => W.cell? ⟨hb, 0, none⟩ = some (.pointer (some ⟨b, 0, none⟩)) ∧ W.cell? ⟨hb, 2, none⟩ = some (.int .i64 nx) ∧ W.cell? ⟨w.heap.size, 0, none⟩ = some (.int .u64 u)) (by kernel_rfl) ?_ (fun hHeld => ?_)
    · exact ⟨j1, j3, hBX⟩
    refine tk 0 ⟨some 25, _, _, _, _, _⟩ ?_ rfl ?_ ?_
    rotate_left
    · (intro w hSw; (try dsimp only at hSw); go_simp; try with_reducible rfl)
    try simp only [tkS]
    refine tk 1 ⟨some 26, _, _, _, _, _⟩ ?_ rfl ?_ ?_
    rotate_left
    · (intro w hSw; (try dsimp only at hSw); go_simp; try with_reducible rfl)
    try simp only [tkS]
    refine tk 2 ⟨some 27, _, _, _, _, _⟩ ?_ rfl ?_ ?_
    rotate_left
    · (intro w hSw; (try dsimp only at hSw); go_simp; try with_reducible rfl)
    try simp only [tkS]
    refine tk 3 ⟨some 28, _, _, _, _, _⟩ ?_ rfl ?_ ?_
    rotate_left
    · (intro w hSw; (try dsimp only at hSw); go_simp; try with_reducible rfl)
    try simp only [tkS]
    refine tk 4 ⟨some 29, _, _, _, _, _⟩ ?_ rfl ?_ ?_
    rotate_left
    · (intro w hSw; (try dsimp only at hSw); go_simp; try with_reducible rfl)
    try simp only [tkS]
    refine tk 5 ⟨some 30, _, _, _, _, _⟩ ?_ rfl ?_ ?_
    rotate_left
    · (intro w hSw; (try dsimp only at hSw); go_simp; try with_reducible rfl)
    try simp only [tkS]
    refine tk 6 ⟨some 31, _, _, _, _, _⟩ ?_ rfl ?_ ?_
    rotate_left
    · (intro w hSw; (try dsimp only at hSw); go_simp; try with_reducible rfl)
    try simp only [tkS]
    refine tk 7 ⟨some 32, _, _, _, _, _⟩ ?_ rfl ?_ ?_
    rotate_left
    · (intro w hSw; (try dsimp only at hSw); go_simp; try with_reducible rfl)
    try simp only [tkS]
    refine tk 8 ⟨some 33, _, _, _, _, _⟩ ?_ rfl ?_ ?_
    rotate_left
    · (intro w hSw; (try dsimp only at hSw); go_simp; try with_reducible rfl)
    try simp only [tkS]
    refine tk 9 ⟨some 34, _, _, _, _, _⟩ ?_ rfl ?_ ?_
    rotate_left
    · (intro w hSw; (try dsimp only at hSw); go_simp; try with_reducible rfl)
    try simp only [tkS]
    refine tk 11 ⟨some 36, _, _, _, _, _⟩ ?_ rfl ?_ ?_
    rotate_left
    · (intro w hSw; (try dsimp only at hSw); go_simp; try with_reducible rfl)
    try simp only [tkS]
    refine tk 12 ⟨some 37, _, _, _, _, _⟩ ?_ rfl ?_ ?_
    rotate_left
    · (intro w hSw; (try dsimp only at hSw); go_simp; try with_reducible rfl)
    try simp only [tkS]
    refine tk 13 ⟨some 38, _, _, _, _, _⟩ ?_ rfl ?_ ?_
    rotate_left
    · (intro w hSw; (try dsimp only at hSw); go_simp; try with_reducible rfl)
    try simp only [tkS]
    refine tk 14 ⟨some 39, _, _, _, _, _⟩ ?_ rfl ?_ ?_
    rotate_left
    · (intro w hSw; (try dsimp only at hSw); go_simp; try with_reducible rfl)
    try simp only [tkS]
    refine tk 15 ⟨some 40, _, _, _, _, _⟩ ?_ rfl ?_ ?_
    rotate_left
    · (intro w hSw; (try dsimp only at hSw); go_simp; try with_reducible rfl)
    try simp only [tkS]
    refine tk 16 ⟨some 41, _, _, _, _, _⟩ ?_ rfl ?_ ?_
    rotate_left
    · (intro w hSw; (try dsimp only at hSw); go_simp; try with_reducible rfl)
    try simp only [tkS]
    refine wpAnyH_ready (rs := [10, 17]) (by kernel_rfl) (by simp) ?_
    refine AllReadyH.cons (o := ⟨some 35, _, _, _, _, _⟩) rfl (fun K hK => ?_) (AllReadyH.cons (o := ⟨some 42, _, _, _, _, _⟩) rfl (fun K hK => ?_) AllReadyH.nil)
    · skip
      go_simp
      refine hK.out _ _ ?_ (fun hHeld => ?_)
      · (try dsimp only); exact ⟨Ext.cell_ (w := wD) (by repeat (first | exact Ext.refl _ | (refine Ext.drew_ ?_) | (refine Ext.drewN_ ?_ _) | (refine Ext.alloc_ ?_ _))) j1, Ext.cell_ (w := wD) (by repeat (first | exact Ext.refl _ | (refine Ext.drew_ ?_) | (refine Ext.drewN_ ?_ _) | (refine Ext.alloc_ ?_ _))) j3, Ext.cell_ (w := wD) (by repeat (first | exact Ext.refl _ | (refine Ext.drew_ ?_) | (refine Ext.drewN_ ?_ _) | (refine Ext.alloc_ ?_ _))) hBX⟩
      clear hK K
      try simp only [tkS]
      refine wpAnyH_ready (rs := [17]) (by kernel_rfl) (by simp) ?_
      refine AllReadyH.cons (o := ⟨some 42, _, _, _, _, _⟩) rfl (fun K hK => ?_) AllReadyH.nil
      go_simp
      skip
      refine hK.out _ _ ?_ (fun hHeld => ?_)
      · (try dsimp only); exact ⟨Ext.cell_ (w := wD) (by repeat (first | exact Ext.refl _ | (refine Ext.drew_ ?_) | (refine Ext.drewN_ ?_ _) | (refine Ext.alloc_ ?_ _))) j1, Ext.cell_ (w := wD) (by repeat (first | exact Ext.refl _ | (refine Ext.drew_ ?_) | (refine Ext.drewN_ ?_ _) | (refine Ext.alloc_ ?_ _))) j3, Ext.cell_ (w := wD) (by repeat (first | exact Ext.refl _ | (refine Ext.drew_ ?_) | (refine Ext.drewN_ ?_ _) | (refine Ext.alloc_ ?_ _))) hBX⟩
      clear hK K
      try simp only [tkS]
      refine wpAnyH_ready (rs := [18]) (by kernel_rfl) (by simp) ?_
      refine AllReadyH.cons (o := ⟨some 43, _, _, _, _, _⟩) rfl (fun K hK => ?_) AllReadyH.nil
      have hHD := HHD.out.ext (Ext.alloc_ (Ext.drew_ (Ext.refl wD)) (.cells #[.int .u64 u, .int .i64 nx] 140))
      refine step_append_src (by rfl) _ _ 80 (by rfl) B 140 i0 (.agg #[.int .u64 0, .int .i64 0]) 2 16 undM hi0 hz0 hz1 hz2 (by rfl) (by decide) (.slice S.I.1 M.ids.length S.I.2) M.ids.length (icells M.ids) (by rfl) (hHD.mem.fld ⟨9, 140, 2, S.I.1, M.ids.length, S.I.2, icells M.ids⟩ (by simp [memFlds])).2.1 (some ⟨wD.heap.size, 0, none⟩) 1 1 [.int .u64 u, .int .i64 nx] (by rfl) (fun e => by cases e) (Nat.le_refl _) (by rfl) (rslH wD.drew _ _) (by intro q hq; simp at hq; rcases hq with rfl | rfl <;> rfl) (by unfold maxLen; omega) (by omega) hHD.hbs ?_
      intro a2 c2 v2 hown hgrow hat
      obtain ⟨z1, z2, z3, y9, yf⟩ := hHD.pushId (u, nx) a2 c2 hgrow hown hat
      have HZ1 := Lib.hid z1
      have HZ2 : Hid (HStep hb b w S _ _) := (HSD.out.trans_ (HStep.of_ext (Ext.alloc_ (Ext.drew_ (Ext.refl wD)) (.cells #[.int .u64 u, .int .i64 nx] 140)))).trans_ z2
      have y0 := z3.cell (p := ⟨hb, 0, none⟩) hHD.ne hHD.ptr
      have y2 := z3.cell (p := ⟨hb, 2, none⟩) hHD.ne hHD.nxt
      have hnb : ¬ HL hb b S w.heap.size := fun e => by have := (HH.out.own e).2; omega
      have hbx2 : World.cell? _ ⟨w.heap.size, 0, none⟩ = some (.int .u64 u) := Ext.cell_ (w := wD) (w' := _) (Ext.alloc_ (Ext.drew_ (Ext.refl wD)) (.cells #[.int .u64 u, .int .i64 nx] 140)) hBX
      have yb := z3.cell (p := ⟨w.heap.size, 0, none⟩) (fun e => hnb (Or.inr e)) hbx2
      have x0 := z1.ptr
      have x2 := z1.nxt
      have xb := z2.keep.cell (p := ⟨w.heap.size, 0, none⟩) hnb hbx2
      clear hown hgrow hat z1 z2 z3 hHD hbx2
      refine hK.out _ _ ?_ (fun hHeld => ?_)
      · (try dsimp only); exact ⟨y0, y2, yb⟩
      clear hK K
      try simp only [tkS]
      refine tk 19 ⟨some 44, _, _, _, _, _⟩ ?_ rfl ?_ ?_
      rotate_left
      · (intro w hSw; (try dsimp only at hSw); go_simp; try with_reducible rfl)
      try simp only [tkS]
      refine tk 20 ⟨some 45, _, _, _, _, _⟩ ?_ rfl ?_ ?_
      rotate_left
      · (intro w hSw; (try dsimp only at hSw); go_simp; try with_reducible rfl)
      try simp only [tkS]
      refine wpAnyH_ready (rs := [21]) (by kernel_rfl) (by simp) ?_
      refine AllReadyH.cons (o := ⟨none, _, _, _, _, _⟩) rfl (fun K hK => ?_) AllReadyH.nil
      go_simp
      skip
      refine hK.out _ _ ?_ (fun hHeld => ?_)
      · (try dsimp only); exact ⟨x0, x2, xb⟩
      clear hK K
      try simp only [tkS]
      refine wpAnyH_done (by kernel_rfl) ?_ _
      clear hHeld y0 y2 y9 yb yf xb hnb
      generalize v2.setCell ⟨b, 9, none⟩ (Value.slice a2 (M.ids.length + 1) c2) = wE at *
      have hfr := HZ1.out.frozen 2
      have f1 : IntKind.i64.wrap (nx + 1) = nx + 1 := IntWalk.i64_in _ (by omega)
      obtain ⟨n1, n2⟩ := HZ1.out.setNext (nx + 1)
      have m0 := n1.ptr
      have m9 := (n1.mem.fld ⟨9, 140, 2, a2, (M.ids ++ [(u, nx)]).length, c2, icells (M.ids ++ [(u, nx)])⟩ (by simp [memFlds])).1
      simp only [Fld.val, List.length_append, List.length_singleton] at m9
      have mR : RSl _ a2 (icells (M.ids ++ [(u, nx)])) := (row_rsl (n1.mem.fld ⟨9, 140, 2, a2, (M.ids ++ [(u, nx)]).length, c2, icells (M.ids ++ [(u, nx)])⟩ (by simp [memFlds])).2.1).1
      obtain ⟨p0, p1⟩ := icells_at (M.ids ++ [(u, nx)]) M.ids.length (by simp)
      obtain ⟨ib, io, hIa, k0⟩ := mR _ _ p0
      rw [hIa] at mR m9
      have k1 := mR.at_ p1
      rw [← Nat.add_assoc] at k1
      simp only [List.getElem_append_right (Nat.le_refl _), Nat.sub_self, List.getElem_singleton] at k1
      have HN1 := Lib.hid n1
      have HN2 := Lib.hid (HZ2.out.trans_ n2)
      have hlz : (M.ids.length : Int) < ((M.ids.length + 1 : Nat) : Int) := by omega
      clear n1 n2 mR p0 p1 k0 hIa
      generalize hwF : wE.setCell ⟨hb, 2, none⟩ (.int .i64 (nx + 1)) = wF at *
      go_wp2
      go_ret
      right
      exact ⟨HALL.out, _, rfl, HN1.out, HN2.out⟩
    · skip
      go_simp
      refine hK.out _ _ ?_ (fun hHeld => ?_)
      · (try dsimp only); exact ⟨Ext.cell_ (w := wD) (by repeat (first | exact Ext.refl _ | (refine Ext.drew_ ?_) | (refine Ext.drewN_ ?_ _) | (refine Ext.alloc_ ?_ _))) j1, Ext.cell_ (w := wD) (by repeat (first | exact Ext.refl _ | (refine Ext.drew_ ?_) | (refine Ext.drewN_ ?_ _) | (refine Ext.alloc_ ?_ _))) j3, Ext.cell_ (w := wD) (by repeat (first | exact Ext.refl _ | (refine Ext.drew_ ?_) | (refine Ext.drewN_ ?_ _) | (refine Ext.alloc_ ?_ _))) hBX⟩
      clear hK K
      try simp only [tkS]
      refine wpAnyH_ready (rs := [10]) (by kernel_rfl) (by simp) ?_
      refine AllReadyH.cons (o := ⟨some 35, _, _, _, _, _⟩) rfl (fun K hK => ?_) AllReadyH.nil
      go_simp
      skip
      refine hK.out _ _ ?_ (fun hHeld => ?_)
      · (try dsimp only); exact ⟨Ext.cell_ (w := wD) (by repeat (first | exact Ext.refl _ | (refine Ext.drew_ ?_) | (refine Ext.drewN_ ?_ _) | (refine Ext.alloc_ ?_ _))) j1, Ext.cell_ (w := wD) (by repeat (first | exact Ext.refl _ | (refine Ext.drew_ ?_) | (refine Ext.drewN_ ?_ _) | (refine Ext.alloc_ ?_ _))) j3, Ext.cell_ (w := wD) (by repeat (first | exact Ext.refl _ | (refine Ext.drew_ ?_) | (refine Ext.drewN_ ?_ _) | (refine Ext.alloc_ ?_ _))) hBX⟩
      clear hK K
      try simp only [tkS]
      refine wpAnyH_ready (rs := [18]) (by kernel_rfl) (by simp) ?_
      refine AllReadyH.cons (o := ⟨some 43, _, _, _, _, _⟩) rfl (fun K hK => ?_) AllReadyH.nil
      have hHD := HHD.out.ext (Ext.alloc_ (Ext.drew_ (Ext.refl wD)) (.cells #[.int .u64 u, .int .i64 nx] 140))
      refine step_append_src (by rfl) _ _ 80 (by rfl) B 140 i0 (.agg #[.int .u64 0, .int .i64 0]) 2 16 undM hi0 hz0 hz1 hz2 (by rfl) (by decide) (.slice S.I.1 M.ids.length S.I.2) M.ids.length (icells M.ids) (by rfl) (hHD.mem.fld ⟨9, 140, 2, S.I.1, M.ids.length, S.I.2, icells M.ids⟩ (by simp [memFlds])).2.1 (some ⟨wD.heap.size, 0, none⟩) 1 1 [.int .u64 u, .int .i64 nx] (by rfl) (fun e => by cases e) (Nat.le_refl _) (by rfl) (rslH wD.drew _ _) (by intro q hq; simp at hq; rcases hq with rfl | rfl <;> rfl) (by unfold maxLen; omega) (by omega) hHD.hbs ?_
      intro a2 c2 v2 hown hgrow hat
      obtain ⟨z1, z2, z3, y9, yf⟩ := hHD.pushId (u, nx) a2 c2 hgrow hown hat
      have HZ1 := Lib.hid z1
      have HZ2 : Hid (HStep hb b w S _ _) := (HSD.out.trans_ (HStep.of_ext (Ext.alloc_ (Ext.drew_ (Ext.refl wD)) (.cells #[.int .u64 u, .int .i64 nx] 140)))).trans_ z2
      have y0 := z3.cell (p := ⟨hb, 0, none⟩) hHD.ne hHD.ptr
      have y2 := z3.cell (p := ⟨hb, 2, none⟩) hHD.ne hHD.nxt
      have hnb : ¬ HL hb b S w.heap.size := fun e => by have := (HH.out.own e).2; omega
      have hbx2 : World.cell? _ ⟨w.heap.size, 0, none⟩ = some (.int .u64 u) := Ext.cell_ (w := wD) (w' := _) (Ext.alloc_ (Ext.drew_ (Ext.refl wD)) (.cells #[.int .u64 u, .int .i64 nx] 140)) hBX
      have yb := z3.cell (p := ⟨w.heap.size, 0, none⟩) (fun e => hnb (Or.inr e)) hbx2
      have x0 := z1.ptr
      have x2 := z1.nxt
      have xb := z2.keep.cell (p := ⟨w.heap.size, 0, none⟩) hnb hbx2
      clear hown hgrow hat z1 z2 z3 hHD hbx2
      refine hK.out _ _ ?_ (fun hHeld => ?_)
      · (try dsimp only); exact ⟨y0, y2, yb⟩
      clear hK K
      try simp only [tkS]
      refine tk 19 ⟨some 44, _, _, _, _, _⟩ ?_ rfl ?_ ?_
      rotate_left
      · (intro w hSw; (try dsimp only at hSw); go_simp; try with_reducible rfl)
      try simp only [tkS]
      refine tk 20 ⟨some 45, _, _, _, _, _⟩ ?_ rfl ?_ ?_
      rotate_left
      · (intro w hSw; (try dsimp only at hSw); go_simp; try with_reducible rfl)
      try simp only [tkS]
      refine wpAnyH_ready (rs := [21]) (by kernel_rfl) (by simp) ?_
      refine AllReadyH.cons (o := ⟨none, _, _, _, _, _⟩) rfl (fun K hK => ?_) AllReadyH.nil
      go_simp
      skip
      refine hK.out _ _ ?_ (fun hHeld => ?_)
      · (try dsimp only); exact ⟨x0, x2, xb⟩
      clear hK K
      try simp only [tkS]
      refine wpAnyH_done (by kernel_rfl) ?_ _
      clear hHeld y0 y2 y9 yb yf xb hnb
      generalize v2.setCell ⟨b, 9, none⟩ (Value.slice a2 (M.ids.length + 1) c2) = wE at *
      have hfr := HZ1.out.frozen 2
      have f1 : IntKind.i64.wrap (nx + 1) = nx + 1 := IntWalk.i64_in _ (by omega)
      obtain ⟨n1, n2⟩ := HZ1.out.setNext (nx + 1)
      have m0 := n1.ptr
      have m9 := (n1.mem.fld ⟨9, 140, 2, a2, (M.ids ++ [(u, nx)]).length, c2, icells (M.ids ++ [(u, nx)])⟩ (by simp [memFlds])).1
      simp only [Fld.val, List.length_append, List.length_singleton] at m9
      have mR : RSl _ a2 (icells (M.ids ++ [(u, nx)])) := (row_rsl (n1.mem.fld ⟨9, 140, 2, a2, (M.ids ++ [(u, nx)]).length, c2, icells (M.ids ++ [(u, nx)])⟩ (by simp [memFlds])).2.1).1
      obtain ⟨p0, p1⟩ := icells_at (M.ids ++ [(u, nx)]) M.ids.length (by simp)
      obtain ⟨ib, io, hIa, k0⟩ := mR _ _ p0
      rw [hIa] at mR m9
      have k1 := mR.at_ p1
      rw [← Nat.add_assoc] at k1
      simp only [List.getElem_append_right (Nat.le_refl _), Nat.sub_self, List.getElem_singleton] at k1
      have HN1 := Lib.hid n1
      have HN2 := Lib.hid (HZ2.out.trans_ n2)
      have hlz : (M.ids.length : Int) < ((M.ids.length + 1 : Nat) : Int) := by omega
      clear n1 n2 mR p0 p1 k0 hIa
      generalize hwF : wE.setCell ⟨hb, 2, none⟩ (.int .i64 (nx + 1)) = wF at *
      go_wp2
      go_ret
      right
      exact ⟨HALL.out, _, rfl, HN1.out, HN2.out⟩
  · have d0 := HX1.out.cell_ hQ0.out
    have d9 := HX1.out.cell_ hC9.out
    obtain ⟨p0, p1⟩ := icells_at M.ids i hil
    have hRs := HM.out.rI.ext HX1.out
    obtain ⟨ib, io, hIa, c0⟩ := hRs _ _ p0
    rw [hIa] at hRs d9
    have c1 := hRs.at_ p1
    rw [← Nat.add_assoc] at c1
    have hltz : (i : Int) < (M.ids.length : Int) := by omega
    have hgd : M.ids.getD i (0, 0) = M.ids[i] := by rw [List.getD_eq_getElem?_getD, List.getElem?_eq_getElem hil]; rfl
    rw [← hgd] at c1
    have HIU := Lib.hid hiu
    generalize hv : M.ids.getD i (0, 0) = v at *
    have HV := Lib.hid hv
    clear q0 c9 hRs p0 p1 hgd c0 hIa hiu hv
    go_wp2
    go_ret
    left
    exact ⟨i, hil, by rw [HV.out]; exact HIU.out, by rw [HV.out]; rfl, HX1.out⟩
end
section
variable {B hb b : Nat} {M : Mem} {S : Sls} {E : Nat → Addr} {ten nx : Int}
/-- The number of a root's object: it has one, or is given the next. -/
def SerPost (w : World) (B hb b : Nat) (M : Mem) (S : Sls) (ten nx u : Int) (e : Ending) (w' : World) : Prop :=
  (∃ i : Nat, i < M.ids.length ∧ (M.ids.getD i (0, 0)).1 = u ∧ e = .returned (.tuple #[.int .i64 (M.ids.getD i (0, 0)).2, .nilIface]) ∧ Ext w w') ∨
  ((∀ x ∈ M.ids, x.1 ≠ u) ∧ ∃ S', e = .returned (.tuple #[.int .i64 nx, .nilIface]) ∧ OHeap w' B hb b { M with ids := M.ids ++ [(u, nx)] } S' ten (nx + 1) ∧ HStep hb b w S w' S')
set_option maxRecDepth 100000 in
set_option maxHeartbeats 4000000 in
theorem serial_walk (w : World) (hH : OHeap w B hb b M S ten nx) (hI : HInv M nx) (hE : G4 E w) (hn1 : nx ≤ 1000000000) (hl : M.ids.length ≤ 1000000) (r : Int) (hr0 : -9223372036854775808 ≤ r ∧ r ≤ 9223372036854775807) (hc : headC M r = 0) :
    Calls Tryz.prog 14 #[.pointer (some ⟨hb, 0, none⟩), .int .i64 r] w (SerPost w B hb b M S ten nx (M.roots.getD r.toNat 0)) := by
  have HH := Lib.hid hH
  have HI := Lib.hid hI
  have HE := Lib.hid hE
  have hnx := hI.nx1
  have hgM := (chk_zero hI.chk).1
  obtain ⟨rn, x, rfl, hrl, hpt, hk, hz, hx, hpl⟩ := headC_ok hgM hc
  have hR : rootB M (rn : Int) = true := rootB_true.2 (by omega)
  have HR := Lib.hid hR
  have hub : 0 ≤ M.roots.getD rn 0 ∧ M.roots.getD rn 0 ≤ 18446744073709551615 := getD_in (P := fun x => 0 ≤ x ∧ x ≤ 18446744073709551615) hI.ok.roots hrl
  obtain ⟨rb, ro, hRa, hcell⟩ := (hH.mem.mem hI.ok).rR rn _ (wcells_at M.roots rn hrl)
  have c7 := (hH.mem.mem hI.ok).roots
  simp only [Nat.zero_add] at c7
  rw [hRa] at c7
  have hltz : (rn : Int) < (M.roots.length : Int) := by omega
  have hC7 := Lib.hid c7
  have hQ0 := Lib.hid hH.ptr
  have hCE := Lib.hid hcell
  have HMM := Lib.hid (hH.mem.mem hI.ok)
  have HGM := Lib.hid hgM
  have HHY := Lib.hid (⟨hk, hz, hx, hpl⟩ : kindW (M.roots.getD rn 0) = 0 ∧ M.roots.getD rn 0 ≠ 0 ∧ x ∈ objsAll M ∧ placeW (M.roots.getD rn 0) = (x.a : Int))
  have HFB := Lib.hid (fieldsB_at (good_parts hgM).2.2.1 hrl)
  rw [Int.toNat_natCast]
  obtain ⟨u, hu⟩ : ∃ u, u = M.roots.getD rn 0 := ⟨_, rfl⟩
  rw [← hu] at HHY hCE hub HFB ⊢
  clear hH hI hE hR hc hk hz hx hpl hRa hcell c7 hpt hgM hu
  go_enter Tryz.func14, Tryz.ntmps14
  go_upto_region 3 with (go_at_call 40; refine (root1_any _ (HH.out.ext ((Ext.refl w).alloc_ _)) HI.out.ok w.heap.size (rn : Int) hr0.1 hr0.2 (by rw [World.cell?, heap_alloc_new]; rfl)).mono ?_; rintro e w1 ⟨he, hq⟩; rw [HR.out] at he; subst he; have HX1 : Hid (Ext w w1) := ((Ext.refl w).alloc_ _).trans_ hq; clear hq)
  have q1 := HX1.out.cell_ hQ0.out
  have q2 := HX1.out.cell_ hC7.out
  have q3 := HX1.out.cell_ hCE.out
  go_upto_region 6 with (go_at_call 47; refine (head_yes u hub.1 hub.2 _ (HMM.out.ext HX1.out) (HX1.out.cell_ hQ0.out) HGM.out HHY.out.1 HHY.out.2.1 x HHY.out.2.2.1 HHY.out.2.2.2).mono ?_; rintro e w3 ⟨he, hq⟩; (try unfold headV at he); subst he; have HX3 : Hid (Ext w w3) := HX1.out.trans_ hq; clear hq)
  refine named_world' (fun wD hwD => ?_)
  have HXD : Hid (Ext w wD) := by rw [hwD]; exact HX3.out.alloc_ _
  have j1 := HXD.out.cell_ hQ0.out
  have j2 := HXD.out.cell_ hC7.out
  have j3 := HXD.out.cell_ hCE.out
  clear hwD
  go_wp2_with (go_at_call 48; refine (identity_walk _ (HH.out.ext HXD.out) HI.out.ok ⟨by omega, hn1⟩ hl u).mono ?_; rintro e w4 hq; have HQ := Lib.hid hq; clear hq; rcases HQ.out with ⟨i, h1, h2, he, h4⟩ | ⟨h1, S2, rfl, h3, h4⟩; (generalize hv : (M.ids.getD i (0, 0)).2 = v at he; have HV := Lib.hid hv; have H1 := Lib.hid h1; have H2 := Lib.hid h2; have H4 := Lib.hid h4; clear hv h1 h2 h4; subst he))
  · go_wp2
    go_ret2
    left
    exact ⟨i, H1.out, H2.out, by rw [HV.out]; rfl, HXD.out.trans_ H4.out⟩
  · go_wp2
    go_ret2
    right
    exact ⟨h1, S2, rfl, h3, (HStep.of_ext HXD.out).trans_ h4⟩
end
section
variable {M : Mem} {ten nx : Int}
theorem addr_fld {N : Mem} {lN lO : List Nat} (hg : Good N lN lO) {a : Nat} (ha : a ∈ lN ++ lO) : fldB (stL lN lO) (addrW (a : Int)) = true := by
  have hs := hg.shp
  obtain ⟨h1, h2, h3, h4, h5, h6, h7, h8, h9, h10, h11, h12, h13, h14⟩ := hs
  have hin := hg.inW ha
  unfold fldB
  have hk : kindW (addrW (a : Int)) = 0 := (addrW_wd _).2.2
  rw [if_pos hk, placeW_addrW _ (by omega), Bool.or_eq_true]
  exact Or.inr (stL_mem.2 ha)
theorem make_inv (ht : 0 ≤ ten ∧ ten ≤ 15) (h : HInv M nx) (kind : Int) (sz : Nat) (hk : 0 ≤ kind ∧ kind ≤ 255) (hz : sz ≤ 4096) (hc : objC M ten sz = 0) (r : Nat) :
    HInv (rootM (objM M ten kind sz) r (addrW (objPl M ten sz))) nx ∧ SameH M (rootM (objM M ten kind sz) r (addrW (objPl M ten sz))) := by
  obtain ⟨i1, i2, i3⟩ := objM_inv ht h kind sz hk hz
  obtain ⟨a, ha, hN⟩ := i3 hc
  obtain ⟨lN, lO, hg, hm⟩ := hN.good
  rw [ha]
  obtain ⟨k1, k2⟩ := rootM_inv i1 hg r (addrW (a : Int)) ⟨(addrW_wd _).1, (addrW_wd _).2.1⟩ (addr_fld hg hm)
  exact ⟨k1, i2.trans k2⟩
theorem root_in (h : HInv M nx) {s : Nat} (hs : s < M.roots.length) : 0 ≤ M.roots.getD s 0 ∧ M.roots.getD s 0 ≤ 18446744073709551615 := getD_in (P := fun x => 0 ≤ x ∧ x ≤ 18446744073709551615) h.ok.roots hs
theorem copyR_inv (h : HInv M nx) (r s : Nat) (hs : s < M.roots.length) : HInv (rootM M r (M.roots.getD s 0)) nx ∧ SameH M (rootM M r (M.roots.getD s 0)) := by
  obtain ⟨lN, lO, hg⟩ := good_of h.chk
  exact rootM_inv h hg r _ (root_in h hs) (getD_in hg.roots hs)
theorem none_inv (h : HInv M nx) (r : Nat) : HInv (rootM M r 2) nx ∧ SameH M (rootM M r 2) := by
  obtain ⟨lN, lO, hg⟩ := good_of h.chk
  exact rootM_inv h hg r 2 (by omega) (by rfl)
theorem put_inv (h : HInv M nx) {r f s : Int} (hc : fieldC M r f s = 0) : HInv (storeM M (fieldP M r f) (M.roots.getD s.toNat 0)) nx ∧ SameH M (storeM M (fieldP M r f) (M.roots.getD s.toNat 0)) := by
  have hgM := (chk_zero h.chk).1
  obtain ⟨rn, sn, fn, x, h1, h2, h3, hrl, hsl, hx, hpl, hraw, hfn, hP⟩ := fieldC_ok hgM hc
  have hsn : s.toNat = sn := by omega
  rw [hP, hsn]
  have hv := root_in h hsl
  have hk := store_chk h.ok h.chk hx fn hfn _ (fieldsB_at (good_parts hgM).2.2.1 hsl)
  obtain ⟨e1, e2, e3, e4, e5, e6, e7, e8, e9⟩ := storeM_same M (x.a + 1 + fn) (M.roots.getD sn 0)
  exact ⟨⟨storeM_ok h.ok _ _ hv.1 hv.2, hk, h.nx1, by rw [e9]; exact h.ids⟩, ⟨e1, e2, e3, by rw [e7], by rw [e8], by rw [e9]; exact Nat.le_refl _⟩⟩
theorem weak_inv (h : HInv M nx) {s : Nat} (hs : s < M.roots.length) (hl : M.weak.length ≤ 1000000) : HInv { M with weak := M.weak ++ [M.roots.getD s 0] } nx := by
  obtain ⟨lN, lO, hg⟩ := good_of h.chk
  exact weakM_inv h hg _ (root_in h hs) (getD_in hg.roots hs) hl
end
def strL (s : ByteArray) : List Int := bytesW (bnums s)
theorem strL_len (s : ByteArray) : (strL s).length = (s.size + 7) / 8 := by unfold strL bytesW; rw [List.length_map, List.length_range, bnums_len]
def strN (s : ByteArray) : Nat := 1 + (s.size + 7) / 8
/-- Behind a text's object: its length, its words. -/
def strW (W : List Int) (a : Nat) (s : ByteArray) : List Int := splice (W.set (a + 1) (s.size : Int)) (a + 1 + 1) (strL s)
def strM (N : Mem) (a : Nat) (s : ByteArray) : Mem := { N with W := strW N.W a s }
def textM (M : Mem) (ten : Int) (s : ByteArray) : Mem := if objC M ten (strN s) = 0 then strM (objM M ten 2 (strN s)) (objPl M ten (strN s)).toNat s else objM M ten 2 (strN s)
def textV (M : Mem) (ten : Int) (s : ByteArray) : Int := if objC M ten (strN s) = 0 then addrW (objPl M ten (strN s)) else 0
section
variable {B hb b : Nat} {M : Mem} {S : Sls} {E : Nat → Addr} {ten nx : Int}
theorem rsl_keep {L : Nat → Prop} {w w' : World} {g : Nat} {cs : List Value} (h : RSl w (some ⟨g, 0, none⟩) cs) (hk : Keep L w w') (hn : ¬ L g) : RSl w' (some ⟨g, 0, none⟩) cs := fun j u hu => by
  have := h.at_ hu
  exact ⟨g, 0, rfl, hk.cell (p := ⟨g, 0 + j, none⟩) hn this⟩
/-- A copy into the words of a heap: maybe of nothing. -/
theorem copy_words {w : World} {l : List Int} (h : OHeap w B hb b M S ten nx) {g : Nat} (hg : S.W.1 = some ⟨g, 0, none⟩) (A : Option Addr) (C d : Nat) (hd : d + l.length ≤ M.W.length) (hA : d < S.W.2 → A = some ⟨g, d, none⟩) (lb : Nat) (c2 : Nat) (hR : RSl w (some ⟨lb, 0, none⟩) (wcells l)) :
    ∃ w', (Builtin.copy_ #[76, 76] 3 #[.slice A (M.W.length - d) C, .slice (some ⟨lb, 0, none⟩) l.length c2]).run Tryz.prog w = .ok (goInt l.length) w' ∧ OHeap w' B hb b { M with W := splice M.W d l } S ten nx ∧ HStep hb b w S w' S := by
  by_cases hl : l.length = 0
  · have e : l = [] := List.eq_nil_of_length_eq_zero hl
    subst e
    refine ⟨w, ?_, ?_, HStep.of_ext (Ext.refl _)⟩
    · have := run_copy_none (P := Tryz.prog) w 76 76 3 78 A (some ⟨lb, 0, none⟩) (M.W.length - d) C 0 c2 undU64 sizeF0 (by simp)
      exact this
    · have : splice M.W d [] = M.W := by simp [splice]
      rw [this]; exact h
  · obtain ⟨g', hg', -, -, -, hgc, -⟩ := own_block (OMem.fW h.mem) (by omega)
    have hll : (wcells l).length = l.length := by simp [wcells]
    have hwl : (wcells M.W).length = M.W.length := by simp [wcells]
    obtain ⟨w', hr, hb', ho⟩ := copy_over (P := Tryz.prog) (W := w) 76 3 78 undU64 sizeF0 (B := B) (a := S.W.1) (c := S.W.2) (xs := wcells M.W) (by rw [hwl]; exact OMem.fW h.mem) hg A (some ⟨lb, 0, none⟩) C c2 d (M.W.length - d) (wcells l) (hA (by omega)) ⟨lb, 0, none⟩ rfl
      (fun k u hu => by
        have := hR.at_ hu
        by_cases e : k = 0
        · subst e; simpa [Addr.add] using this
        · simpa [Addr.add, e] using this) (wcells_one l) (by omega) (by omega) (by omega)
    rw [hll] at hr
    rw [hwl] at ho
    have hs : (splice M.W d l).length = M.W.length := length_splice _ _ _ hd
    have hO : OMem w' B b 140 { M with W := splice M.W d l } S := OMem.rowW h.mem hg hb' _ hs (by rw [wcells_splice]; exact ho)
    obtain ⟨z1, z2⟩ := h.step hO (⟨hb'.os, hb'.tape, hb'.output, Nat.le_of_eq hb'.size.symm, fun k hk hn => hb'.block k (fun e => hn (Or.inr (Or.inl (by rw [e]; exact hg))))⟩) (fun _ q => Or.inl q)
    exact ⟨w', hr, z1, z2⟩
set_option maxRecDepth 100000 in
set_option maxHeartbeats 4000000 in
theorem string_walk (w : World) (hH : OHeap w B hb b M S ten nx) (hI : HInv M nx) (hE : G4 E w) (ht : 0 ≤ ten ∧ ten ≤ 15) (hB : GB B) (s : ByteArray) (hs : s.size ≤ 2000) :
    Calls Tryz.prog 123 #[.pointer (some ⟨hb, 0, none⟩), .string s] w (HPost w B hb b S ten (textM M ten s) nx (.tuple #[.int .u64 (textV M ten s), errC E (objC M ten (strN s))])) := by
  have HH := Lib.hid hH
  have HI := Lib.hid hI
  have HE := Lib.hid hE
  have HB := Lib.hid hB
  obtain ⟨i1, i2, i3⟩ := objM_inv (sz := strN s) ht hI 2 (by omega) (by unfold strN; omega)
  have I1 := Lib.hid i1
  have I3 := Lib.hid i3
  have hsl := strL_len s
  obtain ⟨m, hm⟩ : ∃ m, m = (s.size + 7) / 8 := ⟨_, rfl⟩
  have hnN : strN s = 1 + m := by unfold strN; rw [hm]
  have hm250 : m ≤ 250 := by omega
  have f0 : IntKind.i64.wrap (1 + (m : Int)) = ((1 + m : Nat) : Int) := by rw [IntWalk.i64_in _ (by omega)]; omega
  have fz : IntKind.u64.wrap (s.size : Int) = (s.size : Int) := IntWalk.u64_in _ (by omega)
  rw [← hm] at hsl
  have HM := Lib.hid hm
  have hlb : ∀ k, HL hb b S k → k < w.heap.size := fun k hk => (hH.own hk).2
  have HLB := Lib.hid hlb
  have HN := Lib.hid hnN
  have HSL := Lib.hid hsl
  clear hH hI hE hB i1 i2 i3 hlb hsl
  have HBY := Lib.hid (bytes_walk s (by omega) w)
  rw [← hm] at HBY
  by_cases hc : objC M ten (strN s) = 0
  · obtain ⟨a, ha, hN⟩ := I3.out hc
    have e1 : textM M ten s = strM (objM M ten 2 (strN s)) a s := by unfold textM; rw [if_pos hc, ha]; rfl
    have e2 : textV M ten s = addrW (a : Int) := by unfold textV; rw [if_pos hc, ha]
    have e3 : errC E (objC M ten (strN s)) = .nilIface := by rw [hc]; rfl
    rw [e1, e2, e3]
    have HC0 := Lib.hid e3
    have HPL := Lib.hid ha
    have hlen := hN.len
    have hla := len_small (good_parts (chk_zero I1.out.chk).1).1
    obtain ⟨N, hN2⟩ : ∃ N, N = objM M ten 2 (strN s) := ⟨_, rfl⟩
    rw [← hN2] at hlen hla ⊢
    rw [hnN] at hlen
    have HN2 := Lib.hid hN2
    have f1 : IntKind.i64.wrap ((a : Int) + 1) = ((a + 1 : Nat) : Int) := by rw [IntWalk.i64_in _ (by omega)]; omega
    have f2 : IntKind.i64.wrap ((a : Int) + 2) = (a : Int) + 2 := IntWalk.i64_in _ (by omega)
    clear e1 e2 e3 hc ha hN hN2 hm
    go_enter Tryz.func123, Tryz.ntmps123
    go_upto_region 5 with (first
      | (go_at_call 153; refine HBY.out.mono ?_; rintro e w1 ⟨rfl, hrow, hq⟩; have HX1 := Lib.hid hq; have HRW : Hid (RSl w1 (some ⟨w.heap.size, 0, none⟩) (wcells (strL s))) := (row_rsl hrow).1; have HWZ : Hid (w.heap.size < w1.heap.size) := (hrow.lt w.heap.size rfl).2; clear hrow hq)
      | (go_at_call 41; refine (object_walk 2 (1 + m) _ (HH.out.ext HX1.out) HI.out (HE.out.ext HX1.out) ht HB.out (by omega) (by omega)).mono ?_; rintro e w2 ⟨he, S2, h1, h2⟩; rw [← HN.out, HC0.out, HPL.out] at he; subst he; rw [← HN.out, ← HN2.out] at h1; have HH2 := Lib.hid h1; have H2S := Lib.hid h2; have HS2 : Hid (HStep hb b w S w2 S2) := (HStep.of_ext HX1.out).trans_ h2; have HR2 : Hid (RSl w2 (some ⟨w.heap.size, 0, none⟩) (wcells (strL s))) := rsl_keep HRW.out h2.keep (fun e => absurd (HLB.out _ e) (by omega)); have HBZ : Hid (w.heap.size < w2.heap.size) := Nat.lt_of_lt_of_le HWZ.out h2.keep.size; clear h1 h2))
    have q0 := HH2.out.ptr
    obtain ⟨g, hg, -, -, hgf, hgc, -⟩ := own_block (OMem.fW HH2.out.mem) (by omega)
    have hfg := hgf (a + 1)
    have c3 := (HH2.out.mem.fld ⟨3, 78, 1, S2.W.1, N.W.length, S2.W.2, wcells N.W⟩ (by simp [memFlds])).1
    have hcell := ((row_rsl (OMem.fW HH2.out.mem)).1)
    rw [hg] at hcell
    replace hcell := hcell.at_ (wcells_at N.W (a + 1) (by omega))
    simp only [Nat.zero_add] at hcell
    simp only [Fld.val, hg] at c3
    have hjl : a + 1 < N.W.length := by omega
    obtain ⟨z1, z2⟩ := HH2.out.setW hg (a + 1) hjl (s.size : Int)
    generalize N.W.getD (a + 1) 0 = xx at *
    have HG := Lib.hid hg
    obtain ⟨A, C, hsl2, hA⟩ := run_tail (P := Tryz.prog) undU64 sizeU64 g N.W.length S2.W.2 (a + 1 + 1) ((a : Int) + 2) (by omega) (by omega) hgc
    have hsl3 : N.W.length = (N.W.set (a + 1) (s.size : Int)).length := by simp
    have hR2 : RSl (w2.setCell ⟨g, a + 1, none⟩ (.int .u64 (s.size : Int))) (some ⟨w.heap.size, 0, none⟩) (wcells (strL s)) := rsl_keep HR2.out z2.keep (fun e => by
      rcases H2S.out.own _ e with q | q
      · have := HLB.out _ q; omega
      · have := HWZ.out; omega)
    obtain ⟨w5, hrun, y1, y2⟩ := copy_words z1 (l := strL s) hg A C (a + 1 + 1) (by rw [← hsl3, HSL.out]; omega) hA w.heap.size m hR2
    rw [← hsl3, HSL.out] at hrun
    have HY1 := Lib.hid y1
    have HY2 := Lib.hid ((HS2.out.trans_ z2).trans_ y2)
    have z0 := z1.ptr
    have z3 := (z1.mem.fld ⟨3, 78, 1, S2.W.1, (N.W.set (a + 1) (s.size : Int)).length, S2.W.2, wcells (N.W.set (a + 1) (s.size : Int))⟩ (by simp [memFlds])).1
    simp only [Fld.val, HG.out] at z3
    rw [← hsl3] at z3
    clear z1 z2 y1 y2 hgf hg hR2 hA hsl3
    go_wp2_with (go_at_call 43; refine (addr_any _ _).mono ?_; rintro e w9 ⟨rfl, hw9⟩; have hw9 := hw9.symm; subst hw9)
    go_ret2
    exact ⟨rfl, S2, HY1.out, HY2.out⟩
  · have e1 : textM M ten s = objM M ten 2 (strN s) := by unfold textM; rw [if_neg hc]
    have e2 : textV M ten s = 0 := by unfold textV; rw [if_neg hc]
    obtain ⟨ea, hv⟩ : ∃ ea, Hid (errC E (objC M ten (strN s)) = errV ea) := ⟨_, errC_pos E _ hc⟩
    rw [e1, e2, hv.out]
    clear e1 e2 hc hm
    go_enter Tryz.func123, Tryz.ntmps123
    go_wp2_with (first
      | (go_at_call 153; refine HBY.out.mono ?_; rintro e w1 ⟨rfl, hrow, hq⟩; have HX1 := Lib.hid hq; have HRW : Hid (RSl w1 (some ⟨w.heap.size, 0, none⟩) (wcells (strL s))) := (row_rsl hrow).1; have HWZ : Hid (w.heap.size < w1.heap.size) := (hrow.lt w.heap.size rfl).2; clear hrow hq)
      | (go_at_call 41; refine (object_walk 2 (1 + m) _ (HH.out.ext HX1.out) HI.out (HE.out.ext HX1.out) ht HB.out (by omega) (by omega)).mono ?_; rintro e w2 ⟨he, S2, h1, h2⟩; rw [← HN.out, hv.out] at he; subst he; rw [← HN.out] at h1; have HH2 := Lib.hid h1; have H2S := Lib.hid h2; have HS2 : Hid (HStep hb b w S w2 S2) := (HStep.of_ext HX1.out).trans_ h2; have HR2 : Hid (RSl w2 (some ⟨w.heap.size, 0, none⟩) (wcells (strL s))) := rsl_keep HRW.out h2.keep (fun e => absurd (HLB.out _ e) (by omega)); have HBZ : Hid (w.heap.size < w2.heap.size) := Nat.lt_of_lt_of_le HWZ.out h2.keep.size; clear h1 h2))
    go_ret2
    exact ⟨rfl, S2, HH2.out, HS2.out⟩
end
section
variable {B hb b : Nat} {M : Mem} {S : Sls} {E : Nat → Addr} {ten nx : Int}
theorem strL_u64 (s : ByteArray) : ∀ x ∈ strL s, 0 ≤ x ∧ x ≤ 18446744073709551615 := fun x hx => by
  obtain ⟨i, -, rfl⟩ := List.mem_map.1 hx
  exact byteW_bound _ (bnums_bound s) i
theorem strW_at (W : List Int) (a : Nat) (s : ByteArray) (h : a + 1 + strN s ≤ W.length) : (strW W a s).length = W.length ∧ ∀ i, ¬ (a + 1 ≤ i ∧ i < a + 1 + strN s) → wat (strW W a s) i = wat W i := by
  have hl := strL_len s
  have hn : strN s = 1 + (s.size + 7) / 8 := rfl
  refine ⟨?_, fun i hi => ?_⟩
  · unfold strW
    rw [length_splice _ _ _ (by simp; omega)]; simp
  · unfold strW
    rw [wat_splice _ _ _ _ (by simp; omega), if_neg (by omega), wat_set _ _ _ _ (by omega)]
theorem textM_inv (ht : 0 ≤ ten ∧ ten ≤ 15) (h : HInv M nx) (s : ByteArray) (hs : s.size ≤ 2000) : HInv (textM M ten s) nx ∧ SameH M (textM M ten s) ∧ (objC M ten (strN s) = 0 → ∃ lN lO, Good (textM M ten s) lN lO ∧ fldB (stL lN lO) (textV M ten s) = true) := by
  have hn : strN s = 1 + (s.size + 7) / 8 := rfl
  obtain ⟨i1, i2, i3⟩ := objM_inv ht h 2 (strN s) (by omega) (by omega)
  by_cases hc : objC M ten (strN s) = 0
  · obtain ⟨a, ha, hN⟩ := i3 hc
    obtain ⟨lN, lO, hg, hm⟩ := hN.good
    have e1 : textM M ten s = { objM M ten 2 (strN s) with W := strW (objM M ten 2 (strN s)).W a s } := by unfold textM; rw [if_pos hc, ha]; rfl
    have e2 : textV M ten s = addrW (a : Int) := by unfold textV; rw [if_pos hc, ha]
    have hlen := hN.len
    obtain ⟨s1, s2⟩ := strW_at (objM M ten 2 (strN s)).W a s hlen
    obtain ⟨d1, d2, d3, d4, d5⟩ := headW_hd 2 0 0 (strN s : Int) (by omega) (by omega) (by omega) ⟨by omega, by omega⟩
    have hr : rawB (hKind (wat (objM M ten 2 (strN s)).W a)) = true := by rw [hN.hd, d2]; rfl
    have hsz : szW (objM M ten 2 (strN s)).W a = strN s := by unfold szW; rw [hN.hd, d5]; omega
    obtain ⟨k1, k2, k3⟩ := rawM_inv i1 hg hm hr (strW (objM M ten 2 (strN s)).W a s) s1 (fun i hi => s2 i (by rw [hsz] at hi; exact hi)) (fun x hx => by
      unfold strW at hx
      rcases splice_memI hx with q | q
      · rcases List.mem_or_eq_of_mem_set q with q | q
        · exact i1.ok.W x q
        · rw [q]; omega
      · exact strL_u64 s x q)
    rw [e1, e2]
    exact ⟨k1, i2.trans k2, fun _ => ⟨lN, lO, k3, addr_fld hg hm⟩⟩
  · have e1 : textM M ten s = objM M ten 2 (strN s) := by unfold textM; rw [if_neg hc]
    rw [e1]
    exact ⟨i1, i2, fun q => absurd q hc⟩
set_option maxRecDepth 100000 in
set_option maxHeartbeats 4000000 in
theorem text_place (w : World) (hH : OHeap w B hb b M S ten nx) (hI : HInv M nx) (hE : G4 E w) (r : Int) (hr0 : -9223372036854775808 ≤ r ∧ r ≤ 9223372036854775807) (s : ByteArray) (hR : rootB M r = false) :
    Calls Tryz.prog 68 #[.pointer (some ⟨hb, 0, none⟩), .int .i64 r, .string s] w (HPost w B hb b S ten M nx (errC E 5)) := by
  have HH := Lib.hid hH
  have HI := Lib.hid hI
  have HE := Lib.hid hE
  have HR := Lib.hid hR
  clear hH hI hE hR
  go_enter Tryz.func68, Tryz.ntmps68
  go_wp2_with (go_at_call 40; refine (root1_any _ (HH.out.ext ((Ext.refl w).alloc_ _)) HI.out.ok w.heap.size r hr0.1 hr0.2 (by rw [World.cell?, heap_alloc_new]; rfl)).mono ?_; rintro e w1 ⟨he, hq⟩; rw [HR.out] at he; subst he; have HX1 : Hid (Ext w w1) := ((Ext.refl w).alloc_ _).trans_ hq; clear hq; have k3 := (HE.out.ext HX1.out).place)
  go_ret
  exact ⟨rfl, S, HH.out.ext HX1.out, HStep.of_ext HX1.out⟩
set_option maxRecDepth 100000 in
set_option maxHeartbeats 4000000 in
theorem text_bound (w : World) (hH : OHeap w B hb b M S ten nx) (hI : HInv M nx) (hE : G4 E w) (r : Int) (hr0 : -9223372036854775808 ≤ r ∧ r ≤ 9223372036854775807) (s : ByteArray) (hR : rootB M r = true) (hs : ¬ s.size ≤ 2000) :
    Calls Tryz.prog 68 #[.pointer (some ⟨hb, 0, none⟩), .int .i64 r, .string s] w (HPost w B hb b S ten M nx (errC E 2)) := by
  have HH := Lib.hid hH
  have HI := Lib.hid hI
  have HE := Lib.hid hE
  have HR := Lib.hid hR
  have hs1 : 2000 < s.size := by omega
  have hs2 : (2000 : Int) < (s.size : Int) := by omega
  clear hH hI hE hR hs
  go_enter Tryz.func68, Tryz.ntmps68
  go_wp2_with (go_at_call 40; refine (root1_any _ (HH.out.ext ((Ext.refl w).alloc_ _)) HI.out.ok w.heap.size r hr0.1 hr0.2 (by rw [World.cell?, heap_alloc_new]; rfl)).mono ?_; rintro e w1 ⟨he, hq⟩; rw [HR.out] at he; subst he; have HX1 : Hid (Ext w w1) := ((Ext.refl w).alloc_ _).trans_ hq; clear hq; have k3 := (HE.out.ext HX1.out).bound)
  go_ret
  exact ⟨rfl, S, HH.out.ext HX1.out, HStep.of_ext HX1.out⟩
set_option maxRecDepth 100000 in
set_option maxHeartbeats 4000000 in
theorem text_walk (w : World) (hH : OHeap w B hb b M S ten nx) (hI : HInv M nx) (hE : G4 E w) (ht : 0 ≤ ten ∧ ten ≤ 15) (hB : GB B) (r : Int) (hr0 : -9223372036854775808 ≤ r ∧ r ≤ 9223372036854775807) (s : ByteArray) (hR : rootB M r = true) (hs : s.size ≤ 2000) :
    Calls Tryz.prog 68 #[.pointer (some ⟨hb, 0, none⟩), .int .i64 r, .string s] w (HPost w B hb b S ten (putR (textM M ten s) (objC M ten (strN s)) r.toNat (textV M ten s)) nx (errC E (objC M ten (strN s)))) := by
  have HH := Lib.hid hH
  have HI := Lib.hid hI
  have HE := Lib.hid hE
  have HR := Lib.hid hR
  have HB := Lib.hid hB
  obtain ⟨rn, rfl⟩ : ∃ rn : Nat, r = (rn : Int) := ⟨r.toNat, by have := (rootB_true.1 hR).1; omega⟩
  have hrl : rn < M.roots.length := by have := (rootB_true.1 hR).2; omega
  have hIN := textM_inv ht hI s hs
  have HIN := Lib.hid hIN.1
  have hrl2 : rn < (textM M ten s).roots.length := by rw [hIN.2.1.roots]; exact hrl
  simp only [Int.toNat_natCast]
  have HRL := Lib.hid hrl2
  generalize hV : textV M ten s = V
  have HV := Lib.hid hV
  have HSZ := Lib.hid hs
  have hs1 : ¬ 2000 < s.size := by omega
  have hs2 : ¬ (2000 : Int) < (s.size : Int) := by omega
  clear hH hI hE hR hB hIN hrl2 hV hs
  go_enter Tryz.func68, Tryz.ntmps68
  go_wp2_with (first
    | (go_at_call 40; refine (root1_any _ (HH.out.ext ((Ext.refl w).alloc_ _)) HI.out.ok w.heap.size (rn : Int) hr0.1 hr0.2 (by rw [World.cell?, heap_alloc_new]; rfl)).mono ?_; rintro e w1 ⟨he, hq⟩; rw [HR.out] at he; subst he; have HX1 : Hid (Ext w w1) := ((Ext.refl w).alloc_ _).trans_ hq; clear hq)
    | (go_at_call 123; refine (string_walk _ (HH.out.ext HX1.out) HI.out (HE.out.ext HX1.out) ht HB.out s HSZ.out).mono ?_; rintro e w2 ⟨he, S2, h1, h2⟩; rw [HV.out] at he; subst he; have HH2 := Lib.hid h1; have HS2 : Hid (HStep hb b w S w2 S2) := (HStep.of_ext HX1.out).trans_ h2; clear h1 h2)
    | (go_at_call 42; refine (set_any (E := E) w2 HH2.out HIN.out.ok (objC M ten (strN s)) rn HRL.out V).mono ?_; rintro e w3 ⟨rfl, S3, h3, h4⟩; have HH3 := Lib.hid h3; have HS3 : Hid (HStep hb b w S w3 S3) := HS2.out.trans_ h4; clear h3 h4))
  go_ret
  exact ⟨rfl, S3, HH3.out, HS3.out⟩
end
end Go.Proofs.YtelhoppfidibiaaGreatDoor
