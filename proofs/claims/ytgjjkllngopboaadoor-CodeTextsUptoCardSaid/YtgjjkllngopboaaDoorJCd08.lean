/- The document's faults: Bare, Fine. -/
import Derived.Test.YtgjjkllngopboaaDoorJCa03
import Derived.Laws.Rows
import Derived.Test.YtgjjkllngopboaaDoorJCd07
import Derived.Test.YtgjjkllngopboaaDoorJCa22
namespace Go.Proofs.YtgjjkllngopboaaDoor
open Go.RowKit
set_option linter.unusedVariables false
set_option linter.unusedSimpArgs false

theorem bare_any (c : Int) (w : World) : Calls Tryd.prog 32 #[.int .i64 c] w fun e w' => e = .returned (.agg #[.int .i64 c, .int .i64 (-1)]) ∧ Ext w w' := by
  go_enter Tryd.func32, Tryd.ntmps32
  go_wp2
  (try simp only [Exit.inBlock, Exit.then])
  refine bodyPost_ret (results_cell_row rfl _ _ w.heap.size _ _ _ _ rfl (heap_alloc_new _ _) (Tryd.underlying42) rfl (by kernel_rfl)) rfl ?_
  exact ⟨rfl, by repeat (first | exact Ext.refl _ | (refine Ext.drew_ ?_) | (refine Ext.alloc_ ?_ _))⟩
theorem fine_any (w : World) : Calls Tryd.prog 34 #[] w fun e w' => e = .returned (.agg #[.int .i64 0, .int .i64 (-1)]) ∧ Ext w w' := by
  go_enter Tryd.func34, Tryd.ntmps34
  go_wp2
  (try simp only [Exit.inBlock, Exit.then])
  refine bodyPost_ret (results_cell_row rfl _ _ w.heap.size _ _ _ _ rfl (heap_alloc_new _ _) (Tryd.underlying42) rfl (by kernel_rfl)) rfl ?_
  exact ⟨rfl, by repeat (first | exact Ext.refl _ | (refine Ext.drew_ ?_) | (refine Ext.alloc_ ?_ _))⟩
set_option maxRecDepth 100000 in
set_option maxHeartbeats 4000000 in
theorem countOf_any (c : CodeP) (V : CodeV) (w : World) (hR : RCode w c V) :
    Calls Tryd.prog 12 #[codeV c V] w fun e w' => e = .returned (.int .i64 (countP c : Int)) ∧ Ext w w' := by
  have hcn := hR.count
  have HR := Lib.hid hR
  clear hR
  unfold codeV
  go_enter Tryd.func12, Tryd.ntmps12
  go_upto_region 3 with fail
  obtain ⟨B, hB⟩ : ∃ B, B = w.heap.size := ⟨_, rfl⟩
  refine namedW (fun W3 hW3 => ?_)
  have f0 : W3.cell? ⟨B, 0, none⟩ = some (.slice V.F.1 c.funcs.length V.F.2) := by rw [hW3, hB, World.cell?_alloc_new]; rfl
  have hX3 : Ext w W3 := by rw [hW3]; exact (Ext.refl _).alloc_ _
  rw [← hB]
  have HX3 := Lib.hid hX3
  have HF0 := Lib.hid f0
  have hBz := cell_lt f0
  simp only at hBz
  clear hW3 hX3 hB f0
  obtain ⟨fa, hfa⟩ : ∃ fa, V.F.1 = fa := ⟨_, rfl⟩
  have r0 := HR.out.F
  rw [hfa] at HF0 r0
  have HFA := Lib.hid hfa
  have HR0 := Lib.hid r0
  clear hfa r0
  go_loopg [3, 4] (c.funcs.length) (fun r n i wr => ∃ k : Nat, k + r = c.funcs.length ∧ i = .int .i64 (k : Int) ∧ n = .int .i64 (countK c k : Int) ∧ Hid (Ext W3 wr))
  case atStart => exact ⟨0, by omega, rfl, rfl, Ext.refl _⟩
  case round =>
    obtain ⟨k, hk, rfl, rfl, hE⟩ := hrel
    have f1 := hE.out.cell_ HF0.out
    have hsz := hE.out.size
    cases gk with
    | succ r =>
      have hlt : k < c.funcs.length := by omega
      have hltz : (k : Int) < (c.funcs.length : Int) := by omega
      have hat := fnCells_at (withV c V) k (by rw [withV_len HR.out]; exact hlt)
      have hfs := withV_fst HR.out k hlt
      obtain ⟨fb, fo, hfe⟩ := HR0.out.some_ (by rw [fnCells_len, withV_len HR.out]; omega)
      subst hfe
      obtain ⟨oa, oc, c5⟩ : ∃ oa oc, wr.cell? ⟨fb, fo + k * 6 + 5, none⟩ = some (.slice oa c.funcs[k].ops.length oc) := by
        have c5 := (((HR0.out.ext HX3.out).ext hE.out)).at_ hat.2.2.2.2.2
        rw [hfs, ← Nat.add_assoc] at c5
        exact ⟨_, _, c5⟩
      have hsn := countK_snoc c k hlt
      have hle := countK_le c (k + 1)
      rw [hsn] at hle
      generalize c.funcs[k].ops.length = x at *
      generalize countK c k = s at *
      have HK := Lib.hid hk
      have HSN := Lib.hid hsn
      clear hk hsn hlt hat hfs
      go_wp2
      go_roundg r
      case measure => omega
      case rel =>
        refine ⟨k + 1, by have := HK.out; omega, by go_num, ?_, hE.out⟩
        rw [HSN.out]
        go_num
    | zero =>
      obtain rfl : k = c.funcs.length := by omega
      have hltz : ¬ ((c.funcs.length : Nat) : Int) < (c.funcs.length : Int) := by omega
      rw [countK_all]
      clear hk
      go_wp2
      go_ret
      exact ⟨rfl, HX3.out.trans_ hE.out⟩
theorem flt_blk {W : World} {P2 : Nat} (h : W.heap[P2]? = some (.cells #[.int .i64 0, .int .i64 0] 42 (0, 0))) (a b : Value) : ((W.setCell ⟨P2, 0, none⟩ a).setCell ⟨P2, 1, none⟩ b).heap[P2]? = some (.cells #[a, b] 42 (0, 0)) := by
  have h1 := heap_setCell_same W P2 0 _ _ a h
  have h2 := heap_setCell_same _ P2 1 _ _ b h1
  rw [h2]; rfl
theorem nums_no {first : Bool} {f : FnP} {n : Int} (hn : n ∈ four f) (h : numOK first n = false) : numsB first f = false := by
  rw [numsB_eq]
  have : (four f).all (numOK first) = false := by
    rw [List.all_eq_false]
    exact ⟨n, hn, by rw [h]; simp⟩
  rw [this]; rfl
set_option maxRecDepth 100000 in
set_option maxHeartbeats 40000000 in
theorem verOf_walk (c : CodeP) (V : CodeV) (w : World) (hR : RCode w c V) :
    Calls Tryd.prog 15 #[codeV c V] w fun e w' => e = .returned (.agg #[.int .i64 (verifyP 20000 funcB c).1, .int .i64 (verifyP 20000 funcB c).2]) ∧ Ext w w' := by
  obtain ⟨RES, hRES⟩ : ∃ RES, RES = verifyP 20000 funcB c := ⟨_, rfl⟩
  rw [← hRES]
  have HRES := Lib.hid hRES
  have hcn := hR.count
  have hco := fun W (hx : Ext w W) => countOf_any c V W (hR.ext hx)
  have hfo := fun (hw : wideP c = false) (h3 : numsAll true c.funcs = true) (i : Nat) (hi : i < c.funcs.length) W (hx : Ext w W) => funcOK_walk c V i hi W (hR.ext hx) (fn_ok hw h3 (List.getElem_mem hi)) (fun x hm => (numsAll_mem h3 x hm).2.2)
  obtain ⟨⟨fa, fcp⟩, ⟨ia, icp⟩, ⟨sa, scp⟩, ⟨na, ncp⟩, fs⟩ := V
  unfold codeV at hco hfo ⊢
  simp only at hco hfo ⊢
  have HCO := Lib.hid hco
  have HFO := Lib.hid hfo
  have HR := Lib.hid hR
  clear hRES hR hco hfo
  go_enter Tryd.func15, Tryd.ntmps15
  go_upto_region 1 with fail
  refine namedW (fun w1 hw1 => ?_)
  obtain ⟨P1, hP1⟩ : ∃ P1, P1 = w.heap.size := ⟨_, rfl⟩
  obtain ⟨P2, hP2⟩ : ∃ P2, P2 = w.heap.size + 1 := ⟨_, rfl⟩
  obtain ⟨b1, b2⟩ := two_blk w (.cells #[.slice fa c.funcs.length fcp, .slice ia c.ints.length icp, .slice sa c.strs.length scp, .slice na c.names.length ncp] 26) (.cells #[.int .i64 0, .int .i64 0] 42)
  rw [← hw1, ← hP1] at b1
  rw [← hw1, ← hP2] at b2
  have hX1 : Ext w w1 := by rw [hw1]; exact ((Ext.refl w).alloc_ _).alloc_ _
  have hP2w : w.heap.size ≤ P2 := by omega
  have p0 := cellRow b1 0 _ rfl
  have p1 := cellRow b1 1 _ rfl
  have p2 := cellRow b1 2 _ rfl
  have p3 := cellRow b1 3 _ rfl
  have lP1 := lt_of_block b1
  have lP2 := lt_of_block b2
  rw [← hP2, ← hP1]
  have HX1 := Lib.hid hX1
  have HB1 := Lib.hid b1
  have HB2 := Lib.hid b2
  clear hw1 hP1 hP2 hX1 b1 b2
  go_cut [35] from 9 to 35 (fun b wx => b = .bool (wideP c) ∧ Hid (Ext w1 wx))
  case first =>
    by_cases t0 : 20000 < countP c
    · have hw : wideP c = true := by simp [wideP, t0]
      have HWI := Lib.hid hw
      have z0 : decide (20000 < (countP c : Int)) = true := decide_eq_true (by omega)
      clear hw t0
      go_wp2_with (go_at_call 12; refine (HCO.out _ HX1.out).mono ?_; rintro e wq ⟨rfl, hq⟩; have HXQ := Lib.hid hq; have p0 := hq.cell_ p0; have p1 := hq.cell_ p1; have p2 := hq.cell_ p2; have p3 := hq.cell_ p3; have lP1 : P1 < wq.heap.size := cell_lt p0; clear hq)
      go_meet
      case rel => exact ⟨by rw [HWI.out], HXQ.out⟩
    have z0 : decide (20000 < (countP c : Int)) = false := decide_eq_false (by omega)
    by_cases t1 : 400 < c.funcs.length
    · have hw : wideP c = true := by simp [wideP, t1]
      have HWI := Lib.hid hw
      have z1 : decide (400 < (c.funcs.length : Int)) = true := decide_eq_true (by omega)
      clear hw t1
      go_wp2_with (go_at_call 12; refine (HCO.out _ HX1.out).mono ?_; rintro e wq ⟨rfl, hq⟩; have HXQ := Lib.hid hq; have p0 := hq.cell_ p0; have p1 := hq.cell_ p1; have p2 := hq.cell_ p2; have p3 := hq.cell_ p3; have lP1 : P1 < wq.heap.size := cell_lt p0; clear hq)
      go_meet
      case rel => exact ⟨by rw [HWI.out], HXQ.out⟩
    have z1 : decide (400 < (c.funcs.length : Int)) = false := decide_eq_false (by omega)
    by_cases t2 : 2000 < c.ints.length
    · have hw : wideP c = true := by simp [wideP, t2]
      have HWI := Lib.hid hw
      have z2 : decide (2000 < (c.ints.length : Int)) = true := decide_eq_true (by omega)
      clear hw t2
      go_wp2_with (go_at_call 12; refine (HCO.out _ HX1.out).mono ?_; rintro e wq ⟨rfl, hq⟩; have HXQ := Lib.hid hq; have p0 := hq.cell_ p0; have p1 := hq.cell_ p1; have p2 := hq.cell_ p2; have p3 := hq.cell_ p3; have lP1 : P1 < wq.heap.size := cell_lt p0; clear hq)
      go_meet
      case rel => exact ⟨by rw [HWI.out], HXQ.out⟩
    have z2 : decide (2000 < (c.ints.length : Int)) = false := decide_eq_false (by omega)
    by_cases t3 : 2000 < c.strs.length
    · have hw : wideP c = true := by simp [wideP, t3]
      have HWI := Lib.hid hw
      have z3 : decide (2000 < (c.strs.length : Int)) = true := decide_eq_true (by omega)
      clear hw t3
      go_wp2_with (go_at_call 12; refine (HCO.out _ HX1.out).mono ?_; rintro e wq ⟨rfl, hq⟩; have HXQ := Lib.hid hq; have p0 := hq.cell_ p0; have p1 := hq.cell_ p1; have p2 := hq.cell_ p2; have p3 := hq.cell_ p3; have lP1 : P1 < wq.heap.size := cell_lt p0; clear hq)
      go_meet
      case rel => exact ⟨by rw [HWI.out], HXQ.out⟩
    have z3 : decide (2000 < (c.strs.length : Int)) = false := decide_eq_false (by omega)
    by_cases t4 : 2000 < c.names.length
    · have hw : wideP c = true := by simp [wideP, t4]
      have HWI := Lib.hid hw
      have z4 : decide (2000 < (c.names.length : Int)) = true := decide_eq_true (by omega)
      clear hw t4
      go_wp2_with (go_at_call 12; refine (HCO.out _ HX1.out).mono ?_; rintro e wq ⟨rfl, hq⟩; have HXQ := Lib.hid hq; have p0 := hq.cell_ p0; have p1 := hq.cell_ p1; have p2 := hq.cell_ p2; have p3 := hq.cell_ p3; have lP1 : P1 < wq.heap.size := cell_lt p0; clear hq)
      go_meet
      case rel => exact ⟨by rw [HWI.out], HXQ.out⟩
    have z4 : decide (2000 < (c.names.length : Int)) = false := decide_eq_false (by omega)
    have hw : wideP c = false := by simp [wideP]; omega
    have HWI := Lib.hid hw
    clear hw t0 t1 t2 t3 t4
    go_wp2_with (go_at_call 12; refine (HCO.out _ HX1.out).mono ?_; rintro e wq ⟨rfl, hq⟩; have HXQ := Lib.hid hq; have p0 := hq.cell_ p0; have p1 := hq.cell_ p1; have p2 := hq.cell_ p2; have p3 := hq.cell_ p3; have lP1 : P1 < wq.heap.size := cell_lt p0; clear hq)
    go_meet
    case rel => exact ⟨by rw [HWI.out], HXQ.out⟩
  case rest =>
    obtain ⟨rfl, hE2⟩ := hcut
    obtain ⟨w2, hw2⟩ : ∃ w2, w2 = wc := ⟨_, rfl⟩
    rw [← hw2] at hE2 ⊢
    have p0 := hE2.out.cell_ p0
    have p1 := hE2.out.cell_ p1
    have p2 := hE2.out.cell_ p2
    have p3 := hE2.out.cell_ p3
    have HX2 := Lib.hid (HX1.out.trans_ hE2.out)
    have HB2' := Lib.hid (keepH HB2.out hE2.out)
    have lP1 : P1 < w2.heap.size := cell_lt p0
    clear hw2 hE2 HX1 HB1 HB2 HCO lP2
    cases hw : wideP c with
    | true =>
      obtain rfl : RES = (2, -1) := by rw [HRES.out, verify_wide hw]
      clear hw HFO
      go_wp2_with (go_at_call 32; refine (bare_any _ _).mono ?_; rintro e wb ⟨rfl, hqb⟩; have HXB := Lib.hid (HX2.out.trans_ hqb); have HBB := Lib.hid (keepH HB2'.out hqb); have g0 := cellRow HBB.out 0 _ rfl; have g1 := cellRow HBB.out 1 _ rfl; have lg := lt_of_block HBB.out; have gz0 : wb.frozen? ⟨P2, 0, none⟩ = false := (by simp [World.frozen?, HBB.out]); have gz1 : wb.frozen? ⟨P2, 1, none⟩ = false := (by simp [World.frozen?, HBB.out]); clear hqb)
      refine bodyPost_ret (results_cell_row rfl _ _ P2 _ _ _ _ rfl (flt_blk HBB.out _ _) (Tryd.underlying42) rfl (by kernel_rfl)) rfl ?_
      exact ⟨rfl, (HXB.out.set_ (p := ⟨P2, 0, none⟩) hP2w _).set_ (p := ⟨P2, 1, none⟩) hP2w _⟩
    | false =>
      obtain ⟨l1, l2, l3, l4, l5⟩ := wide_lens hw
      by_cases hem : c.funcs = []
      · obtain rfl : RES = (3, -1) := by rw [HRES.out, verify_empty hw hem]
        have hz : ((c.funcs.length : Int) == 0) = true := by rw [hem]; rfl
        clear hw HFO hem
        go_wp2_with (go_at_call 32; refine (bare_any _ _).mono ?_; rintro e wb ⟨rfl, hqb⟩; have HXB := Lib.hid (HX2.out.trans_ hqb); have HBB := Lib.hid (keepH HB2'.out hqb); have g0 := cellRow HBB.out 0 _ rfl; have g1 := cellRow HBB.out 1 _ rfl; have lg := lt_of_block HBB.out; have gz0 : wb.frozen? ⟨P2, 0, none⟩ = false := (by simp [World.frozen?, HBB.out]); have gz1 : wb.frozen? ⟨P2, 1, none⟩ = false := (by simp [World.frozen?, HBB.out]); clear hqb)
        refine bodyPost_ret (results_cell_row rfl _ _ P2 _ _ _ _ rfl (flt_blk HBB.out _ _) (Tryd.underlying42) rfl (by kernel_rfl)) rfl ?_
        exact ⟨rfl, (HXB.out.set_ (p := ⟨P2, 0, none⟩) hP2w _).set_ (p := ⟨P2, 1, none⟩) hP2w _⟩
      have hz : ((c.funcs.length : Int) == 0) = false := by
        have : c.funcs.length ≠ 0 := fun e => hem (List.eq_nil_of_length_eq_zero e)
        simp; omega
      have HW := Lib.hid hw
      have HEM := Lib.hid hem
      clear hw hem
      go_upto_region 6 with fail
      clear hz
      go_loopg [3] (c.funcs.length) (fun r s3 wr => ∃ (k : Nat), k + r = c.funcs.length ∧ s3 = .int .i64 (k : Int) ∧ Hid (numsAll true c.funcs = numsAll (k == 0) (c.funcs.drop k)) ∧ Hid (Ext w2 wr))
      case atStart => exact ⟨0, by omega, rfl, by show _ = _; rw [List.drop_zero]; rfl, Ext.refl _⟩
      case round =>
        obtain ⟨k, hk, rfl, hP, hE⟩ := hrel
        have p0 := hE.out.cell_ p0
        have p1 := hE.out.cell_ p1
        have p2 := hE.out.cell_ p2
        have p3 := hE.out.cell_ p3
        have lP1 : P1 < wr.heap.size := cell_lt p0
        cases gk with
        | succ r =>
          have hlt : k < c.funcs.length := by omega
          have hltz : (k : Int) < (c.funcs.length : Int) := by omega
          obtain ⟨fb, fo, va, vc, hfa, k0, k1, k2, k3, k4, k5, -, -⟩ := fn_cells (HR.out.ext (HX2.out.trans_ hE.out)) hlt
          simp only at hfa
          subst hfa
          have hdr : c.funcs.drop k = c.funcs[k] :: c.funcs.drop (k + 1) := List.drop_eq_getElem_cons hlt
          have hPk := hP.out
          rw [hdr] at hPk
          obtain ⟨fn, hfn⟩ : ∃ fn, fn = c.funcs[k] := ⟨_, rfl⟩
          rw [← hfn] at k0 k1 k2 k3 k4 k5 hPk
          obtain ⟨first, hfi⟩ : ∃ first, first = (k == 0) := ⟨_, rfl⟩
          rw [← hfi] at hPk
          have HNO : Hid (numsB first fn = false → RES = (3, -1)) := fun q => by
            rw [HRES.out]
            refine verify_nums HW.out HEM.out ?_
            rw [hPk]; unfold numsAll; rw [q]; rfl
          have HYES : Hid (numsB first fn = true → numsAll true c.funcs = numsAll (k + 1 == 0) (c.funcs.drop (k + 1))) := fun q => by
            rw [hPk]
            show (numsB first fn && numsAll false (c.funcs.drop (k + 1))) = _
            rw [q]; rfl
          have HK := Lib.hid hk
          have HFI := Lib.hid hfi
          have hlfb : fb < wr.heap.size := cell_lt k0
          clear hP hdr hPk hfn hk hfi
          go_upto_region 11 with fail
          obtain ⟨P4, hP4⟩ : ∃ P4, P4 = wr.heap.size := ⟨_, rfl⟩
          obtain ⟨P5, hP5⟩ : ∃ P5, P5 = wr.heap.size + 1 := ⟨_, rfl⟩
          refine namedW (fun w3 hw3 => ?_)
          obtain ⟨c4, c5⟩ := two_blk wr (.cells #[.string fn.name, .int .i64 fn.params, .int .i64 fn.locals, .int .i64 fn.cells, .int .i64 fn.frees, .slice va fn.ops.length vc] 53) (.cells #[.int .i64 fn.params, .int .i64 fn.locals, .int .i64 fn.cells, .int .i64 fn.frees] 3)
          rw [← hw3, ← hP4] at c4
          rw [← hw3, ← hP5] at c5
          have hX3 : Ext wr w3 := by rw [hw3]; exact ((Ext.refl wr).alloc_ _).alloc_ _
          rw [← hP5, ← hP4]
          have HX3 := Lib.hid (hE.out.trans_ hX3)
          have HC5 := Lib.hid c5
          have d1 := cellRow c4 1 _ rfl
          have d2 := cellRow c4 2 _ rfl
          clear hw3 hP4 hP5 hX3 c4 c5 k0 k1 k2 k3 k4 k5 hlfb
          go_loopg [6] 4 (fun r s6 wr => ∃ (j : Nat), j + r = 4 ∧ s6 = .int .i64 (j : Int) ∧ Hid (∀ m, m < j → numOK first ((four fn).getD m 0) = true) ∧ Hid (Ext w3 wr))
          case atStart => exact ⟨0, by omega, rfl, fun m hm => absurd hm (Nat.not_lt_zero _), Ext.refl _⟩
          case round =>
            obtain ⟨j, hj, rfl, hJ, hE3⟩ := hrel
            have d1 := hE3.out.cell_ d1
            have d2 := hE3.out.cell_ d2
            cases gk with
            | succ r2 =>
              have hjl : j < 4 := by omega
              have hjz : (j : Int) < 4 := by omega
              have hc5 := keepH HC5.out hE3.out
              have e5 : wr.cell? ⟨P5, j, none⟩ = some (.int .i64 ((four fn).getD j 0)) := by
                refine cellRow hc5 j _ ?_
                have : j = 0 ∨ j = 1 ∨ j = 2 ∨ j = 3 := by omega
                rcases this with rfl | rfl | rfl | rfl <;> rfl
              have l5 := lt_of_block hc5
              have hmem : (four fn).getD j 0 ∈ four fn := by
                have : j = 0 ∨ j = 1 ∨ j = 2 ∨ j = 3 := by omega
                rcases this with rfl | rfl | rfl | rfl <;> simp [four]
              have HBAD : Hid (numOK first ((four fn).getD j 0) = false → RES = (3, -1)) := fun q => HNO.out (nums_no hmem q)
              have HOKJ : Hid (numOK first ((four fn).getD j 0) = true → ∀ m, m < j + 1 → numOK first ((four fn).getD m 0) = true) := fun q m hm => by
                by_cases e : m = j
                · subst e; exact q
                · exact hJ.out m (by omega)
              have HJ := Lib.hid hj
              have HE5 := Lib.hid ((HX2.out.trans_ HX3.out).trans_ hE3.out)
              have HBX := Lib.hid (keepH HB2'.out (HX3.out.trans_ hE3.out))
              generalize (four fn).getD j 0 = n at *
              clear hc5 hmem hJ hj d1 d2 p0 p1 p2 p3
              by_cases n0 : n < 0
              · obtain rfl := HBAD.out (by unfold numOK; rw [decide_eq_false (by omega)]; rfl)
                have z0 : decide (n < 0) = true := decide_eq_true n0
                clear HBAD HOKJ HNO HYES n0
                go_wp2_with (go_at_call 32; refine (bare_any _ _).mono ?_; rintro e wb ⟨rfl, hqb⟩; have HXB := Lib.hid (HE5.out.trans_ hqb); have HBB := Lib.hid (keepH HBX.out hqb); have g0 := cellRow HBB.out 0 _ rfl; have g1 := cellRow HBB.out 1 _ rfl; have lg := lt_of_block HBB.out; have gz0 : wb.frozen? ⟨P2, 0, none⟩ = false := (by simp [World.frozen?, HBB.out]); have gz1 : wb.frozen? ⟨P2, 1, none⟩ = false := (by simp [World.frozen?, HBB.out]); clear hqb)
                refine bodyPost_ret (results_cell_row rfl _ _ P2 _ _ _ _ rfl (flt_blk HBB.out _ _) (Tryd.underlying42) rfl (by kernel_rfl)) rfl ?_
                exact ⟨rfl, (HXB.out.set_ (p := ⟨P2, 0, none⟩) hP2w _).set_ (p := ⟨P2, 1, none⟩) hP2w _⟩
              have z0 : decide (n < 0) = false := decide_eq_false n0
              by_cases n1 : 400 < n
              · obtain rfl := HBAD.out (by unfold numOK; rw [decide_eq_false (show ¬ n ≤ 400 by omega)]; simp)
                have z1 : decide (400 < n) = true := decide_eq_true n1
                clear HBAD HOKJ HNO HYES n0 n1
                go_wp2_with (go_at_call 32; refine (bare_any _ _).mono ?_; rintro e wb ⟨rfl, hqb⟩; have HXB := Lib.hid (HE5.out.trans_ hqb); have HBB := Lib.hid (keepH HBX.out hqb); have g0 := cellRow HBB.out 0 _ rfl; have g1 := cellRow HBB.out 1 _ rfl; have lg := lt_of_block HBB.out; have gz0 : wb.frozen? ⟨P2, 0, none⟩ = false := (by simp [World.frozen?, HBB.out]); have gz1 : wb.frozen? ⟨P2, 1, none⟩ = false := (by simp [World.frozen?, HBB.out]); clear hqb)
                refine bodyPost_ret (results_cell_row rfl _ _ P2 _ _ _ _ rfl (flt_blk HBB.out _ _) (Tryd.underlying42) rfl (by kernel_rfl)) rfl ?_
                exact ⟨rfl, (HXB.out.set_ (p := ⟨P2, 0, none⟩) hP2w _).set_ (p := ⟨P2, 1, none⟩) hP2w _⟩
              have z1 : decide (400 < n) = false := decide_eq_false n1
              by_cases hk0 : k = 0
              · have zk : ((k : Int) == 0) = true := by rw [hk0]; rfl
                obtain rfl : first = true := by rw [HFI.out, hk0]; rfl
                by_cases n2 : n = 0
                · have z2 : (n != 0) = false := by rw [n2]; rfl
                  have z2' : (n == 0) = true := by rw [n2]; rfl
                  have hok := HOKJ.out (by unfold numOK; rw [n2]; rfl)
                  have HOK := Lib.hid hok
                  clear HBAD HOKJ n0 n1 n2 hok
                  go_wp2
                  go_roundg r2
                  case measure => omega
                  case rel => exact ⟨j + 1, by have := HJ.out; omega, by go_num, HOK.out, hE3.out⟩
                · have z2 : (n != 0) = true := by simpa using n2
                  have z2' : (n == 0) = false := by simpa using n2
                  obtain rfl := HBAD.out (by unfold numOK; rw [decide_eq_true (show 0 < n by omega)]; simp)
                  clear HBAD HOKJ HNO HYES n0 n1 n2
                  go_wp2_with (go_at_call 32; refine (bare_any _ _).mono ?_; rintro e wb ⟨rfl, hqb⟩; have HXB := Lib.hid (HE5.out.trans_ hqb); have HBB := Lib.hid (keepH HBX.out hqb); have g0 := cellRow HBB.out 0 _ rfl; have g1 := cellRow HBB.out 1 _ rfl; have lg := lt_of_block HBB.out; have gz0 : wb.frozen? ⟨P2, 0, none⟩ = false := (by simp [World.frozen?, HBB.out]); have gz1 : wb.frozen? ⟨P2, 1, none⟩ = false := (by simp [World.frozen?, HBB.out]); clear hqb)
                  refine bodyPost_ret (results_cell_row rfl _ _ P2 _ _ _ _ rfl (flt_blk HBB.out _ _) (Tryd.underlying42) rfl (by kernel_rfl)) rfl ?_
                  exact ⟨rfl, (HXB.out.set_ (p := ⟨P2, 0, none⟩) hP2w _).set_ (p := ⟨P2, 1, none⟩) hP2w _⟩
              · have zk : ((k : Int) == 0) = false := by simp; omega
                obtain rfl : first = false := by rw [HFI.out]; simp; omega
                have hok := HOKJ.out (by unfold numOK; rw [decide_eq_true (show 0 ≤ n by omega), decide_eq_true (show n ≤ 400 by omega)]; rfl)
                have HOK := Lib.hid hok
                clear HBAD HOKJ n0 n1 hok
                go_wp2
                go_roundg r2
                case measure => omega
                case rel => exact ⟨j + 1, by have := HJ.out; omega, by go_num, HOK.out, hE3.out⟩
            | zero =>
              obtain rfl : j = 4 := by omega
              have hall : (four fn).all (numOK first) = true := by
                have h0 := hJ.out 0 (by omega)
                have h1 := hJ.out 1 (by omega)
                have h2 := hJ.out 2 (by omega)
                have h3 := hJ.out 3 (by omega)
                simp only [four, List.getD_cons_zero, List.getD_cons_succ] at h0 h1 h2 h3
                simp only [four, List.all_cons, List.all_nil, h0, h1, h2, h3]
                rfl
              have HE5 := Lib.hid ((HX2.out.trans_ HX3.out).trans_ hE3.out)
              have HBX := Lib.hid (keepH HB2'.out (HX3.out.trans_ hE3.out))
              have HEE := Lib.hid (HX3.out.trans_ hE3.out)
              clear hJ hj
              by_cases hpl : fn.locals < fn.params
              · obtain rfl := HNO.out (by rw [numsB_eq, hall, decide_eq_false (by omega)]; rfl)
                have z0 : decide (fn.locals < fn.params) = true := decide_eq_true hpl
                clear HNO HYES hall hpl
                go_wp2_with (go_at_call 32; refine (bare_any _ _).mono ?_; rintro e wb ⟨rfl, hqb⟩; have HXB := Lib.hid (HE5.out.trans_ hqb); have HBB := Lib.hid (keepH HBX.out hqb); have g0 := cellRow HBB.out 0 _ rfl; have g1 := cellRow HBB.out 1 _ rfl; have lg := lt_of_block HBB.out; have gz0 : wb.frozen? ⟨P2, 0, none⟩ = false := (by simp [World.frozen?, HBB.out]); have gz1 : wb.frozen? ⟨P2, 1, none⟩ = false := (by simp [World.frozen?, HBB.out]); clear hqb)
                refine bodyPost_ret (results_cell_row rfl _ _ P2 _ _ _ _ rfl (flt_blk HBB.out _ _) (Tryd.underlying42) rfl (by kernel_rfl)) rfl ?_
                exact ⟨rfl, (HXB.out.set_ (p := ⟨P2, 0, none⟩) hP2w _).set_ (p := ⟨P2, 1, none⟩) hP2w _⟩
              have z0 : decide (fn.locals < fn.params) = false := decide_eq_false hpl
              have hnx := HYES.out (by rw [numsB_eq, hall, decide_eq_true (by omega)]; rfl)
              have HNX := Lib.hid hnx
              clear HNO HYES hall hpl hnx
              go_wp2
              go_roundg r
              case measure => omega
              case rel => exact ⟨k + 1, by have := HK.out; omega, by go_num, HNX.out, HEE.out⟩
        | zero =>
          obtain rfl : k = c.funcs.length := by omega
          have hltz : ¬ ((c.funcs.length : Nat) : Int) < (c.funcs.length : Int) := by omega
          have hnum : numsAll true c.funcs = true := by rw [hP.out, List.drop_length]; rfl
          have hres : RES = match wrongP (funcB c) 0 c.funcs with | some i => (3, (i : Int)) | none => (0, -1) := by rw [HRES.out]; exact verify_each HW.out HEM.out hnum
          have HRES2 : Hid (RES = match wrongP (funcB c) 0 (c.funcs.drop 0) with | some i => (3, (i : Int)) | none => (0, -1)) := hres
          have hfo2 := HFO.out HW.out hnum
          have HFO2 := Lib.hid hfo2
          clear hP hk hnum hres HRES hfo2 HFO HW HEM
          go_upto_region 18 with fail
          obtain ⟨w3, hw3⟩ : ∃ w3, w3 = wr := ⟨_, rfl⟩
          rw [← hw3] at hE p0 p1 p2 p3 lP1 ⊢
          have HX3 := Lib.hid (HX2.out.trans_ hE.out)
          have HB3 := Lib.hid (keepH HB2'.out hE.out)
          clear hw3 hE HX2 HB2'
          go_loopg [7] (c.funcs.length) (fun r s7 wr => ∃ (k : Nat), k + r = c.funcs.length ∧ s7 = .int .i64 (k : Int) ∧ Hid (RES = match wrongP (funcB c) k (c.funcs.drop k) with | some i => (3, (i : Int)) | none => (0, -1)) ∧ Hid (Ext w3 wr))
          case atStart => exact ⟨0, by omega, rfl, HRES2.out, Ext.refl _⟩
          case round =>
            obtain ⟨k, hk, rfl, hP, hE⟩ := hrel
            clear HRES2
            have p0 := hE.out.cell_ p0
            have p1 := hE.out.cell_ p1
            have p2 := hE.out.cell_ p2
            have p3 := hE.out.cell_ p3
            have lP1 : P1 < wr.heap.size := cell_lt p0
            cases gk with
            | succ r =>
              have hlt : k < c.funcs.length := by omega
              have hltz : (k : Int) < (c.funcs.length : Int) := by omega
              have hdr : c.funcs.drop k = c.funcs[k] :: c.funcs.drop (k + 1) := List.drop_eq_getElem_cons hlt
              have hPk := hP.out
              rw [hdr] at hPk
              have hcall := HFO2.out k hlt wr (HX3.out.trans_ hE.out)
              unfold wrongP at hPk
              have HK := Lib.hid hk
              have HCALL := Lib.hid hcall
              have HPK := Lib.hid hPk
              clear hP hdr hPk hk hcall
              cases hb : funcB c c.funcs[k] (k == 0) with
              | false =>
                have hres := HPK.out
                rw [hb] at hres
                obtain rfl : RES = (3, (k : Int)) := hres
                rw [hb] at HCALL
                have HBX := Lib.hid (keepH HB3.out hE.out)
                clear HPK hb
                go_wp2_with (go_at_call 33; refine HCALL.out.mono ?_; rintro e wb ⟨rfl, hqb⟩; have HXB := Lib.hid ((HX3.out.trans_ hE.out).trans_ hqb); have HBB := Lib.hid (keepH HBX.out hqb); have g0 := cellRow HBB.out 0 _ rfl; have g1 := cellRow HBB.out 1 _ rfl; have lg := lt_of_block HBB.out; have gz0 : wb.frozen? ⟨P2, 0, none⟩ = false := (by simp [World.frozen?, HBB.out]); have gz1 : wb.frozen? ⟨P2, 1, none⟩ = false := (by simp [World.frozen?, HBB.out]); clear hqb)
                refine bodyPost_ret (results_cell_row rfl _ _ P2 _ _ _ _ rfl (flt_blk HBB.out _ _) (Tryd.underlying42) rfl (by kernel_rfl)) rfl ?_
                exact ⟨rfl, (HXB.out.set_ (p := ⟨P2, 0, none⟩) hP2w _).set_ (p := ⟨P2, 1, none⟩) hP2w _⟩
              | true =>
                have hres := HPK.out
                rw [hb] at hres
                rw [hb] at HCALL
                have HNX := Lib.hid hres
                clear HPK hb hres
                go_wp2_with (go_at_call 33; refine HCALL.out.mono ?_; rintro e wb ⟨rfl, hqb⟩; have HXB := Lib.hid (hE.out.trans_ hqb); clear hqb)
                go_roundg r
                case measure => omega
                case rel => exact ⟨k + 1, by have := HK.out; omega, by go_num, HNX.out, HXB.out⟩
            | zero =>
              obtain rfl : k = c.funcs.length := by omega
              have hltz : ¬ ((c.funcs.length : Nat) : Int) < (c.funcs.length : Int) := by omega
              obtain rfl : RES = (0, -1) := by have := hP.out; rw [List.drop_length] at this; exact this
              have HBX := Lib.hid (keepH HB3.out hE.out)
              clear hP hk
              go_wp2_with (go_at_call 34; refine (fine_any _).mono ?_; rintro e wb ⟨rfl, hqb⟩; have HXB := Lib.hid ((HX3.out.trans_ hE.out).trans_ hqb); have HBB := Lib.hid (keepH HBX.out hqb); have g0 := cellRow HBB.out 0 _ rfl; have g1 := cellRow HBB.out 1 _ rfl; have lg := lt_of_block HBB.out; have gz0 : wb.frozen? ⟨P2, 0, none⟩ = false := (by simp [World.frozen?, HBB.out]); have gz1 : wb.frozen? ⟨P2, 1, none⟩ = false := (by simp [World.frozen?, HBB.out]); clear hqb)
              refine bodyPost_ret (results_cell_row rfl _ _ P2 _ _ _ _ rfl (flt_blk HBB.out _ _) (Tryd.underlying42) rfl (by kernel_rfl)) rfl ?_
              exact ⟨rfl, (HXB.out.set_ (p := ⟨P2, 0, none⟩) hP2w _).set_ (p := ⟨P2, 1, none⟩) hP2w _⟩
open Go.RowKit Go.Extern.Stop Go.Stop Go.Extern

abbrev fltV (x : Nat) : Value := .iface 82 (.pointer (some ⟨x, 0, none⟩))
theorem typeOfF (v : Value) (w : World) : (ReflectliteType.typeOf #[.iface 82 v]).run Tryd.prog w = .ok (.iface 142 (.agg #[.pointer (some ⟨12, 82, none⟩)])) w := by kernel_rfl
theorem assignableF (w : World) : (ReflectliteType.relation "AssignableTo" ReflectliteType.assignableTo #[.agg #[.pointer (some ⟨12, 82, none⟩)], .iface 142 (.agg #[.pointer (some ⟨12, 82, none⟩)])]).run Tryd.prog w = .ok (.bool true) w := by kernel_rfl
theorem valueOfF (e : Addr) (w : World) : (ReflectliteValue.unpack (.iface 82 (.pointer (some e)))).run Tryd.prog w
    = .ok (.agg #[.pointer (some ⟨12, 82, none⟩), .pointer (some ⟨w.heap.size, 0, none⟩), .int .u64 150]) (w.alloc (.cells #[.pointer (some e)] 82)) := by kernel_rfl
theorem elemOfFF (w : World) : (Rtype.elem? 92).run Tryd.prog w = .ok (some 82) w := by kernel_rfl
theorem mkF (p : Addr) (w : World) : (ReflectliteValue.mk 82 p ReflectliteValue.flagAddr).run Tryd.prog w = .ok (.agg #[.pointer (some ⟨12, 82, none⟩), .pointer (some p), .int .u64 406]) w := by kernel_rfl
theorem elemVFF (a p : Addr) (W : World) (ha : W.cell? a = some (.pointer (some p))) :
    (ReflectliteValue.method (ReflectliteValue.valueError "reflectlite.Value.Elem" 0) ReflectliteValue.elem #[.agg #[.pointer (some ⟨12, 92, none⟩), .pointer (some a), .int .u64 150]]).run Tryd.prog W
      = .ok (.agg #[.pointer (some ⟨12, 82, none⟩), .pointer (some p), .int .u64 406]) W := by
  rw [rlm]
  simp only [Sem.run_bind, partsFF, Result.andThen]
  simp [ReflectliteValue.elem, loadVar, isAgg, underlying, Tryd.underlying92, ha, Result.andThen, elemOfFF, mkF]
theorem rls (v x : Value) : ReflectliteValue.set #[v, x] = (do
    let (some (dst, a, fl), some (src, b, _)) := (← ReflectliteValue.parts v, ← ReflectliteValue.parts x)
      | unsupported (.noEntry "extern/(internal/reflectlite.Value).Set.zeroValue")
    if fl / ReflectliteValue.flagAddr % 2 == 0 then unsupported (.noEntry "extern/(internal/reflectlite.Value).Set.unaddressable")
    let val ← loadVar src b
    if ← Rtype.directlyAssignable dst src then storeVar dst a val
    else if ← Rtype.implements dst src then
      if (← Rtype.kind src) == 20 then
        match val with
        | .nilIface => unsupported (.noEntry "extern/reflectlite: a nil value of one interface type handed on as a value of another")
        | _ => storeVar dst a val
      else storeVar dst a (.iface src val)
    else panicString ("reflectlite.Set: value of type " ++ (← Rtype.spelt src) ++ " is not assignable to type " ++ (← Rtype.spelt dst))
    pure (.tuple #[])) := rfl
theorem partsFa (a : Addr) (w : World) : (ReflectliteValue.parts (.agg #[.pointer (some ⟨12, 82, none⟩), .pointer (some a), .int .u64 406])).run Tryd.prog w = .ok (some (82, a, 406)) w := by kernel_rfl
theorem partsF (a : Addr) (w : World) : (ReflectliteValue.parts (.agg #[.pointer (some ⟨12, 82, none⟩), .pointer (some a), .int .u64 150])).run Tryd.prog w = .ok (some (82, a, 150)) w := by kernel_rfl
theorem directF (w : World) : (Rtype.directlyAssignable 82 82).run Tryd.prog w = .ok true w := by kernel_rfl
theorem setF (ta b e : Addr) (old : Value) (W : World) (hb : W.cell? b = some (.pointer (some e))) (ht : W.cell? ta = some old) (hf : W.frozen? ta = false) :
    (ReflectliteValue.set #[.agg #[.pointer (some ⟨12, 82, none⟩), .pointer (some ta), .int .u64 406], .agg #[.pointer (some ⟨12, 82, none⟩), .pointer (some b), .int .u64 150]]).run Tryd.prog W
      = .ok (.tuple #[]) (W.setCell ta (.pointer (some e))) := by
  rw [rls]
  simp only [Sem.run_bind, partsFa, partsF, Result.andThen]
  simp [ReflectliteValue.flagAddr, loadVar, isAgg, underlying, Tryd.underlying82, hb, Result.andThen, directF, storeVar, Value.cells, storeCells, Addr.add]
  rw [run_store Tryd.prog W ta _ _ (by rfl)]
  simp [ht, hf]
set_option maxRecDepth 100000 in
set_option maxHeartbeats 4000000 in
theorem as_hit (e t : Addr) (old : Value) (w : World) (hg : GEType w) (ht0 : w.cell? t = some old) (hf0 : w.frozen? t = false) :
    Calls Tryd.prog 41 #[.iface 82 (.pointer (some e)), .iface 92 (.pointer (some t))] w fun ev w' => ev = .returned (.bool true) ∧ w' = ((((w.alloc (.cells #[.pointer (some t)] 92)).alloc (.cells #[.pointer (some ⟨12, 92, none⟩), .pointer (some ⟨w.heap.size, 0, none⟩), .int .u64 150] 114)).alloc (.cells #[.pointer (some ⟨12, 92, none⟩), .pointer (some ⟨w.heap.size, 0, none⟩), .int .u64 150] 114)).alloc (.cells #[.pointer (some e)] 82)).setCell t (.pointer (some e)) := by
  have h6 := @run_callFunc_extern Tryd.prog 55 _ (fun args => ReflectliteValue.unpack (args.getD 0 (.tuple #[]))) Tryd.func55 (by kernel_rfl) (by kernel_rfl) (by kernel_rfl) (by kernel_rfl)
  have h7 := @run_callFunc_extern Tryd.prog 56 _ (ReflectliteValue.methodAny (ReflectliteValue.valueError "reflectlite.Value.Type" 0) (fun t _ _ _ => ReflectliteType.toType t)) Tryd.func56 (by kernel_rfl) (by kernel_rfl) (by kernel_rfl) (by kernel_rfl)
  have h8 := @run_callFunc_extern Tryd.prog 57 _ (ReflectliteValue.method (ReflectliteValue.valueError "reflectlite.Value.IsNil" 0) ReflectliteValue.isNil) Tryd.func57 (by kernel_rfl) (by kernel_rfl) (by kernel_rfl) (by kernel_rfl)
  have h27 := @run_callFunc_extern Tryd.prog 90 _ (ReflectliteType.abiMethod fun t => do pure (.int .u8 (← Rtype.kind t))) Tryd.func90 (by kernel_rfl) (by kernel_rfl) (by kernel_rfl) (by kernel_rfl)
  have h37 := @run_callFunc_extern Tryd.prog 102 _ (ReflectliteType.method ReflectliteType.elem) Tryd.func102 (by kernel_rfl) (by kernel_rfl) (by kernel_rfl) (by kernel_rfl)
  have h38 := @run_callFunc_extern Tryd.prog 103 _ (ReflectliteType.relation "Implements" ReflectliteType.implements_) Tryd.func103 (by kernel_rfl) (by kernel_rfl) (by kernel_rfl) (by kernel_rfl)
  have h10 := @run_callFunc_extern Tryd.prog 59 _ ReflectliteType.typeOf Tryd.func59 (by kernel_rfl) (by kernel_rfl) (by kernel_rfl) (by kernel_rfl)
  have h35 := @run_callFunc_extern Tryd.prog 100 _ (ReflectliteType.relation "AssignableTo" ReflectliteType.assignableTo) Tryd.func100 (by kernel_rfl) (by kernel_rfl) (by kernel_rfl) (by kernel_rfl)
  have h11 := @run_callFunc_extern Tryd.prog 72 _ (ReflectliteValue.method (ReflectliteValue.valueError "reflectlite.Value.Elem" 0) ReflectliteValue.elem) Tryd.func72 (by kernel_rfl) (by kernel_rfl) (by kernel_rfl) (by kernel_rfl)
  have h12 := @run_callFunc_extern Tryd.prog 73 _ ReflectliteValue.set Tryd.func73 (by kernel_rfl) (by kernel_rfl) (by kernel_rfl) (by kernel_rfl)
  have tO := typeOfF
  have mA := methodAssignableTo
  have a25 := assignableF
  have v25 := valueOfF
  have f6 := valueOfFF
  have f7 := typeFF
  have mK := methodKind
  have mE := methodElem
  have mI := methodImplements
  have k27 := kindFF
  have k25 := kindF
  have e27 := elemFF
  have i25 := implementsF
  have n8 := isNilFF ⟨w.heap.size, 0, none⟩ t ((w.alloc (.cells #[.pointer (some t)] 92)).alloc (.cells #[.pointer (some ⟨12, 92, none⟩), .pointer (some ⟨w.heap.size, 0, none⟩), .int .u64 150] 114)) (by simp)
  have hlt := cell_lt hg
  simp only at hlt
  have htl : t.block < w.heap.size := by
    rcases Nat.lt_or_ge t.block w.heap.size with h | h
    · exact h
    · simp [World.cell?, Array.getElem?_eq_none h] at ht0
  have el := elemVFF ⟨w.heap.size, 0, none⟩ t (((w.alloc (.cells #[.pointer (some t)] 92)).alloc (.cells #[.pointer (some ⟨12, 92, none⟩), .pointer (some ⟨w.heap.size, 0, none⟩), .int .u64 150] 114)).alloc (.cells #[.pointer (some ⟨12, 92, none⟩), .pointer (some ⟨w.heap.size, 0, none⟩), .int .u64 150] 114)) (by rw [World.cell?_alloc_lt _ _ ⟨w.heap.size, 0, none⟩ (by simp; omega)]; simp)
  have st := setF t ⟨w.heap.size + 1 + 1 + 1, 0, none⟩ e old ((((w.alloc (.cells #[.pointer (some t)] 92)).alloc (.cells #[.pointer (some ⟨12, 92, none⟩), .pointer (some ⟨w.heap.size, 0, none⟩), .int .u64 150] 114)).alloc (.cells #[.pointer (some ⟨12, 92, none⟩), .pointer (some ⟨w.heap.size, 0, none⟩), .int .u64 150] 114)).alloc (.cells #[.pointer (some e)] 82))
    (by rw [World.cell?_alloc_at _ _ _ _ (by simp)]; rfl)
    (by rw [World.cell?_alloc_lt _ _ t (by simp; omega), World.cell?_alloc_lt _ _ t (by simp; omega), World.cell?_alloc_lt _ _ t (by simp; omega), World.cell?_alloc_lt _ _ t htl]; exact ht0)
    (by rw [World.frozen?_alloc_old _ _ t (by simp; omega), World.frozen?_alloc_old _ _ t (by simp; omega), World.frozen?_alloc_old _ _ t (by simp; omega), World.frozen?_alloc_old _ _ t (Nat.ne_of_lt htl)]; exact hf0)
  go_enter Tryd.func41, Tryd.ntmps41
  go_wp2
  refine wp_loop_rounds 1 ?_
  rw [rounds_succ]
  go_wp2
  go_ret
  exact ⟨rfl, rfl⟩

theorem unwrap_any (x : Nat) (a : Addr) (w : World) (hx : w.cell? ⟨x, 1, none⟩ = some (errV a)) :
    Calls Tryd.prog 95 #[.pointer (some ⟨x, 0, none⟩)] w fun e w' => e = .returned (errV a) ∧ w' = w := by
  go_enter Tryd.func95, Tryd.ntmps95
  go_wp2
  go_ret
  exact ⟨rfl, rfl⟩
theorem noIsF (v : Value) (xT : TypeId) (w : World) : (Instr.typeAssert (.iface 82 v) xT 153 true).run Tryd.prog w = .ok (.tuple #[.nilIface, .bool false]) w := run_typeAssert_lacksB Tryd.underlying153 (by kernel_rfl) (by kernel_rfl) v xT w
theorem hasUnwrapF (v : Value) (xT : TypeId) (w : World) : (Instr.typeAssert (.iface 82 v) xT 149 true).run Tryd.prog w = .ok (.tuple #[.iface 82 v, .bool true]) w := run_typeAssert_hasB Tryd.underlying149 (by kernel_rfl) v xT w
theorem aheadUnwrap (x : Nat) (w : World) : (nilAhead 290 82 (.pointer (some ⟨x, 0, none⟩)) "Unwrap").run Tryd.prog w = .ok (some false) w := by kernel_rfl
theorem methodUnwrap (x : Nat) (w : World) : (Go.method 290 82 (.pointer (some ⟨x, 0, none⟩)) "Unwrap").run Tryd.prog w = .ok (95, .pointer (some ⟨x, 0, none⟩)) w := by kernel_rfl
set_option maxRecDepth 100000 in
set_option maxHeartbeats 4000000 in
theorem isF_same (x : Nat) (a : Addr) (w : World) (hx : w.cell? ⟨x, 1, none⟩ = some (errV a)) :
    Calls Tryd.prog 42 #[fltV x, errV a] w fun e w' => e = .returned (.bool true) ∧ Ext w w' := by
  obtain ⟨i, hi, hcmp⟩ := Option.map_eq_some_iff.1 isComp
  obtain ⟨j, hj, hjs⟩ := Option.map_eq_some_iff.1 isSize
  have h8 := @run_callFunc_extern Tryd.prog 59 _ Extern.ReflectliteType.typeOf Tryd.func59 (by kernel_rfl) (by kernel_rfl) (by kernel_rfl) (by kernel_rfl)
  have h32 := @run_callFunc_extern Tryd.prog 101 _ (Extern.ReflectliteType.method fun t => do Rtype.noPackHeld "Comparable" t; pure (.bool (← typeInfo t).comparable)) Tryd.func101 (by kernel_rfl) (by kernel_rfl) (by kernel_rfl) (by kernel_rfl)
  have tT := isTypeOf
  have cT := isComparable
  have mR := isMethodComparable
  have nF := noIsF
  have uF := hasUnwrapF
  have aU := aheadUnwrap x
  have mU := methodUnwrap x
  have hdt := fun (v1 v2 : Value) (W : World) => run_eql_iface_types (P := Tryd.prog) 82 159 v1 v2 Tryd.underlying39 (by decide) W
  have heq := fun W => run_eql_iface_ptr_same (P := Tryd.prog) W a Tryd.underlying39 Tryd.underlying159 hi hcmp hj
  go_enter Tryd.func42, Tryd.ntmps42
  go_wp2
  refine wp_loop_rounds 2 ?_
  rw [rounds_succ]
  go_wp2_with (go_at_call 95; refine (unwrap_any x a _ (by assumption)).mono ?_; rintro e w' ⟨rfl, rfl⟩)
  try rw [rounds_succ]
  go_wp2
  go_ret
  exact ⟨rfl, by first | exact Ext.refl _ | exact (Ext.refl _).drew_ | exact (Ext.refl _).drewN_ _⟩
set_option maxRecDepth 100000 in
set_option maxHeartbeats 4000000 in
theorem isF_other (x : Nat) (a b : Addr) (ca cb : Array Value) (ta tb : TypeId) (w : World) (hx : w.cell? ⟨x, 1, none⟩ = some (errV a)) (hne : a ≠ b) (ha : w.heap[a.block]? = some (.cells ca ta (0, 0))) (hb : w.heap[b.block]? = some (.cells cb tb (0, 0))) :
    Calls Tryd.prog 42 #[fltV x, errV b] w fun e w' => e = .returned (.bool false) ∧ Ext w w' := by
  obtain ⟨i, hi, hcmp⟩ := Option.map_eq_some_iff.1 isComp
  obtain ⟨j, hj, hjs⟩ := Option.map_eq_some_iff.1 isSize
  have h8 := @run_callFunc_extern Tryd.prog 59 _ Extern.ReflectliteType.typeOf Tryd.func59 (by kernel_rfl) (by kernel_rfl) (by kernel_rfl) (by kernel_rfl)
  have h32 := @run_callFunc_extern Tryd.prog 101 _ (Extern.ReflectliteType.method fun t => do Rtype.noPackHeld "Comparable" t; pure (.bool (← typeInfo t).comparable)) Tryd.func101 (by kernel_rfl) (by kernel_rfl) (by kernel_rfl) (by kernel_rfl)
  have tT := isTypeOf
  have cT := isComparable
  have mR := isMethodComparable
  have nF := noIsF
  have uF := hasUnwrapF
  have aU := aheadUnwrap x
  have mU := methodUnwrap x
  have nE := noIsE
  have uE := noUnwrapE
  have vE := noUnwrapsE
  have hdt := fun (v1 v2 : Value) (W : World) => run_eql_iface_types (P := Tryd.prog) 82 159 v1 v2 Tryd.underlying39 (by decide) W
  have heq := run_eql_iface_ptr_other (P := Tryd.prog) w Tryd.underlying39 Tryd.underlying159 hi hcmp hj (by rw [hjs]; decide) hne ha hb
  have heq2 := fun n => run_eql_iface_ptr_other (P := Tryd.prog) (w.drewN n) Tryd.underlying39 Tryd.underlying159 hi hcmp hj (by rw [hjs]; decide) hne (by exact ha) (by exact hb)
  have heq3 := run_eql_iface_ptr_other (P := Tryd.prog) w.drew Tryd.underlying39 Tryd.underlying159 hi hcmp hj (by rw [hjs]; decide) hne (by exact ha) (by exact hb)
  go_enter Tryd.func42, Tryd.ntmps42
  go_wp2
  refine wp_loop_rounds 2 ?_
  rw [rounds_succ]
  go_wp2_with (go_at_call 95; refine (unwrap_any x a _ (by assumption)).mono ?_; rintro e w' ⟨rfl, rfl⟩)
  try rw [rounds_succ]
  go_wp2
  go_ret
  exact ⟨rfl, by first | exact Ext.refl _ | exact (Ext.refl _).drew_ | exact (Ext.refl _).drewN_ _⟩
end Go.Proofs.YtgjjkllngopboaaDoor
