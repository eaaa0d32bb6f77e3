/- The walk of the checker's step. -/
import Derived.Test.YtgjjkllngopboaaDoorJCa08
namespace Go.Proofs.YtgjjkllngopboaaDoor
open Go.RowKit
set_option linter.unusedVariables false
set_option linter.unusedSimpArgs false

set_option maxRecDepth 100000 in
set_option maxHeartbeats 8000000 in
theorem step_unless (B Kb sb mb : Nat) (c : CodeP) (V : CodeV) (f : FnP) (v : OpsV) (fb fo : Nat) (tv : Value) (g : GoP) (w : World) (h : OChk w B Kb sb mb c V f v fb fo tv g) (hT : TallP f.ops.length g) (h6 : f.ops.length ≤ 1000000)
    (i : Nat) (hi : i < f.ops.length) (x : StP) (hun : seenP g.s i = some x) (op : OpP) (hop : f.ops[i] = op) (a0 : 0 ≤ op.a) (a1 : op.a ≤ 1000000) (hnm : op.name = n_unless) :
    Calls Tryd.prog 45 #[.pointer (some ⟨Kb, 0, none⟩), .int .i64 (i : Int)] w (StepV w B Kb sb mb c V f v fb fo tv (stepP f.ops.length (stepsP f.ops i) x g)) := by
  have t0 : (op.name.toList == [99, 97, 108, 108]) = false := by rw [hnm]; decide +kernel
  have t1 : (op.name.toList == [108, 105, 115, 116]) = false := by rw [hnm]; decide +kernel
  have t2 : (op.name.toList == [100, 105, 99, 116]) = false := by rw [hnm]; decide +kernel
  have t3 : (op.name.toList == [114, 101, 116, 117, 114, 110]) = false := by rw [hnm]; decide +kernel
  have t4 : (op.name.toList == [104, 97, 108, 116]) = false := by rw [hnm]; decide +kernel
  have t5 : (op.name.toList == [114, 97, 105, 115, 101]) = false := by rw [hnm]; decide +kernel
  have t6 : (op.name.toList == [106, 117, 109, 112]) = false := by rw [hnm]; decide +kernel
  have t7 : (op.name.toList == [117, 110, 108, 101, 115, 115]) = true := by rw [hnm]; decide +kernel
  have t8 : (op.name.toList == [110, 101, 120, 116]) = false := by rw [hnm]; decide +kernel
  have t9 : (op.name.toList == [116, 114, 121]) = false := by rw [hnm]; decide +kernel
  have t10 : (op.name.toList == [101, 110, 100]) = false := by rw [hnm]; decide +kernel
  have hst0 : i < g.s.length := by rw [hT.len]; exact hi
  have hfit := hT.fits i x hun
  have hpu := shape_puts op
  have htk := takes_in op a0 a1
  have hbs := hT.base x.2
  have hlenx := hfit.len
  have hsl := seens_le g.s
  rw [hT.len] at hsl
  have hxlo := hfit.lo
  have hxhi := hfit.hi
  have hstep : stepsP f.ops i = ⟨takesP op, putsP op, outsP i op⟩ := by
    have : opAt f.ops i = op := by unfold opAt; rw [List.getD_eq_getElem?_getD, List.getElem?_eq_getElem hi, ← hop]; rfl
    unfold stepsP; rw [this]
  rw [hstep]
  have HLOW1 : Hid (x.1 - takesP op < baseP g.s x.2 → stepP f.ops.length ⟨takesP op, putsP op, outsP i op⟩ x g = { g with ok := false }) := fun q => step_low (low1 q)
  have HLOW2 : Hid (1000 < x.1 - takesP op + putsP op → stepP f.ops.length ⟨takesP op, putsP op, outsP i op⟩ x g = { g with ok := false }) := fun q => step_low (low2 q)
  have HLOW3 : Hid (¬ x.1 - takesP op < baseP g.s x.2 → ¬ 1000 < x.1 - takesP op + putsP op → lowP g.s ⟨takesP op, putsP op, outsP i op⟩ x = false) := fun q r => low3 q r
  generalize hRES : stepP f.ops.length ⟨takesP op, putsP op, outsP i op⟩ x g = RES at HLOW1 HLOW2 ⊢
  have HRES := Lib.hid hRES
  have HSTEP := Lib.hid hstep
  obtain ⟨sa, sc, hst, hfr⟩ := h.st i hst0
  rw [hun] at hst
  obtain ⟨s0, s1, s2, hro⟩ := hst
  simp only [Option.isSome_some, Option.map_some, Option.getD_some] at s0 s1 s2 hro
  have hxl : x.2.length ≤ 1000000 := by omega
  have hfit' : FitsP f.ops.length (seensP g.s) x := hfit.mono (by omega)
  have hoc := opCells_at f.ops i hi
  rw [hop] at hoc
  obtain ⟨ob, oo, hov, o0⟩ := h.ops _ _ hoc.1
  have o1r := h.ops
  rw [hov] at o1r
  have o1 := o1r.at_ hoc.2
  clear o1r
  rw [← Nat.add_assoc] at o1
  have k4 := h.R.kf
  have k5 := h.k5
  have f5 := h.R.f5
  rw [hov] at f5
  have k6 := h.k6
  rw [hT.len] at k6
  have k8 := h.k8
  have fr := h.froK 8
  have hlK := h.lt.1
  have hlS := h.lt.2
  have hlf := cell_lt h.R.f0
  have hlm := h.map.lt
  have hlo := cell_lt o0
  have hiz : (i : Int) < (f.ops.length : Int) := by omega
  have hlook := shape_look op.name
  have HLOOK : Hid (∀ W : World, MapS W mb shapeE → (Instr.lookup 64 (.map (some mb)) (.string op.name) false).run Tryd.prog W = .ok (.agg #[.int .i64 (shT op.name), .int .i64 (shP op.name), .string (shK op.name)]) W) := fun W hW => by
    have := run_lookup_maps (P := Tryd.prog) (w := W) (Tryd.underlying64) (Tryd.underlying9) (z := .agg #[.int .i64 0, .int .i64 0, .string ⟨#[]⟩]) (by kernel_rfl) hW op.name false
    rw [hlook.1] at this
    exact this
  have hst_ : 0 ≤ shT op.name ∧ shT op.name ≤ 3 := shape_takes op.name
  have HST2 := hst_.2
  have HST1 := hst_.1
  clear hst_
  have hpu1 := hpu.1
  have hpu2 := hpu.2
  have h_put : putsP op = shP op.name := rfl
  have h_take : takesP op = shT op.name := by unfold takesP; rw [if_neg (by rw [hnm]; decide), if_neg (by rw [hnm]; decide), if_neg (by rw [hnm]; decide)]; try rfl
  have hfrees := hfr
  have HFR := Lib.hid hfrees
  have H := Lib.hid h
  have HT := Lib.hid hT
  have HRO := Lib.hid hro
  have HFIT := Lib.hid hfit'
  have HUN := Lib.hid hun
  have HOP := Lib.hid hop
  generalize hbase : baseP g.s x.2 = bs at *
  have HBASE := Lib.hid hbase
  obtain ⟨nm, ax⟩ := op
  obtain ⟨xh, xt⟩ := x
  have HNM := Lib.hid hnm
  clear hnm
  simp only at *
  clear h hfr hfrees hro hun hT hst0 hstep hoc hov hfit hfit' hlook hRES hop hbase
  go_enter Tryd.func45, Tryd.ntmps45
  go_upto_region 2 with fail
  obtain ⟨P4, hP4⟩ : ∃ P4, P4 = w.heap.size := ⟨_, rfl⟩
  obtain ⟨P5, hP5⟩ : ∃ P5, P5 = w.heap.size + 1 := ⟨_, rfl⟩
  refine namedW (fun w1 hw1 => ?_)
  have p40 : w1.cell? ⟨P4, 0, none⟩ = some (.bool true) := by rw [hw1, hP4]; simp [go_sem]
  have p41 : w1.cell? ⟨P4, 1, none⟩ = some (.int .i64 xh) := by rw [hw1, hP4]; simp [go_sem]
  have p42 : w1.cell? ⟨P4, 2, none⟩ = some (.slice sa xt.length sc) := by rw [hw1, hP4]; simp [go_sem]
  have p50 : w1.cell? ⟨P5, 0, none⟩ = some (.string nm) := by rw [hw1, hP5]; simp [go_sem]
  have p51 : w1.cell? ⟨P5, 1, none⟩ = some (.int .i64 ax) := by rw [hw1, hP5]; simp [go_sem]
  have hX1 : Ext w w1 := by rw [hw1]; exact ((Ext.refl w).alloc_ _).alloc_ _
  rw [← hP5, ← hP4]
  have hq5 := hX1.cell_ k5
  have hqm := H.out.map.ext hX1
  have hP4l : w.heap.size ≤ P4 := by omega
  have hP5l : w.heap.size ≤ P5 := by omega
  have HX1 := Lib.hid hX1
  have lP4 : P4 < w1.heap.size := cell_lt p40
  have lP5 : P5 < w1.heap.size := cell_lt p50
  clear hw1 hP4 hP5 hX1 s0 s1 s2 o0 o1
  refine wp_region_held_drew (S := fun W => W.cell? ⟨Kb, 5, none⟩ = some (.map (some mb)) ∧ MapS W mb shapeE ∧ W.cell? ⟨P5, 0, none⟩ = some (.string nm)) (by kernel_rfl) ?_ (fun hHeld => ?_)
  · exact ⟨hq5, hqm, p50⟩
  refine tk 0 ⟨some 27, _, _, _, _, _⟩ ?_ rfl ?_ ?_
  rotate_left
  · (intro w hSw; (try dsimp only at hSw); go_simp; try with_reducible rfl)
  try simp only [tkS]
  refine tk 1 ⟨some 28, _, _, _, _, _⟩ ?_ rfl ?_ ?_
  rotate_left
  · (intro w hSw; (try dsimp only at hSw); go_simp; try with_reducible rfl)
  try simp only [tkS]
  refine tk 2 ⟨some 29, _, _, _, _, _⟩ ?_ rfl ?_ ?_
  rotate_left
  · (intro w hSw; (try dsimp only at hSw); go_simp; try with_reducible rfl)
  try simp only [tkS]
  refine tk 3 ⟨some 30, _, _, _, _, _⟩ ?_ rfl ?_ ?_
  rotate_left
  · (intro w hSw; (try dsimp only at hSw); go_simp; try with_reducible rfl)
  try simp only [tkS]
  refine tk 4 ⟨some 31, _, _, _, _, _⟩ ?_ rfl ?_ ?_
  rotate_left
  · (intro w hSw; (try dsimp only at hSw); go_simp; try with_reducible rfl)
  try simp only [tkS]
  refine tk 5 ⟨some 32, _, _, _, _, _⟩ ?_ rfl ?_ ?_
  rotate_left
  · (intro w hSw; (try dsimp only at hSw); go_simp; try with_reducible rfl)
  try simp only [tkS]
  refine tk 6 ⟨some 33, _, _, _, _, _⟩ ?_ rfl ?_ ?_
  rotate_left
  · (intro w hSw; (try dsimp only at hSw); have hlk := HLOOK.out w hSw.2.1; go_simp; try with_reducible rfl)
  try simp only [tkS]
  refine wpAnyH_ready (rs := [7]) (by kernel_rfl) (by simp) ?_
  refine AllReadyH.cons (o := ⟨some 6, _, _, _, _, _⟩) rfl (fun K hK => ?_) AllReadyH.nil
  go_simp
  skip
  refine hK.out _ _ ?_ (fun hHeld => ?_)
  · (try dsimp only); exact ⟨(((Ext.refl _).alloc_ _).drew_).cell_ hq5, MapS.ext hqm (((Ext.refl _).alloc_ _).drew_), (((Ext.refl _).alloc_ _).drew_).cell_ p50⟩
  clear hK K
  try simp only [tkS]
  refine wpAnyH_ready (rs := [8]) (by kernel_rfl) (by simp) ?_
  refine AllReadyH.cons (o := ⟨none, _, _, _, _, _⟩) rfl (fun K hK => ?_) AllReadyH.nil
  go_simp
  skip
  refine hK.out _ _ ?_ (fun hHeld => ?_)
  · (try dsimp only); exact ⟨(((Ext.refl _).alloc_ _).drew_).cell_ hq5, MapS.ext hqm (((Ext.refl _).alloc_ _).drew_), (((Ext.refl _).alloc_ _).drew_).cell_ p50⟩
  clear hK K
  try simp only [tkS]
  refine wpAnyH_done (by kernel_rfl) ?_ _
  clear hHeld hq5 hqm k4 f5 k6
  obtain ⟨P6, hP6⟩ : ∃ P6, P6 = w1.heap.size := ⟨_, rfl⟩
  obtain ⟨w2, hw2⟩ : ∃ w2, w2 = (w1.alloc (.cells #[.int .i64 (shT nm), .int .i64 (shP nm), .string (shK nm)] 67)).drew := ⟨_, rfl⟩
  rw [← hP6, ← hw2]
  have p60 : w2.cell? ⟨P6, 0, none⟩ = some (.int .i64 (shT nm)) := by rw [hw2, hP6]; simp [go_sem]
  have p61 : w2.cell? ⟨P6, 1, none⟩ = some (.int .i64 (shP nm)) := by rw [hw2, hP6]; simp [go_sem]
  have hX2 : Ext w1 w2 := by rw [hw2]; exact ((Ext.refl w1).alloc_ _).drew_
  have p40 := hX2.cell_ p40
  have p41 := hX2.cell_ p41
  have p42 := hX2.cell_ p42
  have p50 := hX2.cell_ p50
  have p51 := hX2.cell_ p51
  have HX2 := Lib.hid (HX1.out.trans_ hX2)
  have lP4 : P4 < w2.heap.size := cell_lt p40
  have lP5 : P5 < w2.heap.size := cell_lt p50
  clear hw2 hP6 hX2 HX1
  go_upto_region 3 with fail
  go_region
  go_upto_region 11 with fail
  obtain ⟨w3, hw3⟩ : ∃ w3, w3 = w2.drew := ⟨_, rfl⟩
  rw [← hw3]
  have hX3 : Ext w2 w3 := by rw [hw3]; exact (Ext.refl _).drew_
  have p40 := hX3.cell_ p40
  have p41 := hX3.cell_ p41
  have p42 := hX3.cell_ p42
  have p50 := hX3.cell_ p50
  have p51 := hX3.cell_ p51
  have HX3 := Lib.hid (HX2.out.trans_ hX3)
  have lP4 : P4 < w3.heap.size := cell_lt p40
  have lP5 : P5 < w3.heap.size := cell_lt p50
  have hls3 := HX3.out.size
  have HKb : Hid (Kb < w3.heap.size) := by unfold Hid; omega
  clear hw3 hX3 HX2 p60 p61
  have e1 : IntKind.i64.wrap (xh - (shT nm)) = xh - (shT nm) := IntWalk.i64_in _ (by omega)
  have e2 : IntKind.i64.wrap (xh - (shT nm) + shP nm) = xh - (shT nm) + shP nm := IntWalk.i64_in _ (by omega)
  by_cases c1 : xh - (shT nm) < bs
  · have hd : decide (xh - (shT nm) < bs) = true := decide_eq_true c1
    obtain rfl := HLOW1.out (by omega)
    refine wp_region_held_drew (S := fun W => W.cell? ⟨P4, 0, none⟩ = some (.bool true) ∧ W.cell? ⟨P4, 1, none⟩ = some (.int .i64 xh) ∧ W.cell? ⟨P4, 2, none⟩ = some (.slice sa xt.length sc)) (by kernel_rfl) ?_ (fun hHeld => ?_)
    · exact ⟨p40, p41, p42⟩
    refine tk 0 ⟨some 55, _, _, _, _, _⟩ ?_ rfl ?_ ?_
    rotate_left
    · (intro w hSw; (try dsimp only at hSw); go_simp; try with_reducible rfl)
    try simp only [tkS]
    refine tk 1 ⟨some 56, _, _, _, _, _⟩ ?_ rfl ?_ ?_
    rotate_left
    · (intro w hSw; (try dsimp only at hSw); go_simp; try with_reducible rfl)
    try simp only [tkS]
    refine tk 2 ⟨some 57, _, _, _, _, _⟩ ?_ rfl ?_ ?_
    rotate_left
    · (intro w hSw; (try dsimp only at hSw); go_simp; try with_reducible rfl)
    try simp only [tkS]
    refine tk 3 ⟨some 58, _, _, _, _, _⟩ ?_ rfl ?_ ?_
    rotate_left
    · (intro w hSw; (try dsimp only at hSw); go_simp; try with_reducible rfl)
    try simp only [tkS]
    refine tk 4 ⟨some 59, _, _, _, _, _⟩ ?_ rfl ?_ ?_
    rotate_left
    · (intro w hSw; (try dsimp only at hSw); go_simp; try with_reducible rfl)
    try simp only [tkS]
    refine tk 5 ⟨some 60, _, _, _, _, _⟩ ?_ rfl ?_ ?_
    rotate_left
    · (intro w hSw; (try dsimp only at hSw); go_simp; try with_reducible rfl)
    try simp only [tkS]
    refine wpAnyH_ready (rs := [6]) (by kernel_rfl) (by simp) ?_
    refine AllReadyH.cons (o := ⟨some 61, _, _, _, _, _⟩) rfl (fun K hK => ?_) AllReadyH.nil
    go_simp
    refine (baseC_any B Kb sb mb c V f v fb fo tv g _ (H.out.ext (Ext.trans_ HX3.out (by first | exact Ext.refl _ | exact (Ext.refl _).drew_ | exact (Ext.refl _).drewN_ _))) HT.out h6 (xh, xt) HFIT.out true sa sc ((HRO.out.ext HX3.out).ext (by first | exact Ext.refl _ | exact (Ext.refl _).drew_ | exact (Ext.refl _).drewN_ _))).mono ?_
    rintro e w4 ⟨he, hE2⟩
    rw [HBASE.out] at he
    subst he
    have HX4 : Hid (Ext w3 w4) := Ext.trans_ (by first | exact Ext.refl _ | exact (Ext.refl _).drew_ | exact (Ext.refl _).drewN_ _) hE2
    clear hE2
    refine hK.out _ _ ?_ (fun hHeld => ?_)
    · (try dsimp only); exact ⟨HX4.out.cell_ p40, HX4.out.cell_ p41, HX4.out.cell_ p42⟩
    clear hK K
    try simp only [tkS]
    refine tk 7 ⟨some 62, _, _, _, _, _⟩ ?_ rfl ?_ ?_
    rotate_left
    · (intro w hSw; (try dsimp only at hSw); go_simp; try with_reducible rfl)
    try simp only [tkS]
    refine tk 8 ⟨some 63, _, _, _, _, _⟩ ?_ rfl ?_ ?_
    rotate_left
    · (intro w hSw; (try dsimp only at hSw); go_simp; try with_reducible rfl)
    try simp only [tkS]
    refine tn 9 ⟨some 64, _, _, _, _, _⟩ rfl ?_
    try simp only [tkS]
    refine tn 10 ⟨some 65, _, _, _, _, _⟩ rfl ?_
    try simp only [tkS]
    refine tn 11 ⟨some 66, _, _, _, _, _⟩ rfl ?_
    try simp only [tkS]
    refine tn 12 ⟨some 67, _, _, _, _, _⟩ rfl ?_
    try simp only [tkS]
    refine tn 13 ⟨some 68, _, _, _, _, _⟩ rfl ?_
    try simp only [tkS]
    refine tn 14 ⟨some 69, _, _, _, _, _⟩ rfl ?_
    try simp only [tkS]
    refine tn 15 ⟨some 70, _, _, _, _, _⟩ rfl ?_
    try simp only [tkS]
    refine tk 16 ⟨some 71, _, _, _, _, _⟩ ?_ rfl ?_ ?_
    rotate_left
    · (intro w hSw; (try dsimp only at hSw); go_simp; try with_reducible rfl)
    try simp only [tkS]
    refine wpAnyH_done (by kernel_rfl) ?_ _
    clear hHeld
    obtain ⟨w5, hw5⟩ : ∃ w5, w5 = w4 := ⟨_, rfl⟩
    rw [← hw5]
    have hX5 : Ext w3 w5 := by rw [hw5]; exact HX4.out
    have z8 := (HX3.out.trans_ hX5).cell_ k8
    have zf : w5.frozen? ⟨Kb, 8, none⟩ = false := by rw [(HX3.out.trans_ hX5).three.2.1 _ _ hlK]; exact fr
    have HX5 := Lib.hid (HX3.out.trans_ hX5)
    have hls5 := HX5.out.size
    clear hw5 hX5 HX4
    go_wp2
    go_end0
    exact ⟨rfl, tv, (H.out.ext HX5.out).bad false, (Keep.of_ext HX5.out).set_ (p := ⟨Kb, 8, none⟩) (Or.inl (Or.inl rfl)) _, fun k hk => Or.inl hk⟩
  · have hd : decide (xh - (shT nm) < bs) = false := decide_eq_false c1
    by_cases c2 : 1000 < xh - (shT nm) + shP nm
    · have hd2 : decide (1000 < xh - (shT nm) + shP nm) = true := decide_eq_true c2
      obtain rfl := HLOW2.out (by omega)
      refine wp_region_held_drew (S := fun W => W.cell? ⟨P4, 0, none⟩ = some (.bool true) ∧ W.cell? ⟨P4, 1, none⟩ = some (.int .i64 xh) ∧ W.cell? ⟨P4, 2, none⟩ = some (.slice sa xt.length sc)) (by kernel_rfl) ?_ (fun hHeld => ?_)
      · exact ⟨p40, p41, p42⟩
      refine tk 0 ⟨some 55, _, _, _, _, _⟩ ?_ rfl ?_ ?_
      rotate_left
      · (intro w hSw; (try dsimp only at hSw); go_simp; try with_reducible rfl)
      try simp only [tkS]
      refine tk 1 ⟨some 56, _, _, _, _, _⟩ ?_ rfl ?_ ?_
      rotate_left
      · (intro w hSw; (try dsimp only at hSw); go_simp; try with_reducible rfl)
      try simp only [tkS]
      refine tk 2 ⟨some 57, _, _, _, _, _⟩ ?_ rfl ?_ ?_
      rotate_left
      · (intro w hSw; (try dsimp only at hSw); go_simp; try with_reducible rfl)
      try simp only [tkS]
      refine tk 3 ⟨some 58, _, _, _, _, _⟩ ?_ rfl ?_ ?_
      rotate_left
      · (intro w hSw; (try dsimp only at hSw); go_simp; try with_reducible rfl)
      try simp only [tkS]
      refine tk 4 ⟨some 59, _, _, _, _, _⟩ ?_ rfl ?_ ?_
      rotate_left
      · (intro w hSw; (try dsimp only at hSw); go_simp; try with_reducible rfl)
      try simp only [tkS]
      refine tk 5 ⟨some 60, _, _, _, _, _⟩ ?_ rfl ?_ ?_
      rotate_left
      · (intro w hSw; (try dsimp only at hSw); go_simp; try with_reducible rfl)
      try simp only [tkS]
      refine wpAnyH_ready (rs := [6]) (by kernel_rfl) (by simp) ?_
      refine AllReadyH.cons (o := ⟨some 61, _, _, _, _, _⟩) rfl (fun K hK => ?_) AllReadyH.nil
      go_simp
      refine (baseC_any B Kb sb mb c V f v fb fo tv g _ (H.out.ext (Ext.trans_ HX3.out (by first | exact Ext.refl _ | exact (Ext.refl _).drew_ | exact (Ext.refl _).drewN_ _))) HT.out h6 (xh, xt) HFIT.out true sa sc ((HRO.out.ext HX3.out).ext (by first | exact Ext.refl _ | exact (Ext.refl _).drew_ | exact (Ext.refl _).drewN_ _))).mono ?_
      rintro e w4 ⟨he, hE2⟩
      rw [HBASE.out] at he
      subst he
      have HX4 : Hid (Ext w3 w4) := Ext.trans_ (by first | exact Ext.refl _ | exact (Ext.refl _).drew_ | exact (Ext.refl _).drewN_ _) hE2
      clear hE2
      refine hK.out _ _ ?_ (fun hHeld => ?_)
      · (try dsimp only); exact ⟨HX4.out.cell_ p40, HX4.out.cell_ p41, HX4.out.cell_ p42⟩
      clear hK K
      try simp only [tkS]
      refine tk 7 ⟨some 62, _, _, _, _, _⟩ ?_ rfl ?_ ?_
      rotate_left
      · (intro w hSw; (try dsimp only at hSw); go_simp; try with_reducible rfl)
      try simp only [tkS]
      refine tk 8 ⟨some 63, _, _, _, _, _⟩ ?_ rfl ?_ ?_
      rotate_left
      · (intro w hSw; (try dsimp only at hSw); go_simp; try with_reducible rfl)
      try simp only [tkS]
      refine tk 9 ⟨some 64, _, _, _, _, _⟩ ?_ rfl ?_ ?_
      rotate_left
      · (intro w hSw; (try dsimp only at hSw); go_simp; try with_reducible rfl)
      try simp only [tkS]
      refine tk 10 ⟨some 65, _, _, _, _, _⟩ ?_ rfl ?_ ?_
      rotate_left
      · (intro w hSw; (try dsimp only at hSw); go_simp; try with_reducible rfl)
      try simp only [tkS]
      refine tk 11 ⟨some 66, _, _, _, _, _⟩ ?_ rfl ?_ ?_
      rotate_left
      · (intro w hSw; (try dsimp only at hSw); go_simp; try with_reducible rfl)
      try simp only [tkS]
      refine tk 12 ⟨some 67, _, _, _, _, _⟩ ?_ rfl ?_ ?_
      rotate_left
      · (intro w hSw; (try dsimp only at hSw); go_simp; try with_reducible rfl)
      try simp only [tkS]
      refine tk 13 ⟨some 68, _, _, _, _, _⟩ ?_ rfl ?_ ?_
      rotate_left
      · (intro w hSw; (try dsimp only at hSw); go_simp; try with_reducible rfl)
      try simp only [tkS]
      refine tk 14 ⟨some 69, _, _, _, _, _⟩ ?_ rfl ?_ ?_
      rotate_left
      · (intro w hSw; (try dsimp only at hSw); go_simp; try with_reducible rfl)
      try simp only [tkS]
      refine tk 15 ⟨some 70, _, _, _, _, _⟩ ?_ rfl ?_ ?_
      rotate_left
      · (intro w hSw; (try dsimp only at hSw); go_simp; try with_reducible rfl)
      try simp only [tkS]
      refine tk 16 ⟨some 71, _, _, _, _, _⟩ ?_ rfl ?_ ?_
      rotate_left
      · (intro w hSw; (try dsimp only at hSw); go_simp; try with_reducible rfl)
      try simp only [tkS]
      refine wpAnyH_done (by kernel_rfl) ?_ _
      clear hHeld
      obtain ⟨w5, hw5⟩ : ∃ w5, w5 = w4 := ⟨_, rfl⟩
      rw [← hw5]
      have hX5 : Ext w3 w5 := by rw [hw5]; exact HX4.out
      have z8 := (HX3.out.trans_ hX5).cell_ k8
      have zf : w5.frozen? ⟨Kb, 8, none⟩ = false := by rw [(HX3.out.trans_ hX5).three.2.1 _ _ hlK]; exact fr
      have HX5 := Lib.hid (HX3.out.trans_ hX5)
      have hls5 := HX5.out.size
      clear hw5 hX5 HX4
      go_wp2
      go_end0
      exact ⟨rfl, tv, (H.out.ext HX5.out).bad false, (Keep.of_ext HX5.out).set_ (p := ⟨Kb, 8, none⟩) (Or.inl (Or.inl rfl)) _, fun k hk => Or.inl hk⟩
    · have hd2 : decide (1000 < xh - (shT nm) + shP nm) = false := decide_eq_false c2
      have HLOW := Lib.hid (HLOW3.out (by omega) (by omega))
      refine wp_region_held_drew (S := fun W => W.cell? ⟨P4, 0, none⟩ = some (.bool true) ∧ W.cell? ⟨P4, 1, none⟩ = some (.int .i64 xh) ∧ W.cell? ⟨P4, 2, none⟩ = some (.slice sa xt.length sc)) (by kernel_rfl) ?_ (fun hHeld => ?_)
      · exact ⟨p40, p41, p42⟩
      refine tk 0 ⟨some 55, _, _, _, _, _⟩ ?_ rfl ?_ ?_
      rotate_left
      · (intro w hSw; (try dsimp only at hSw); go_simp; try with_reducible rfl)
      try simp only [tkS]
      refine tk 1 ⟨some 56, _, _, _, _, _⟩ ?_ rfl ?_ ?_
      rotate_left
      · (intro w hSw; (try dsimp only at hSw); go_simp; try with_reducible rfl)
      try simp only [tkS]
      refine tk 2 ⟨some 57, _, _, _, _, _⟩ ?_ rfl ?_ ?_
      rotate_left
      · (intro w hSw; (try dsimp only at hSw); go_simp; try with_reducible rfl)
      try simp only [tkS]
      refine tk 3 ⟨some 58, _, _, _, _, _⟩ ?_ rfl ?_ ?_
      rotate_left
      · (intro w hSw; (try dsimp only at hSw); go_simp; try with_reducible rfl)
      try simp only [tkS]
      refine tk 4 ⟨some 59, _, _, _, _, _⟩ ?_ rfl ?_ ?_
      rotate_left
      · (intro w hSw; (try dsimp only at hSw); go_simp; try with_reducible rfl)
      try simp only [tkS]
      refine tk 5 ⟨some 60, _, _, _, _, _⟩ ?_ rfl ?_ ?_
      rotate_left
      · (intro w hSw; (try dsimp only at hSw); go_simp; try with_reducible rfl)
      try simp only [tkS]
      refine wpAnyH_ready (rs := [6]) (by kernel_rfl) (by simp) ?_
      refine AllReadyH.cons (o := ⟨some 61, _, _, _, _, _⟩) rfl (fun K hK => ?_) AllReadyH.nil
      go_simp
      refine (baseC_any B Kb sb mb c V f v fb fo tv g _ (H.out.ext (Ext.trans_ HX3.out (by first | exact Ext.refl _ | exact (Ext.refl _).drew_ | exact (Ext.refl _).drewN_ _))) HT.out h6 (xh, xt) HFIT.out true sa sc ((HRO.out.ext HX3.out).ext (by first | exact Ext.refl _ | exact (Ext.refl _).drew_ | exact (Ext.refl _).drewN_ _))).mono ?_
      rintro e w4 ⟨he, hE2⟩
      rw [HBASE.out] at he
      subst he
      have HX4 : Hid (Ext w3 w4) := Ext.trans_ (by first | exact Ext.refl _ | exact (Ext.refl _).drew_ | exact (Ext.refl _).drewN_ _) hE2
      clear hE2
      refine hK.out _ _ ?_ (fun hHeld => ?_)
      · (try dsimp only); exact ⟨HX4.out.cell_ p40, HX4.out.cell_ p41, HX4.out.cell_ p42⟩
      clear hK K
      try simp only [tkS]
      refine tk 7 ⟨some 62, _, _, _, _, _⟩ ?_ rfl ?_ ?_
      rotate_left
      · (intro w hSw; (try dsimp only at hSw); go_simp; try with_reducible rfl)
      try simp only [tkS]
      refine tk 8 ⟨some 63, _, _, _, _, _⟩ ?_ rfl ?_ ?_
      rotate_left
      · (intro w hSw; (try dsimp only at hSw); go_simp; try with_reducible rfl)
      try simp only [tkS]
      refine tk 9 ⟨some 64, _, _, _, _, _⟩ ?_ rfl ?_ ?_
      rotate_left
      · (intro w hSw; (try dsimp only at hSw); go_simp; try with_reducible rfl)
      try simp only [tkS]
      refine tk 10 ⟨some 65, _, _, _, _, _⟩ ?_ rfl ?_ ?_
      rotate_left
      · (intro w hSw; (try dsimp only at hSw); go_simp; try with_reducible rfl)
      try simp only [tkS]
      refine tk 11 ⟨some 66, _, _, _, _, _⟩ ?_ rfl ?_ ?_
      rotate_left
      · (intro w hSw; (try dsimp only at hSw); go_simp; try with_reducible rfl)
      try simp only [tkS]
      refine tk 12 ⟨some 67, _, _, _, _, _⟩ ?_ rfl ?_ ?_
      rotate_left
      · (intro w hSw; (try dsimp only at hSw); go_simp; try with_reducible rfl)
      try simp only [tkS]
      refine tk 13 ⟨some 68, _, _, _, _, _⟩ ?_ rfl ?_ ?_
      rotate_left
      · (intro w hSw; (try dsimp only at hSw); go_simp; try with_reducible rfl)
      try simp only [tkS]
      refine tk 14 ⟨some 69, _, _, _, _, _⟩ ?_ rfl ?_ ?_
      rotate_left
      · (intro w hSw; (try dsimp only at hSw); go_simp; try with_reducible rfl)
      try simp only [tkS]
      refine tk 15 ⟨some 70, _, _, _, _, _⟩ ?_ rfl ?_ ?_
      rotate_left
      · (intro w hSw; (try dsimp only at hSw); go_simp; try with_reducible rfl)
      try simp only [tkS]
      refine tk 16 ⟨some 71, _, _, _, _, _⟩ ?_ rfl ?_ ?_
      rotate_left
      · (intro w hSw; (try dsimp only at hSw); go_simp; try with_reducible rfl)
      try simp only [tkS]
      refine wpAnyH_done (by kernel_rfl) ?_ _
      clear HLOW1 HLOW2 HLOW3
      obtain ⟨q40, q41, q42⟩ := hHeld
      have q50 := HX4.out.cell_ p50
      have q51 := HX4.out.cell_ p51
      clear p40 p41 p42 p50 p51
      have hls4 := HX4.out.size
      have lP4 : P4 < w4.heap.size := by omega
      have lP5 : P5 < w4.heap.size := by omega
      go_upto_region 14 with fail
      obtain ⟨P9, hP9⟩ : ∃ P9, P9 = w4.heap.size := ⟨_, rfl⟩
      refine namedW (fun w5 hw5 => ?_)
      have hX5 : Ext w4 w5 := by rw [hw5]; exact (Ext.refl w4).alloc_ _
      have r90 : w5.cell? ⟨P9, 0, none⟩ = some (.bool true) := by rw [hw5, hP9]; simp [go_sem]
      have r91 : w5.cell? ⟨P9, 1, none⟩ = some (.int .i64 (xh - (shT nm) + shP nm)) := by rw [hw5, hP9]; simp [go_sem]
      have r92 : w5.cell? ⟨P9, 2, none⟩ = some (.slice sa xt.length sc) := by rw [hw5, hP9]; simp [go_sem]
      rw [← hP9]
      have r41 := hX5.cell_ q41
      have r42 := hX5.cell_ q42
      have r50 := hX5.cell_ q50
      have r51 := hX5.cell_ q51
      have HX5 := Lib.hid ((HX3.out.trans_ HX4.out).trans_ hX5)
      have hls5 := hX5.size
      have hP9l : w.heap.size ≤ P9 := by omega
      have lP4 : P4 < w5.heap.size := by omega
      have lP5 : P5 < w5.heap.size := by omega
      have lP9 : P9 < w5.heap.size := cell_lt r90
      clear hw5 hP9 hX5 q40 q41 q42 q50 q51
      have HOUT : Hid (outsP i ⟨nm, ax⟩ (xh, xt) = some [(ax, (xh - (shT nm) + shP nm, xt)), ((i : Int) + 1, (xh - (shT nm) + shP nm, xt))]) := by
        show outsP i ⟨nm, ax⟩ (xh, xt) = some _
        rw [outs_unless HNM.out]
        try simp only [h_put, h_take]
      have HF1 := Lib.hid (TallP.outs HT.out hi ⟨nm, ax⟩ HUN.out HLOW.out HOUT.out _ List.mem_cons_self)
      simp only at HF1
      have HT1 := Lib.hid (HT.out.come ax HF1.out).1
      go_upto_region 31 with (go_at_call 44; refine (comeC_any B Kb sb mb c V f v fb fo tv (g) _ (H.out.ext HX5.out) (HT.out) h6 _ (by omega) true (xh - (shT nm) + shP nm, xt) (by exact hxl) sa sc (HRO.out.ext HX5.out)).mono ?_; rintro e w6 ⟨rfl, tv6, ho6, hk6, hn6, hy6⟩; have HO6 := Lib.hid ho6; have HK6 := Lib.hid hk6; have HN6 := Lib.hid hn6; have HY6 := Lib.hid hy6; clear ho6 hk6 hn6 hy6)
      have HR6 := Lib.hid (RInts.keep_ (HRO.out.ext HX5.out) HFR.out (by omega) HK6.out)
      have s90 := HK6.out.cell (p := ⟨P9, 0, none⟩) (OwnC.new H.out hP9l) r90
      have s91 := HK6.out.cell (p := ⟨P9, 1, none⟩) (OwnC.new H.out hP9l) r91
      have s92 := HK6.out.cell (p := ⟨P9, 2, none⟩) (OwnC.new H.out hP9l) r92
      have s42 := HK6.out.cell (p := ⟨P4, 2, none⟩) (OwnC.new H.out hP4l) r42
      have hls6 := HK6.out.size
      clear r90 r91 r92 r41 r42 r50 r51
      go_wp2_with (go_at_call 44; refine (comeC_any B Kb sb mb c V f v fb fo tv6 (comeP f.ops.length g ax (xh - (shT nm) + shP nm, xt)) _ (HO6.out) (HT1.out) h6 _ (by omega) true (xh - (shT nm) + shP nm, xt) (by exact hxl) sa sc HR6.out).mono ?_; rintro e w7 ⟨rfl, tv7, ho7, hk7, hn7, hy7⟩; have HO7 := Lib.hid ho7; have HK7 := Lib.hid hk7; have HN7 := Lib.hid hn7; have HY7 := Lib.hid hy7; clear ho7 hk7 hn7 hy7)
      go_end0
      have hres : RES = comeP f.ops.length (comeP f.ops.length g ax (xh - (shT nm) + shP nm, xt)) ((i : Int) + 1) (xh - (shT nm) + shP nm, xt) := by rw [← HRES.out]; exact step_outs HLOW.out HOUT.out
      obtain ⟨z1, z2⟩ := ComeV.then_ ((Keep.of_ext HX5.out).then_ HK6.out fun k hk q => q) (fun k hk => (by rcases HN6.out k hk with q | q; exact Or.inl q; exact Or.inr (by omega))) HK7.out HN7.out
      exact ⟨rfl, tv7, by rw [hres]; exact HO7.out, z1, z2⟩
set_option maxRecDepth 100000 in
set_option maxHeartbeats 8000000 in
theorem step_next (B Kb sb mb : Nat) (c : CodeP) (V : CodeV) (f : FnP) (v : OpsV) (fb fo : Nat) (tv : Value) (g : GoP) (w : World) (h : OChk w B Kb sb mb c V f v fb fo tv g) (hT : TallP f.ops.length g) (h6 : f.ops.length ≤ 1000000)
    (i : Nat) (hi : i < f.ops.length) (x : StP) (hun : seenP g.s i = some x) (op : OpP) (hop : f.ops[i] = op) (a0 : 0 ≤ op.a) (a1 : op.a ≤ 1000000) (hnm : op.name = n_next) :
    Calls Tryd.prog 45 #[.pointer (some ⟨Kb, 0, none⟩), .int .i64 (i : Int)] w (StepV w B Kb sb mb c V f v fb fo tv (stepP f.ops.length (stepsP f.ops i) x g)) := by
  have t0 : (op.name.toList == [99, 97, 108, 108]) = false := by rw [hnm]; decide +kernel
  have t1 : (op.name.toList == [108, 105, 115, 116]) = false := by rw [hnm]; decide +kernel
  have t2 : (op.name.toList == [100, 105, 99, 116]) = false := by rw [hnm]; decide +kernel
  have t3 : (op.name.toList == [114, 101, 116, 117, 114, 110]) = false := by rw [hnm]; decide +kernel
  have t4 : (op.name.toList == [104, 97, 108, 116]) = false := by rw [hnm]; decide +kernel
  have t5 : (op.name.toList == [114, 97, 105, 115, 101]) = false := by rw [hnm]; decide +kernel
  have t6 : (op.name.toList == [106, 117, 109, 112]) = false := by rw [hnm]; decide +kernel
  have t7 : (op.name.toList == [117, 110, 108, 101, 115, 115]) = false := by rw [hnm]; decide +kernel
  have t8 : (op.name.toList == [110, 101, 120, 116]) = true := by rw [hnm]; decide +kernel
  have t9 : (op.name.toList == [116, 114, 121]) = false := by rw [hnm]; decide +kernel
  have t10 : (op.name.toList == [101, 110, 100]) = false := by rw [hnm]; decide +kernel
  have hst0 : i < g.s.length := by rw [hT.len]; exact hi
  have hfit := hT.fits i x hun
  have hpu := shape_puts op
  have htk := takes_in op a0 a1
  have hbs := hT.base x.2
  have hlenx := hfit.len
  have hsl := seens_le g.s
  rw [hT.len] at hsl
  have hxlo := hfit.lo
  have hxhi := hfit.hi
  have hstep : stepsP f.ops i = ⟨takesP op, putsP op, outsP i op⟩ := by
    have : opAt f.ops i = op := by unfold opAt; rw [List.getD_eq_getElem?_getD, List.getElem?_eq_getElem hi, ← hop]; rfl
    unfold stepsP; rw [this]
  rw [hstep]
  have HLOW1 : Hid (x.1 - takesP op < baseP g.s x.2 → stepP f.ops.length ⟨takesP op, putsP op, outsP i op⟩ x g = { g with ok := false }) := fun q => step_low (low1 q)
  have HLOW2 : Hid (1000 < x.1 - takesP op + putsP op → stepP f.ops.length ⟨takesP op, putsP op, outsP i op⟩ x g = { g with ok := false }) := fun q => step_low (low2 q)
  have HLOW3 : Hid (¬ x.1 - takesP op < baseP g.s x.2 → ¬ 1000 < x.1 - takesP op + putsP op → lowP g.s ⟨takesP op, putsP op, outsP i op⟩ x = false) := fun q r => low3 q r
  generalize hRES : stepP f.ops.length ⟨takesP op, putsP op, outsP i op⟩ x g = RES at HLOW1 HLOW2 ⊢
  have HRES := Lib.hid hRES
  have HSTEP := Lib.hid hstep
  obtain ⟨sa, sc, hst, hfr⟩ := h.st i hst0
  rw [hun] at hst
  obtain ⟨s0, s1, s2, hro⟩ := hst
  simp only [Option.isSome_some, Option.map_some, Option.getD_some] at s0 s1 s2 hro
  have hxl : x.2.length ≤ 1000000 := by omega
  have hfit' : FitsP f.ops.length (seensP g.s) x := hfit.mono (by omega)
  have hoc := opCells_at f.ops i hi
  rw [hop] at hoc
  obtain ⟨ob, oo, hov, o0⟩ := h.ops _ _ hoc.1
  have o1r := h.ops
  rw [hov] at o1r
  have o1 := o1r.at_ hoc.2
  clear o1r
  rw [← Nat.add_assoc] at o1
  have k4 := h.R.kf
  have k5 := h.k5
  have f5 := h.R.f5
  rw [hov] at f5
  have k6 := h.k6
  rw [hT.len] at k6
  have k8 := h.k8
  have fr := h.froK 8
  have hlK := h.lt.1
  have hlS := h.lt.2
  have hlf := cell_lt h.R.f0
  have hlm := h.map.lt
  have hlo := cell_lt o0
  have hiz : (i : Int) < (f.ops.length : Int) := by omega
  have hlook := shape_look op.name
  have HLOOK : Hid (∀ W : World, MapS W mb shapeE → (Instr.lookup 64 (.map (some mb)) (.string op.name) false).run Tryd.prog W = .ok (.agg #[.int .i64 (shT op.name), .int .i64 (shP op.name), .string (shK op.name)]) W) := fun W hW => by
    have := run_lookup_maps (P := Tryd.prog) (w := W) (Tryd.underlying64) (Tryd.underlying9) (z := .agg #[.int .i64 0, .int .i64 0, .string ⟨#[]⟩]) (by kernel_rfl) hW op.name false
    rw [hlook.1] at this
    exact this
  have hst_ : 0 ≤ shT op.name ∧ shT op.name ≤ 3 := shape_takes op.name
  have HST2 := hst_.2
  have HST1 := hst_.1
  clear hst_
  have hpu1 := hpu.1
  have hpu2 := hpu.2
  have h_put : putsP op = shP op.name := rfl
  have h_take : takesP op = shT op.name := by unfold takesP; rw [if_neg (by rw [hnm]; decide), if_neg (by rw [hnm]; decide), if_neg (by rw [hnm]; decide)]; try rfl
  have hfrees := hfr
  have HFR := Lib.hid hfrees
  have H := Lib.hid h
  have HT := Lib.hid hT
  have HRO := Lib.hid hro
  have HFIT := Lib.hid hfit'
  have HUN := Lib.hid hun
  have HOP := Lib.hid hop
  generalize hbase : baseP g.s x.2 = bs at *
  have HBASE := Lib.hid hbase
  obtain ⟨nm, ax⟩ := op
  obtain ⟨xh, xt⟩ := x
  have HNM := Lib.hid hnm
  clear hnm
  simp only at *
  clear h hfr hfrees hro hun hT hst0 hstep hoc hov hfit hfit' hlook hRES hop hbase
  go_enter Tryd.func45, Tryd.ntmps45
  go_upto_region 2 with fail
  obtain ⟨P4, hP4⟩ : ∃ P4, P4 = w.heap.size := ⟨_, rfl⟩
  obtain ⟨P5, hP5⟩ : ∃ P5, P5 = w.heap.size + 1 := ⟨_, rfl⟩
  refine namedW (fun w1 hw1 => ?_)
  have p40 : w1.cell? ⟨P4, 0, none⟩ = some (.bool true) := by rw [hw1, hP4]; simp [go_sem]
  have p41 : w1.cell? ⟨P4, 1, none⟩ = some (.int .i64 xh) := by rw [hw1, hP4]; simp [go_sem]
  have p42 : w1.cell? ⟨P4, 2, none⟩ = some (.slice sa xt.length sc) := by rw [hw1, hP4]; simp [go_sem]
  have p50 : w1.cell? ⟨P5, 0, none⟩ = some (.string nm) := by rw [hw1, hP5]; simp [go_sem]
  have p51 : w1.cell? ⟨P5, 1, none⟩ = some (.int .i64 ax) := by rw [hw1, hP5]; simp [go_sem]
  have hX1 : Ext w w1 := by rw [hw1]; exact ((Ext.refl w).alloc_ _).alloc_ _
  rw [← hP5, ← hP4]
  have hq5 := hX1.cell_ k5
  have hqm := H.out.map.ext hX1
  have hP4l : w.heap.size ≤ P4 := by omega
  have hP5l : w.heap.size ≤ P5 := by omega
  have HX1 := Lib.hid hX1
  have lP4 : P4 < w1.heap.size := cell_lt p40
  have lP5 : P5 < w1.heap.size := cell_lt p50
  clear hw1 hP4 hP5 hX1 s0 s1 s2 o0 o1
  refine wp_region_held_drew (S := fun W => W.cell? ⟨Kb, 5, none⟩ = some (.map (some mb)) ∧ MapS W mb shapeE ∧ W.cell? ⟨P5, 0, none⟩ = some (.string nm)) (by kernel_rfl) ?_ (fun hHeld => ?_)
  · exact ⟨hq5, hqm, p50⟩
  refine tk 0 ⟨some 27, _, _, _, _, _⟩ ?_ rfl ?_ ?_
  rotate_left
  · (intro w hSw; (try dsimp only at hSw); go_simp; try with_reducible rfl)
  try simp only [tkS]
  refine tk 1 ⟨some 28, _, _, _, _, _⟩ ?_ rfl ?_ ?_
  rotate_left
  · (intro w hSw; (try dsimp only at hSw); go_simp; try with_reducible rfl)
  try simp only [tkS]
  refine tk 2 ⟨some 29, _, _, _, _, _⟩ ?_ rfl ?_ ?_
  rotate_left
  · (intro w hSw; (try dsimp only at hSw); go_simp; try with_reducible rfl)
  try simp only [tkS]
  refine tk 3 ⟨some 30, _, _, _, _, _⟩ ?_ rfl ?_ ?_
  rotate_left
  · (intro w hSw; (try dsimp only at hSw); go_simp; try with_reducible rfl)
  try simp only [tkS]
  refine tk 4 ⟨some 31, _, _, _, _, _⟩ ?_ rfl ?_ ?_
  rotate_left
  · (intro w hSw; (try dsimp only at hSw); go_simp; try with_reducible rfl)
  try simp only [tkS]
  refine tk 5 ⟨some 32, _, _, _, _, _⟩ ?_ rfl ?_ ?_
  rotate_left
  · (intro w hSw; (try dsimp only at hSw); go_simp; try with_reducible rfl)
  try simp only [tkS]
  refine tk 6 ⟨some 33, _, _, _, _, _⟩ ?_ rfl ?_ ?_
  rotate_left
  · (intro w hSw; (try dsimp only at hSw); have hlk := HLOOK.out w hSw.2.1; go_simp; try with_reducible rfl)
  try simp only [tkS]
  refine wpAnyH_ready (rs := [7]) (by kernel_rfl) (by simp) ?_
  refine AllReadyH.cons (o := ⟨some 6, _, _, _, _, _⟩) rfl (fun K hK => ?_) AllReadyH.nil
  go_simp
  skip
  refine hK.out _ _ ?_ (fun hHeld => ?_)
  · (try dsimp only); exact ⟨(((Ext.refl _).alloc_ _).drew_).cell_ hq5, MapS.ext hqm (((Ext.refl _).alloc_ _).drew_), (((Ext.refl _).alloc_ _).drew_).cell_ p50⟩
  clear hK K
  try simp only [tkS]
  refine wpAnyH_ready (rs := [8]) (by kernel_rfl) (by simp) ?_
  refine AllReadyH.cons (o := ⟨none, _, _, _, _, _⟩) rfl (fun K hK => ?_) AllReadyH.nil
  go_simp
  skip
  refine hK.out _ _ ?_ (fun hHeld => ?_)
  · (try dsimp only); exact ⟨(((Ext.refl _).alloc_ _).drew_).cell_ hq5, MapS.ext hqm (((Ext.refl _).alloc_ _).drew_), (((Ext.refl _).alloc_ _).drew_).cell_ p50⟩
  clear hK K
  try simp only [tkS]
  refine wpAnyH_done (by kernel_rfl) ?_ _
  clear hHeld hq5 hqm k4 f5 k6
  obtain ⟨P6, hP6⟩ : ∃ P6, P6 = w1.heap.size := ⟨_, rfl⟩
  obtain ⟨w2, hw2⟩ : ∃ w2, w2 = (w1.alloc (.cells #[.int .i64 (shT nm), .int .i64 (shP nm), .string (shK nm)] 67)).drew := ⟨_, rfl⟩
  rw [← hP6, ← hw2]
  have p60 : w2.cell? ⟨P6, 0, none⟩ = some (.int .i64 (shT nm)) := by rw [hw2, hP6]; simp [go_sem]
  have p61 : w2.cell? ⟨P6, 1, none⟩ = some (.int .i64 (shP nm)) := by rw [hw2, hP6]; simp [go_sem]
  have hX2 : Ext w1 w2 := by rw [hw2]; exact ((Ext.refl w1).alloc_ _).drew_
  have p40 := hX2.cell_ p40
  have p41 := hX2.cell_ p41
  have p42 := hX2.cell_ p42
  have p50 := hX2.cell_ p50
  have p51 := hX2.cell_ p51
  have HX2 := Lib.hid (HX1.out.trans_ hX2)
  have lP4 : P4 < w2.heap.size := cell_lt p40
  have lP5 : P5 < w2.heap.size := cell_lt p50
  clear hw2 hP6 hX2 HX1
  go_upto_region 3 with fail
  go_region
  go_upto_region 11 with fail
  obtain ⟨w3, hw3⟩ : ∃ w3, w3 = w2.drew := ⟨_, rfl⟩
  rw [← hw3]
  have hX3 : Ext w2 w3 := by rw [hw3]; exact (Ext.refl _).drew_
  have p40 := hX3.cell_ p40
  have p41 := hX3.cell_ p41
  have p42 := hX3.cell_ p42
  have p50 := hX3.cell_ p50
  have p51 := hX3.cell_ p51
  have HX3 := Lib.hid (HX2.out.trans_ hX3)
  have lP4 : P4 < w3.heap.size := cell_lt p40
  have lP5 : P5 < w3.heap.size := cell_lt p50
  have hls3 := HX3.out.size
  have HKb : Hid (Kb < w3.heap.size) := by unfold Hid; omega
  clear hw3 hX3 HX2 p60 p61
  have e1 : IntKind.i64.wrap (xh - (shT nm)) = xh - (shT nm) := IntWalk.i64_in _ (by omega)
  have e2 : IntKind.i64.wrap (xh - (shT nm) + shP nm) = xh - (shT nm) + shP nm := IntWalk.i64_in _ (by omega)
  by_cases c1 : xh - (shT nm) < bs
  · have hd : decide (xh - (shT nm) < bs) = true := decide_eq_true c1
    obtain rfl := HLOW1.out (by omega)
    refine wp_region_held_drew (S := fun W => W.cell? ⟨P4, 0, none⟩ = some (.bool true) ∧ W.cell? ⟨P4, 1, none⟩ = some (.int .i64 xh) ∧ W.cell? ⟨P4, 2, none⟩ = some (.slice sa xt.length sc)) (by kernel_rfl) ?_ (fun hHeld => ?_)
    · exact ⟨p40, p41, p42⟩
    refine tk 0 ⟨some 55, _, _, _, _, _⟩ ?_ rfl ?_ ?_
    rotate_left
    · (intro w hSw; (try dsimp only at hSw); go_simp; try with_reducible rfl)
    try simp only [tkS]
    refine tk 1 ⟨some 56, _, _, _, _, _⟩ ?_ rfl ?_ ?_
    rotate_left
    · (intro w hSw; (try dsimp only at hSw); go_simp; try with_reducible rfl)
    try simp only [tkS]
    refine tk 2 ⟨some 57, _, _, _, _, _⟩ ?_ rfl ?_ ?_
    rotate_left
    · (intro w hSw; (try dsimp only at hSw); go_simp; try with_reducible rfl)
    try simp only [tkS]
    refine tk 3 ⟨some 58, _, _, _, _, _⟩ ?_ rfl ?_ ?_
    rotate_left
    · (intro w hSw; (try dsimp only at hSw); go_simp; try with_reducible rfl)
    try simp only [tkS]
    refine tk 4 ⟨some 59, _, _, _, _, _⟩ ?_ rfl ?_ ?_
    rotate_left
    · (intro w hSw; (try dsimp only at hSw); go_simp; try with_reducible rfl)
    try simp only [tkS]
    refine tk 5 ⟨some 60, _, _, _, _, _⟩ ?_ rfl ?_ ?_
    rotate_left
    · (intro w hSw; (try dsimp only at hSw); go_simp; try with_reducible rfl)
    try simp only [tkS]
    refine wpAnyH_ready (rs := [6]) (by kernel_rfl) (by simp) ?_
    refine AllReadyH.cons (o := ⟨some 61, _, _, _, _, _⟩) rfl (fun K hK => ?_) AllReadyH.nil
    go_simp
    refine (baseC_any B Kb sb mb c V f v fb fo tv g _ (H.out.ext (Ext.trans_ HX3.out (by first | exact Ext.refl _ | exact (Ext.refl _).drew_ | exact (Ext.refl _).drewN_ _))) HT.out h6 (xh, xt) HFIT.out true sa sc ((HRO.out.ext HX3.out).ext (by first | exact Ext.refl _ | exact (Ext.refl _).drew_ | exact (Ext.refl _).drewN_ _))).mono ?_
    rintro e w4 ⟨he, hE2⟩
    rw [HBASE.out] at he
    subst he
    have HX4 : Hid (Ext w3 w4) := Ext.trans_ (by first | exact Ext.refl _ | exact (Ext.refl _).drew_ | exact (Ext.refl _).drewN_ _) hE2
    clear hE2
    refine hK.out _ _ ?_ (fun hHeld => ?_)
    · (try dsimp only); exact ⟨HX4.out.cell_ p40, HX4.out.cell_ p41, HX4.out.cell_ p42⟩
    clear hK K
    try simp only [tkS]
    refine tk 7 ⟨some 62, _, _, _, _, _⟩ ?_ rfl ?_ ?_
    rotate_left
    · (intro w hSw; (try dsimp only at hSw); go_simp; try with_reducible rfl)
    try simp only [tkS]
    refine tk 8 ⟨some 63, _, _, _, _, _⟩ ?_ rfl ?_ ?_
    rotate_left
    · (intro w hSw; (try dsimp only at hSw); go_simp; try with_reducible rfl)
    try simp only [tkS]
    refine tn 9 ⟨some 64, _, _, _, _, _⟩ rfl ?_
    try simp only [tkS]
    refine tn 10 ⟨some 65, _, _, _, _, _⟩ rfl ?_
    try simp only [tkS]
    refine tn 11 ⟨some 66, _, _, _, _, _⟩ rfl ?_
    try simp only [tkS]
    refine tn 12 ⟨some 67, _, _, _, _, _⟩ rfl ?_
    try simp only [tkS]
    refine tn 13 ⟨some 68, _, _, _, _, _⟩ rfl ?_
    try simp only [tkS]
    refine tn 14 ⟨some 69, _, _, _, _, _⟩ rfl ?_
    try simp only [tkS]
    refine tn 15 ⟨some 70, _, _, _, _, _⟩ rfl ?_
    try simp only [tkS]
    refine tk 16 ⟨some 71, _, _, _, _, _⟩ ?_ rfl ?_ ?_
    rotate_left
    · (intro w hSw; (try dsimp only at hSw); go_simp; try with_reducible rfl)
    try simp only [tkS]
    refine wpAnyH_done (by kernel_rfl) ?_ _
    clear hHeld
    obtain ⟨w5, hw5⟩ : ∃ w5, w5 = w4 := ⟨_, rfl⟩
    rw [← hw5]
    have hX5 : Ext w3 w5 := by rw [hw5]; exact HX4.out
    have z8 := (HX3.out.trans_ hX5).cell_ k8
    have zf : w5.frozen? ⟨Kb, 8, none⟩ = false := by rw [(HX3.out.trans_ hX5).three.2.1 _ _ hlK]; exact fr
    have HX5 := Lib.hid (HX3.out.trans_ hX5)
    have hls5 := HX5.out.size
    clear hw5 hX5 HX4
    go_wp2
    go_end0
    exact ⟨rfl, tv, (H.out.ext HX5.out).bad false, (Keep.of_ext HX5.out).set_ (p := ⟨Kb, 8, none⟩) (Or.inl (Or.inl rfl)) _, fun k hk => Or.inl hk⟩
  · have hd : decide (xh - (shT nm) < bs) = false := decide_eq_false c1
    by_cases c2 : 1000 < xh - (shT nm) + shP nm
    · have hd2 : decide (1000 < xh - (shT nm) + shP nm) = true := decide_eq_true c2
      obtain rfl := HLOW2.out (by omega)
      refine wp_region_held_drew (S := fun W => W.cell? ⟨P4, 0, none⟩ = some (.bool true) ∧ W.cell? ⟨P4, 1, none⟩ = some (.int .i64 xh) ∧ W.cell? ⟨P4, 2, none⟩ = some (.slice sa xt.length sc)) (by kernel_rfl) ?_ (fun hHeld => ?_)
      · exact ⟨p40, p41, p42⟩
      refine tk 0 ⟨some 55, _, _, _, _, _⟩ ?_ rfl ?_ ?_
      rotate_left
      · (intro w hSw; (try dsimp only at hSw); go_simp; try with_reducible rfl)
      try simp only [tkS]
      refine tk 1 ⟨some 56, _, _, _, _, _⟩ ?_ rfl ?_ ?_
      rotate_left
      · (intro w hSw; (try dsimp only at hSw); go_simp; try with_reducible rfl)
      try simp only [tkS]
      refine tk 2 ⟨some 57, _, _, _, _, _⟩ ?_ rfl ?_ ?_
      rotate_left
      · (intro w hSw; (try dsimp only at hSw); go_simp; try with_reducible rfl)
      try simp only [tkS]
      refine tk 3 ⟨some 58, _, _, _, _, _⟩ ?_ rfl ?_ ?_
      rotate_left
      · (intro w hSw; (try dsimp only at hSw); go_simp; try with_reducible rfl)
      try simp only [tkS]
      refine tk 4 ⟨some 59, _, _, _, _, _⟩ ?_ rfl ?_ ?_
      rotate_left
      · (intro w hSw; (try dsimp only at hSw); go_simp; try with_reducible rfl)
      try simp only [tkS]
      refine tk 5 ⟨some 60, _, _, _, _, _⟩ ?_ rfl ?_ ?_
      rotate_left
      · (intro w hSw; (try dsimp only at hSw); go_simp; try with_reducible rfl)
      try simp only [tkS]
      refine wpAnyH_ready (rs := [6]) (by kernel_rfl) (by simp) ?_
      refine AllReadyH.cons (o := ⟨some 61, _, _, _, _, _⟩) rfl (fun K hK => ?_) AllReadyH.nil
      go_simp
      refine (baseC_any B Kb sb mb c V f v fb fo tv g _ (H.out.ext (Ext.trans_ HX3.out (by first | exact Ext.refl _ | exact (Ext.refl _).drew_ | exact (Ext.refl _).drewN_ _))) HT.out h6 (xh, xt) HFIT.out true sa sc ((HRO.out.ext HX3.out).ext (by first | exact Ext.refl _ | exact (Ext.refl _).drew_ | exact (Ext.refl _).drewN_ _))).mono ?_
      rintro e w4 ⟨he, hE2⟩
      rw [HBASE.out] at he
      subst he
      have HX4 : Hid (Ext w3 w4) := Ext.trans_ (by first | exact Ext.refl _ | exact (Ext.refl _).drew_ | exact (Ext.refl _).drewN_ _) hE2
      clear hE2
      refine hK.out _ _ ?_ (fun hHeld => ?_)
      · (try dsimp only); exact ⟨HX4.out.cell_ p40, HX4.out.cell_ p41, HX4.out.cell_ p42⟩
      clear hK K
      try simp only [tkS]
      refine tk 7 ⟨some 62, _, _, _, _, _⟩ ?_ rfl ?_ ?_
      rotate_left
      · (intro w hSw; (try dsimp only at hSw); go_simp; try with_reducible rfl)
      try simp only [tkS]
      refine tk 8 ⟨some 63, _, _, _, _, _⟩ ?_ rfl ?_ ?_
      rotate_left
      · (intro w hSw; (try dsimp only at hSw); go_simp; try with_reducible rfl)
      try simp only [tkS]
      refine tk 9 ⟨some 64, _, _, _, _, _⟩ ?_ rfl ?_ ?_
      rotate_left
      · (intro w hSw; (try dsimp only at hSw); go_simp; try with_reducible rfl)
      try simp only [tkS]
      refine tk 10 ⟨some 65, _, _, _, _, _⟩ ?_ rfl ?_ ?_
      rotate_left
      · (intro w hSw; (try dsimp only at hSw); go_simp; try with_reducible rfl)
      try simp only [tkS]
      refine tk 11 ⟨some 66, _, _, _, _, _⟩ ?_ rfl ?_ ?_
      rotate_left
      · (intro w hSw; (try dsimp only at hSw); go_simp; try with_reducible rfl)
      try simp only [tkS]
      refine tk 12 ⟨some 67, _, _, _, _, _⟩ ?_ rfl ?_ ?_
      rotate_left
      · (intro w hSw; (try dsimp only at hSw); go_simp; try with_reducible rfl)
      try simp only [tkS]
      refine tk 13 ⟨some 68, _, _, _, _, _⟩ ?_ rfl ?_ ?_
      rotate_left
      · (intro w hSw; (try dsimp only at hSw); go_simp; try with_reducible rfl)
      try simp only [tkS]
      refine tk 14 ⟨some 69, _, _, _, _, _⟩ ?_ rfl ?_ ?_
      rotate_left
      · (intro w hSw; (try dsimp only at hSw); go_simp; try with_reducible rfl)
      try simp only [tkS]
      refine tk 15 ⟨some 70, _, _, _, _, _⟩ ?_ rfl ?_ ?_
      rotate_left
      · (intro w hSw; (try dsimp only at hSw); go_simp; try with_reducible rfl)
      try simp only [tkS]
      refine tk 16 ⟨some 71, _, _, _, _, _⟩ ?_ rfl ?_ ?_
      rotate_left
      · (intro w hSw; (try dsimp only at hSw); go_simp; try with_reducible rfl)
      try simp only [tkS]
      refine wpAnyH_done (by kernel_rfl) ?_ _
      clear hHeld
      obtain ⟨w5, hw5⟩ : ∃ w5, w5 = w4 := ⟨_, rfl⟩
      rw [← hw5]
      have hX5 : Ext w3 w5 := by rw [hw5]; exact HX4.out
      have z8 := (HX3.out.trans_ hX5).cell_ k8
      have zf : w5.frozen? ⟨Kb, 8, none⟩ = false := by rw [(HX3.out.trans_ hX5).three.2.1 _ _ hlK]; exact fr
      have HX5 := Lib.hid (HX3.out.trans_ hX5)
      have hls5 := HX5.out.size
      clear hw5 hX5 HX4
      go_wp2
      go_end0
      exact ⟨rfl, tv, (H.out.ext HX5.out).bad false, (Keep.of_ext HX5.out).set_ (p := ⟨Kb, 8, none⟩) (Or.inl (Or.inl rfl)) _, fun k hk => Or.inl hk⟩
    · have hd2 : decide (1000 < xh - (shT nm) + shP nm) = false := decide_eq_false c2
      have HLOW := Lib.hid (HLOW3.out (by omega) (by omega))
      refine wp_region_held_drew (S := fun W => W.cell? ⟨P4, 0, none⟩ = some (.bool true) ∧ W.cell? ⟨P4, 1, none⟩ = some (.int .i64 xh) ∧ W.cell? ⟨P4, 2, none⟩ = some (.slice sa xt.length sc)) (by kernel_rfl) ?_ (fun hHeld => ?_)
      · exact ⟨p40, p41, p42⟩
      refine tk 0 ⟨some 55, _, _, _, _, _⟩ ?_ rfl ?_ ?_
      rotate_left
      · (intro w hSw; (try dsimp only at hSw); go_simp; try with_reducible rfl)
      try simp only [tkS]
      refine tk 1 ⟨some 56, _, _, _, _, _⟩ ?_ rfl ?_ ?_
      rotate_left
      · (intro w hSw; (try dsimp only at hSw); go_simp; try with_reducible rfl)
      try simp only [tkS]
      refine tk 2 ⟨some 57, _, _, _, _, _⟩ ?_ rfl ?_ ?_
      rotate_left
      · (intro w hSw; (try dsimp only at hSw); go_simp; try with_reducible rfl)
      try simp only [tkS]
      refine tk 3 ⟨some 58, _, _, _, _, _⟩ ?_ rfl ?_ ?_
      rotate_left
      · (intro w hSw; (try dsimp only at hSw); go_simp; try with_reducible rfl)
      try simp only [tkS]
      refine tk 4 ⟨some 59, _, _, _, _, _⟩ ?_ rfl ?_ ?_
      rotate_left
      · (intro w hSw; (try dsimp only at hSw); go_simp; try with_reducible rfl)
      try simp only [tkS]
      refine tk 5 ⟨some 60, _, _, _, _, _⟩ ?_ rfl ?_ ?_
      rotate_left
      · (intro w hSw; (try dsimp only at hSw); go_simp; try with_reducible rfl)
      try simp only [tkS]
      refine wpAnyH_ready (rs := [6]) (by kernel_rfl) (by simp) ?_
      refine AllReadyH.cons (o := ⟨some 61, _, _, _, _, _⟩) rfl (fun K hK => ?_) AllReadyH.nil
      go_simp
      refine (baseC_any B Kb sb mb c V f v fb fo tv g _ (H.out.ext (Ext.trans_ HX3.out (by first | exact Ext.refl _ | exact (Ext.refl _).drew_ | exact (Ext.refl _).drewN_ _))) HT.out h6 (xh, xt) HFIT.out true sa sc ((HRO.out.ext HX3.out).ext (by first | exact Ext.refl _ | exact (Ext.refl _).drew_ | exact (Ext.refl _).drewN_ _))).mono ?_
      rintro e w4 ⟨he, hE2⟩
      rw [HBASE.out] at he
      subst he
      have HX4 : Hid (Ext w3 w4) := Ext.trans_ (by first | exact Ext.refl _ | exact (Ext.refl _).drew_ | exact (Ext.refl _).drewN_ _) hE2
      clear hE2
      refine hK.out _ _ ?_ (fun hHeld => ?_)
      · (try dsimp only); exact ⟨HX4.out.cell_ p40, HX4.out.cell_ p41, HX4.out.cell_ p42⟩
      clear hK K
      try simp only [tkS]
      refine tk 7 ⟨some 62, _, _, _, _, _⟩ ?_ rfl ?_ ?_
      rotate_left
      · (intro w hSw; (try dsimp only at hSw); go_simp; try with_reducible rfl)
      try simp only [tkS]
      refine tk 8 ⟨some 63, _, _, _, _, _⟩ ?_ rfl ?_ ?_
      rotate_left
      · (intro w hSw; (try dsimp only at hSw); go_simp; try with_reducible rfl)
      try simp only [tkS]
      refine tk 9 ⟨some 64, _, _, _, _, _⟩ ?_ rfl ?_ ?_
      rotate_left
      · (intro w hSw; (try dsimp only at hSw); go_simp; try with_reducible rfl)
      try simp only [tkS]
      refine tk 10 ⟨some 65, _, _, _, _, _⟩ ?_ rfl ?_ ?_
      rotate_left
      · (intro w hSw; (try dsimp only at hSw); go_simp; try with_reducible rfl)
      try simp only [tkS]
      refine tk 11 ⟨some 66, _, _, _, _, _⟩ ?_ rfl ?_ ?_
      rotate_left
      · (intro w hSw; (try dsimp only at hSw); go_simp; try with_reducible rfl)
      try simp only [tkS]
      refine tk 12 ⟨some 67, _, _, _, _, _⟩ ?_ rfl ?_ ?_
      rotate_left
      · (intro w hSw; (try dsimp only at hSw); go_simp; try with_reducible rfl)
      try simp only [tkS]
      refine tk 13 ⟨some 68, _, _, _, _, _⟩ ?_ rfl ?_ ?_
      rotate_left
      · (intro w hSw; (try dsimp only at hSw); go_simp; try with_reducible rfl)
      try simp only [tkS]
      refine tk 14 ⟨some 69, _, _, _, _, _⟩ ?_ rfl ?_ ?_
      rotate_left
      · (intro w hSw; (try dsimp only at hSw); go_simp; try with_reducible rfl)
      try simp only [tkS]
      refine tk 15 ⟨some 70, _, _, _, _, _⟩ ?_ rfl ?_ ?_
      rotate_left
      · (intro w hSw; (try dsimp only at hSw); go_simp; try with_reducible rfl)
      try simp only [tkS]
      refine tk 16 ⟨some 71, _, _, _, _, _⟩ ?_ rfl ?_ ?_
      rotate_left
      · (intro w hSw; (try dsimp only at hSw); go_simp; try with_reducible rfl)
      try simp only [tkS]
      refine wpAnyH_done (by kernel_rfl) ?_ _
      clear HLOW1 HLOW2 HLOW3
      obtain ⟨q40, q41, q42⟩ := hHeld
      have q50 := HX4.out.cell_ p50
      have q51 := HX4.out.cell_ p51
      clear p40 p41 p42 p50 p51
      have hls4 := HX4.out.size
      have lP4 : P4 < w4.heap.size := by omega
      have lP5 : P5 < w4.heap.size := by omega
      go_upto_region 14 with fail
      obtain ⟨P9, hP9⟩ : ∃ P9, P9 = w4.heap.size := ⟨_, rfl⟩
      refine namedW (fun w5 hw5 => ?_)
      have hX5 : Ext w4 w5 := by rw [hw5]; exact (Ext.refl w4).alloc_ _
      have r90 : w5.cell? ⟨P9, 0, none⟩ = some (.bool true) := by rw [hw5, hP9]; simp [go_sem]
      have r91 : w5.cell? ⟨P9, 1, none⟩ = some (.int .i64 (xh - (shT nm) + shP nm)) := by rw [hw5, hP9]; simp [go_sem]
      have r92 : w5.cell? ⟨P9, 2, none⟩ = some (.slice sa xt.length sc) := by rw [hw5, hP9]; simp [go_sem]
      rw [← hP9]
      have r41 := hX5.cell_ q41
      have r42 := hX5.cell_ q42
      have r50 := hX5.cell_ q50
      have r51 := hX5.cell_ q51
      have HX5 := Lib.hid ((HX3.out.trans_ HX4.out).trans_ hX5)
      have hls5 := hX5.size
      have hP9l : w.heap.size ≤ P9 := by omega
      have lP4 : P4 < w5.heap.size := by omega
      have lP5 : P5 < w5.heap.size := by omega
      have lP9 : P9 < w5.heap.size := cell_lt r90
      clear hw5 hP9 hX5 q40 q41 q42 q50 q51
      have HOUT : Hid (outsP i ⟨nm, ax⟩ (xh, xt) = some [(ax, (xh - 1, xt)), ((i : Int) + 1, (xh - (shT nm) + shP nm, xt))]) := by
        show outsP i ⟨nm, ax⟩ (xh, xt) = some _
        rw [outs_next HNM.out]
        try simp only [h_put, h_take]
      have e3 : IntKind.i64.wrap (xh - 1) = xh - 1 := IntWalk.i64_in _ (by omega)
      have HF1 := Lib.hid (TallP.outs HT.out hi ⟨nm, ax⟩ HUN.out HLOW.out HOUT.out _ List.mem_cons_self)
      simp only at HF1
      have HT1 := Lib.hid (HT.out.come ax HF1.out).1
      go_upto_region 31 with (go_at_call 44; refine (comeC_any B Kb sb mb c V f v fb fo tv (g) _ (H.out.ext HX5.out) (HT.out) h6 _ (by omega) true (xh - 1, xt) (by exact hxl) sa sc (HRO.out.ext HX5.out)).mono ?_; rintro e w6 ⟨rfl, tv6, ho6, hk6, hn6, hy6⟩; have HO6 := Lib.hid ho6; have HK6 := Lib.hid hk6; have HN6 := Lib.hid hn6; have HY6 := Lib.hid hy6; clear ho6 hk6 hn6 hy6)
      have HR6 := Lib.hid (RInts.keep_ (HRO.out.ext HX5.out) HFR.out (by omega) HK6.out)
      have s90 := HK6.out.cell (p := ⟨P9, 0, none⟩) (OwnC.new H.out hP9l) r90
      have s91 := HK6.out.cell (p := ⟨P9, 1, none⟩) (OwnC.new H.out hP9l) r91
      have s92 := HK6.out.cell (p := ⟨P9, 2, none⟩) (OwnC.new H.out hP9l) r92
      have s42 := HK6.out.cell (p := ⟨P4, 2, none⟩) (OwnC.new H.out hP4l) r42
      have hls6 := HK6.out.size
      clear r90 r91 r92 r41 r42 r50 r51
      go_wp2_with (go_at_call 44; refine (comeC_any B Kb sb mb c V f v fb fo tv6 (comeP f.ops.length g ax (xh - 1, xt)) _ (HO6.out) (HT1.out) h6 _ (by omega) true (xh - (shT nm) + shP nm, xt) (by exact hxl) sa sc HR6.out).mono ?_; rintro e w7 ⟨rfl, tv7, ho7, hk7, hn7, hy7⟩; have HO7 := Lib.hid ho7; have HK7 := Lib.hid hk7; have HN7 := Lib.hid hn7; have HY7 := Lib.hid hy7; clear ho7 hk7 hn7 hy7)
      go_end0
      have hres : RES = comeP f.ops.length (comeP f.ops.length g ax (xh - 1, xt)) ((i : Int) + 1) (xh - (shT nm) + shP nm, xt) := by rw [← HRES.out]; exact step_outs HLOW.out HOUT.out
      obtain ⟨z1, z2⟩ := ComeV.then_ ((Keep.of_ext HX5.out).then_ HK6.out fun k hk q => q) (fun k hk => (by rcases HN6.out k hk with q | q; exact Or.inl q; exact Or.inr (by omega))) HK7.out HN7.out
      exact ⟨rfl, tv7, by rw [hres]; exact HO7.out, z1, z2⟩
end Go.Proofs.YtgjjkllngopboaaDoor
