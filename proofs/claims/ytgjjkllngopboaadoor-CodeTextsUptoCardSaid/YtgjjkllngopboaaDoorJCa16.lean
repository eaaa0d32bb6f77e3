/- The walk of the checker's step. -/
import Derived.Test.YtgjjkllngopboaaDoorJCa08
namespace Go.Proofs.YtgjjkllngopboaaDoor
open Go.RowKit
set_option linter.unusedVariables false
set_option linter.unusedSimpArgs false

set_option maxRecDepth 100000 in
set_option maxHeartbeats 8000000 in
theorem step_try (B Kb sb mb : Nat) (c : CodeP) (V : CodeV) (f : FnP) (v : OpsV) (fb fo : Nat) (tv : Value) (g : GoP) (w : World) (h : OChk w B Kb sb mb c V f v fb fo tv g) (hT : TallP f.ops.length g) (h6 : f.ops.length ≤ 1000000)
    (i : Nat) (hi : i < f.ops.length) (x : StP) (hun : seenP g.s i = some x) (op : OpP) (hop : f.ops[i] = op) (a0 : 0 ≤ op.a) (a1 : op.a ≤ 1000000) (hnm : op.name = n_try) :
    Calls Tryd.prog 45 #[.pointer (some ⟨Kb, 0, none⟩), .int .i64 (i : Int)] w (StepV w B Kb sb mb c V f v fb fo tv (stepP f.ops.length (stepsP f.ops i) x g)) := by
  have t0 : (op.name.toList == [99, 97, 108, 108]) = false := by rw [hnm]; decide +kernel
  have t1 : (op.name.toList == [108, 105, 115, 116]) = false := by rw [hnm]; decide +kernel
  have t2 : (op.name.toList == [100, 105, 99, 116]) = false := by rw [hnm]; decide +kernel
  have t3 : (op.name.toList == [114, 101, 116, 117, 114, 110]) = false := by rw [hnm]; decide +kernel
  have t4 : (op.name.toList == [104, 97, 108, 116]) = false := by rw [hnm]; decide +kernel
  have t5 : (op.name.toList == [114, 97, 105, 115, 101]) = false := by rw [hnm]; decide +kernel
  have t6 : (op.name.toList == [106, 117, 109, 112]) = false := by rw [hnm]; decide +kernel
  have t7 : (op.name.toList == [117, 110, 108, 101, 115, 115]) = false := by rw [hnm]; decide +kernel
  have t8 : (op.name.toList == [110, 101, 120, 116]) = false := by rw [hnm]; decide +kernel
  have t9 : (op.name.toList == [116, 114, 121]) = true := by rw [hnm]; decide +kernel
  have t10 : (op.name.toList == [101, 110, 100]) = false := by rw [hnm]; decide +kernel
  have hst0 : i < g.s.length := by rw [hT.len]; exact hi
  have hfit := hT.fits i x hun
  have hpu := shape_puts op
  have htk := takes_in op a0 a1
  have hbs := hT.base x.2
  have hlenx := hfit.len
  have hsl := seens_le g.s
  rw [hT.len] at hsl
  have hxlo := hfit.lo
  have hxhi := hfit.hi
  have hstep : stepsP f.ops i = ⟨takesP op, putsP op, outsP i op⟩ := by
    have : opAt f.ops i = op := by unfold opAt; rw [List.getD_eq_getElem?_getD, List.getElem?_eq_getElem hi, ← hop]; rfl
    unfold stepsP; rw [this]
  rw [hstep]
  have HLOW1 : Hid (x.1 - takesP op < baseP g.s x.2 → stepP f.ops.length ⟨takesP op, putsP op, outsP i op⟩ x g = { g with ok := false }) := fun q => step_low (low1 q)
  have HLOW2 : Hid (1000 < x.1 - takesP op + putsP op → stepP f.ops.length ⟨takesP op, putsP op, outsP i op⟩ x g = { g with ok := false }) := fun q => step_low (low2 q)
  have HLOW3 : Hid (¬ x.1 - takesP op < baseP g.s x.2 → ¬ 1000 < x.1 - takesP op + putsP op → lowP g.s ⟨takesP op, putsP op, outsP i op⟩ x = false) := fun q r => low3 q r
  generalize hRES : stepP f.ops.length ⟨takesP op, putsP op, outsP i op⟩ x g = RES at HLOW1 HLOW2 ⊢
  have HRES := Lib.hid hRES
  have HSTEP := Lib.hid hstep
  obtain ⟨sa, sc, hst, hfr⟩ := h.st i hst0
  rw [hun] at hst
  obtain ⟨s0, s1, s2, hro⟩ := hst
  simp only [Option.isSome_some, Option.map_some, Option.getD_some] at s0 s1 s2 hro
  have hxl : x.2.length ≤ 1000000 := by omega
  have hfit' : FitsP f.ops.length (seensP g.s) x := hfit.mono (by omega)
  have hoc := opCells_at f.ops i hi
  rw [hop] at hoc
  obtain ⟨ob, oo, hov, o0⟩ := h.ops _ _ hoc.1
  have o1r := h.ops
  rw [hov] at o1r
  have o1 := o1r.at_ hoc.2
  clear o1r
  rw [← Nat.add_assoc] at o1
  have k4 := h.R.kf
  have k5 := h.k5
  have f5 := h.R.f5
  rw [hov] at f5
  have k6 := h.k6
  rw [hT.len] at k6
  have k8 := h.k8
  have fr := h.froK 8
  have hlK := h.lt.1
  have hlS := h.lt.2
  have hlf := cell_lt h.R.f0
  have hlm := h.map.lt
  have hlo := cell_lt o0
  have hiz : (i : Int) < (f.ops.length : Int) := by omega
  have hlook := shape_look op.name
  have HLOOK : Hid (∀ W : World, MapS W mb shapeE → (Instr.lookup 64 (.map (some mb)) (.string op.name) false).run Tryd.prog W = .ok (.agg #[.int .i64 (shT op.name), .int .i64 (shP op.name), .string (shK op.name)]) W) := fun W hW => by
    have := run_lookup_maps (P := Tryd.prog) (w := W) (Tryd.underlying64) (Tryd.underlying9) (z := .agg #[.int .i64 0, .int .i64 0, .string ⟨#[]⟩]) (by kernel_rfl) hW op.name false
    rw [hlook.1] at this
    exact this
  have hst_ : 0 ≤ shT op.name ∧ shT op.name ≤ 3 := shape_takes op.name
  have HST2 := hst_.2
  have HST1 := hst_.1
  clear hst_
  have hpu1 := hpu.1
  have hpu2 := hpu.2
  have h_put : putsP op = shP op.name := rfl
  have h_take : takesP op = shT op.name := by unfold takesP; rw [if_neg (by rw [hnm]; decide), if_neg (by rw [hnm]; decide), if_neg (by rw [hnm]; decide)]; try rfl
  have hfrees := hfr
  have HFR := Lib.hid hfrees
  have H := Lib.hid h
  have HT := Lib.hid hT
  have HRO := Lib.hid hro
  have HFIT := Lib.hid hfit'
  have HUN := Lib.hid hun
  have HOP := Lib.hid hop
  generalize hbase : baseP g.s x.2 = bs at *
  have HBASE := Lib.hid hbase
  obtain ⟨nm, ax⟩ := op
  obtain ⟨xh, xt⟩ := x
  have HNM := Lib.hid hnm
  clear hnm
  simp only at *
  clear h hfr hfrees hro hun hT hst0 hstep hoc hov hfit hfit' hlook hRES hop hbase
  go_enter Tryd.func45, Tryd.ntmps45
  go_upto_region 2 with fail
  obtain ⟨P4, hP4⟩ : ∃ P4, P4 = w.heap.size := ⟨_, rfl⟩
  obtain ⟨P5, hP5⟩ : ∃ P5, P5 = w.heap.size + 1 := ⟨_, rfl⟩
  refine namedW (fun w1 hw1 => ?_)
  have p40 : w1.cell? ⟨P4, 0, none⟩ = some (.bool true) := by rw [hw1, hP4]; simp [go_sem]
  have p41 : w1.cell? ⟨P4, 1, none⟩ = some (.int .i64 xh) := by rw [hw1, hP4]; simp [go_sem]
  have p42 : w1.cell? ⟨P4, 2, none⟩ = some (.slice sa xt.length sc) := by rw [hw1, hP4]; simp [go_sem]
  have p50 : w1.cell? ⟨P5, 0, none⟩ = some (.string nm) := by rw [hw1, hP5]; simp [go_sem]
  have p51 : w1.cell? ⟨P5, 1, none⟩ = some (.int .i64 ax) := by rw [hw1, hP5]; simp [go_sem]
  have hX1 : Ext w w1 := by rw [hw1]; exact ((Ext.refl w).alloc_ _).alloc_ _
  rw [← hP5, ← hP4]
  have hq5 := hX1.cell_ k5
  have hqm := H.out.map.ext hX1
  have hP4l : w.heap.size ≤ P4 := by omega
  have hP5l : w.heap.size ≤ P5 := by omega
  have HX1 := Lib.hid hX1
  have lP4 : P4 < w1.heap.size := cell_lt p40
  have lP5 : P5 < w1.heap.size := cell_lt p50
  clear hw1 hP4 hP5 hX1 s0 s1 s2 o0 o1
  refine wp_region_held_drew (S := fun W => W.cell? ⟨Kb, 5, none⟩ = some (.map (some mb)) ∧ MapS W mb shapeE ∧ W.cell? ⟨P5, 0, none⟩ = some (.string nm)) (by kernel_rfl) ?_ (fun hHeld => ?_)
  · exact ⟨hq5, hqm, p50⟩
  refine tk 0 ⟨some 27, _, _, _, _, _⟩ ?_ rfl ?_ ?_
  rotate_left
  · (intro w hSw; (try dsimp only at hSw); go_simp; try with_reducible rfl)
  try simp only [tkS]
  refine tk 1 ⟨some 28, _, _, _, _, _⟩ ?_ rfl ?_ ?_
  rotate_left
  · (intro w hSw; (try dsimp only at hSw); go_simp; try with_reducible rfl)
  try simp only [tkS]
  refine tk 2 ⟨some 29, _, _, _, _, _⟩ ?_ rfl ?_ ?_
  rotate_left
  · (intro w hSw; (try dsimp only at hSw); go_simp; try with_reducible rfl)
  try simp only [tkS]
  refine tk 3 ⟨some 30, _, _, _, _, _⟩ ?_ rfl ?_ ?_
  rotate_left
  · (intro w hSw; (try dsimp only at hSw); go_simp; try with_reducible rfl)
  try simp only [tkS]
  refine tk 4 ⟨some 31, _, _, _, _, _⟩ ?_ rfl ?_ ?_
  rotate_left
  · (intro w hSw; (try dsimp only at hSw); go_simp; try with_reducible rfl)
  try simp only [tkS]
  refine tk 5 ⟨some 32, _, _, _, _, _⟩ ?_ rfl ?_ ?_
  rotate_left
  · (intro w hSw; (try dsimp only at hSw); go_simp; try with_reducible rfl)
  try simp only [tkS]
  refine tk 6 ⟨some 33, _, _, _, _, _⟩ ?_ rfl ?_ ?_
  rotate_left
  · (intro w hSw; (try dsimp only at hSw); have hlk := HLOOK.out w hSw.2.1; go_simp; try with_reducible rfl)
  try simp only [tkS]
  refine wpAnyH_ready (rs := [7]) (by kernel_rfl) (by simp) ?_
  refine AllReadyH.cons (o := ⟨some 6, _, _, _, _, _⟩) rfl (fun K hK => ?_) AllReadyH.nil
  go_simp
  skip
  refine hK.out _ _ ?_ (fun hHeld => ?_)
  · (try dsimp only); exact ⟨(((Ext.refl _).alloc_ _).drew_).cell_ hq5, MapS.ext hqm (((Ext.refl _).alloc_ _).drew_), (((Ext.refl _).alloc_ _).drew_).cell_ p50⟩
  clear hK K
  try simp only [tkS]
  refine wpAnyH_ready (rs := [8]) (by kernel_rfl) (by simp) ?_
  refine AllReadyH.cons (o := ⟨none, _, _, _, _, _⟩) rfl (fun K hK => ?_) AllReadyH.nil
  go_simp
  skip
  refine hK.out _ _ ?_ (fun hHeld => ?_)
  · (try dsimp only); exact ⟨(((Ext.refl _).alloc_ _).drew_).cell_ hq5, MapS.ext hqm (((Ext.refl _).alloc_ _).drew_), (((Ext.refl _).alloc_ _).drew_).cell_ p50⟩
  clear hK K
  try simp only [tkS]
  refine wpAnyH_done (by kernel_rfl) ?_ _
  clear hHeld hq5 hqm k4 f5 k6
  obtain ⟨P6, hP6⟩ : ∃ P6, P6 = w1.heap.size := ⟨_, rfl⟩
  obtain ⟨w2, hw2⟩ : ∃ w2, w2 = (w1.alloc (.cells #[.int .i64 (shT nm), .int .i64 (shP nm), .string (shK nm)] 67)).drew := ⟨_, rfl⟩
  rw [← hP6, ← hw2]
  have p60 : w2.cell? ⟨P6, 0, none⟩ = some (.int .i64 (shT nm)) := by rw [hw2, hP6]; simp [go_sem]
  have p61 : w2.cell? ⟨P6, 1, none⟩ = some (.int .i64 (shP nm)) := by rw [hw2, hP6]; simp [go_sem]
  have hX2 : Ext w1 w2 := by rw [hw2]; exact ((Ext.refl w1).alloc_ _).drew_
  have p40 := hX2.cell_ p40
  have p41 := hX2.cell_ p41
  have p42 := hX2.cell_ p42
  have p50 := hX2.cell_ p50
  have p51 := hX2.cell_ p51
  have HX2 := Lib.hid (HX1.out.trans_ hX2)
  have lP4 : P4 < w2.heap.size := cell_lt p40
  have lP5 : P5 < w2.heap.size := cell_lt p50
  clear hw2 hP6 hX2 HX1
  go_upto_region 3 with fail
  go_region
  go_upto_region 11 with fail
  obtain ⟨w3, hw3⟩ : ∃ w3, w3 = w2.drew := ⟨_, rfl⟩
  rw [← hw3]
  have hX3 : Ext w2 w3 := by rw [hw3]; exact (Ext.refl _).drew_
  have p40 := hX3.cell_ p40
  have p41 := hX3.cell_ p41
  have p42 := hX3.cell_ p42
  have p50 := hX3.cell_ p50
  have p51 := hX3.cell_ p51
  have HX3 := Lib.hid (HX2.out.trans_ hX3)
  have lP4 : P4 < w3.heap.size := cell_lt p40
  have lP5 : P5 < w3.heap.size := cell_lt p50
  have hls3 := HX3.out.size
  have HKb : Hid (Kb < w3.heap.size) := by unfold Hid; omega
  clear hw3 hX3 HX2 p60 p61
  have e1 : IntKind.i64.wrap (xh - (shT nm)) = xh - (shT nm) := IntWalk.i64_in _ (by omega)
  have e2 : IntKind.i64.wrap (xh - (shT nm) + shP nm) = xh - (shT nm) + shP nm := IntWalk.i64_in _ (by omega)
  by_cases c1 : xh - (shT nm) < bs
  · have hd : decide (xh - (shT nm) < bs) = true := decide_eq_true c1
    obtain rfl := HLOW1.out (by omega)
    refine wp_region_held_drew (S := fun W => W.cell? ⟨P4, 0, none⟩ = some (.bool true) ∧ W.cell? ⟨P4, 1, none⟩ = some (.int .i64 xh) ∧ W.cell? ⟨P4, 2, none⟩ = some (.slice sa xt.length sc)) (by kernel_rfl) ?_ (fun hHeld => ?_)
    · exact ⟨p40, p41, p42⟩
    refine tk 0 ⟨some 55, _, _, _, _, _⟩ ?_ rfl ?_ ?_
    rotate_left
    · (intro w hSw; (try dsimp only at hSw); go_simp; try with_reducible rfl)
    try simp only [tkS]
    refine tk 1 ⟨some 56, _, _, _, _, _⟩ ?_ rfl ?_ ?_
    rotate_left
    · (intro w hSw; (try dsimp only at hSw); go_simp; try with_reducible rfl)
    try simp only [tkS]
    refine tk 2 ⟨some 57, _, _, _, _, _⟩ ?_ rfl ?_ ?_
    rotate_left
    · (intro w hSw; (try dsimp only at hSw); go_simp; try with_reducible rfl)
    try simp only [tkS]
    refine tk 3 ⟨some 58, _, _, _, _, _⟩ ?_ rfl ?_ ?_
    rotate_left
    · (intro w hSw; (try dsimp only at hSw); go_simp; try with_reducible rfl)
    try simp only [tkS]
    refine tk 4 ⟨some 59, _, _, _, _, _⟩ ?_ rfl ?_ ?_
    rotate_left
    · (intro w hSw; (try dsimp only at hSw); go_simp; try with_reducible rfl)
    try simp only [tkS]
    refine tk 5 ⟨some 60, _, _, _, _, _⟩ ?_ rfl ?_ ?_
    rotate_left
    · (intro w hSw; (try dsimp only at hSw); go_simp; try with_reducible rfl)
    try simp only [tkS]
    refine wpAnyH_ready (rs := [6]) (by kernel_rfl) (by simp) ?_
    refine AllReadyH.cons (o := ⟨some 61, _, _, _, _, _⟩) rfl (fun K hK => ?_) AllReadyH.nil
    go_simp
    refine (baseC_any B Kb sb mb c V f v fb fo tv g _ (H.out.ext (Ext.trans_ HX3.out (by first | exact Ext.refl _ | exact (Ext.refl _).drew_ | exact (Ext.refl _).drewN_ _))) HT.out h6 (xh, xt) HFIT.out true sa sc ((HRO.out.ext HX3.out).ext (by first | exact Ext.refl _ | exact (Ext.refl _).drew_ | exact (Ext.refl _).drewN_ _))).mono ?_
    rintro e w4 ⟨he, hE2⟩
    rw [HBASE.out] at he
    subst he
    have HX4 : Hid (Ext w3 w4) := Ext.trans_ (by first | exact Ext.refl _ | exact (Ext.refl _).drew_ | exact (Ext.refl _).drewN_ _) hE2
    clear hE2
    refine hK.out _ _ ?_ (fun hHeld => ?_)
    · (try dsimp only); exact ⟨HX4.out.cell_ p40, HX4.out.cell_ p41, HX4.out.cell_ p42⟩
    clear hK K
    try simp only [tkS]
    refine tk 7 ⟨some 62, _, _, _, _, _⟩ ?_ rfl ?_ ?_
    rotate_left
    · (intro w hSw; (try dsimp only at hSw); go_simp; try with_reducible rfl)
    try simp only [tkS]
    refine tk 8 ⟨some 63, _, _, _, _, _⟩ ?_ rfl ?_ ?_
    rotate_left
    · (intro w hSw; (try dsimp only at hSw); go_simp; try with_reducible rfl)
    try simp only [tkS]
    refine tn 9 ⟨some 64, _, _, _, _, _⟩ rfl ?_
    try simp only [tkS]
    refine tn 10 ⟨some 65, _, _, _, _, _⟩ rfl ?_
    try simp only [tkS]
    refine tn 11 ⟨some 66, _, _, _, _, _⟩ rfl ?_
    try simp only [tkS]
    refine tn 12 ⟨some 67, _, _, _, _, _⟩ rfl ?_
    try simp only [tkS]
    refine tn 13 ⟨some 68, _, _, _, _, _⟩ rfl ?_
    try simp only [tkS]
    refine tn 14 ⟨some 69, _, _, _, _, _⟩ rfl ?_
    try simp only [tkS]
    refine tn 15 ⟨some 70, _, _, _, _, _⟩ rfl ?_
    try simp only [tkS]
    refine tk 16 ⟨some 71, _, _, _, _, _⟩ ?_ rfl ?_ ?_
    rotate_left
    · (intro w hSw; (try dsimp only at hSw); go_simp; try with_reducible rfl)
    try simp only [tkS]
    refine wpAnyH_done (by kernel_rfl) ?_ _
    clear hHeld
    obtain ⟨w5, hw5⟩ : ∃ w5, w5 = w4 := ⟨_, rfl⟩
    rw [← hw5]
    have hX5 : Ext w3 w5 := by rw [hw5]; exact HX4.out
    have z8 := (HX3.out.trans_ hX5).cell_ k8
    have zf : w5.frozen? ⟨Kb, 8, none⟩ = false := by rw [(HX3.out.trans_ hX5).three.2.1 _ _ hlK]; exact fr
    have HX5 := Lib.hid (HX3.out.trans_ hX5)
    have hls5 := HX5.out.size
    clear hw5 hX5 HX4
    go_wp2
    go_end0
    exact ⟨rfl, tv, (H.out.ext HX5.out).bad false, (Keep.of_ext HX5.out).set_ (p := ⟨Kb, 8, none⟩) (Or.inl (Or.inl rfl)) _, fun k hk => Or.inl hk⟩
  · have hd : decide (xh - (shT nm) < bs) = false := decide_eq_false c1
    by_cases c2 : 1000 < xh - (shT nm) + shP nm
    · have hd2 : decide (1000 < xh - (shT nm) + shP nm) = true := decide_eq_true c2
      obtain rfl := HLOW2.out (by omega)
      refine wp_region_held_drew (S := fun W => W.cell? ⟨P4, 0, none⟩ = some (.bool true) ∧ W.cell? ⟨P4, 1, none⟩ = some (.int .i64 xh) ∧ W.cell? ⟨P4, 2, none⟩ = some (.slice sa xt.length sc)) (by kernel_rfl) ?_ (fun hHeld => ?_)
      · exact ⟨p40, p41, p42⟩
      refine tk 0 ⟨some 55, _, _, _, _, _⟩ ?_ rfl ?_ ?_
      rotate_left
      · (intro w hSw; (try dsimp only at hSw); go_simp; try with_reducible rfl)
      try simp only [tkS]
      refine tk 1 ⟨some 56, _, _, _, _, _⟩ ?_ rfl ?_ ?_
      rotate_left
      · (intro w hSw; (try dsimp only at hSw); go_simp; try with_reducible rfl)
      try simp only [tkS]
      refine tk 2 ⟨some 57, _, _, _, _, _⟩ ?_ rfl ?_ ?_
      rotate_left
      · (intro w hSw; (try dsimp only at hSw); go_simp; try with_reducible rfl)
      try simp only [tkS]
      refine tk 3 ⟨some 58, _, _, _, _, _⟩ ?_ rfl ?_ ?_
      rotate_left
      · (intro w hSw; (try dsimp only at hSw); go_simp; try with_reducible rfl)
      try simp only [tkS]
      refine tk 4 ⟨some 59, _, _, _, _, _⟩ ?_ rfl ?_ ?_
      rotate_left
      · (intro w hSw; (try dsimp only at hSw); go_simp; try with_reducible rfl)
      try simp only [tkS]
      refine tk 5 ⟨some 60, _, _, _, _, _⟩ ?_ rfl ?_ ?_
      rotate_left
      · (intro w hSw; (try dsimp only at hSw); go_simp; try with_reducible rfl)
      try simp only [tkS]
      refine wpAnyH_ready (rs := [6]) (by kernel_rfl) (by simp) ?_
      refine AllReadyH.cons (o := ⟨some 61, _, _, _, _, _⟩) rfl (fun K hK => ?_) AllReadyH.nil
      go_simp
      refine (baseC_any B Kb sb mb c V f v fb fo tv g _ (H.out.ext (Ext.trans_ HX3.out (by first | exact Ext.refl _ | exact (Ext.refl _).drew_ | exact (Ext.refl _).drewN_ _))) HT.out h6 (xh, xt) HFIT.out true sa sc ((HRO.out.ext HX3.out).ext (by first | exact Ext.refl _ | exact (Ext.refl _).drew_ | exact (Ext.refl _).drewN_ _))).mono ?_
      rintro e w4 ⟨he, hE2⟩
      rw [HBASE.out] at he
      subst he
      have HX4 : Hid (Ext w3 w4) := Ext.trans_ (by first | exact Ext.refl _ | exact (Ext.refl _).drew_ | exact (Ext.refl _).drewN_ _) hE2
      clear hE2
      refine hK.out _ _ ?_ (fun hHeld => ?_)
      · (try dsimp only); exact ⟨HX4.out.cell_ p40, HX4.out.cell_ p41, HX4.out.cell_ p42⟩
      clear hK K
      try simp only [tkS]
      refine tk 7 ⟨some 62, _, _, _, _, _⟩ ?_ rfl ?_ ?_
      rotate_left
      · (intro w hSw; (try dsimp only at hSw); go_simp; try with_reducible rfl)
      try simp only [tkS]
      refine tk 8 ⟨some 63, _, _, _, _, _⟩ ?_ rfl ?_ ?_
      rotate_left
      · (intro w hSw; (try dsimp only at hSw); go_simp; try with_reducible rfl)
      try simp only [tkS]
      refine tk 9 ⟨some 64, _, _, _, _, _⟩ ?_ rfl ?_ ?_
      rotate_left
      · (intro w hSw; (try dsimp only at hSw); go_simp; try with_reducible rfl)
      try simp only [tkS]
      refine tk 10 ⟨some 65, _, _, _, _, _⟩ ?_ rfl ?_ ?_
      rotate_left
      · (intro w hSw; (try dsimp only at hSw); go_simp; try with_reducible rfl)
      try simp only [tkS]
      refine tk 11 ⟨some 66, _, _, _, _, _⟩ ?_ rfl ?_ ?_
      rotate_left
      · (intro w hSw; (try dsimp only at hSw); go_simp; try with_reducible rfl)
      try simp only [tkS]
      refine tk 12 ⟨some 67, _, _, _, _, _⟩ ?_ rfl ?_ ?_
      rotate_left
      · (intro w hSw; (try dsimp only at hSw); go_simp; try with_reducible rfl)
      try simp only [tkS]
      refine tk 13 ⟨some 68, _, _, _, _, _⟩ ?_ rfl ?_ ?_
      rotate_left
      · (intro w hSw; (try dsimp only at hSw); go_simp; try with_reducible rfl)
      try simp only [tkS]
      refine tk 14 ⟨some 69, _, _, _, _, _⟩ ?_ rfl ?_ ?_
      rotate_left
      · (intro w hSw; (try dsimp only at hSw); go_simp; try with_reducible rfl)
      try simp only [tkS]
      refine tk 15 ⟨some 70, _, _, _, _, _⟩ ?_ rfl ?_ ?_
      rotate_left
      · (intro w hSw; (try dsimp only at hSw); go_simp; try with_reducible rfl)
      try simp only [tkS]
      refine tk 16 ⟨some 71, _, _, _, _, _⟩ ?_ rfl ?_ ?_
      rotate_left
      · (intro w hSw; (try dsimp only at hSw); go_simp; try with_reducible rfl)
      try simp only [tkS]
      refine wpAnyH_done (by kernel_rfl) ?_ _
      clear hHeld
      obtain ⟨w5, hw5⟩ : ∃ w5, w5 = w4 := ⟨_, rfl⟩
      rw [← hw5]
      have hX5 : Ext w3 w5 := by rw [hw5]; exact HX4.out
      have z8 := (HX3.out.trans_ hX5).cell_ k8
      have zf : w5.frozen? ⟨Kb, 8, none⟩ = false := by rw [(HX3.out.trans_ hX5).three.2.1 _ _ hlK]; exact fr
      have HX5 := Lib.hid (HX3.out.trans_ hX5)
      have hls5 := HX5.out.size
      clear hw5 hX5 HX4
      go_wp2
      go_end0
      exact ⟨rfl, tv, (H.out.ext HX5.out).bad false, (Keep.of_ext HX5.out).set_ (p := ⟨Kb, 8, none⟩) (Or.inl (Or.inl rfl)) _, fun k hk => Or.inl hk⟩
    · have hd2 : decide (1000 < xh - (shT nm) + shP nm) = false := decide_eq_false c2
      have HLOW := Lib.hid (HLOW3.out (by omega) (by omega))
      refine wp_region_held_drew (S := fun W => W.cell? ⟨P4, 0, none⟩ = some (.bool true) ∧ W.cell? ⟨P4, 1, none⟩ = some (.int .i64 xh) ∧ W.cell? ⟨P4, 2, none⟩ = some (.slice sa xt.length sc)) (by kernel_rfl) ?_ (fun hHeld => ?_)
      · exact ⟨p40, p41, p42⟩
      refine tk 0 ⟨some 55, _, _, _, _, _⟩ ?_ rfl ?_ ?_
      rotate_left
      · (intro w hSw; (try dsimp only at hSw); go_simp; try with_reducible rfl)
      try simp only [tkS]
      refine tk 1 ⟨some 56, _, _, _, _, _⟩ ?_ rfl ?_ ?_
      rotate_left
      · (intro w hSw; (try dsimp only at hSw); go_simp; try with_reducible rfl)
      try simp only [tkS]
      refine tk 2 ⟨some 57, _, _, _, _, _⟩ ?_ rfl ?_ ?_
      rotate_left
      · (intro w hSw; (try dsimp only at hSw); go_simp; try with_reducible rfl)
      try simp only [tkS]
      refine tk 3 ⟨some 58, _, _, _, _, _⟩ ?_ rfl ?_ ?_
      rotate_left
      · (intro w hSw; (try dsimp only at hSw); go_simp; try with_reducible rfl)
      try simp only [tkS]
      refine tk 4 ⟨some 59, _, _, _, _, _⟩ ?_ rfl ?_ ?_
      rotate_left
      · (intro w hSw; (try dsimp only at hSw); go_simp; try with_reducible rfl)
      try simp only [tkS]
      refine tk 5 ⟨some 60, _, _, _, _, _⟩ ?_ rfl ?_ ?_
      rotate_left
      · (intro w hSw; (try dsimp only at hSw); go_simp; try with_reducible rfl)
      try simp only [tkS]
      refine wpAnyH_ready (rs := [6]) (by kernel_rfl) (by simp) ?_
      refine AllReadyH.cons (o := ⟨some 61, _, _, _, _, _⟩) rfl (fun K hK => ?_) AllReadyH.nil
      go_simp
      refine (baseC_any B Kb sb mb c V f v fb fo tv g _ (H.out.ext (Ext.trans_ HX3.out (by first | exact Ext.refl _ | exact (Ext.refl _).drew_ | exact (Ext.refl _).drewN_ _))) HT.out h6 (xh, xt) HFIT.out true sa sc ((HRO.out.ext HX3.out).ext (by first | exact Ext.refl _ | exact (Ext.refl _).drew_ | exact (Ext.refl _).drewN_ _))).mono ?_
      rintro e w4 ⟨he, hE2⟩
      rw [HBASE.out] at he
      subst he
      have HX4 : Hid (Ext w3 w4) := Ext.trans_ (by first | exact Ext.refl _ | exact (Ext.refl _).drew_ | exact (Ext.refl _).drewN_ _) hE2
      clear hE2
      refine hK.out _ _ ?_ (fun hHeld => ?_)
      · (try dsimp only); exact ⟨HX4.out.cell_ p40, HX4.out.cell_ p41, HX4.out.cell_ p42⟩
      clear hK K
      try simp only [tkS]
      refine tk 7 ⟨some 62, _, _, _, _, _⟩ ?_ rfl ?_ ?_
      rotate_left
      · (intro w hSw; (try dsimp only at hSw); go_simp; try with_reducible rfl)
      try simp only [tkS]
      refine tk 8 ⟨some 63, _, _, _, _, _⟩ ?_ rfl ?_ ?_
      rotate_left
      · (intro w hSw; (try dsimp only at hSw); go_simp; try with_reducible rfl)
      try simp only [tkS]
      refine tk 9 ⟨some 64, _, _, _, _, _⟩ ?_ rfl ?_ ?_
      rotate_left
      · (intro w hSw; (try dsimp only at hSw); go_simp; try with_reducible rfl)
      try simp only [tkS]
      refine tk 10 ⟨some 65, _, _, _, _, _⟩ ?_ rfl ?_ ?_
      rotate_left
      · (intro w hSw; (try dsimp only at hSw); go_simp; try with_reducible rfl)
      try simp only [tkS]
      refine tk 11 ⟨some 66, _, _, _, _, _⟩ ?_ rfl ?_ ?_
      rotate_left
      · (intro w hSw; (try dsimp only at hSw); go_simp; try with_reducible rfl)
      try simp only [tkS]
      refine tk 12 ⟨some 67, _, _, _, _, _⟩ ?_ rfl ?_ ?_
      rotate_left
      · (intro w hSw; (try dsimp only at hSw); go_simp; try with_reducible rfl)
      try simp only [tkS]
      refine tk 13 ⟨some 68, _, _, _, _, _⟩ ?_ rfl ?_ ?_
      rotate_left
      · (intro w hSw; (try dsimp only at hSw); go_simp; try with_reducible rfl)
      try simp only [tkS]
      refine tk 14 ⟨some 69, _, _, _, _, _⟩ ?_ rfl ?_ ?_
      rotate_left
      · (intro w hSw; (try dsimp only at hSw); go_simp; try with_reducible rfl)
      try simp only [tkS]
      refine tk 15 ⟨some 70, _, _, _, _, _⟩ ?_ rfl ?_ ?_
      rotate_left
      · (intro w hSw; (try dsimp only at hSw); go_simp; try with_reducible rfl)
      try simp only [tkS]
      refine tk 16 ⟨some 71, _, _, _, _, _⟩ ?_ rfl ?_ ?_
      rotate_left
      · (intro w hSw; (try dsimp only at hSw); go_simp; try with_reducible rfl)
      try simp only [tkS]
      refine wpAnyH_done (by kernel_rfl) ?_ _
      clear HLOW1 HLOW2 HLOW3
      obtain ⟨q40, q41, q42⟩ := hHeld
      have q50 := HX4.out.cell_ p50
      have q51 := HX4.out.cell_ p51
      clear p40 p41 p42 p50 p51
      have hls4 := HX4.out.size
      have lP4 : P4 < w4.heap.size := by omega
      have lP5 : P5 < w4.heap.size := by omega
      go_upto_region 14 with fail
      obtain ⟨P9, hP9⟩ : ∃ P9, P9 = w4.heap.size := ⟨_, rfl⟩
      refine namedW (fun w5 hw5 => ?_)
      have hX5 : Ext w4 w5 := by rw [hw5]; exact (Ext.refl w4).alloc_ _
      have r90 : w5.cell? ⟨P9, 0, none⟩ = some (.bool true) := by rw [hw5, hP9]; simp [go_sem]
      have r91 : w5.cell? ⟨P9, 1, none⟩ = some (.int .i64 (xh - (shT nm) + shP nm)) := by rw [hw5, hP9]; simp [go_sem]
      have r92 : w5.cell? ⟨P9, 2, none⟩ = some (.slice sa xt.length sc) := by rw [hw5, hP9]; simp [go_sem]
      have r9f : w5.frozen? ⟨P9, 2, none⟩ = false := by rw [hw5, hP9]; simp [go_sem]
      rw [← hP9]
      have r41 := hX5.cell_ q41
      have r42 := hX5.cell_ q42
      have r50 := hX5.cell_ q50
      have r51 := hX5.cell_ q51
      have HX5 := Lib.hid ((HX3.out.trans_ HX4.out).trans_ hX5)
      have hls5 := hX5.size
      have hP9l : w.heap.size ≤ P9 := by omega
      have lP4 : P4 < w5.heap.size := by omega
      have lP5 : P5 < w5.heap.size := by omega
      have lP9 : P9 < w5.heap.size := cell_lt r90
      clear hw5 hP9 hX5 q40 q41 q42 q50 q51
      have HOUT : Hid (outsP i ⟨nm, ax⟩ (xh, xt) = some [(ax, (xh + 1, xt)), ((i : Int) + 1, (xh - (shT nm) + shP nm, xt ++ [(i : Int)]))]) := by
        show outsP i ⟨nm, ax⟩ (xh, xt) = some _
        rw [outs_try HNM.out]
        try simp only [h_put, h_take]
      have e3 : IntKind.i64.wrap (xh + 1) = xh + 1 := IntWalk.i64_in _ (by omega)
      have HF1 := Lib.hid (TallP.outs HT.out hi ⟨nm, ax⟩ HUN.out HLOW.out HOUT.out _ List.mem_cons_self)
      simp only at HF1
      have HT1 := Lib.hid (HT.out.come ax HF1.out).1
      go_upto_region 26 with (go_at_call 44; refine (comeC_any B Kb sb mb c V f v fb fo tv (g) _ (H.out.ext HX5.out) (HT.out) h6 _ (by omega) true (xh + 1, xt) (by exact hxl) sa sc (HRO.out.ext HX5.out)).mono ?_; rintro e w6 ⟨rfl, tv6, ho6, hk6, hn6, hy6⟩; have HO6 := Lib.hid ho6; have HK6 := Lib.hid hk6; have HN6 := Lib.hid hn6; have HY6 := Lib.hid hy6; clear ho6 hk6 hn6 hy6)
      have HR6 := Lib.hid (RInts.keep_ (HRO.out.ext HX5.out) HFR.out (by omega) HK6.out)
      have s90 := HK6.out.cell (p := ⟨P9, 0, none⟩) (OwnC.new H.out hP9l) r90
      have s91 := HK6.out.cell (p := ⟨P9, 1, none⟩) (OwnC.new H.out hP9l) r91
      have s92 := HK6.out.cell (p := ⟨P9, 2, none⟩) (OwnC.new H.out hP9l) r92
      have s42 := HK6.out.cell (p := ⟨P4, 2, none⟩) (OwnC.new H.out hP4l) r42
      have hls6 := HK6.out.size
      clear r90 r91 r92 r41 r42 r50 r51
      obtain ⟨i0, hii, hz0, hz1, hz2⟩ := info_parts infoInt
      have hf9 : w6.frozen? ⟨P9, 2, none⟩ = false := by
        rw [HK6.out.frozen (p := ⟨P9, 2, none⟩) (OwnC.new H.out hP9l) lP9]; exact r9f
      go_wp2_with (first
        | (go_at_call 62; refine (cloneInts_any sa sc xt _ HR6.out hxl).mono ?_; rintro e w7 ⟨a2, c2, rfl, hO2, hE2⟩; have HX7 := Lib.hid hE2; have HO2 := Lib.hid hO2; have hls7 := hE2.size; clear hO2 hE2)
        | (at_builtin; (refine wpList_append_src rfl _ _ 75 rfl w6.heap.size 3 i0 (.int .i64 0) 1 8 undInts hii hz0 hz1 hz2 rfl (by decide) (.slice a2 xt.length c2) xt.length (ints xt) rfl (own_ext HO2.out ((Ext.refl _).alloc_ _)) (some ⟨w7.heap.size, 0, none⟩) 1 1 [.int .i64 (i : Int)] rfl (fun h => by cases h) (Nat.le_refl _) rfl (rsl_one w7 _ _) (by intro u hu; rw [List.mem_singleton.1 hu]; rfl) (by unfold maxLen; omega) (by omega) (by simp; omega) ?_; intro a3 c3 w8 hO8 hG8 hv8; have HX8 : Hid (Ext w6 w8) := grown_ext (HX7.out.alloc_ _) hG8 (fun k hk => (HO2.out.lt k hk).1); have HO8 := Lib.hid hO8; clear hO8 hG8 hv8; have s90 := HX8.out.cell_ s90; have s91 := HX8.out.cell_ s91; have s92 := HX8.out.cell_ s92; have hf9 : w8.frozen? ⟨P9, 2, none⟩ = false := by rw [HX8.out.three.2.1 _ _ (by omega)]; exact hf9)))
      have hP9b : ¬ OwnC Kb sb tv6 P9 := fun e => by
        have h1 := H.out.lt
        have hd := hP9l
        rcases e with q | q | q
        · omega
        · omega
        · rcases HN6.out P9 q with r | r
          · have := (H.out.todo.lt r).2; omega
          · omega
      have hgl : g.s.length = f.ops.length := HT.out.len
      have hP9s : Stray w8 sb (comeP f.ops.length g ax (xh + 1, xt)).s.length P9 := (HY6.out P9 lP9 (by rw [comeP_len _ _ _ _ hgl, ← hgl]; exact (H.out.stray hP9l).same (Below.block HX5.out sb hlS))).same (Below.block HX8.out sb HO6.out.lt.2)
      have hO9 := (HO6.out.ext HX8.out).aside hP9s (fun e => hP9b (Or.inl e)) (fun e => hP9b (Or.inr (Or.inl e))) (fun e => hP9b (Or.inr (Or.inr e))) (Nat.le_trans H.out.hB hP9l) 2 (.slice a3 (xt.length + 1) c3)
      have hri9 : RInts (w8.setCell ⟨P9, 2, none⟩ (.slice a3 (xt.length + 1) c3)) a3 c3 (xt ++ [(i : Int)]) := by
        refine owns_rints (n := xt.length + 1) (B := w6.heap.size) (e := 3) ?_
        rw [ints_snoc]
        exact own_set HO8.out (fun e => by have := (HO8.out.lt _ e).1; simp only at this; omega) _
      have hcc := comeC_any B Kb sb mb c V f v fb fo tv6 (comeP f.ops.length g ax (xh + 1, xt)) _ hO9 HT1.out h6 ((i : Int) + 1) (by omega) true (xh - (shT nm) + shP nm, xt ++ [(i : Int)]) (by simp; omega) a3 c3 hri9
      simp only [List.length_append, List.length_singleton] at hcc
      refine hcc.mono ?_
      rintro e w9 ⟨rfl, tv9, ho9, hk9, hn9, hy9⟩
      have HO9 := Lib.hid ho9
      have hk8 : Keep (OwnC Kb sb tv) w (w8.setCell ⟨P9, 2, none⟩ (.slice a3 (xt.length + 1) c3)) := (((Keep.of_ext HX5.out).then_ HK6.out fun k hk q => q).ext_ HX8.out).set_ (p := ⟨P9, 2, none⟩) (Or.inr hP9l) _
      obtain ⟨z1, z2⟩ := ComeV.then_ hk8 (fun k hk => (by rcases HN6.out k hk with q | q; exact Or.inl q; exact Or.inr (by omega))) hk9 hn9
      have Z1 := Lib.hid z1
      have Z2 := Lib.hid z2
      clear hcc ho9 hk9 hn9 hy9 hk8 z1 z2 hO9 hri9 hP9s hf9 s90 s91 s92 s42
      go_wp2
      go_end0
      have hres : RES = comeP f.ops.length (comeP f.ops.length g ax (xh + 1, xt)) ((i : Int) + 1) (xh - (shT nm) + shP nm, xt ++ [(i : Int)]) := by rw [← HRES.out]; exact step_outs HLOW.out HOUT.out
      exact ⟨rfl, tv9, by rw [hres]; exact HO9.out, Z1.out, Z2.out⟩
set_option maxRecDepth 100000 in
set_option maxHeartbeats 8000000 in
theorem step_end (B Kb sb mb : Nat) (c : CodeP) (V : CodeV) (f : FnP) (v : OpsV) (fb fo : Nat) (tv : Value) (g : GoP) (w : World) (h : OChk w B Kb sb mb c V f v fb fo tv g) (hT : TallP f.ops.length g) (h6 : f.ops.length ≤ 1000000)
    (i : Nat) (hi : i < f.ops.length) (x : StP) (hun : seenP g.s i = some x) (op : OpP) (hop : f.ops[i] = op) (a0 : 0 ≤ op.a) (a1 : op.a ≤ 1000000) (hnm : op.name = n_end) :
    Calls Tryd.prog 45 #[.pointer (some ⟨Kb, 0, none⟩), .int .i64 (i : Int)] w (StepV w B Kb sb mb c V f v fb fo tv (stepP f.ops.length (stepsP f.ops i) x g)) := by
  have t0 : (op.name.toList == [99, 97, 108, 108]) = false := by rw [hnm]; decide +kernel
  have t1 : (op.name.toList == [108, 105, 115, 116]) = false := by rw [hnm]; decide +kernel
  have t2 : (op.name.toList == [100, 105, 99, 116]) = false := by rw [hnm]; decide +kernel
  have t3 : (op.name.toList == [114, 101, 116, 117, 114, 110]) = false := by rw [hnm]; decide +kernel
  have t4 : (op.name.toList == [104, 97, 108, 116]) = false := by rw [hnm]; decide +kernel
  have t5 : (op.name.toList == [114, 97, 105, 115, 101]) = false := by rw [hnm]; decide +kernel
  have t6 : (op.name.toList == [106, 117, 109, 112]) = false := by rw [hnm]; decide +kernel
  have t7 : (op.name.toList == [117, 110, 108, 101, 115, 115]) = false := by rw [hnm]; decide +kernel
  have t8 : (op.name.toList == [110, 101, 120, 116]) = false := by rw [hnm]; decide +kernel
  have t9 : (op.name.toList == [116, 114, 121]) = false := by rw [hnm]; decide +kernel
  have t10 : (op.name.toList == [101, 110, 100]) = true := by rw [hnm]; decide +kernel
  have hst0 : i < g.s.length := by rw [hT.len]; exact hi
  have hfit := hT.fits i x hun
  have hpu := shape_puts op
  have htk := takes_in op a0 a1
  have hbs := hT.base x.2
  have hlenx := hfit.len
  have hsl := seens_le g.s
  rw [hT.len] at hsl
  have hxlo := hfit.lo
  have hxhi := hfit.hi
  have hstep : stepsP f.ops i = ⟨takesP op, putsP op, outsP i op⟩ := by
    have : opAt f.ops i = op := by unfold opAt; rw [List.getD_eq_getElem?_getD, List.getElem?_eq_getElem hi, ← hop]; rfl
    unfold stepsP; rw [this]
  rw [hstep]
  have HLOW1 : Hid (x.1 - takesP op < baseP g.s x.2 → stepP f.ops.length ⟨takesP op, putsP op, outsP i op⟩ x g = { g with ok := false }) := fun q => step_low (low1 q)
  have HLOW2 : Hid (1000 < x.1 - takesP op + putsP op → stepP f.ops.length ⟨takesP op, putsP op, outsP i op⟩ x g = { g with ok := false }) := fun q => step_low (low2 q)
  have HLOW3 : Hid (¬ x.1 - takesP op < baseP g.s x.2 → ¬ 1000 < x.1 - takesP op + putsP op → lowP g.s ⟨takesP op, putsP op, outsP i op⟩ x = false) := fun q r => low3 q r
  generalize hRES : stepP f.ops.length ⟨takesP op, putsP op, outsP i op⟩ x g = RES at HLOW1 HLOW2 ⊢
  have HRES := Lib.hid hRES
  have HSTEP := Lib.hid hstep
  obtain ⟨sa, sc, hst, hfr⟩ := h.st i hst0
  rw [hun] at hst
  obtain ⟨s0, s1, s2, hro⟩ := hst
  simp only [Option.isSome_some, Option.map_some, Option.getD_some] at s0 s1 s2 hro
  have hxl : x.2.length ≤ 1000000 := by omega
  have hfit' : FitsP f.ops.length (seensP g.s) x := hfit.mono (by omega)
  have hoc := opCells_at f.ops i hi
  rw [hop] at hoc
  obtain ⟨ob, oo, hov, o0⟩ := h.ops _ _ hoc.1
  have o1r := h.ops
  rw [hov] at o1r
  have o1 := o1r.at_ hoc.2
  clear o1r
  rw [← Nat.add_assoc] at o1
  have k4 := h.R.kf
  have k5 := h.k5
  have f5 := h.R.f5
  rw [hov] at f5
  have k6 := h.k6
  rw [hT.len] at k6
  have k8 := h.k8
  have fr := h.froK 8
  have hlK := h.lt.1
  have hlS := h.lt.2
  have hlf := cell_lt h.R.f0
  have hlm := h.map.lt
  have hlo := cell_lt o0
  have hiz : (i : Int) < (f.ops.length : Int) := by omega
  have hlook := shape_look op.name
  have HLOOK : Hid (∀ W : World, MapS W mb shapeE → (Instr.lookup 64 (.map (some mb)) (.string op.name) false).run Tryd.prog W = .ok (.agg #[.int .i64 (shT op.name), .int .i64 (shP op.name), .string (shK op.name)]) W) := fun W hW => by
    have := run_lookup_maps (P := Tryd.prog) (w := W) (Tryd.underlying64) (Tryd.underlying9) (z := .agg #[.int .i64 0, .int .i64 0, .string ⟨#[]⟩]) (by kernel_rfl) hW op.name false
    rw [hlook.1] at this
    exact this
  have hst_ : 0 ≤ shT op.name ∧ shT op.name ≤ 3 := shape_takes op.name
  have HST2 := hst_.2
  have HST1 := hst_.1
  clear hst_
  have hpu1 := hpu.1
  have hpu2 := hpu.2
  have h_put : putsP op = shP op.name := rfl
  have h_take : takesP op = shT op.name := by unfold takesP; rw [if_neg (by rw [hnm]; decide), if_neg (by rw [hnm]; decide), if_neg (by rw [hnm]; decide)]; try rfl
  have hfrees := hfr
  have HFR := Lib.hid hfrees
  have H := Lib.hid h
  have HT := Lib.hid hT
  have HRO := Lib.hid hro
  have HFIT := Lib.hid hfit'
  have HUN := Lib.hid hun
  have HOP := Lib.hid hop
  generalize hbase : baseP g.s x.2 = bs at *
  have HBASE := Lib.hid hbase
  obtain ⟨nm, ax⟩ := op
  obtain ⟨xh, xt⟩ := x
  have HNM := Lib.hid hnm
  clear hnm
  simp only at *
  clear h hfr hfrees hro hun hT hst0 hstep hoc hov hfit hfit' hlook hRES hop hbase
  go_enter Tryd.func45, Tryd.ntmps45
  go_upto_region 2 with fail
  obtain ⟨P4, hP4⟩ : ∃ P4, P4 = w.heap.size := ⟨_, rfl⟩
  obtain ⟨P5, hP5⟩ : ∃ P5, P5 = w.heap.size + 1 := ⟨_, rfl⟩
  refine namedW (fun w1 hw1 => ?_)
  have p40 : w1.cell? ⟨P4, 0, none⟩ = some (.bool true) := by rw [hw1, hP4]; simp [go_sem]
  have p41 : w1.cell? ⟨P4, 1, none⟩ = some (.int .i64 xh) := by rw [hw1, hP4]; simp [go_sem]
  have p42 : w1.cell? ⟨P4, 2, none⟩ = some (.slice sa xt.length sc) := by rw [hw1, hP4]; simp [go_sem]
  have p50 : w1.cell? ⟨P5, 0, none⟩ = some (.string nm) := by rw [hw1, hP5]; simp [go_sem]
  have p51 : w1.cell? ⟨P5, 1, none⟩ = some (.int .i64 ax) := by rw [hw1, hP5]; simp [go_sem]
  have hX1 : Ext w w1 := by rw [hw1]; exact ((Ext.refl w).alloc_ _).alloc_ _
  rw [← hP5, ← hP4]
  have hq5 := hX1.cell_ k5
  have hqm := H.out.map.ext hX1
  have hP4l : w.heap.size ≤ P4 := by omega
  have hP5l : w.heap.size ≤ P5 := by omega
  have HX1 := Lib.hid hX1
  have lP4 : P4 < w1.heap.size := cell_lt p40
  have lP5 : P5 < w1.heap.size := cell_lt p50
  clear hw1 hP4 hP5 hX1 s0 s1 s2 o0 o1
  refine wp_region_held_drew (S := fun W => W.cell? ⟨Kb, 5, none⟩ = some (.map (some mb)) ∧ MapS W mb shapeE ∧ W.cell? ⟨P5, 0, none⟩ = some (.string nm)) (by kernel_rfl) ?_ (fun hHeld => ?_)
  · exact ⟨hq5, hqm, p50⟩
  refine tk 0 ⟨some 27, _, _, _, _, _⟩ ?_ rfl ?_ ?_
  rotate_left
  · (intro w hSw; (try dsimp only at hSw); go_simp; try with_reducible rfl)
  try simp only [tkS]
  refine tk 1 ⟨some 28, _, _, _, _, _⟩ ?_ rfl ?_ ?_
  rotate_left
  · (intro w hSw; (try dsimp only at hSw); go_simp; try with_reducible rfl)
  try simp only [tkS]
  refine tk 2 ⟨some 29, _, _, _, _, _⟩ ?_ rfl ?_ ?_
  rotate_left
  · (intro w hSw; (try dsimp only at hSw); go_simp; try with_reducible rfl)
  try simp only [tkS]
  refine tk 3 ⟨some 30, _, _, _, _, _⟩ ?_ rfl ?_ ?_
  rotate_left
  · (intro w hSw; (try dsimp only at hSw); go_simp; try with_reducible rfl)
  try simp only [tkS]
  refine tk 4 ⟨some 31, _, _, _, _, _⟩ ?_ rfl ?_ ?_
  rotate_left
  · (intro w hSw; (try dsimp only at hSw); go_simp; try with_reducible rfl)
  try simp only [tkS]
  refine tk 5 ⟨some 32, _, _, _, _, _⟩ ?_ rfl ?_ ?_
  rotate_left
  · (intro w hSw; (try dsimp only at hSw); go_simp; try with_reducible rfl)
  try simp only [tkS]
  refine tk 6 ⟨some 33, _, _, _, _, _⟩ ?_ rfl ?_ ?_
  rotate_left
  · (intro w hSw; (try dsimp only at hSw); have hlk := HLOOK.out w hSw.2.1; go_simp; try with_reducible rfl)
  try simp only [tkS]
  refine wpAnyH_ready (rs := [7]) (by kernel_rfl) (by simp) ?_
  refine AllReadyH.cons (o := ⟨some 6, _, _, _, _, _⟩) rfl (fun K hK => ?_) AllReadyH.nil
  go_simp
  skip
  refine hK.out _ _ ?_ (fun hHeld => ?_)
  · (try dsimp only); exact ⟨(((Ext.refl _).alloc_ _).drew_).cell_ hq5, MapS.ext hqm (((Ext.refl _).alloc_ _).drew_), (((Ext.refl _).alloc_ _).drew_).cell_ p50⟩
  clear hK K
  try simp only [tkS]
  refine wpAnyH_ready (rs := [8]) (by kernel_rfl) (by simp) ?_
  refine AllReadyH.cons (o := ⟨none, _, _, _, _, _⟩) rfl (fun K hK => ?_) AllReadyH.nil
  go_simp
  skip
  refine hK.out _ _ ?_ (fun hHeld => ?_)
  · (try dsimp only); exact ⟨(((Ext.refl _).alloc_ _).drew_).cell_ hq5, MapS.ext hqm (((Ext.refl _).alloc_ _).drew_), (((Ext.refl _).alloc_ _).drew_).cell_ p50⟩
  clear hK K
  try simp only [tkS]
  refine wpAnyH_done (by kernel_rfl) ?_ _
  clear hHeld hq5 hqm k4 f5 k6
  obtain ⟨P6, hP6⟩ : ∃ P6, P6 = w1.heap.size := ⟨_, rfl⟩
  obtain ⟨w2, hw2⟩ : ∃ w2, w2 = (w1.alloc (.cells #[.int .i64 (shT nm), .int .i64 (shP nm), .string (shK nm)] 67)).drew := ⟨_, rfl⟩
  rw [← hP6, ← hw2]
  have p60 : w2.cell? ⟨P6, 0, none⟩ = some (.int .i64 (shT nm)) := by rw [hw2, hP6]; simp [go_sem]
  have p61 : w2.cell? ⟨P6, 1, none⟩ = some (.int .i64 (shP nm)) := by rw [hw2, hP6]; simp [go_sem]
  have hX2 : Ext w1 w2 := by rw [hw2]; exact ((Ext.refl w1).alloc_ _).drew_
  have p40 := hX2.cell_ p40
  have p41 := hX2.cell_ p41
  have p42 := hX2.cell_ p42
  have p50 := hX2.cell_ p50
  have p51 := hX2.cell_ p51
  have HX2 := Lib.hid (HX1.out.trans_ hX2)
  have lP4 : P4 < w2.heap.size := cell_lt p40
  have lP5 : P5 < w2.heap.size := cell_lt p50
  clear hw2 hP6 hX2 HX1
  go_upto_region 3 with fail
  go_region
  go_upto_region 11 with fail
  obtain ⟨w3, hw3⟩ : ∃ w3, w3 = w2.drew := ⟨_, rfl⟩
  rw [← hw3]
  have hX3 : Ext w2 w3 := by rw [hw3]; exact (Ext.refl _).drew_
  have p40 := hX3.cell_ p40
  have p41 := hX3.cell_ p41
  have p42 := hX3.cell_ p42
  have p50 := hX3.cell_ p50
  have p51 := hX3.cell_ p51
  have HX3 := Lib.hid (HX2.out.trans_ hX3)
  have lP4 : P4 < w3.heap.size := cell_lt p40
  have lP5 : P5 < w3.heap.size := cell_lt p50
  have hls3 := HX3.out.size
  have HKb : Hid (Kb < w3.heap.size) := by unfold Hid; omega
  clear hw3 hX3 HX2 p60 p61
  have e1 : IntKind.i64.wrap (xh - (shT nm)) = xh - (shT nm) := IntWalk.i64_in _ (by omega)
  have e2 : IntKind.i64.wrap (xh - (shT nm) + shP nm) = xh - (shT nm) + shP nm := IntWalk.i64_in _ (by omega)
  by_cases c1 : xh - (shT nm) < bs
  · have hd : decide (xh - (shT nm) < bs) = true := decide_eq_true c1
    obtain rfl := HLOW1.out (by omega)
    refine wp_region_held_drew (S := fun W => W.cell? ⟨P4, 0, none⟩ = some (.bool true) ∧ W.cell? ⟨P4, 1, none⟩ = some (.int .i64 xh) ∧ W.cell? ⟨P4, 2, none⟩ = some (.slice sa xt.length sc)) (by kernel_rfl) ?_ (fun hHeld => ?_)
    · exact ⟨p40, p41, p42⟩
    refine tk 0 ⟨some 55, _, _, _, _, _⟩ ?_ rfl ?_ ?_
    rotate_left
    · (intro w hSw; (try dsimp only at hSw); go_simp; try with_reducible rfl)
    try simp only [tkS]
    refine tk 1 ⟨some 56, _, _, _, _, _⟩ ?_ rfl ?_ ?_
    rotate_left
    · (intro w hSw; (try dsimp only at hSw); go_simp; try with_reducible rfl)
    try simp only [tkS]
    refine tk 2 ⟨some 57, _, _, _, _, _⟩ ?_ rfl ?_ ?_
    rotate_left
    · (intro w hSw; (try dsimp only at hSw); go_simp; try with_reducible rfl)
    try simp only [tkS]
    refine tk 3 ⟨some 58, _, _, _, _, _⟩ ?_ rfl ?_ ?_
    rotate_left
    · (intro w hSw; (try dsimp only at hSw); go_simp; try with_reducible rfl)
    try simp only [tkS]
    refine tk 4 ⟨some 59, _, _, _, _, _⟩ ?_ rfl ?_ ?_
    rotate_left
    · (intro w hSw; (try dsimp only at hSw); go_simp; try with_reducible rfl)
    try simp only [tkS]
    refine tk 5 ⟨some 60, _, _, _, _, _⟩ ?_ rfl ?_ ?_
    rotate_left
    · (intro w hSw; (try dsimp only at hSw); go_simp; try with_reducible rfl)
    try simp only [tkS]
    refine wpAnyH_ready (rs := [6]) (by kernel_rfl) (by simp) ?_
    refine AllReadyH.cons (o := ⟨some 61, _, _, _, _, _⟩) rfl (fun K hK => ?_) AllReadyH.nil
    go_simp
    refine (baseC_any B Kb sb mb c V f v fb fo tv g _ (H.out.ext (Ext.trans_ HX3.out (by first | exact Ext.refl _ | exact (Ext.refl _).drew_ | exact (Ext.refl _).drewN_ _))) HT.out h6 (xh, xt) HFIT.out true sa sc ((HRO.out.ext HX3.out).ext (by first | exact Ext.refl _ | exact (Ext.refl _).drew_ | exact (Ext.refl _).drewN_ _))).mono ?_
    rintro e w4 ⟨he, hE2⟩
    rw [HBASE.out] at he
    subst he
    have HX4 : Hid (Ext w3 w4) := Ext.trans_ (by first | exact Ext.refl _ | exact (Ext.refl _).drew_ | exact (Ext.refl _).drewN_ _) hE2
    clear hE2
    refine hK.out _ _ ?_ (fun hHeld => ?_)
    · (try dsimp only); exact ⟨HX4.out.cell_ p40, HX4.out.cell_ p41, HX4.out.cell_ p42⟩
    clear hK K
    try simp only [tkS]
    refine tk 7 ⟨some 62, _, _, _, _, _⟩ ?_ rfl ?_ ?_
    rotate_left
    · (intro w hSw; (try dsimp only at hSw); go_simp; try with_reducible rfl)
    try simp only [tkS]
    refine tk 8 ⟨some 63, _, _, _, _, _⟩ ?_ rfl ?_ ?_
    rotate_left
    · (intro w hSw; (try dsimp only at hSw); go_simp; try with_reducible rfl)
    try simp only [tkS]
    refine tn 9 ⟨some 64, _, _, _, _, _⟩ rfl ?_
    try simp only [tkS]
    refine tn 10 ⟨some 65, _, _, _, _, _⟩ rfl ?_
    try simp only [tkS]
    refine tn 11 ⟨some 66, _, _, _, _, _⟩ rfl ?_
    try simp only [tkS]
    refine tn 12 ⟨some 67, _, _, _, _, _⟩ rfl ?_
    try simp only [tkS]
    refine tn 13 ⟨some 68, _, _, _, _, _⟩ rfl ?_
    try simp only [tkS]
    refine tn 14 ⟨some 69, _, _, _, _, _⟩ rfl ?_
    try simp only [tkS]
    refine tn 15 ⟨some 70, _, _, _, _, _⟩ rfl ?_
    try simp only [tkS]
    refine tk 16 ⟨some 71, _, _, _, _, _⟩ ?_ rfl ?_ ?_
    rotate_left
    · (intro w hSw; (try dsimp only at hSw); go_simp; try with_reducible rfl)
    try simp only [tkS]
    refine wpAnyH_done (by kernel_rfl) ?_ _
    clear hHeld
    obtain ⟨w5, hw5⟩ : ∃ w5, w5 = w4 := ⟨_, rfl⟩
    rw [← hw5]
    have hX5 : Ext w3 w5 := by rw [hw5]; exact HX4.out
    have z8 := (HX3.out.trans_ hX5).cell_ k8
    have zf : w5.frozen? ⟨Kb, 8, none⟩ = false := by rw [(HX3.out.trans_ hX5).three.2.1 _ _ hlK]; exact fr
    have HX5 := Lib.hid (HX3.out.trans_ hX5)
    have hls5 := HX5.out.size
    clear hw5 hX5 HX4
    go_wp2
    go_end0
    exact ⟨rfl, tv, (H.out.ext HX5.out).bad false, (Keep.of_ext HX5.out).set_ (p := ⟨Kb, 8, none⟩) (Or.inl (Or.inl rfl)) _, fun k hk => Or.inl hk⟩
  · have hd : decide (xh - (shT nm) < bs) = false := decide_eq_false c1
    by_cases c2 : 1000 < xh - (shT nm) + shP nm
    · have hd2 : decide (1000 < xh - (shT nm) + shP nm) = true := decide_eq_true c2
      obtain rfl := HLOW2.out (by omega)
      refine wp_region_held_drew (S := fun W => W.cell? ⟨P4, 0, none⟩ = some (.bool true) ∧ W.cell? ⟨P4, 1, none⟩ = some (.int .i64 xh) ∧ W.cell? ⟨P4, 2, none⟩ = some (.slice sa xt.length sc)) (by kernel_rfl) ?_ (fun hHeld => ?_)
      · exact ⟨p40, p41, p42⟩
      refine tk 0 ⟨some 55, _, _, _, _, _⟩ ?_ rfl ?_ ?_
      rotate_left
      · (intro w hSw; (try dsimp only at hSw); go_simp; try with_reducible rfl)
      try simp only [tkS]
      refine tk 1 ⟨some 56, _, _, _, _, _⟩ ?_ rfl ?_ ?_
      rotate_left
      · (intro w hSw; (try dsimp only at hSw); go_simp; try with_reducible rfl)
      try simp only [tkS]
      refine tk 2 ⟨some 57, _, _, _, _, _⟩ ?_ rfl ?_ ?_
      rotate_left
      · (intro w hSw; (try dsimp only at hSw); go_simp; try with_reducible rfl)
      try simp only [tkS]
      refine tk 3 ⟨some 58, _, _, _, _, _⟩ ?_ rfl ?_ ?_
      rotate_left
      · (intro w hSw; (try dsimp only at hSw); go_simp; try with_reducible rfl)
      try simp only [tkS]
      refine tk 4 ⟨some 59, _, _, _, _, _⟩ ?_ rfl ?_ ?_
      rotate_left
      · (intro w hSw; (try dsimp only at hSw); go_simp; try with_reducible rfl)
      try simp only [tkS]
      refine tk 5 ⟨some 60, _, _, _, _, _⟩ ?_ rfl ?_ ?_
      rotate_left
      · (intro w hSw; (try dsimp only at hSw); go_simp; try with_reducible rfl)
      try simp only [tkS]
      refine wpAnyH_ready (rs := [6]) (by kernel_rfl) (by simp) ?_
      refine AllReadyH.cons (o := ⟨some 61, _, _, _, _, _⟩) rfl (fun K hK => ?_) AllReadyH.nil
      go_simp
      refine (baseC_any B Kb sb mb c V f v fb fo tv g _ (H.out.ext (Ext.trans_ HX3.out (by first | exact Ext.refl _ | exact (Ext.refl _).drew_ | exact (Ext.refl _).drewN_ _))) HT.out h6 (xh, xt) HFIT.out true sa sc ((HRO.out.ext HX3.out).ext (by first | exact Ext.refl _ | exact (Ext.refl _).drew_ | exact (Ext.refl _).drewN_ _))).mono ?_
      rintro e w4 ⟨he, hE2⟩
      rw [HBASE.out] at he
      subst he
      have HX4 : Hid (Ext w3 w4) := Ext.trans_ (by first | exact Ext.refl _ | exact (Ext.refl _).drew_ | exact (Ext.refl _).drewN_ _) hE2
      clear hE2
      refine hK.out _ _ ?_ (fun hHeld => ?_)
      · (try dsimp only); exact ⟨HX4.out.cell_ p40, HX4.out.cell_ p41, HX4.out.cell_ p42⟩
      clear hK K
      try simp only [tkS]
      refine tk 7 ⟨some 62, _, _, _, _, _⟩ ?_ rfl ?_ ?_
      rotate_left
      · (intro w hSw; (try dsimp only at hSw); go_simp; try with_reducible rfl)
      try simp only [tkS]
      refine tk 8 ⟨some 63, _, _, _, _, _⟩ ?_ rfl ?_ ?_
      rotate_left
      · (intro w hSw; (try dsimp only at hSw); go_simp; try with_reducible rfl)
      try simp only [tkS]
      refine tk 9 ⟨some 64, _, _, _, _, _⟩ ?_ rfl ?_ ?_
      rotate_left
      · (intro w hSw; (try dsimp only at hSw); go_simp; try with_reducible rfl)
      try simp only [tkS]
      refine tk 10 ⟨some 65, _, _, _, _, _⟩ ?_ rfl ?_ ?_
      rotate_left
      · (intro w hSw; (try dsimp only at hSw); go_simp; try with_reducible rfl)
      try simp only [tkS]
      refine tk 11 ⟨some 66, _, _, _, _, _⟩ ?_ rfl ?_ ?_
      rotate_left
      · (intro w hSw; (try dsimp only at hSw); go_simp; try with_reducible rfl)
      try simp only [tkS]
      refine tk 12 ⟨some 67, _, _, _, _, _⟩ ?_ rfl ?_ ?_
      rotate_left
      · (intro w hSw; (try dsimp only at hSw); go_simp; try with_reducible rfl)
      try simp only [tkS]
      refine tk 13 ⟨some 68, _, _, _, _, _⟩ ?_ rfl ?_ ?_
      rotate_left
      · (intro w hSw; (try dsimp only at hSw); go_simp; try with_reducible rfl)
      try simp only [tkS]
      refine tk 14 ⟨some 69, _, _, _, _, _⟩ ?_ rfl ?_ ?_
      rotate_left
      · (intro w hSw; (try dsimp only at hSw); go_simp; try with_reducible rfl)
      try simp only [tkS]
      refine tk 15 ⟨some 70, _, _, _, _, _⟩ ?_ rfl ?_ ?_
      rotate_left
      · (intro w hSw; (try dsimp only at hSw); go_simp; try with_reducible rfl)
      try simp only [tkS]
      refine tk 16 ⟨some 71, _, _, _, _, _⟩ ?_ rfl ?_ ?_
      rotate_left
      · (intro w hSw; (try dsimp only at hSw); go_simp; try with_reducible rfl)
      try simp only [tkS]
      refine wpAnyH_done (by kernel_rfl) ?_ _
      clear hHeld
      obtain ⟨w5, hw5⟩ : ∃ w5, w5 = w4 := ⟨_, rfl⟩
      rw [← hw5]
      have hX5 : Ext w3 w5 := by rw [hw5]; exact HX4.out
      have z8 := (HX3.out.trans_ hX5).cell_ k8
      have zf : w5.frozen? ⟨Kb, 8, none⟩ = false := by rw [(HX3.out.trans_ hX5).three.2.1 _ _ hlK]; exact fr
      have HX5 := Lib.hid (HX3.out.trans_ hX5)
      have hls5 := HX5.out.size
      clear hw5 hX5 HX4
      go_wp2
      go_end0
      exact ⟨rfl, tv, (H.out.ext HX5.out).bad false, (Keep.of_ext HX5.out).set_ (p := ⟨Kb, 8, none⟩) (Or.inl (Or.inl rfl)) _, fun k hk => Or.inl hk⟩
    · have hd2 : decide (1000 < xh - (shT nm) + shP nm) = false := decide_eq_false c2
      have HLOW := Lib.hid (HLOW3.out (by omega) (by omega))
      refine wp_region_held_drew (S := fun W => W.cell? ⟨P4, 0, none⟩ = some (.bool true) ∧ W.cell? ⟨P4, 1, none⟩ = some (.int .i64 xh) ∧ W.cell? ⟨P4, 2, none⟩ = some (.slice sa xt.length sc)) (by kernel_rfl) ?_ (fun hHeld => ?_)
      · exact ⟨p40, p41, p42⟩
      refine tk 0 ⟨some 55, _, _, _, _, _⟩ ?_ rfl ?_ ?_
      rotate_left
      · (intro w hSw; (try dsimp only at hSw); go_simp; try with_reducible rfl)
      try simp only [tkS]
      refine tk 1 ⟨some 56, _, _, _, _, _⟩ ?_ rfl ?_ ?_
      rotate_left
      · (intro w hSw; (try dsimp only at hSw); go_simp; try with_reducible rfl)
      try simp only [tkS]
      refine tk 2 ⟨some 57, _, _, _, _, _⟩ ?_ rfl ?_ ?_
      rotate_left
      · (intro w hSw; (try dsimp only at hSw); go_simp; try with_reducible rfl)
      try simp only [tkS]
      refine tk 3 ⟨some 58, _, _, _, _, _⟩ ?_ rfl ?_ ?_
      rotate_left
      · (intro w hSw; (try dsimp only at hSw); go_simp; try with_reducible rfl)
      try simp only [tkS]
      refine tk 4 ⟨some 59, _, _, _, _, _⟩ ?_ rfl ?_ ?_
      rotate_left
      · (intro w hSw; (try dsimp only at hSw); go_simp; try with_reducible rfl)
      try simp only [tkS]
      refine tk 5 ⟨some 60, _, _, _, _, _⟩ ?_ rfl ?_ ?_
      rotate_left
      · (intro w hSw; (try dsimp only at hSw); go_simp; try with_reducible rfl)
      try simp only [tkS]
      refine wpAnyH_ready (rs := [6]) (by kernel_rfl) (by simp) ?_
      refine AllReadyH.cons (o := ⟨some 61, _, _, _, _, _⟩) rfl (fun K hK => ?_) AllReadyH.nil
      go_simp
      refine (baseC_any B Kb sb mb c V f v fb fo tv g _ (H.out.ext (Ext.trans_ HX3.out (by first | exact Ext.refl _ | exact (Ext.refl _).drew_ | exact (Ext.refl _).drewN_ _))) HT.out h6 (xh, xt) HFIT.out true sa sc ((HRO.out.ext HX3.out).ext (by first | exact Ext.refl _ | exact (Ext.refl _).drew_ | exact (Ext.refl _).drewN_ _))).mono ?_
      rintro e w4 ⟨he, hE2⟩
      rw [HBASE.out] at he
      subst he
      have HX4 : Hid (Ext w3 w4) := Ext.trans_ (by first | exact Ext.refl _ | exact (Ext.refl _).drew_ | exact (Ext.refl _).drewN_ _) hE2
      clear hE2
      refine hK.out _ _ ?_ (fun hHeld => ?_)
      · (try dsimp only); exact ⟨HX4.out.cell_ p40, HX4.out.cell_ p41, HX4.out.cell_ p42⟩
      clear hK K
      try simp only [tkS]
      refine tk 7 ⟨some 62, _, _, _, _, _⟩ ?_ rfl ?_ ?_
      rotate_left
      · (intro w hSw; (try dsimp only at hSw); go_simp; try with_reducible rfl)
      try simp only [tkS]
      refine tk 8 ⟨some 63, _, _, _, _, _⟩ ?_ rfl ?_ ?_
      rotate_left
      · (intro w hSw; (try dsimp only at hSw); go_simp; try with_reducible rfl)
      try simp only [tkS]
      refine tk 9 ⟨some 64, _, _, _, _, _⟩ ?_ rfl ?_ ?_
      rotate_left
      · (intro w hSw; (try dsimp only at hSw); go_simp; try with_reducible rfl)
      try simp only [tkS]
      refine tk 10 ⟨some 65, _, _, _, _, _⟩ ?_ rfl ?_ ?_
      rotate_left
      · (intro w hSw; (try dsimp only at hSw); go_simp; try with_reducible rfl)
      try simp only [tkS]
      refine tk 11 ⟨some 66, _, _, _, _, _⟩ ?_ rfl ?_ ?_
      rotate_left
      · (intro w hSw; (try dsimp only at hSw); go_simp; try with_reducible rfl)
      try simp only [tkS]
      refine tk 12 ⟨some 67, _, _, _, _, _⟩ ?_ rfl ?_ ?_
      rotate_left
      · (intro w hSw; (try dsimp only at hSw); go_simp; try with_reducible rfl)
      try simp only [tkS]
      refine tk 13 ⟨some 68, _, _, _, _, _⟩ ?_ rfl ?_ ?_
      rotate_left
      · (intro w hSw; (try dsimp only at hSw); go_simp; try with_reducible rfl)
      try simp only [tkS]
      refine tk 14 ⟨some 69, _, _, _, _, _⟩ ?_ rfl ?_ ?_
      rotate_left
      · (intro w hSw; (try dsimp only at hSw); go_simp; try with_reducible rfl)
      try simp only [tkS]
      refine tk 15 ⟨some 70, _, _, _, _, _⟩ ?_ rfl ?_ ?_
      rotate_left
      · (intro w hSw; (try dsimp only at hSw); go_simp; try with_reducible rfl)
      try simp only [tkS]
      refine tk 16 ⟨some 71, _, _, _, _, _⟩ ?_ rfl ?_ ?_
      rotate_left
      · (intro w hSw; (try dsimp only at hSw); go_simp; try with_reducible rfl)
      try simp only [tkS]
      refine wpAnyH_done (by kernel_rfl) ?_ _
      clear HLOW1 HLOW2 HLOW3
      obtain ⟨q40, q41, q42⟩ := hHeld
      have q50 := HX4.out.cell_ p50
      have q51 := HX4.out.cell_ p51
      clear p40 p41 p42 p50 p51
      have hls4 := HX4.out.size
      have lP4 : P4 < w4.heap.size := by omega
      have lP5 : P5 < w4.heap.size := by omega
      go_upto_region 14 with fail
      obtain ⟨P9, hP9⟩ : ∃ P9, P9 = w4.heap.size := ⟨_, rfl⟩
      refine namedW (fun w5 hw5 => ?_)
      have hX5 : Ext w4 w5 := by rw [hw5]; exact (Ext.refl w4).alloc_ _
      have r90 : w5.cell? ⟨P9, 0, none⟩ = some (.bool true) := by rw [hw5, hP9]; simp [go_sem]
      have r91 : w5.cell? ⟨P9, 1, none⟩ = some (.int .i64 (xh - (shT nm) + shP nm)) := by rw [hw5, hP9]; simp [go_sem]
      have r92 : w5.cell? ⟨P9, 2, none⟩ = some (.slice sa xt.length sc) := by rw [hw5, hP9]; simp [go_sem]
      have r9f : w5.frozen? ⟨P9, 2, none⟩ = false := by rw [hw5, hP9]; simp [go_sem]
      rw [← hP9]
      have r41 := hX5.cell_ q41
      have r42 := hX5.cell_ q42
      have r50 := hX5.cell_ q50
      have r51 := hX5.cell_ q51
      have HX5 := Lib.hid ((HX3.out.trans_ HX4.out).trans_ hX5)
      have hls5 := hX5.size
      have hP9l : w.heap.size ≤ P9 := by omega
      have lP4 : P4 < w5.heap.size := by omega
      have lP5 : P5 < w5.heap.size := by omega
      have lP9 : P9 < w5.heap.size := cell_lt r90
      clear hw5 hP9 hX5 q40 q41 q42 q50 q51
      rcases List.eq_nil_or_concat xt with hxt | ⟨l, t, hxt⟩
      · obtain rfl := hxt
        have hres : RES = { g with ok := false } := by rw [← HRES.out]; exact step_none HLOW.out (by show outsP i ⟨nm, ax⟩ (xh, []) = none; rw [outs_end HNM.out]; rfl)
        have HX5k := HX5
        have z8 := HX5.out.cell_ k8
        have zf : w5.frozen? ⟨Kb, 8, none⟩ = false := by rw [HX5.out.three.2.1 _ _ hlK]; exact fr
        have hls55 := HX5.out.size
        have HRES2 := Lib.hid hres
        clear hres
        simp only [List.length_nil] at r42
        go_wp2
        go_end0
        exact ⟨rfl, tv, by rw [HRES2.out]; exact (H.out.ext HX5.out).bad false, (Keep.of_ext HX5.out).set_ (p := ⟨Kb, 8, none⟩) (Or.inl (Or.inl rfl)) _, fun k hk => Or.inl hk⟩
      · rw [List.concat_eq_append] at hxt
        have hlen : xt.length = l.length + 1 := by rw [hxt]; simp
        have HOUT : Hid (outsP i ⟨nm, ax⟩ (xh, xt) = some [((i : Int) + 1, (xh - (shT nm) + shP nm, l))]) := by
          show outsP i ⟨nm, ax⟩ (xh, xt) = some _
          rw [outs_end HNM.out, if_neg (by rw [hxt]; simp), h_take, h_put]
          simp [hxt]
        have hcap : l.length + 1 ≤ sc := by have := HRO.out.cap; omega
        have hsl0 : l.length ≤ 1000000 := by omega
        have hri5 : RInts w5 sa sc l := by
          have h5 := HRO.out.ext HX5.out
          refine ⟨fun j u hu => h5.row j u ?_, by omega, h5.nil⟩
          rw [hxt]
          simp only [ints, List.map_append] at hu ⊢
          rw [List.getElem?_append_left (List.getElem?_eq_some_iff.1 hu).1]
          exact hu
        have hrs : ∀ W : World, (Instr.slice 75 (.slice sa (l.length + 1) sc) none (some (.int .i64 (l.length : Int))) none).run Tryd.prog W = .ok (.slice sa l.length sc) W := fun W => by
          have hu : Tryd.prog.elem 75 = 3 := by simp [Program.elem, undInts]
          rw [run_slice_h W 75 sa (l.length + 1) sc (by rw [hu]; exact undInts) .i64 (l.length : Int) (by omega) (by omega), hu, show (sizeOf 3).run Tryd.prog W = .ok 1 W from by kernel_rfl]
          have h0 : ∀ ad : Addr, ad.add 0 = ad := fun ad => by cases ad; unfold Addr.add; split <;> simp_all
          cases sa <;> simp [sliced, Result.andThen, h0]
        have HRI5 := Lib.hid hri5
        rw [hlen] at r42 r92
        clear hri5 hxt hlen
        go_upto_region 31 with fail
        have hP9b : ¬ OwnC Kb sb tv P9 := OwnC.new H.out hP9l
        have hO6 := (H.out.ext HX5.out).aside ((H.out.stray hP9l).same (Below.block HX5.out sb hlS)) (fun e => hP9b (Or.inl e)) (fun e => hP9b (Or.inr (Or.inl e))) (fun e => hP9b (Or.inr (Or.inr e))) (Nat.le_trans H.out.hB hP9l) 2 (.slice sa l.length sc)
        have hri6 : RInts (w5.setCell ⟨P9, 2, none⟩ (.slice sa l.length sc)) sa sc l := HRI5.out.cells fun y hy => heap_setCell_other w5 ⟨P9, 2, none⟩ y.block _ (fun e => by have := (HFR.out y hy).1; simp only at e; omega)
        have hcc := comeC_any B Kb sb mb c V f v fb fo tv g _ hO6 HT.out h6 ((i : Int) + 1) (by omega) true (xh - (shT nm) + shP nm, l) hsl0 sa sc hri6
        simp only at hcc
        have hk6 : Keep (OwnC Kb sb tv) w (w5.setCell ⟨P9, 2, none⟩ (.slice sa l.length sc)) := (Keep.of_ext HX5.out).set_ (p := ⟨P9, 2, none⟩) (Or.inr hP9l) _
        have HCC := Lib.hid hcc
        have HK6 := Lib.hid hk6
        have hls6 : w5.heap.size = (w5.setCell ⟨P9, 2, none⟩ (.slice sa l.length sc)).heap.size := by simp [World.setCell]
        have HLS6 := Lib.hid hls6
        clear hO6 hri6 hcc hk6 hls6 r41 r42 r50 r51
        go_wp2_with (go_at_call 44; refine HCC.out.mono ?_; rintro e w7 ⟨rfl, tv7, ho7, hk7, hn7, hy7⟩; have HO7 := Lib.hid ho7; have HK7 := Lib.hid hk7; have HN7 := Lib.hid hn7; clear ho7 hk7 hn7 hy7)
        go_end0
        have hres : RES = comeP f.ops.length g ((i : Int) + 1) (xh - (shT nm) + shP nm, l) := by rw [← HRES.out]; exact step_outs HLOW.out HOUT.out
        refine ⟨rfl, tv7, by rw [hres]; exact HO7.out, HK6.out.then_ HK7.out fun k hk q => q, fun k hk => ?_⟩
        rcases HN7.out k hk with q | q
        · exact Or.inl q
        · exact Or.inr (by have := HLS6.out; omega)
end Go.Proofs.YtgjjkllngopboaaDoor
