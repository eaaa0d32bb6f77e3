/- The walk of the document's op. -/
import Derived.Test.YtgjjkllngopboaaDoorJCd04
import Derived.Test.YtgjjkllngopboaaDoorJCd03
import Derived.Deep.CutRange
namespace Go.Proofs.YtgjjkllngopboaaDoor
open Go.RowKit
set_option linter.unusedVariables false
set_option linter.unusedSimpArgs false

set_option maxRecDepth 100000 in
set_option maxHeartbeats 8000000 in
theorem gop_jump (B K sb : Nat) (f : FnP) (v : OpsV) (tv : Value) (g : GoP) (w : World) (h : OGo w B K sb f v tv g) (hT : TallP f.ops.length g) (h6 : f.ops.length ≤ 1000000)
    (i : Nat) (hi : i < f.ops.length) (x : StP) (hun : seenP g.s i = some x) (op : OpP) (hop : f.ops[i] = op) (a0 : 0 ≤ op.a) (a1 : op.a ≤ 1000000) (hnm : op.name = n_jump) :
    Calls Tryd.prog 48 #[.pointer (some ⟨K, 0, none⟩), .int .i64 (i : Int)] w (GoCV w B K sb f v tv (stepP f.ops.length (stepsP f.ops i) x g)) := by
  have t0 : (op.name.toList == [114, 101, 116, 117, 114, 110]) = false := by rw [hnm]; decide +kernel
  have t1 : (op.name.toList == [104, 97, 108, 116]) = false := by rw [hnm]; decide +kernel
  have t2 : (op.name.toList == [114, 97, 105, 115, 101]) = false := by rw [hnm]; decide +kernel
  have t3 : (op.name.toList == [106, 117, 109, 112]) = true := by rw [hnm]; decide +kernel
  have t4 : (op.name.toList == [117, 110, 108, 101, 115, 115]) = false := by rw [hnm]; decide +kernel
  have t5 : (op.name.toList == [110, 101, 120, 116]) = false := by rw [hnm]; decide +kernel
  have t6 : (op.name.toList == [116, 114, 121]) = false := by rw [hnm]; decide +kernel
  have t7 : (op.name.toList == [101, 110, 100]) = false := by rw [hnm]; decide +kernel
  have hst0 : i < g.s.length := by rw [hT.len]; exact hi
  have hfit := hT.fits i x hun
  have hpu := shape_puts op
  have htk := takes_in op a0 a1
  have hbs := hT.base x.2
  have hlenx := hfit.len
  have hsl := seens_le g.s
  rw [hT.len] at hsl
  have hxlo := hfit.lo
  have hxhi := hfit.hi
  have hstep : stepsP f.ops i = ⟨takesP op, putsP op, outsP i op⟩ := by
    have : opAt f.ops i = op := by unfold opAt; rw [List.getD_eq_getElem?_getD, List.getElem?_eq_getElem hi, ← hop]; rfl
    unfold stepsP; rw [this]
  rw [hstep]
  have HLOW1 : Hid (x.1 - takesP op < baseP g.s x.2 → stepP f.ops.length ⟨takesP op, putsP op, outsP i op⟩ x g = { g with ok := false }) := fun q => step_low (low1 q)
  have HLOW2 : Hid (1000 < x.1 - takesP op + putsP op → stepP f.ops.length ⟨takesP op, putsP op, outsP i op⟩ x g = { g with ok := false }) := fun q => step_low (low2 q)
  have HLOW3 : Hid (¬ x.1 - takesP op < baseP g.s x.2 → ¬ 1000 < x.1 - takesP op + putsP op → lowP g.s ⟨takesP op, putsP op, outsP i op⟩ x = false) := fun q r => low3 q r
  have HTO : Hid (∀ l, outsP i op x = some l → lowP g.s ⟨takesP op, putsP op, outsP i op⟩ x = false → ∀ c ∈ l, FitsP f.ops.length (seensP g.s) c.2) := fun l hl hlow => TallP.outs hT hi op hun hlow hl
  have HOUT : Hid (outsP i op x = some [(op.a, (x.1 - takesP op + putsP op, x.2))]) := outs_jump hnm
  generalize hRES : stepP f.ops.length ⟨takesP op, putsP op, outsP i op⟩ x g = RES at HLOW1 HLOW2 ⊢
  have HRES := Lib.hid hRES
  have hsh : ∀ W, Calls Tryd.prog 28 #[.agg #[.string op.name, .int .i64 op.a]] W fun e w' => (∃ kd kn, e = .returned (.tuple #[.int .i64 (takesP op), .int .i64 (putsP op), .string kd, .bool kn])) ∧ Ext W w' := fun W => (kShape_any op.name op.a W).mono fun e w' h => by
    obtain ⟨⟨t, h1, h2⟩, h3⟩ := h
    have h4 := h2 a0 a1
    subst h4
    exact ⟨⟨_, _, h1⟩, h3⟩
  have HSH := Lib.hid hsh
  obtain ⟨sa, sc, hst, hfr⟩ := h.st i hst0
  rw [hun] at hst
  obtain ⟨s0, s1, s2, hro⟩ := hst
  simp only [Option.isSome_some, Option.map_some, Option.getD_some] at s0 s1 s2 hro
  have hxl : x.2.length ≤ 1000000 := by omega
  have hfit' : FitsP f.ops.length (seensP g.s) x := hfit.mono (by omega)
  have hoc := opCells_at f.ops i hi
  rw [hop] at hoc
  obtain ⟨ob, oo, hov, o0⟩ := h.ops _ _ hoc.1
  have o1r := h.ops
  rw [hov] at o1r
  have o1 := o1r.at_ hoc.2
  clear o1r
  rw [← Nat.add_assoc] at o1
  have f5 := h.R.f5
  rw [hov] at f5
  have k6 := h.k6
  rw [hT.len] at k6
  have k8 := h.k8
  have fr := h.froK 8
  have hlK := h.lt.1
  have hlS := h.lt.2
  have hlo := cell_lt o0
  have hiz : (i : Int) < (f.ops.length : Int) := by omega
  have HBAS : Hid (∀ l t, x.2 = l ++ [t] → ∃ (T : Nat) (b o : Nat), t = (T : Int) ∧ T < f.ops.length ∧ sa = some ⟨b, o, none⟩ ∧ w.cell? ⟨b, o + l.length, none⟩ = some (.int .i64 (T : Int)) ∧ w.cell? ⟨sb, T * 3 + 1, none⟩ = some (.int .i64 (baseP g.s x.2))) := fun l t hxt => by
    have hlt : l.length < x.2.length := by rw [hxt]; simp
    obtain ⟨b, o, hb, hc⟩ := hro.at_ hlt
    have ht := hfit'.rng t (by rw [hxt]; simp)
    obtain ⟨T, rfl⟩ : ∃ T : Nat, t = (T : Int) := ⟨t.toNat, by omega⟩
    have hTl : T < g.s.length := by rw [hT.len]; omega
    obtain ⟨aa, cc, hs1, -⟩ := h.st T hTl
    refine ⟨T, b, o, rfl, by omega, hb, ?_, ?_⟩
    · have e : x.2.getD l.length 0 = (T : Int) := by rw [hxt]; simp
      rw [← e]; exact hc
    · have e : baseP g.s x.2 = highP g.s (T : Int) := by rw [hxt]; simp [baseP]
      have eh : highP g.s (T : Int) = ((seenP g.s T).map (·.1)).getD 0 := by simp [highP]
      rw [e, eh]; exact hs1.s1
  have HBZ : Hid (x.2 = [] → baseP g.s x.2 = 0) := fun q => by rw [q]; rfl
  have HFR := Lib.hid hfr
  have H := Lib.hid h
  have HT := Lib.hid hT
  have HRO := Lib.hid hro
  have HUN := Lib.hid hun
  generalize takesP op = tk at *
  generalize putsP op = pu at *
  generalize hbase : baseP g.s x.2 = bs at *
  have HBASE := Lib.hid hbase
  obtain ⟨nm, ax⟩ := op
  obtain ⟨xh, xt⟩ := x
  have HNM := Lib.hid hnm
  clear hnm
  simp only at *
  clear h hfr hro hun hT hst0 hstep hoc hov hfit hfit' hRES hop hbase hsh
  go_enter Tryd.func48, Tryd.ntmps48
  go_upto_region 2 with fail
  obtain ⟨P4, hP4⟩ : ∃ P4, P4 = w.heap.size := ⟨_, rfl⟩
  obtain ⟨P5, hP5⟩ : ∃ P5, P5 = w.heap.size + 1 := ⟨_, rfl⟩
  refine namedW (fun w1 hw1 => ?_)
  have p40 : w1.cell? ⟨P4, 0, none⟩ = some (.bool true) := by rw [hw1, hP4]; simp [go_sem]
  have p41 : w1.cell? ⟨P4, 1, none⟩ = some (.int .i64 xh) := by rw [hw1, hP4]; simp [go_sem]
  have p42 : w1.cell? ⟨P4, 2, none⟩ = some (.slice sa xt.length sc) := by rw [hw1, hP4]; simp [go_sem]
  have p50 : w1.cell? ⟨P5, 0, none⟩ = some (.string nm) := by rw [hw1, hP5]; simp [go_sem]
  have p51 : w1.cell? ⟨P5, 1, none⟩ = some (.int .i64 ax) := by rw [hw1, hP5]; simp [go_sem]
  have hX1 : Ext w w1 := by rw [hw1]; exact ((Ext.refl w).alloc_ _).alloc_ _
  rw [← hP5, ← hP4]
  have hP4l : w.heap.size ≤ P4 := by omega
  have hP5l : w.heap.size ≤ P5 := by omega
  have HX1 := Lib.hid hX1
  have lP4 : P4 < w1.heap.size := cell_lt p40
  have lP5 : P5 < w1.heap.size := cell_lt p50
  clear hw1 hP4 hP5 hX1 s0 s1 s2 o0 o1 f5
  go_upto_if 38 with (go_at_call 28; refine (HSH.out _).mono ?_; rintro e w2 ⟨⟨kd, kn, rfl⟩, hq⟩; have p40 := hq.cell_ p40; have p41 := hq.cell_ p41; have p42 := hq.cell_ p42; have p50 := hq.cell_ p50; have p51 := hq.cell_ p51; have HX2 := Lib.hid (HX1.out.trans_ hq); clear hq)
  have k6 := HX2.out.cell_ k6
  have hls2 := HX2.out.size
  have lP4 : P4 < w2.heap.size := cell_lt p40
  have lP5 : P5 < w2.heap.size := cell_lt p50
  clear HX1
  go_cut [10] from 13 to 53 (fun b wx => b = .int .i64 bs ∧ Hid (Ext w2 wx))
  case first =>
    rcases List.eq_nil_or_concat xt with hxt | ⟨l, t, hxt⟩
    · have hb0 := HBZ.out hxt
      subst hxt
      clear HBAS
      have hz : ¬ (0 : Int) < ((([] : List Int).length : Nat) : Int) := by simp
      subst hb0
      simp only [List.length_nil] at p42 hz ⊢
      go_wp2
      go_meet
      case rel => exact ⟨rfl, Ext.refl _⟩
    · rw [List.concat_eq_append] at hxt
      obtain ⟨T, b, o, ht, hTl, hsa, q1, q2⟩ := HBAS.out l t hxt
      subst hsa
      have hlen : xt.length = l.length + 1 := by rw [hxt]; simp
      have q1 := HX2.out.cell_ q1
      have q2 := HX2.out.cell_ q2
      rw [hlen] at p42 ⊢
      have hz : (0 : Int) < ((l.length + 1 : Nat) : Int) := by omega
      have e1 : IntKind.i64.wrap (((l.length + 1 : Nat) : Int) - 1) = (l.length : Int) := by rw [IntWalk.i64_in _ (by omega)]; omega
      have e2 : (((l.length + 1 : Nat) : Int) - 1) = (l.length : Int) := by omega
      have e5 : IntKind.i64.wrap (l.length : Int) = (l.length : Int) := IntWalk.i64_in _ (by omega)
      have e4 : IntKind.i64.wrap ((l.length : Int) + 1 - 1) = (l.length : Int) := by rw [IntWalk.i64_in _ (by omega)]; omega
      have hTz : (T : Int) < (f.ops.length : Int) := by omega
      have hlt1 : (l.length : Int) < ((l.length + 1 : Nat) : Int) := by omega
      have hlt2 : (l.length : Int) < (l.length : Int) + 1 := by omega
      have hlt0 : (0 : Int) ≤ (l.length : Int) := by omega
      clear hxt HBAS HBZ hlen ht
      go_wp2
      go_quiet (fail)
      go_wp2_with fail
      go_meet
      case rel => exact ⟨rfl, (Ext.refl _).drewN_ _⟩
  case rest =>
    obtain ⟨rfl, hE3⟩ := hcut
    clear HBAS HBZ
    obtain ⟨w3, hw3⟩ : ∃ w3, w3 = wc := ⟨_, rfl⟩
    rw [← hw3] at hE3 ⊢
    have p40 := hE3.out.cell_ p40
    have p41 := hE3.out.cell_ p41
    have p42 := hE3.out.cell_ p42
    have p50 := hE3.out.cell_ p50
    have p51 := hE3.out.cell_ p51
    have HX3 := Lib.hid (HX2.out.trans_ hE3.out)
    have hls3 := HX3.out.size
    have lP4 : P4 < w3.heap.size := cell_lt p40
    have lP5 : P5 < w3.heap.size := cell_lt p50
    have lK3 : K < w3.heap.size := by omega
    have z8 := HX3.out.cell_ k8
    have zf : w3.frozen? ⟨K, 8, none⟩ = false := by rw [HX3.out.three.2.1 _ _ hlK]; exact fr
    clear hw3 hE3 HX2 k6 k8 fr hls2
    have e1 : IntKind.i64.wrap (xh - tk) = xh - tk := IntWalk.i64_in _ (by omega)
    have e2 : IntKind.i64.wrap (xh - tk + pu) = xh - tk + pu := IntWalk.i64_in _ (by omega)
    by_cases c1 : xh - tk < bs
    · have hd : decide (xh - tk < bs) = true := decide_eq_true c1
      obtain rfl := HLOW1.out (by omega)
      clear HLOW1 HLOW2 HLOW3 c1
      go_wp2
      go_end0
      exact ⟨rfl, tv, (H.out.ext HX3.out).bad, (Keep.of_ext HX3.out).set_ (p := ⟨K, 8, none⟩) (Or.inl (Or.inl rfl)) _, fun k hk => Or.inl hk⟩
    have hd : decide (xh - tk < bs) = false := decide_eq_false c1
    by_cases c2 : 1000 < xh - tk + pu
    · have hd2 : decide (1000 < xh - tk + pu) = true := decide_eq_true c2
      obtain rfl := HLOW2.out (by omega)
      clear HLOW1 HLOW2 HLOW3 c1
      go_wp2
      go_end0
      exact ⟨rfl, tv, (H.out.ext HX3.out).bad, (Keep.of_ext HX3.out).set_ (p := ⟨K, 8, none⟩) (Or.inl (Or.inl rfl)) _, fun k hk => Or.inl hk⟩
    have hd2 : decide (1000 < xh - tk + pu) = false := decide_eq_false c2
    have HLOW := Lib.hid (HLOW3.out (by omega) (by omega))
    clear HLOW1 HLOW2 HLOW3
    clear c1 c2
    go_wp2_with (go_at_call 47; refine (goC_any B K sb f v tv (g) _ (H.out.ext HX3.out) (HT.out) h6 _ (by omega) (xh - tk + pu, xt) (by exact hxl) sa sc (HRO.out.ext HX3.out)).mono ?_; rintro e w6 ⟨rfl, tv6, ho6, hk6, hn6⟩; have HO6 := Lib.hid ho6; have HK6 := Lib.hid hk6; have HN6 := Lib.hid hn6; clear ho6 hk6 hn6)
    go_end0
    have hres : RES = comeP f.ops.length g (ax) (xh - tk + pu, xt) := by rw [← HRES.out]; exact step_outs HLOW.out HOUT.out
    refine ⟨rfl, tv6, by rw [hres]; exact HO6.out, (Keep.of_ext HX3.out).then_ HK6.out fun k hk q => q, fun k hk => ?_⟩
    rcases HN6.out k hk with q | q
    · exact Or.inl q
    · exact Or.inr (by omega)
set_option maxRecDepth 100000 in
set_option maxHeartbeats 8000000 in
theorem gop_unless (B K sb : Nat) (f : FnP) (v : OpsV) (tv : Value) (g : GoP) (w : World) (h : OGo w B K sb f v tv g) (hT : TallP f.ops.length g) (h6 : f.ops.length ≤ 1000000)
    (i : Nat) (hi : i < f.ops.length) (x : StP) (hun : seenP g.s i = some x) (op : OpP) (hop : f.ops[i] = op) (a0 : 0 ≤ op.a) (a1 : op.a ≤ 1000000) (hnm : op.name = n_unless) :
    Calls Tryd.prog 48 #[.pointer (some ⟨K, 0, none⟩), .int .i64 (i : Int)] w (GoCV w B K sb f v tv (stepP f.ops.length (stepsP f.ops i) x g)) := by
  have t0 : (op.name.toList == [114, 101, 116, 117, 114, 110]) = false := by rw [hnm]; decide +kernel
  have t1 : (op.name.toList == [104, 97, 108, 116]) = false := by rw [hnm]; decide +kernel
  have t2 : (op.name.toList == [114, 97, 105, 115, 101]) = false := by rw [hnm]; decide +kernel
  have t3 : (op.name.toList == [106, 117, 109, 112]) = false := by rw [hnm]; decide +kernel
  have t4 : (op.name.toList == [117, 110, 108, 101, 115, 115]) = true := by rw [hnm]; decide +kernel
  have t5 : (op.name.toList == [110, 101, 120, 116]) = false := by rw [hnm]; decide +kernel
  have t6 : (op.name.toList == [116, 114, 121]) = false := by rw [hnm]; decide +kernel
  have t7 : (op.name.toList == [101, 110, 100]) = false := by rw [hnm]; decide +kernel
  have hst0 : i < g.s.length := by rw [hT.len]; exact hi
  have hfit := hT.fits i x hun
  have hpu := shape_puts op
  have htk := takes_in op a0 a1
  have hbs := hT.base x.2
  have hlenx := hfit.len
  have hsl := seens_le g.s
  rw [hT.len] at hsl
  have hxlo := hfit.lo
  have hxhi := hfit.hi
  have hstep : stepsP f.ops i = ⟨takesP op, putsP op, outsP i op⟩ := by
    have : opAt f.ops i = op := by unfold opAt; rw [List.getD_eq_getElem?_getD, List.getElem?_eq_getElem hi, ← hop]; rfl
    unfold stepsP; rw [this]
  rw [hstep]
  have HLOW1 : Hid (x.1 - takesP op < baseP g.s x.2 → stepP f.ops.length ⟨takesP op, putsP op, outsP i op⟩ x g = { g with ok := false }) := fun q => step_low (low1 q)
  have HLOW2 : Hid (1000 < x.1 - takesP op + putsP op → stepP f.ops.length ⟨takesP op, putsP op, outsP i op⟩ x g = { g with ok := false }) := fun q => step_low (low2 q)
  have HLOW3 : Hid (¬ x.1 - takesP op < baseP g.s x.2 → ¬ 1000 < x.1 - takesP op + putsP op → lowP g.s ⟨takesP op, putsP op, outsP i op⟩ x = false) := fun q r => low3 q r
  have HTO : Hid (∀ l, outsP i op x = some l → lowP g.s ⟨takesP op, putsP op, outsP i op⟩ x = false → ∀ c ∈ l, FitsP f.ops.length (seensP g.s) c.2) := fun l hl hlow => TallP.outs hT hi op hun hlow hl
  have HOUT : Hid (outsP i op x = some [(op.a, (x.1 - takesP op + putsP op, x.2)), (((i : Int) + 1), (x.1 - takesP op + putsP op, x.2))]) := outs_unless hnm
  generalize hRES : stepP f.ops.length ⟨takesP op, putsP op, outsP i op⟩ x g = RES at HLOW1 HLOW2 ⊢
  have HRES := Lib.hid hRES
  have hsh : ∀ W, Calls Tryd.prog 28 #[.agg #[.string op.name, .int .i64 op.a]] W fun e w' => (∃ kd kn, e = .returned (.tuple #[.int .i64 (takesP op), .int .i64 (putsP op), .string kd, .bool kn])) ∧ Ext W w' := fun W => (kShape_any op.name op.a W).mono fun e w' h => by
    obtain ⟨⟨t, h1, h2⟩, h3⟩ := h
    have h4 := h2 a0 a1
    subst h4
    exact ⟨⟨_, _, h1⟩, h3⟩
  have HSH := Lib.hid hsh
  obtain ⟨sa, sc, hst, hfr⟩ := h.st i hst0
  rw [hun] at hst
  obtain ⟨s0, s1, s2, hro⟩ := hst
  simp only [Option.isSome_some, Option.map_some, Option.getD_some] at s0 s1 s2 hro
  have hxl : x.2.length ≤ 1000000 := by omega
  have hfit' : FitsP f.ops.length (seensP g.s) x := hfit.mono (by omega)
  have hoc := opCells_at f.ops i hi
  rw [hop] at hoc
  obtain ⟨ob, oo, hov, o0⟩ := h.ops _ _ hoc.1
  have o1r := h.ops
  rw [hov] at o1r
  have o1 := o1r.at_ hoc.2
  clear o1r
  rw [← Nat.add_assoc] at o1
  have f5 := h.R.f5
  rw [hov] at f5
  have k6 := h.k6
  rw [hT.len] at k6
  have k8 := h.k8
  have fr := h.froK 8
  have hlK := h.lt.1
  have hlS := h.lt.2
  have hlo := cell_lt o0
  have hiz : (i : Int) < (f.ops.length : Int) := by omega
  have HBAS : Hid (∀ l t, x.2 = l ++ [t] → ∃ (T : Nat) (b o : Nat), t = (T : Int) ∧ T < f.ops.length ∧ sa = some ⟨b, o, none⟩ ∧ w.cell? ⟨b, o + l.length, none⟩ = some (.int .i64 (T : Int)) ∧ w.cell? ⟨sb, T * 3 + 1, none⟩ = some (.int .i64 (baseP g.s x.2))) := fun l t hxt => by
    have hlt : l.length < x.2.length := by rw [hxt]; simp
    obtain ⟨b, o, hb, hc⟩ := hro.at_ hlt
    have ht := hfit'.rng t (by rw [hxt]; simp)
    obtain ⟨T, rfl⟩ : ∃ T : Nat, t = (T : Int) := ⟨t.toNat, by omega⟩
    have hTl : T < g.s.length := by rw [hT.len]; omega
    obtain ⟨aa, cc, hs1, -⟩ := h.st T hTl
    refine ⟨T, b, o, rfl, by omega, hb, ?_, ?_⟩
    · have e : x.2.getD l.length 0 = (T : Int) := by rw [hxt]; simp
      rw [← e]; exact hc
    · have e : baseP g.s x.2 = highP g.s (T : Int) := by rw [hxt]; simp [baseP]
      have eh : highP g.s (T : Int) = ((seenP g.s T).map (·.1)).getD 0 := by simp [highP]
      rw [e, eh]; exact hs1.s1
  have HBZ : Hid (x.2 = [] → baseP g.s x.2 = 0) := fun q => by rw [q]; rfl
  have HFR := Lib.hid hfr
  have H := Lib.hid h
  have HT := Lib.hid hT
  have HRO := Lib.hid hro
  have HUN := Lib.hid hun
  generalize takesP op = tk at *
  generalize putsP op = pu at *
  generalize hbase : baseP g.s x.2 = bs at *
  have HBASE := Lib.hid hbase
  obtain ⟨nm, ax⟩ := op
  obtain ⟨xh, xt⟩ := x
  have HNM := Lib.hid hnm
  clear hnm
  simp only at *
  clear h hfr hro hun hT hst0 hstep hoc hov hfit hfit' hRES hop hbase hsh
  go_enter Tryd.func48, Tryd.ntmps48
  go_upto_region 2 with fail
  obtain ⟨P4, hP4⟩ : ∃ P4, P4 = w.heap.size := ⟨_, rfl⟩
  obtain ⟨P5, hP5⟩ : ∃ P5, P5 = w.heap.size + 1 := ⟨_, rfl⟩
  refine namedW (fun w1 hw1 => ?_)
  have p40 : w1.cell? ⟨P4, 0, none⟩ = some (.bool true) := by rw [hw1, hP4]; simp [go_sem]
  have p41 : w1.cell? ⟨P4, 1, none⟩ = some (.int .i64 xh) := by rw [hw1, hP4]; simp [go_sem]
  have p42 : w1.cell? ⟨P4, 2, none⟩ = some (.slice sa xt.length sc) := by rw [hw1, hP4]; simp [go_sem]
  have p50 : w1.cell? ⟨P5, 0, none⟩ = some (.string nm) := by rw [hw1, hP5]; simp [go_sem]
  have p51 : w1.cell? ⟨P5, 1, none⟩ = some (.int .i64 ax) := by rw [hw1, hP5]; simp [go_sem]
  have hX1 : Ext w w1 := by rw [hw1]; exact ((Ext.refl w).alloc_ _).alloc_ _
  rw [← hP5, ← hP4]
  have hP4l : w.heap.size ≤ P4 := by omega
  have hP5l : w.heap.size ≤ P5 := by omega
  have HX1 := Lib.hid hX1
  have lP4 : P4 < w1.heap.size := cell_lt p40
  have lP5 : P5 < w1.heap.size := cell_lt p50
  clear hw1 hP4 hP5 hX1 s0 s1 s2 o0 o1 f5
  go_upto_if 38 with (go_at_call 28; refine (HSH.out _).mono ?_; rintro e w2 ⟨⟨kd, kn, rfl⟩, hq⟩; have p40 := hq.cell_ p40; have p41 := hq.cell_ p41; have p42 := hq.cell_ p42; have p50 := hq.cell_ p50; have p51 := hq.cell_ p51; have HX2 := Lib.hid (HX1.out.trans_ hq); clear hq)
  have k6 := HX2.out.cell_ k6
  have hls2 := HX2.out.size
  have lP4 : P4 < w2.heap.size := cell_lt p40
  have lP5 : P5 < w2.heap.size := cell_lt p50
  clear HX1
  go_cut [10] from 13 to 53 (fun b wx => b = .int .i64 bs ∧ Hid (Ext w2 wx))
  case first =>
    rcases List.eq_nil_or_concat xt with hxt | ⟨l, t, hxt⟩
    · have hb0 := HBZ.out hxt
      subst hxt
      clear HBAS
      have hz : ¬ (0 : Int) < ((([] : List Int).length : Nat) : Int) := by simp
      subst hb0
      simp only [List.length_nil] at p42 hz ⊢
      go_wp2
      go_meet
      case rel => exact ⟨rfl, Ext.refl _⟩
    · rw [List.concat_eq_append] at hxt
      obtain ⟨T, b, o, ht, hTl, hsa, q1, q2⟩ := HBAS.out l t hxt
      subst hsa
      have hlen : xt.length = l.length + 1 := by rw [hxt]; simp
      have q1 := HX2.out.cell_ q1
      have q2 := HX2.out.cell_ q2
      rw [hlen] at p42 ⊢
      have hz : (0 : Int) < ((l.length + 1 : Nat) : Int) := by omega
      have e1 : IntKind.i64.wrap (((l.length + 1 : Nat) : Int) - 1) = (l.length : Int) := by rw [IntWalk.i64_in _ (by omega)]; omega
      have e2 : (((l.length + 1 : Nat) : Int) - 1) = (l.length : Int) := by omega
      have e5 : IntKind.i64.wrap (l.length : Int) = (l.length : Int) := IntWalk.i64_in _ (by omega)
      have e4 : IntKind.i64.wrap ((l.length : Int) + 1 - 1) = (l.length : Int) := by rw [IntWalk.i64_in _ (by omega)]; omega
      have hTz : (T : Int) < (f.ops.length : Int) := by omega
      have hlt1 : (l.length : Int) < ((l.length + 1 : Nat) : Int) := by omega
      have hlt2 : (l.length : Int) < (l.length : Int) + 1 := by omega
      have hlt0 : (0 : Int) ≤ (l.length : Int) := by omega
      clear hxt HBAS HBZ hlen ht
      go_wp2
      go_quiet (fail)
      go_wp2_with fail
      go_meet
      case rel => exact ⟨rfl, (Ext.refl _).drewN_ _⟩
  case rest =>
    obtain ⟨rfl, hE3⟩ := hcut
    clear HBAS HBZ
    obtain ⟨w3, hw3⟩ : ∃ w3, w3 = wc := ⟨_, rfl⟩
    rw [← hw3] at hE3 ⊢
    have p40 := hE3.out.cell_ p40
    have p41 := hE3.out.cell_ p41
    have p42 := hE3.out.cell_ p42
    have p50 := hE3.out.cell_ p50
    have p51 := hE3.out.cell_ p51
    have HX3 := Lib.hid (HX2.out.trans_ hE3.out)
    have hls3 := HX3.out.size
    have lP4 : P4 < w3.heap.size := cell_lt p40
    have lP5 : P5 < w3.heap.size := cell_lt p50
    have lK3 : K < w3.heap.size := by omega
    have z8 := HX3.out.cell_ k8
    have zf : w3.frozen? ⟨K, 8, none⟩ = false := by rw [HX3.out.three.2.1 _ _ hlK]; exact fr
    clear hw3 hE3 HX2 k6 k8 fr hls2
    have e1 : IntKind.i64.wrap (xh - tk) = xh - tk := IntWalk.i64_in _ (by omega)
    have e2 : IntKind.i64.wrap (xh - tk + pu) = xh - tk + pu := IntWalk.i64_in _ (by omega)
    by_cases c1 : xh - tk < bs
    · have hd : decide (xh - tk < bs) = true := decide_eq_true c1
      obtain rfl := HLOW1.out (by omega)
      clear HLOW1 HLOW2 HLOW3 c1
      go_wp2
      go_end0
      exact ⟨rfl, tv, (H.out.ext HX3.out).bad, (Keep.of_ext HX3.out).set_ (p := ⟨K, 8, none⟩) (Or.inl (Or.inl rfl)) _, fun k hk => Or.inl hk⟩
    have hd : decide (xh - tk < bs) = false := decide_eq_false c1
    by_cases c2 : 1000 < xh - tk + pu
    · have hd2 : decide (1000 < xh - tk + pu) = true := decide_eq_true c2
      obtain rfl := HLOW2.out (by omega)
      clear HLOW1 HLOW2 HLOW3 c1
      go_wp2
      go_end0
      exact ⟨rfl, tv, (H.out.ext HX3.out).bad, (Keep.of_ext HX3.out).set_ (p := ⟨K, 8, none⟩) (Or.inl (Or.inl rfl)) _, fun k hk => Or.inl hk⟩
    have hd2 : decide (1000 < xh - tk + pu) = false := decide_eq_false c2
    have HLOW := Lib.hid (HLOW3.out (by omega) (by omega))
    clear HLOW1 HLOW2 HLOW3
    have HF1 := Lib.hid (HTO.out _ HOUT.out HLOW.out _ List.mem_cons_self)
    simp only at HF1
    have HT1 := Lib.hid (HT.out.come ax HF1.out).1
    clear c1 c2
    go_upto_region 18 with (go_at_call 47; refine (goC_any B K sb f v tv (g) _ (H.out.ext HX3.out) (HT.out) h6 _ (by omega) (xh - tk + pu, xt) (by exact hxl) sa sc (HRO.out.ext HX3.out)).mono ?_; rintro e w6 ⟨rfl, tv6, ho6, hk6, hn6⟩; have HO6 := Lib.hid ho6; have HK6 := Lib.hid hk6; have HN6 := Lib.hid hn6; clear ho6 hk6 hn6)
    have HR6 := Lib.hid (RInts.keep_ (HRO.out.ext HX3.out) HFR.out (by omega) HK6.out)
    have p40 := HK6.out.cell (p := ⟨P4, 0, none⟩) (goNew H.out hP4l) p40
    have p41 := HK6.out.cell (p := ⟨P4, 1, none⟩) (goNew H.out hP4l) p41
    have p42 := HK6.out.cell (p := ⟨P4, 2, none⟩) (goNew H.out hP4l) p42
    have hls6 := HK6.out.size
    have lP4 : P4 < w6.heap.size := by omega
    clear p50 p51 z8 zf
    go_wp2_with (go_at_call 47; refine (goC_any B K sb f v tv6 (comeP f.ops.length g ax (xh - tk + pu, xt)) _ (HO6.out) (HT1.out) h6 _ (by omega) (xh - tk + pu, xt) (by exact hxl) sa sc HR6.out).mono ?_; rintro e w7 ⟨rfl, tv7, ho7, hk7, hn7⟩; have HO7 := Lib.hid ho7; have HK7 := Lib.hid hk7; have HN7 := Lib.hid hn7; clear ho7 hk7 hn7)
    go_end0
    have hres : RES = comeP f.ops.length (comeP f.ops.length g ax (xh - tk + pu, xt)) ((i : Int) + 1) (xh - tk + pu, xt) := by rw [← HRES.out]; exact step_outs HLOW.out HOUT.out
    obtain ⟨z1, z2⟩ := ComeV.then_ ((Keep.of_ext HX3.out).then_ HK6.out fun k hk q => q) (fun k hk => (by rcases HN6.out k hk with q | q; exact Or.inl q; exact Or.inr (by omega))) HK7.out HN7.out
    exact ⟨rfl, tv7, by rw [hres]; exact HO7.out, z1, z2⟩
set_option maxRecDepth 100000 in
set_option maxHeartbeats 8000000 in
theorem gop_next (B K sb : Nat) (f : FnP) (v : OpsV) (tv : Value) (g : GoP) (w : World) (h : OGo w B K sb f v tv g) (hT : TallP f.ops.length g) (h6 : f.ops.length ≤ 1000000)
    (i : Nat) (hi : i < f.ops.length) (x : StP) (hun : seenP g.s i = some x) (op : OpP) (hop : f.ops[i] = op) (a0 : 0 ≤ op.a) (a1 : op.a ≤ 1000000) (hnm : op.name = n_next) :
    Calls Tryd.prog 48 #[.pointer (some ⟨K, 0, none⟩), .int .i64 (i : Int)] w (GoCV w B K sb f v tv (stepP f.ops.length (stepsP f.ops i) x g)) := by
  have t0 : (op.name.toList == [114, 101, 116, 117, 114, 110]) = false := by rw [hnm]; decide +kernel
  have t1 : (op.name.toList == [104, 97, 108, 116]) = false := by rw [hnm]; decide +kernel
  have t2 : (op.name.toList == [114, 97, 105, 115, 101]) = false := by rw [hnm]; decide +kernel
  have t3 : (op.name.toList == [106, 117, 109, 112]) = false := by rw [hnm]; decide +kernel
  have t4 : (op.name.toList == [117, 110, 108, 101, 115, 115]) = false := by rw [hnm]; decide +kernel
  have t5 : (op.name.toList == [110, 101, 120, 116]) = true := by rw [hnm]; decide +kernel
  have t6 : (op.name.toList == [116, 114, 121]) = false := by rw [hnm]; decide +kernel
  have t7 : (op.name.toList == [101, 110, 100]) = false := by rw [hnm]; decide +kernel
  have hst0 : i < g.s.length := by rw [hT.len]; exact hi
  have hfit := hT.fits i x hun
  have hpu := shape_puts op
  have htk := takes_in op a0 a1
  have hbs := hT.base x.2
  have hlenx := hfit.len
  have hsl := seens_le g.s
  rw [hT.len] at hsl
  have hxlo := hfit.lo
  have hxhi := hfit.hi
  have hstep : stepsP f.ops i = ⟨takesP op, putsP op, outsP i op⟩ := by
    have : opAt f.ops i = op := by unfold opAt; rw [List.getD_eq_getElem?_getD, List.getElem?_eq_getElem hi, ← hop]; rfl
    unfold stepsP; rw [this]
  rw [hstep]
  have HLOW1 : Hid (x.1 - takesP op < baseP g.s x.2 → stepP f.ops.length ⟨takesP op, putsP op, outsP i op⟩ x g = { g with ok := false }) := fun q => step_low (low1 q)
  have HLOW2 : Hid (1000 < x.1 - takesP op + putsP op → stepP f.ops.length ⟨takesP op, putsP op, outsP i op⟩ x g = { g with ok := false }) := fun q => step_low (low2 q)
  have HLOW3 : Hid (¬ x.1 - takesP op < baseP g.s x.2 → ¬ 1000 < x.1 - takesP op + putsP op → lowP g.s ⟨takesP op, putsP op, outsP i op⟩ x = false) := fun q r => low3 q r
  have HTO : Hid (∀ l, outsP i op x = some l → lowP g.s ⟨takesP op, putsP op, outsP i op⟩ x = false → ∀ c ∈ l, FitsP f.ops.length (seensP g.s) c.2) := fun l hl hlow => TallP.outs hT hi op hun hlow hl
  have HOUT : Hid (outsP i op x = some [(op.a, (x.1 - 1, x.2)), (((i : Int) + 1), (x.1 - takesP op + putsP op, x.2))]) := outs_next hnm
  generalize hRES : stepP f.ops.length ⟨takesP op, putsP op, outsP i op⟩ x g = RES at HLOW1 HLOW2 ⊢
  have HRES := Lib.hid hRES
  have hsh : ∀ W, Calls Tryd.prog 28 #[.agg #[.string op.name, .int .i64 op.a]] W fun e w' => (∃ kd kn, e = .returned (.tuple #[.int .i64 (takesP op), .int .i64 (putsP op), .string kd, .bool kn])) ∧ Ext W w' := fun W => (kShape_any op.name op.a W).mono fun e w' h => by
    obtain ⟨⟨t, h1, h2⟩, h3⟩ := h
    have h4 := h2 a0 a1
    subst h4
    exact ⟨⟨_, _, h1⟩, h3⟩
  have HSH := Lib.hid hsh
  obtain ⟨sa, sc, hst, hfr⟩ := h.st i hst0
  rw [hun] at hst
  obtain ⟨s0, s1, s2, hro⟩ := hst
  simp only [Option.isSome_some, Option.map_some, Option.getD_some] at s0 s1 s2 hro
  have hxl : x.2.length ≤ 1000000 := by omega
  have hfit' : FitsP f.ops.length (seensP g.s) x := hfit.mono (by omega)
  have hoc := opCells_at f.ops i hi
  rw [hop] at hoc
  obtain ⟨ob, oo, hov, o0⟩ := h.ops _ _ hoc.1
  have o1r := h.ops
  rw [hov] at o1r
  have o1 := o1r.at_ hoc.2
  clear o1r
  rw [← Nat.add_assoc] at o1
  have f5 := h.R.f5
  rw [hov] at f5
  have k6 := h.k6
  rw [hT.len] at k6
  have k8 := h.k8
  have fr := h.froK 8
  have hlK := h.lt.1
  have hlS := h.lt.2
  have hlo := cell_lt o0
  have hiz : (i : Int) < (f.ops.length : Int) := by omega
  have HBAS : Hid (∀ l t, x.2 = l ++ [t] → ∃ (T : Nat) (b o : Nat), t = (T : Int) ∧ T < f.ops.length ∧ sa = some ⟨b, o, none⟩ ∧ w.cell? ⟨b, o + l.length, none⟩ = some (.int .i64 (T : Int)) ∧ w.cell? ⟨sb, T * 3 + 1, none⟩ = some (.int .i64 (baseP g.s x.2))) := fun l t hxt => by
    have hlt : l.length < x.2.length := by rw [hxt]; simp
    obtain ⟨b, o, hb, hc⟩ := hro.at_ hlt
    have ht := hfit'.rng t (by rw [hxt]; simp)
    obtain ⟨T, rfl⟩ : ∃ T : Nat, t = (T : Int) := ⟨t.toNat, by omega⟩
    have hTl : T < g.s.length := by rw [hT.len]; omega
    obtain ⟨aa, cc, hs1, -⟩ := h.st T hTl
    refine ⟨T, b, o, rfl, by omega, hb, ?_, ?_⟩
    · have e : x.2.getD l.length 0 = (T : Int) := by rw [hxt]; simp
      rw [← e]; exact hc
    · have e : baseP g.s x.2 = highP g.s (T : Int) := by rw [hxt]; simp [baseP]
      have eh : highP g.s (T : Int) = ((seenP g.s T).map (·.1)).getD 0 := by simp [highP]
      rw [e, eh]; exact hs1.s1
  have HBZ : Hid (x.2 = [] → baseP g.s x.2 = 0) := fun q => by rw [q]; rfl
  have HFR := Lib.hid hfr
  have H := Lib.hid h
  have HT := Lib.hid hT
  have HRO := Lib.hid hro
  have HUN := Lib.hid hun
  generalize takesP op = tk at *
  generalize putsP op = pu at *
  generalize hbase : baseP g.s x.2 = bs at *
  have HBASE := Lib.hid hbase
  obtain ⟨nm, ax⟩ := op
  obtain ⟨xh, xt⟩ := x
  have HNM := Lib.hid hnm
  clear hnm
  simp only at *
  clear h hfr hro hun hT hst0 hstep hoc hov hfit hfit' hRES hop hbase hsh
  go_enter Tryd.func48, Tryd.ntmps48
  go_upto_region 2 with fail
  obtain ⟨P4, hP4⟩ : ∃ P4, P4 = w.heap.size := ⟨_, rfl⟩
  obtain ⟨P5, hP5⟩ : ∃ P5, P5 = w.heap.size + 1 := ⟨_, rfl⟩
  refine namedW (fun w1 hw1 => ?_)
  have p40 : w1.cell? ⟨P4, 0, none⟩ = some (.bool true) := by rw [hw1, hP4]; simp [go_sem]
  have p41 : w1.cell? ⟨P4, 1, none⟩ = some (.int .i64 xh) := by rw [hw1, hP4]; simp [go_sem]
  have p42 : w1.cell? ⟨P4, 2, none⟩ = some (.slice sa xt.length sc) := by rw [hw1, hP4]; simp [go_sem]
  have p50 : w1.cell? ⟨P5, 0, none⟩ = some (.string nm) := by rw [hw1, hP5]; simp [go_sem]
  have p51 : w1.cell? ⟨P5, 1, none⟩ = some (.int .i64 ax) := by rw [hw1, hP5]; simp [go_sem]
  have hX1 : Ext w w1 := by rw [hw1]; exact ((Ext.refl w).alloc_ _).alloc_ _
  rw [← hP5, ← hP4]
  have hP4l : w.heap.size ≤ P4 := by omega
  have hP5l : w.heap.size ≤ P5 := by omega
  have HX1 := Lib.hid hX1
  have lP4 : P4 < w1.heap.size := cell_lt p40
  have lP5 : P5 < w1.heap.size := cell_lt p50
  clear hw1 hP4 hP5 hX1 s0 s1 s2 o0 o1 f5
  go_upto_if 38 with (go_at_call 28; refine (HSH.out _).mono ?_; rintro e w2 ⟨⟨kd, kn, rfl⟩, hq⟩; have p40 := hq.cell_ p40; have p41 := hq.cell_ p41; have p42 := hq.cell_ p42; have p50 := hq.cell_ p50; have p51 := hq.cell_ p51; have HX2 := Lib.hid (HX1.out.trans_ hq); clear hq)
  have k6 := HX2.out.cell_ k6
  have hls2 := HX2.out.size
  have lP4 : P4 < w2.heap.size := cell_lt p40
  have lP5 : P5 < w2.heap.size := cell_lt p50
  clear HX1
  go_cut [10] from 13 to 53 (fun b wx => b = .int .i64 bs ∧ Hid (Ext w2 wx))
  case first =>
    rcases List.eq_nil_or_concat xt with hxt | ⟨l, t, hxt⟩
    · have hb0 := HBZ.out hxt
      subst hxt
      clear HBAS
      have hz : ¬ (0 : Int) < ((([] : List Int).length : Nat) : Int) := by simp
      subst hb0
      simp only [List.length_nil] at p42 hz ⊢
      go_wp2
      go_meet
      case rel => exact ⟨rfl, Ext.refl _⟩
    · rw [List.concat_eq_append] at hxt
      obtain ⟨T, b, o, ht, hTl, hsa, q1, q2⟩ := HBAS.out l t hxt
      subst hsa
      have hlen : xt.length = l.length + 1 := by rw [hxt]; simp
      have q1 := HX2.out.cell_ q1
      have q2 := HX2.out.cell_ q2
      rw [hlen] at p42 ⊢
      have hz : (0 : Int) < ((l.length + 1 : Nat) : Int) := by omega
      have e1 : IntKind.i64.wrap (((l.length + 1 : Nat) : Int) - 1) = (l.length : Int) := by rw [IntWalk.i64_in _ (by omega)]; omega
      have e2 : (((l.length + 1 : Nat) : Int) - 1) = (l.length : Int) := by omega
      have e5 : IntKind.i64.wrap (l.length : Int) = (l.length : Int) := IntWalk.i64_in _ (by omega)
      have e4 : IntKind.i64.wrap ((l.length : Int) + 1 - 1) = (l.length : Int) := by rw [IntWalk.i64_in _ (by omega)]; omega
      have hTz : (T : Int) < (f.ops.length : Int) := by omega
      have hlt1 : (l.length : Int) < ((l.length + 1 : Nat) : Int) := by omega
      have hlt2 : (l.length : Int) < (l.length : Int) + 1 := by omega
      have hlt0 : (0 : Int) ≤ (l.length : Int) := by omega
      clear hxt HBAS HBZ hlen ht
      go_wp2
      go_quiet (fail)
      go_wp2_with fail
      go_meet
      case rel => exact ⟨rfl, (Ext.refl _).drewN_ _⟩
  case rest =>
    obtain ⟨rfl, hE3⟩ := hcut
    clear HBAS HBZ
    obtain ⟨w3, hw3⟩ : ∃ w3, w3 = wc := ⟨_, rfl⟩
    rw [← hw3] at hE3 ⊢
    have p40 := hE3.out.cell_ p40
    have p41 := hE3.out.cell_ p41
    have p42 := hE3.out.cell_ p42
    have p50 := hE3.out.cell_ p50
    have p51 := hE3.out.cell_ p51
    have HX3 := Lib.hid (HX2.out.trans_ hE3.out)
    have hls3 := HX3.out.size
    have lP4 : P4 < w3.heap.size := cell_lt p40
    have lP5 : P5 < w3.heap.size := cell_lt p50
    have lK3 : K < w3.heap.size := by omega
    have z8 := HX3.out.cell_ k8
    have zf : w3.frozen? ⟨K, 8, none⟩ = false := by rw [HX3.out.three.2.1 _ _ hlK]; exact fr
    clear hw3 hE3 HX2 k6 k8 fr hls2
    have e1 : IntKind.i64.wrap (xh - tk) = xh - tk := IntWalk.i64_in _ (by omega)
    have e2 : IntKind.i64.wrap (xh - tk + pu) = xh - tk + pu := IntWalk.i64_in _ (by omega)
    by_cases c1 : xh - tk < bs
    · have hd : decide (xh - tk < bs) = true := decide_eq_true c1
      obtain rfl := HLOW1.out (by omega)
      clear HLOW1 HLOW2 HLOW3 c1
      go_wp2
      go_end0
      exact ⟨rfl, tv, (H.out.ext HX3.out).bad, (Keep.of_ext HX3.out).set_ (p := ⟨K, 8, none⟩) (Or.inl (Or.inl rfl)) _, fun k hk => Or.inl hk⟩
    have hd : decide (xh - tk < bs) = false := decide_eq_false c1
    by_cases c2 : 1000 < xh - tk + pu
    · have hd2 : decide (1000 < xh - tk + pu) = true := decide_eq_true c2
      obtain rfl := HLOW2.out (by omega)
      clear HLOW1 HLOW2 HLOW3 c1
      go_wp2
      go_end0
      exact ⟨rfl, tv, (H.out.ext HX3.out).bad, (Keep.of_ext HX3.out).set_ (p := ⟨K, 8, none⟩) (Or.inl (Or.inl rfl)) _, fun k hk => Or.inl hk⟩
    have hd2 : decide (1000 < xh - tk + pu) = false := decide_eq_false c2
    have HLOW := Lib.hid (HLOW3.out (by omega) (by omega))
    clear HLOW1 HLOW2 HLOW3
    have e3 : IntKind.i64.wrap (xh - 1) = xh - 1 := IntWalk.i64_in _ (by omega)
    have HF1 := Lib.hid (HTO.out _ HOUT.out HLOW.out _ List.mem_cons_self)
    simp only at HF1
    have HT1 := Lib.hid (HT.out.come ax HF1.out).1
    clear c1 c2
    go_upto_region 21 with (go_at_call 47; refine (goC_any B K sb f v tv (g) _ (H.out.ext HX3.out) (HT.out) h6 _ (by omega) (xh - 1, xt) (by exact hxl) sa sc (HRO.out.ext HX3.out)).mono ?_; rintro e w6 ⟨rfl, tv6, ho6, hk6, hn6⟩; have HO6 := Lib.hid ho6; have HK6 := Lib.hid hk6; have HN6 := Lib.hid hn6; clear ho6 hk6 hn6)
    have HR6 := Lib.hid (RInts.keep_ (HRO.out.ext HX3.out) HFR.out (by omega) HK6.out)
    have p40 := HK6.out.cell (p := ⟨P4, 0, none⟩) (goNew H.out hP4l) p40
    have p41 := HK6.out.cell (p := ⟨P4, 1, none⟩) (goNew H.out hP4l) p41
    have p42 := HK6.out.cell (p := ⟨P4, 2, none⟩) (goNew H.out hP4l) p42
    have hls6 := HK6.out.size
    have lP4 : P4 < w6.heap.size := by omega
    clear p50 p51 z8 zf
    go_wp2_with (go_at_call 47; refine (goC_any B K sb f v tv6 (comeP f.ops.length g ax (xh - 1, xt)) _ (HO6.out) (HT1.out) h6 _ (by omega) (xh - tk + pu, xt) (by exact hxl) sa sc HR6.out).mono ?_; rintro e w7 ⟨rfl, tv7, ho7, hk7, hn7⟩; have HO7 := Lib.hid ho7; have HK7 := Lib.hid hk7; have HN7 := Lib.hid hn7; clear ho7 hk7 hn7)
    go_end0
    have hres : RES = comeP f.ops.length (comeP f.ops.length g ax (xh - 1, xt)) ((i : Int) + 1) (xh - tk + pu, xt) := by rw [← HRES.out]; exact step_outs HLOW.out HOUT.out
    obtain ⟨z1, z2⟩ := ComeV.then_ ((Keep.of_ext HX3.out).then_ HK6.out fun k hk q => q) (fun k hk => (by rcases HN6.out k hk with q | q; exact Or.inl q; exact Or.inr (by omega))) HK7.out HN7.out
    exact ⟨rfl, tv7, by rw [hres]; exact HO7.out, z1, z2⟩
end Go.Proofs.YtgjjkllngopboaaDoor
