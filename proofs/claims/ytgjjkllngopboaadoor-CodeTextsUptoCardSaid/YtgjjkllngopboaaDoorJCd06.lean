/- The walk of the document's op. -/
import Derived.Test.YtgjjkllngopboaaDoorJCd04
import Derived.Test.YtgjjkllngopboaaDoorJCd03
import Derived.Deep.CutRange
import Derived.Test.YtgjjkllngopboaaDoorJCd05
import Derived.Test.YtgjjkllngopboaaDoorJCa04
import Derived.Test.YtgjjkllngopboaaDoorJCa01
namespace Go.Proofs.YtgjjkllngopboaaDoor
open Go.RowKit
set_option linter.unusedVariables false
set_option linter.unusedSimpArgs false

set_option maxRecDepth 100000 in
set_option maxHeartbeats 8000000 in
theorem gop_try (B K sb : Nat) (f : FnP) (v : OpsV) (tv : Value) (g : GoP) (w : World) (h : OGo w B K sb f v tv g) (hT : TallP f.ops.length g) (h6 : f.ops.length ≤ 1000000)
    (i : Nat) (hi : i < f.ops.length) (x : StP) (hun : seenP g.s i = some x) (op : OpP) (hop : f.ops[i] = op) (a0 : 0 ≤ op.a) (a1 : op.a ≤ 1000000) (hnm : op.name = n_try) :
    Calls Tryd.prog 48 #[.pointer (some ⟨K, 0, none⟩), .int .i64 (i : Int)] w (GoCV w B K sb f v tv (stepP f.ops.length (stepsP f.ops i) x g)) := by
  have t0 : (op.name.toList == [114, 101, 116, 117, 114, 110]) = false := by rw [hnm]; decide +kernel
  have t1 : (op.name.toList == [104, 97, 108, 116]) = false := by rw [hnm]; decide +kernel
  have t2 : (op.name.toList == [114, 97, 105, 115, 101]) = false := by rw [hnm]; decide +kernel
  have t3 : (op.name.toList == [106, 117, 109, 112]) = false := by rw [hnm]; decide +kernel
  have t4 : (op.name.toList == [117, 110, 108, 101, 115, 115]) = false := by rw [hnm]; decide +kernel
  have t5 : (op.name.toList == [110, 101, 120, 116]) = false := by rw [hnm]; decide +kernel
  have t6 : (op.name.toList == [116, 114, 121]) = true := by rw [hnm]; decide +kernel
  have t7 : (op.name.toList == [101, 110, 100]) = false := by rw [hnm]; decide +kernel
  have hst0 : i < g.s.length := by rw [hT.len]; exact hi
  have hfit := hT.fits i x hun
  have hpu := shape_puts op
  have htk := takes_in op a0 a1
  have hbs := hT.base x.2
  have hlenx := hfit.len
  have hsl := seens_le g.s
  rw [hT.len] at hsl
  have hxlo := hfit.lo
  have hxhi := hfit.hi
  have hstep : stepsP f.ops i = ⟨takesP op, putsP op, outsP i op⟩ := by
    have : opAt f.ops i = op := by unfold opAt; rw [List.getD_eq_getElem?_getD, List.getElem?_eq_getElem hi, ← hop]; rfl
    unfold stepsP; rw [this]
  rw [hstep]
  have HLOW1 : Hid (x.1 - takesP op < baseP g.s x.2 → stepP f.ops.length ⟨takesP op, putsP op, outsP i op⟩ x g = { g with ok := false }) := fun q => step_low (low1 q)
  have HLOW2 : Hid (1000 < x.1 - takesP op + putsP op → stepP f.ops.length ⟨takesP op, putsP op, outsP i op⟩ x g = { g with ok := false }) := fun q => step_low (low2 q)
  have HLOW3 : Hid (¬ x.1 - takesP op < baseP g.s x.2 → ¬ 1000 < x.1 - takesP op + putsP op → lowP g.s ⟨takesP op, putsP op, outsP i op⟩ x = false) := fun q r => low3 q r
  have HTO : Hid (∀ l, outsP i op x = some l → lowP g.s ⟨takesP op, putsP op, outsP i op⟩ x = false → ∀ c ∈ l, FitsP f.ops.length (seensP g.s) c.2) := fun l hl hlow => TallP.outs hT hi op hun hlow hl
  have HOUT : Hid (outsP i op x = some [(op.a, (x.1 + 1, x.2)), (((i : Int) + 1), (x.1 - takesP op + putsP op, x.2 ++ [(i : Int)]))]) := outs_try hnm
  generalize hRES : stepP f.ops.length ⟨takesP op, putsP op, outsP i op⟩ x g = RES at HLOW1 HLOW2 ⊢
  have HRES := Lib.hid hRES
  have hsh : ∀ W, Calls Tryd.prog 28 #[.agg #[.string op.name, .int .i64 op.a]] W fun e w' => (∃ kd kn, e = .returned (.tuple #[.int .i64 (takesP op), .int .i64 (putsP op), .string kd, .bool kn])) ∧ Ext W w' := fun W => (kShape_any op.name op.a W).mono fun e w' h => by
    obtain ⟨⟨t, h1, h2⟩, h3⟩ := h
    have h4 := h2 a0 a1
    subst h4
    exact ⟨⟨_, _, h1⟩, h3⟩
  have HSH := Lib.hid hsh
  obtain ⟨sa, sc, hst, hfr⟩ := h.st i hst0
  rw [hun] at hst
  obtain ⟨s0, s1, s2, hro⟩ := hst
  simp only [Option.isSome_some, Option.map_some, Option.getD_some] at s0 s1 s2 hro
  have hxl : x.2.length ≤ 1000000 := by omega
  have hfit' : FitsP f.ops.length (seensP g.s) x := hfit.mono (by omega)
  have hoc := opCells_at f.ops i hi
  rw [hop] at hoc
  obtain ⟨ob, oo, hov, o0⟩ := h.ops _ _ hoc.1
  have o1r := h.ops
  rw [hov] at o1r
  have o1 := o1r.at_ hoc.2
  clear o1r
  rw [← Nat.add_assoc] at o1
  have f5 := h.R.f5
  rw [hov] at f5
  have k6 := h.k6
  rw [hT.len] at k6
  have k8 := h.k8
  have fr := h.froK 8
  have hlK := h.lt.1
  have hlS := h.lt.2
  have hlo := cell_lt o0
  have hiz : (i : Int) < (f.ops.length : Int) := by omega
  have HBAS : Hid (∀ l t, x.2 = l ++ [t] → ∃ (T : Nat) (b o : Nat), t = (T : Int) ∧ T < f.ops.length ∧ sa = some ⟨b, o, none⟩ ∧ w.cell? ⟨b, o + l.length, none⟩ = some (.int .i64 (T : Int)) ∧ w.cell? ⟨sb, T * 3 + 1, none⟩ = some (.int .i64 (baseP g.s x.2))) := fun l t hxt => by
    have hlt : l.length < x.2.length := by rw [hxt]; simp
    obtain ⟨b, o, hb, hc⟩ := hro.at_ hlt
    have ht := hfit'.rng t (by rw [hxt]; simp)
    obtain ⟨T, rfl⟩ : ∃ T : Nat, t = (T : Int) := ⟨t.toNat, by omega⟩
    have hTl : T < g.s.length := by rw [hT.len]; omega
    obtain ⟨aa, cc, hs1, -⟩ := h.st T hTl
    refine ⟨T, b, o, rfl, by omega, hb, ?_, ?_⟩
    · have e : x.2.getD l.length 0 = (T : Int) := by rw [hxt]; simp
      rw [← e]; exact hc
    · have e : baseP g.s x.2 = highP g.s (T : Int) := by rw [hxt]; simp [baseP]
      have eh : highP g.s (T : Int) = ((seenP g.s T).map (·.1)).getD 0 := by simp [highP]
      rw [e, eh]; exact hs1.s1
  have HBZ : Hid (x.2 = [] → baseP g.s x.2 = 0) := fun q => by rw [q]; rfl
  have HFR := Lib.hid hfr
  have H := Lib.hid h
  have HT := Lib.hid hT
  have HRO := Lib.hid hro
  have HUN := Lib.hid hun
  generalize takesP op = tk at *
  generalize putsP op = pu at *
  generalize hbase : baseP g.s x.2 = bs at *
  have HBASE := Lib.hid hbase
  obtain ⟨nm, ax⟩ := op
  obtain ⟨xh, xt⟩ := x
  have HNM := Lib.hid hnm
  clear hnm
  simp only at *
  clear h hfr hro hun hT hst0 hstep hoc hov hfit hfit' hRES hop hbase hsh
  go_enter Tryd.func48, Tryd.ntmps48
  go_upto_region 2 with fail
  obtain ⟨P4, hP4⟩ : ∃ P4, P4 = w.heap.size := ⟨_, rfl⟩
  obtain ⟨P5, hP5⟩ : ∃ P5, P5 = w.heap.size + 1 := ⟨_, rfl⟩
  refine namedW (fun w1 hw1 => ?_)
  have p40 : w1.cell? ⟨P4, 0, none⟩ = some (.bool true) := by rw [hw1, hP4]; simp [go_sem]
  have p41 : w1.cell? ⟨P4, 1, none⟩ = some (.int .i64 xh) := by rw [hw1, hP4]; simp [go_sem]
  have p42 : w1.cell? ⟨P4, 2, none⟩ = some (.slice sa xt.length sc) := by rw [hw1, hP4]; simp [go_sem]
  have p50 : w1.cell? ⟨P5, 0, none⟩ = some (.string nm) := by rw [hw1, hP5]; simp [go_sem]
  have p51 : w1.cell? ⟨P5, 1, none⟩ = some (.int .i64 ax) := by rw [hw1, hP5]; simp [go_sem]
  have hX1 : Ext w w1 := by rw [hw1]; exact ((Ext.refl w).alloc_ _).alloc_ _
  rw [← hP5, ← hP4]
  have hP4l : w.heap.size ≤ P4 := by omega
  have hP5l : w.heap.size ≤ P5 := by omega
  have HX1 := Lib.hid hX1
  have lP4 : P4 < w1.heap.size := cell_lt p40
  have lP5 : P5 < w1.heap.size := cell_lt p50
  clear hw1 hP4 hP5 hX1 s0 s1 s2 o0 o1 f5
  go_upto_if 38 with (go_at_call 28; refine (HSH.out _).mono ?_; rintro e w2 ⟨⟨kd, kn, rfl⟩, hq⟩; have p40 := hq.cell_ p40; have p41 := hq.cell_ p41; have p42 := hq.cell_ p42; have p50 := hq.cell_ p50; have p51 := hq.cell_ p51; have HX2 := Lib.hid (HX1.out.trans_ hq); clear hq)
  have k6 := HX2.out.cell_ k6
  have hls2 := HX2.out.size
  have lP4 : P4 < w2.heap.size := cell_lt p40
  have lP5 : P5 < w2.heap.size := cell_lt p50
  clear HX1
  go_cut [10] from 13 to 53 (fun b wx => b = .int .i64 bs ∧ Hid (Ext w2 wx))
  case first =>
    rcases List.eq_nil_or_concat xt with hxt | ⟨l, t, hxt⟩
    · have hb0 := HBZ.out hxt
      subst hxt
      clear HBAS
      have hz : ¬ (0 : Int) < ((([] : List Int).length : Nat) : Int) := by simp
      subst hb0
      simp only [List.length_nil] at p42 hz ⊢
      go_wp2
      go_meet
      case rel => exact ⟨rfl, Ext.refl _⟩
    · rw [List.concat_eq_append] at hxt
      obtain ⟨T, b, o, ht, hTl, hsa, q1, q2⟩ := HBAS.out l t hxt
      subst hsa
      have hlen : xt.length = l.length + 1 := by rw [hxt]; simp
      have q1 := HX2.out.cell_ q1
      have q2 := HX2.out.cell_ q2
      rw [hlen] at p42 ⊢
      have hz : (0 : Int) < ((l.length + 1 : Nat) : Int) := by omega
      have e1 : IntKind.i64.wrap (((l.length + 1 : Nat) : Int) - 1) = (l.length : Int) := by rw [IntWalk.i64_in _ (by omega)]; omega
      have e2 : (((l.length + 1 : Nat) : Int) - 1) = (l.length : Int) := by omega
      have e5 : IntKind.i64.wrap (l.length : Int) = (l.length : Int) := IntWalk.i64_in _ (by omega)
      have e4 : IntKind.i64.wrap ((l.length : Int) + 1 - 1) = (l.length : Int) := by rw [IntWalk.i64_in _ (by omega)]; omega
      have hTz : (T : Int) < (f.ops.length : Int) := by omega
      have hlt1 : (l.length : Int) < ((l.length + 1 : Nat) : Int) := by omega
      have hlt2 : (l.length : Int) < (l.length : Int) + 1 := by omega
      have hlt0 : (0 : Int) ≤ (l.length : Int) := by omega
      clear hxt HBAS HBZ hlen ht
      go_wp2
      go_quiet (fail)
      go_wp2_with fail
      go_meet
      case rel => exact ⟨rfl, (Ext.refl _).drewN_ _⟩
  case rest =>
    obtain ⟨rfl, hE3⟩ := hcut
    clear HBAS HBZ
    obtain ⟨w3, hw3⟩ : ∃ w3, w3 = wc := ⟨_, rfl⟩
    rw [← hw3] at hE3 ⊢
    have p40 := hE3.out.cell_ p40
    have p41 := hE3.out.cell_ p41
    have p42 := hE3.out.cell_ p42
    have p50 := hE3.out.cell_ p50
    have p51 := hE3.out.cell_ p51
    have HX3 := Lib.hid (HX2.out.trans_ hE3.out)
    have hls3 := HX3.out.size
    have lP4 : P4 < w3.heap.size := cell_lt p40
    have lP5 : P5 < w3.heap.size := cell_lt p50
    have lK3 : K < w3.heap.size := by omega
    have z8 := HX3.out.cell_ k8
    have zf : w3.frozen? ⟨K, 8, none⟩ = false := by rw [HX3.out.three.2.1 _ _ hlK]; exact fr
    clear hw3 hE3 HX2 k6 k8 fr hls2
    have e1 : IntKind.i64.wrap (xh - tk) = xh - tk := IntWalk.i64_in _ (by omega)
    have e2 : IntKind.i64.wrap (xh - tk + pu) = xh - tk + pu := IntWalk.i64_in _ (by omega)
    by_cases c1 : xh - tk < bs
    · have hd : decide (xh - tk < bs) = true := decide_eq_true c1
      obtain rfl := HLOW1.out (by omega)
      clear HLOW1 HLOW2 HLOW3 c1
      go_wp2
      go_end0
      exact ⟨rfl, tv, (H.out.ext HX3.out).bad, (Keep.of_ext HX3.out).set_ (p := ⟨K, 8, none⟩) (Or.inl (Or.inl rfl)) _, fun k hk => Or.inl hk⟩
    have hd : decide (xh - tk < bs) = false := decide_eq_false c1
    by_cases c2 : 1000 < xh - tk + pu
    · have hd2 : decide (1000 < xh - tk + pu) = true := decide_eq_true c2
      obtain rfl := HLOW2.out (by omega)
      clear HLOW1 HLOW2 HLOW3 c1
      go_wp2
      go_end0
      exact ⟨rfl, tv, (H.out.ext HX3.out).bad, (Keep.of_ext HX3.out).set_ (p := ⟨K, 8, none⟩) (Or.inl (Or.inl rfl)) _, fun k hk => Or.inl hk⟩
    have hd2 : decide (1000 < xh - tk + pu) = false := decide_eq_false c2
    have HLOW := Lib.hid (HLOW3.out (by omega) (by omega))
    clear HLOW1 HLOW2 HLOW3
    have e3 : IntKind.i64.wrap (xh + 1) = xh + 1 := IntWalk.i64_in _ (by omega)
    have HF1 := Lib.hid (HTO.out _ HOUT.out HLOW.out _ List.mem_cons_self)
    simp only at HF1
    have HT1 := Lib.hid (HT.out.come ax HF1.out).1
    clear c1 c2
    go_upto_region 24 with (go_at_call 47; refine (goC_any B K sb f v tv (g) _ (H.out.ext HX3.out) (HT.out) h6 _ (by omega) (xh + 1, xt) (by exact hxl) sa sc (HRO.out.ext HX3.out)).mono ?_; rintro e w6 ⟨rfl, tv6, ho6, hk6, hn6⟩; have HO6 := Lib.hid ho6; have HK6 := Lib.hid hk6; have HN6 := Lib.hid hn6; clear ho6 hk6 hn6)
    have HR6 := Lib.hid (RInts.keep_ (HRO.out.ext HX3.out) HFR.out (by omega) HK6.out)
    have p40 := HK6.out.cell (p := ⟨P4, 0, none⟩) (goNew H.out hP4l) p40
    have p41 := HK6.out.cell (p := ⟨P4, 1, none⟩) (goNew H.out hP4l) p41
    have p42 := HK6.out.cell (p := ⟨P4, 2, none⟩) (goNew H.out hP4l) p42
    have hls6 := HK6.out.size
    have lP4 : P4 < w6.heap.size := by omega
    clear p50 p51 z8 zf
    obtain ⟨i0, hii, hz0, hz1, hz2⟩ := info_parts infoInt
    have hcap := HR6.out.cap
    have HNIL := Lib.hid HR6.out.nil
    go_upto_region 26 with (at_builtin; refine wpList_append_src rfl _ _ 75 rfl w6.heap.size 3 i0 (.int .i64 0) 1 8 undInts hii hz0 hz1 hz2 rfl (by decide) (.slice none 0 0) 0 [] rfl (World.ownsRow_nil _ _ _ _) sa xt.length sc (ints xt) rfl HNIL.out hcap (by rw [ints_len]; omega) HR6.out.row (ints_one _) (by unfold maxLen; omega) (by omega) (Nat.le_refl _) ?_; intro a2 c2 w7 hO2 hG2 hv2; simp only [Nat.zero_add, List.nil_append] at hO2; have HX7 : Hid (Ext w6 w7) := grown_extB (Ext.refl w6) hG2 (fun g hg => by cases hg); have HO2 := Lib.hid hO2; clear hO2 hG2 hv2)
    try simp only [Nat.zero_add]
    have hls7 := HX7.out.size
    obtain ⟨i1, hji, hy0, hy1, hy2⟩ := info_parts infoInt
    clear p40 p41 p42
    have HF2 := Lib.hid (HTO.out _ HOUT.out HLOW.out ((i : Int) + 1, (xh - tk + pu, xt ++ [(i : Int)])) (by simp))
    simp only at HF2
    go_wp2_with (first
      | (at_builtin; (refine wpList_append_src rfl _ _ 75 rfl w6.heap.size 3 i1 (.int .i64 0) 1 8 undInts hji hy0 hy1 hy2 rfl (by decide) (.slice a2 xt.length c2) xt.length (ints xt) rfl (own_ext HO2.out ((Ext.refl _).alloc_ _)) (some ⟨w7.heap.size, 0, none⟩) 1 1 [.int .i64 (i : Int)] rfl (fun h => by cases h) (Nat.le_refl _) rfl (rsl_one w7 _ _) (by intro u hu; rw [List.mem_singleton.1 hu]; rfl) (by unfold maxLen; omega) (by omega) (by simp; omega) ?_; intro a3 c3 w8 hO8 hG8 hv8; have HX8 : Hid (Ext w6 w8) := grown_ext (HX7.out.alloc_ _) hG8 (fun k hk => (HO2.out.lt k hk).1); have hri8 : RInts w8 a3 c3 (xt ++ [(i : Int)]) := (by refine owns_rints (n := xt.length + 1) (B := w6.heap.size) (e := 3) ?_; rw [ints_snoc]; exact hO8); have hcc := goC_any B K sb f v tv6 (comeP f.ops.length g ax (xh + 1, xt)) w8 (HO6.out.ext HX8.out) HT1.out h6 ((i : Int) + 1) (by omega) (xh - tk + pu, xt ++ [(i : Int)]) (by simp; omega) a3 c3 hri8; simp only [List.length_append, List.length_singleton] at hcc; have HCC := Lib.hid hcc; clear hO8 hG8 hv8 hcc hri8))
      | (go_at_call 47; refine HCC.out.mono ?_; rintro e w9 ⟨rfl, tv9, ho9, hk9, hn9⟩; have HO9 := Lib.hid ho9; have HK9 := Lib.hid hk9; have HN9 := Lib.hid hn9; clear ho9 hk9 hn9))
    go_end0
    have hres : RES = comeP f.ops.length (comeP f.ops.length g ax (xh + 1, xt)) ((i : Int) + 1) (xh - tk + pu, xt ++ [(i : Int)]) := by rw [← HRES.out]; exact step_outs HLOW.out HOUT.out
    have hk8 : Keep (OwnC K sb tv) w w8 := ((Keep.of_ext HX3.out).then_ HK6.out fun k hk q => q).ext_ HX8.out
    obtain ⟨z1, z2⟩ := ComeV.then_ hk8 (fun k hk => (by rcases HN6.out k hk with q | q; exact Or.inl q; exact Or.inr (by omega))) HK9.out HN9.out
    exact ⟨rfl, tv9, by rw [hres]; exact HO9.out, z1, z2⟩
set_option maxRecDepth 100000 in
set_option maxHeartbeats 8000000 in
theorem gop_end (B K sb : Nat) (f : FnP) (v : OpsV) (tv : Value) (g : GoP) (w : World) (h : OGo w B K sb f v tv g) (hT : TallP f.ops.length g) (h6 : f.ops.length ≤ 1000000)
    (i : Nat) (hi : i < f.ops.length) (x : StP) (hun : seenP g.s i = some x) (op : OpP) (hop : f.ops[i] = op) (a0 : 0 ≤ op.a) (a1 : op.a ≤ 1000000) (hnm : op.name = n_end) :
    Calls Tryd.prog 48 #[.pointer (some ⟨K, 0, none⟩), .int .i64 (i : Int)] w (GoCV w B K sb f v tv (stepP f.ops.length (stepsP f.ops i) x g)) := by
  have t0 : (op.name.toList == [114, 101, 116, 117, 114, 110]) = false := by rw [hnm]; decide +kernel
  have t1 : (op.name.toList == [104, 97, 108, 116]) = false := by rw [hnm]; decide +kernel
  have t2 : (op.name.toList == [114, 97, 105, 115, 101]) = false := by rw [hnm]; decide +kernel
  have t3 : (op.name.toList == [106, 117, 109, 112]) = false := by rw [hnm]; decide +kernel
  have t4 : (op.name.toList == [117, 110, 108, 101, 115, 115]) = false := by rw [hnm]; decide +kernel
  have t5 : (op.name.toList == [110, 101, 120, 116]) = false := by rw [hnm]; decide +kernel
  have t6 : (op.name.toList == [116, 114, 121]) = false := by rw [hnm]; decide +kernel
  have t7 : (op.name.toList == [101, 110, 100]) = true := by rw [hnm]; decide +kernel
  have hst0 : i < g.s.length := by rw [hT.len]; exact hi
  have hfit := hT.fits i x hun
  have hpu := shape_puts op
  have htk := takes_in op a0 a1
  have hbs := hT.base x.2
  have hlenx := hfit.len
  have hsl := seens_le g.s
  rw [hT.len] at hsl
  have hxlo := hfit.lo
  have hxhi := hfit.hi
  have hstep : stepsP f.ops i = ⟨takesP op, putsP op, outsP i op⟩ := by
    have : opAt f.ops i = op := by unfold opAt; rw [List.getD_eq_getElem?_getD, List.getElem?_eq_getElem hi, ← hop]; rfl
    unfold stepsP; rw [this]
  rw [hstep]
  have HLOW1 : Hid (x.1 - takesP op < baseP g.s x.2 → stepP f.ops.length ⟨takesP op, putsP op, outsP i op⟩ x g = { g with ok := false }) := fun q => step_low (low1 q)
  have HLOW2 : Hid (1000 < x.1 - takesP op + putsP op → stepP f.ops.length ⟨takesP op, putsP op, outsP i op⟩ x g = { g with ok := false }) := fun q => step_low (low2 q)
  have HLOW3 : Hid (¬ x.1 - takesP op < baseP g.s x.2 → ¬ 1000 < x.1 - takesP op + putsP op → lowP g.s ⟨takesP op, putsP op, outsP i op⟩ x = false) := fun q r => low3 q r
  have HTO : Hid (∀ l, outsP i op x = some l → lowP g.s ⟨takesP op, putsP op, outsP i op⟩ x = false → ∀ c ∈ l, FitsP f.ops.length (seensP g.s) c.2) := fun l hl hlow => TallP.outs hT hi op hun hlow hl
  have HOUT : Hid (outsP i op x = if x.2 = [] then none else some [(((i : Int) + 1), (x.1 - takesP op + putsP op, x.2.dropLast))]) := outs_end hnm
  generalize hRES : stepP f.ops.length ⟨takesP op, putsP op, outsP i op⟩ x g = RES at HLOW1 HLOW2 ⊢
  have HRES := Lib.hid hRES
  have hsh : ∀ W, Calls Tryd.prog 28 #[.agg #[.string op.name, .int .i64 op.a]] W fun e w' => (∃ kd kn, e = .returned (.tuple #[.int .i64 (takesP op), .int .i64 (putsP op), .string kd, .bool kn])) ∧ Ext W w' := fun W => (kShape_any op.name op.a W).mono fun e w' h => by
    obtain ⟨⟨t, h1, h2⟩, h3⟩ := h
    have h4 := h2 a0 a1
    subst h4
    exact ⟨⟨_, _, h1⟩, h3⟩
  have HSH := Lib.hid hsh
  obtain ⟨sa, sc, hst, hfr⟩ := h.st i hst0
  rw [hun] at hst
  obtain ⟨s0, s1, s2, hro⟩ := hst
  simp only [Option.isSome_some, Option.map_some, Option.getD_some] at s0 s1 s2 hro
  have hxl : x.2.length ≤ 1000000 := by omega
  have hfit' : FitsP f.ops.length (seensP g.s) x := hfit.mono (by omega)
  have hoc := opCells_at f.ops i hi
  rw [hop] at hoc
  obtain ⟨ob, oo, hov, o0⟩ := h.ops _ _ hoc.1
  have o1r := h.ops
  rw [hov] at o1r
  have o1 := o1r.at_ hoc.2
  clear o1r
  rw [← Nat.add_assoc] at o1
  have f5 := h.R.f5
  rw [hov] at f5
  have k6 := h.k6
  rw [hT.len] at k6
  have k8 := h.k8
  have fr := h.froK 8
  have hlK := h.lt.1
  have hlS := h.lt.2
  have hlo := cell_lt o0
  have hiz : (i : Int) < (f.ops.length : Int) := by omega
  have HBAS : Hid (∀ l t, x.2 = l ++ [t] → ∃ (T : Nat) (b o : Nat), t = (T : Int) ∧ T < f.ops.length ∧ sa = some ⟨b, o, none⟩ ∧ w.cell? ⟨b, o + l.length, none⟩ = some (.int .i64 (T : Int)) ∧ w.cell? ⟨sb, T * 3 + 1, none⟩ = some (.int .i64 (baseP g.s x.2))) := fun l t hxt => by
    have hlt : l.length < x.2.length := by rw [hxt]; simp
    obtain ⟨b, o, hb, hc⟩ := hro.at_ hlt
    have ht := hfit'.rng t (by rw [hxt]; simp)
    obtain ⟨T, rfl⟩ : ∃ T : Nat, t = (T : Int) := ⟨t.toNat, by omega⟩
    have hTl : T < g.s.length := by rw [hT.len]; omega
    obtain ⟨aa, cc, hs1, -⟩ := h.st T hTl
    refine ⟨T, b, o, rfl, by omega, hb, ?_, ?_⟩
    · have e : x.2.getD l.length 0 = (T : Int) := by rw [hxt]; simp
      rw [← e]; exact hc
    · have e : baseP g.s x.2 = highP g.s (T : Int) := by rw [hxt]; simp [baseP]
      have eh : highP g.s (T : Int) = ((seenP g.s T).map (·.1)).getD 0 := by simp [highP]
      rw [e, eh]; exact hs1.s1
  have HBZ : Hid (x.2 = [] → baseP g.s x.2 = 0) := fun q => by rw [q]; rfl
  have HFR := Lib.hid hfr
  have H := Lib.hid h
  have HT := Lib.hid hT
  have HRO := Lib.hid hro
  have HUN := Lib.hid hun
  generalize takesP op = tk at *
  generalize putsP op = pu at *
  generalize hbase : baseP g.s x.2 = bs at *
  have HBASE := Lib.hid hbase
  obtain ⟨nm, ax⟩ := op
  obtain ⟨xh, xt⟩ := x
  have HNM := Lib.hid hnm
  clear hnm
  simp only at *
  clear h hfr hro hun hT hst0 hstep hoc hov hfit hfit' hRES hop hbase hsh
  go_enter Tryd.func48, Tryd.ntmps48
  go_upto_region 2 with fail
  obtain ⟨P4, hP4⟩ : ∃ P4, P4 = w.heap.size := ⟨_, rfl⟩
  obtain ⟨P5, hP5⟩ : ∃ P5, P5 = w.heap.size + 1 := ⟨_, rfl⟩
  refine namedW (fun w1 hw1 => ?_)
  have p40 : w1.cell? ⟨P4, 0, none⟩ = some (.bool true) := by rw [hw1, hP4]; simp [go_sem]
  have p41 : w1.cell? ⟨P4, 1, none⟩ = some (.int .i64 xh) := by rw [hw1, hP4]; simp [go_sem]
  have p42 : w1.cell? ⟨P4, 2, none⟩ = some (.slice sa xt.length sc) := by rw [hw1, hP4]; simp [go_sem]
  have p50 : w1.cell? ⟨P5, 0, none⟩ = some (.string nm) := by rw [hw1, hP5]; simp [go_sem]
  have p51 : w1.cell? ⟨P5, 1, none⟩ = some (.int .i64 ax) := by rw [hw1, hP5]; simp [go_sem]
  have hX1 : Ext w w1 := by rw [hw1]; exact ((Ext.refl w).alloc_ _).alloc_ _
  rw [← hP5, ← hP4]
  have hP4l : w.heap.size ≤ P4 := by omega
  have hP5l : w.heap.size ≤ P5 := by omega
  have HX1 := Lib.hid hX1
  have lP4 : P4 < w1.heap.size := cell_lt p40
  have lP5 : P5 < w1.heap.size := cell_lt p50
  clear hw1 hP4 hP5 hX1 s0 s1 s2 o0 o1 f5
  go_upto_if 38 with (go_at_call 28; refine (HSH.out _).mono ?_; rintro e w2 ⟨⟨kd, kn, rfl⟩, hq⟩; have p40 := hq.cell_ p40; have p41 := hq.cell_ p41; have p42 := hq.cell_ p42; have p50 := hq.cell_ p50; have p51 := hq.cell_ p51; have HX2 := Lib.hid (HX1.out.trans_ hq); clear hq)
  have k6 := HX2.out.cell_ k6
  have hls2 := HX2.out.size
  have lP4 : P4 < w2.heap.size := cell_lt p40
  have lP5 : P5 < w2.heap.size := cell_lt p50
  clear HX1
  go_cut [10] from 13 to 53 (fun b wx => b = .int .i64 bs ∧ Hid (Ext w2 wx))
  case first =>
    rcases List.eq_nil_or_concat xt with hxt | ⟨l, t, hxt⟩
    · have hb0 := HBZ.out hxt
      subst hxt
      clear HBAS
      have hz : ¬ (0 : Int) < ((([] : List Int).length : Nat) : Int) := by simp
      subst hb0
      simp only [List.length_nil] at p42 hz ⊢
      go_wp2
      go_meet
      case rel => exact ⟨rfl, Ext.refl _⟩
    · rw [List.concat_eq_append] at hxt
      obtain ⟨T, b, o, ht, hTl, hsa, q1, q2⟩ := HBAS.out l t hxt
      subst hsa
      have hlen : xt.length = l.length + 1 := by rw [hxt]; simp
      have q1 := HX2.out.cell_ q1
      have q2 := HX2.out.cell_ q2
      rw [hlen] at p42 ⊢
      have hz : (0 : Int) < ((l.length + 1 : Nat) : Int) := by omega
      have e1 : IntKind.i64.wrap (((l.length + 1 : Nat) : Int) - 1) = (l.length : Int) := by rw [IntWalk.i64_in _ (by omega)]; omega
      have e2 : (((l.length + 1 : Nat) : Int) - 1) = (l.length : Int) := by omega
      have e5 : IntKind.i64.wrap (l.length : Int) = (l.length : Int) := IntWalk.i64_in _ (by omega)
      have e4 : IntKind.i64.wrap ((l.length : Int) + 1 - 1) = (l.length : Int) := by rw [IntWalk.i64_in _ (by omega)]; omega
      have hTz : (T : Int) < (f.ops.length : Int) := by omega
      have hlt1 : (l.length : Int) < ((l.length + 1 : Nat) : Int) := by omega
      have hlt2 : (l.length : Int) < (l.length : Int) + 1 := by omega
      have hlt0 : (0 : Int) ≤ (l.length : Int) := by omega
      clear hxt HBAS HBZ hlen ht
      go_wp2
      go_quiet (fail)
      go_wp2_with fail
      go_meet
      case rel => exact ⟨rfl, (Ext.refl _).drewN_ _⟩
  case rest =>
    obtain ⟨rfl, hE3⟩ := hcut
    clear HBAS HBZ
    obtain ⟨w3, hw3⟩ : ∃ w3, w3 = wc := ⟨_, rfl⟩
    rw [← hw3] at hE3 ⊢
    have p40 := hE3.out.cell_ p40
    have p41 := hE3.out.cell_ p41
    have p42 := hE3.out.cell_ p42
    have p50 := hE3.out.cell_ p50
    have p51 := hE3.out.cell_ p51
    have HX3 := Lib.hid (HX2.out.trans_ hE3.out)
    have hls3 := HX3.out.size
    have lP4 : P4 < w3.heap.size := cell_lt p40
    have lP5 : P5 < w3.heap.size := cell_lt p50
    have lK3 : K < w3.heap.size := by omega
    have z8 := HX3.out.cell_ k8
    have zf : w3.frozen? ⟨K, 8, none⟩ = false := by rw [HX3.out.three.2.1 _ _ hlK]; exact fr
    clear hw3 hE3 HX2 k6 k8 fr hls2
    have e1 : IntKind.i64.wrap (xh - tk) = xh - tk := IntWalk.i64_in _ (by omega)
    have e2 : IntKind.i64.wrap (xh - tk + pu) = xh - tk + pu := IntWalk.i64_in _ (by omega)
    by_cases c1 : xh - tk < bs
    · have hd : decide (xh - tk < bs) = true := decide_eq_true c1
      obtain rfl := HLOW1.out (by omega)
      clear HLOW1 HLOW2 HLOW3 c1
      go_wp2
      go_end0
      exact ⟨rfl, tv, (H.out.ext HX3.out).bad, (Keep.of_ext HX3.out).set_ (p := ⟨K, 8, none⟩) (Or.inl (Or.inl rfl)) _, fun k hk => Or.inl hk⟩
    have hd : decide (xh - tk < bs) = false := decide_eq_false c1
    by_cases c2 : 1000 < xh - tk + pu
    · have hd2 : decide (1000 < xh - tk + pu) = true := decide_eq_true c2
      obtain rfl := HLOW2.out (by omega)
      clear HLOW1 HLOW2 HLOW3 c1
      go_wp2
      go_end0
      exact ⟨rfl, tv, (H.out.ext HX3.out).bad, (Keep.of_ext HX3.out).set_ (p := ⟨K, 8, none⟩) (Or.inl (Or.inl rfl)) _, fun k hk => Or.inl hk⟩
    have hd2 : decide (1000 < xh - tk + pu) = false := decide_eq_false c2
    have HLOW := Lib.hid (HLOW3.out (by omega) (by omega))
    clear HLOW1 HLOW2 HLOW3
    rcases List.eq_nil_or_concat xt with hxt | ⟨l, t, hxt⟩
    · obtain rfl := hxt
      have hres : RES = { g with ok := false } := by rw [← HRES.out]; exact step_none HLOW.out (by show outsP i ⟨nm, ax⟩ (xh, []) = none; rw [HOUT.out]; rfl)
      have HRES2 := Lib.hid hres
      clear hres c1 c2
      simp only [List.length_nil] at p42
      go_wp2
      go_end0
      exact ⟨rfl, tv, by rw [HRES2.out]; exact (H.out.ext HX3.out).bad, (Keep.of_ext HX3.out).set_ (p := ⟨K, 8, none⟩) (Or.inl (Or.inl rfl)) _, fun k hk => Or.inl hk⟩
    · rw [List.concat_eq_append] at hxt
      have hlen : xt.length = l.length + 1 := by rw [hxt]; simp
      have HOUT2 : Hid (outsP i ⟨nm, ax⟩ (xh, xt) = some [((i : Int) + 1, (xh - tk + pu, l))]) := by
        unfold Hid
        rw [HOUT.out, if_neg (by rw [hxt]; simp)]
        simp [hxt]
      have hcap : l.length + 1 ≤ sc := by have := HRO.out.cap; omega
      have hsl0 : l.length ≤ 1000000 := by omega
      have hri3 : RInts w3 sa sc l := by
        have h5 := HRO.out.ext HX3.out
        refine ⟨fun j u hu => h5.row j u ?_, by omega, h5.nil⟩
        rw [hxt]
        simp only [ints, List.map_append] at hu ⊢
        rw [List.getElem?_append_left (List.getElem?_eq_some_iff.1 hu).1]
        exact hu
      have e3 : IntKind.i64.wrap (((l.length + 1 : Nat) : Int) - 1) = (l.length : Int) := by rw [IntWalk.i64_in _ (by omega)]; omega
      have hrs : ∀ W : World, (Instr.slice 75 (.slice sa (l.length + 1) sc) none (some (.int .i64 (l.length : Int))) none).run Tryd.prog W = .ok (.slice sa l.length sc) W := fun W => by
        have hu : Tryd.prog.elem 75 = 3 := by simp [Program.elem, undInts]
        rw [run_slice_h W 75 sa (l.length + 1) sc (by rw [hu]; exact undInts) .i64 (l.length : Int) (by omega) (by omega), hu, show (sizeOf 3).run Tryd.prog W = .ok 1 W from by kernel_rfl]
        have h0 : ∀ ad : Addr, ad.add 0 = ad := fun ad => by cases ad; unfold Addr.add; split <;> simp_all
        cases sa <;> simp [sliced, Result.andThen, h0]
      have hcc := goC_any B K sb f v tv g w3 (H.out.ext HX3.out) HT.out h6 ((i : Int) + 1) (by omega) (xh - tk + pu, l) hsl0 sa sc hri3
      simp only at hcc
      have HCC := Lib.hid hcc
      rw [hlen] at p42
      have hz : ((((l.length + 1 : Nat) : Int)) == 0) = false := by simp; omega
      have HXT := Lib.hid hxt
      clear hxt hlen hcc hri3 c1 c2
      go_wp2_with (go_at_call 47; refine HCC.out.mono ?_; rintro e w7 ⟨rfl, tv7, ho7, hk7, hn7⟩; have HO7 := Lib.hid ho7; have HK7 := Lib.hid hk7; have HN7 := Lib.hid hn7; clear ho7 hk7 hn7)
      go_end0
      have hres : RES = comeP f.ops.length g ((i : Int) + 1) (xh - tk + pu, l) := by rw [← HRES.out]; exact step_outs HLOW.out HOUT2.out
      refine ⟨rfl, tv7, by rw [hres]; exact HO7.out, (Keep.of_ext HX3.out).then_ HK7.out fun k hk q => q, fun k hk => ?_⟩
      rcases HN7.out k hk with q | q
      · exact Or.inl q
      · exact Or.inr (by omega)
theorem gop_any (B K sb : Nat) (f : FnP) (v : OpsV) (tv : Value) (g : GoP) (w : World) (h : OGo w B K sb f v tv g) (hT : TallP f.ops.length g) (h6 : f.ops.length ≤ 1000000)
    (i : Nat) (hi : i < f.ops.length) (x : StP) (hun : seenP g.s i = some x) (a0 : 0 ≤ (f.ops[i]).a) (a1 : (f.ops[i]).a ≤ 1000000) :
    Calls Tryd.prog 48 #[.pointer (some ⟨K, 0, none⟩), .int .i64 (i : Int)] w (GoCV w B K sb f v tv (stepP f.ops.length (stepsP f.ops i) x g)) := by
  by_cases m0 : (f.ops[i]).name = n_return
  · exact gop_return B K sb f v tv g w h hT h6 i hi x hun _ rfl a0 a1 m0
  by_cases m1 : (f.ops[i]).name = n_halt
  · exact gop_halt B K sb f v tv g w h hT h6 i hi x hun _ rfl a0 a1 m1
  by_cases m2 : (f.ops[i]).name = n_raise
  · exact gop_raise B K sb f v tv g w h hT h6 i hi x hun _ rfl a0 a1 m2
  by_cases m3 : (f.ops[i]).name = n_jump
  · exact gop_jump B K sb f v tv g w h hT h6 i hi x hun _ rfl a0 a1 m3
  by_cases m4 : (f.ops[i]).name = n_unless
  · exact gop_unless B K sb f v tv g w h hT h6 i hi x hun _ rfl a0 a1 m4
  by_cases m5 : (f.ops[i]).name = n_next
  · exact gop_next B K sb f v tv g w h hT h6 i hi x hun _ rfl a0 a1 m5
  by_cases m6 : (f.ops[i]).name = n_try
  · exact gop_try B K sb f v tv g w h hT h6 i hi x hun _ rfl a0 a1 m6
  by_cases m7 : (f.ops[i]).name = n_end
  · exact gop_end B K sb f v tv g w h hT h6 i hi x hun _ rfl a0 a1 m7
  exact gop_other B K sb f v tv g w h hT h6 i hi x hun _ rfl a0 a1 m0 m1 m2 m3 m4 m5 m6 m7
def fnV (f : FnP) (v : OpsV) : Value := .agg #[.string f.name, .int .i64 f.params, .int .i64 f.locals, .int .i64 f.cells, .int .i64 f.frees, .slice v.1 f.ops.length v.2]
set_option maxRecDepth 100000 in
theorem most_const (c : CodeP) (V : CodeV) (f : FnP) (v : OpsV) (h : FnOK c f) (w : World) : Calls Tryd.prog 46 #[codeV c V, fnV f v, .string ⟨#[99, 111, 110, 115, 116]⟩] w fun e w' => e = .returned (.int .i64 (limitP c f ⟨#[99, 111, 110, 115, 116]⟩ - 1)) ∧ Ext w w' := by
  obtain ⟨⟨l0, l1⟩, ⟨c0, c1⟩, ⟨f0, f1⟩, o1, i1, s1, n1, u1⟩ := h
  unfold limitP
  rw [if_pos (show (⟨#[99, 111, 110, 115, 116]⟩ : ByteArray) = a_const by decide)]
  unfold codeV fnV
  go_enter Tryd.func46, Tryd.ntmps46
  go_wp2
  go_ret
  exact ⟨by first | rfl | (congr 2; go_num) | (congr 2; omega), (by repeat (first | exact Ext.refl _ | (refine Ext.drew_ ?_) | (refine Ext.drewN_ ?_ _) | (refine Ext.alloc_ ?_ _)))⟩
set_option maxRecDepth 100000 in
theorem most_int (c : CodeP) (V : CodeV) (f : FnP) (v : OpsV) (h : FnOK c f) (w : World) : Calls Tryd.prog 46 #[codeV c V, fnV f v, .string ⟨#[105, 110, 116]⟩] w fun e w' => e = .returned (.int .i64 (limitP c f ⟨#[105, 110, 116]⟩ - 1)) ∧ Ext w w' := by
  obtain ⟨⟨l0, l1⟩, ⟨c0, c1⟩, ⟨f0, f1⟩, o1, i1, s1, n1, u1⟩ := h
  unfold limitP
  rw [if_neg (show ¬ (⟨#[105, 110, 116]⟩ : ByteArray) = a_const by decide), if_pos (show (⟨#[105, 110, 116]⟩ : ByteArray) = a_int by decide)]
  unfold codeV fnV
  go_enter Tryd.func46, Tryd.ntmps46
  go_wp2
  go_ret
  exact ⟨by first | rfl | (congr 2; go_num) | (congr 2; omega), (by repeat (first | exact Ext.refl _ | (refine Ext.drew_ ?_) | (refine Ext.drewN_ ?_ _) | (refine Ext.alloc_ ?_ _)))⟩
set_option maxRecDepth 100000 in
theorem most_str (c : CodeP) (V : CodeV) (f : FnP) (v : OpsV) (h : FnOK c f) (w : World) : Calls Tryd.prog 46 #[codeV c V, fnV f v, .string ⟨#[115, 116, 114]⟩] w fun e w' => e = .returned (.int .i64 (limitP c f ⟨#[115, 116, 114]⟩ - 1)) ∧ Ext w w' := by
  obtain ⟨⟨l0, l1⟩, ⟨c0, c1⟩, ⟨f0, f1⟩, o1, i1, s1, n1, u1⟩ := h
  unfold limitP
  rw [if_neg (show ¬ (⟨#[115, 116, 114]⟩ : ByteArray) = a_const by decide), if_neg (show ¬ (⟨#[115, 116, 114]⟩ : ByteArray) = a_int by decide), if_pos (show (⟨#[115, 116, 114]⟩ : ByteArray) = a_str by decide)]
  unfold codeV fnV
  go_enter Tryd.func46, Tryd.ntmps46
  go_wp2
  go_ret
  exact ⟨by first | rfl | (congr 2; go_num) | (congr 2; omega), (by repeat (first | exact Ext.refl _ | (refine Ext.drew_ ?_) | (refine Ext.drewN_ ?_ _) | (refine Ext.alloc_ ?_ _)))⟩
set_option maxRecDepth 100000 in
theorem most_name (c : CodeP) (V : CodeV) (f : FnP) (v : OpsV) (h : FnOK c f) (w : World) : Calls Tryd.prog 46 #[codeV c V, fnV f v, .string ⟨#[110, 97, 109, 101]⟩] w fun e w' => e = .returned (.int .i64 (limitP c f ⟨#[110, 97, 109, 101]⟩ - 1)) ∧ Ext w w' := by
  obtain ⟨⟨l0, l1⟩, ⟨c0, c1⟩, ⟨f0, f1⟩, o1, i1, s1, n1, u1⟩ := h
  unfold limitP
  rw [if_neg (show ¬ (⟨#[110, 97, 109, 101]⟩ : ByteArray) = a_const by decide), if_neg (show ¬ (⟨#[110, 97, 109, 101]⟩ : ByteArray) = a_int by decide), if_neg (show ¬ (⟨#[110, 97, 109, 101]⟩ : ByteArray) = a_str by decide), if_pos (show (⟨#[110, 97, 109, 101]⟩ : ByteArray) = a_name by decide)]
  unfold codeV fnV
  go_enter Tryd.func46, Tryd.ntmps46
  go_wp2
  go_ret
  exact ⟨by first | rfl | (congr 2; go_num) | (congr 2; omega), (by repeat (first | exact Ext.refl _ | (refine Ext.drew_ ?_) | (refine Ext.drewN_ ?_ _) | (refine Ext.alloc_ ?_ _)))⟩
set_option maxRecDepth 100000 in
theorem most_local (c : CodeP) (V : CodeV) (f : FnP) (v : OpsV) (h : FnOK c f) (w : World) : Calls Tryd.prog 46 #[codeV c V, fnV f v, .string ⟨#[108, 111, 99, 97, 108]⟩] w fun e w' => e = .returned (.int .i64 (limitP c f ⟨#[108, 111, 99, 97, 108]⟩ - 1)) ∧ Ext w w' := by
  obtain ⟨⟨l0, l1⟩, ⟨c0, c1⟩, ⟨f0, f1⟩, o1, i1, s1, n1, u1⟩ := h
  unfold limitP
  rw [if_neg (show ¬ (⟨#[108, 111, 99, 97, 108]⟩ : ByteArray) = a_const by decide), if_neg (show ¬ (⟨#[108, 111, 99, 97, 108]⟩ : ByteArray) = a_int by decide), if_neg (show ¬ (⟨#[108, 111, 99, 97, 108]⟩ : ByteArray) = a_str by decide), if_neg (show ¬ (⟨#[108, 111, 99, 97, 108]⟩ : ByteArray) = a_name by decide), if_pos (show (⟨#[108, 111, 99, 97, 108]⟩ : ByteArray) = a_local by decide)]
  unfold codeV fnV
  go_enter Tryd.func46, Tryd.ntmps46
  go_wp2
  go_ret
  exact ⟨by first | rfl | (congr 2; go_num) | (congr 2; omega), (by repeat (first | exact Ext.refl _ | (refine Ext.drew_ ?_) | (refine Ext.drewN_ ?_ _) | (refine Ext.alloc_ ?_ _)))⟩
set_option maxRecDepth 100000 in
theorem most_cell (c : CodeP) (V : CodeV) (f : FnP) (v : OpsV) (h : FnOK c f) (w : World) : Calls Tryd.prog 46 #[codeV c V, fnV f v, .string ⟨#[99, 101, 108, 108]⟩] w fun e w' => e = .returned (.int .i64 (limitP c f ⟨#[99, 101, 108, 108]⟩ - 1)) ∧ Ext w w' := by
  obtain ⟨⟨l0, l1⟩, ⟨c0, c1⟩, ⟨f0, f1⟩, o1, i1, s1, n1, u1⟩ := h
  unfold limitP
  rw [if_neg (show ¬ (⟨#[99, 101, 108, 108]⟩ : ByteArray) = a_const by decide), if_neg (show ¬ (⟨#[99, 101, 108, 108]⟩ : ByteArray) = a_int by decide), if_neg (show ¬ (⟨#[99, 101, 108, 108]⟩ : ByteArray) = a_str by decide), if_neg (show ¬ (⟨#[99, 101, 108, 108]⟩ : ByteArray) = a_name by decide), if_neg (show ¬ (⟨#[99, 101, 108, 108]⟩ : ByteArray) = a_local by decide), if_pos (show (⟨#[99, 101, 108, 108]⟩ : ByteArray) = a_cell by decide)]
  unfold codeV fnV
  go_enter Tryd.func46, Tryd.ntmps46
  go_wp2
  go_ret
  exact ⟨by first | rfl | (congr 2; go_num) | (congr 2; omega), (by repeat (first | exact Ext.refl _ | (refine Ext.drew_ ?_) | (refine Ext.drewN_ ?_ _) | (refine Ext.alloc_ ?_ _)))⟩
set_option maxRecDepth 100000 in
theorem most_func (c : CodeP) (V : CodeV) (f : FnP) (v : OpsV) (h : FnOK c f) (w : World) : Calls Tryd.prog 46 #[codeV c V, fnV f v, .string ⟨#[102, 117, 110, 99]⟩] w fun e w' => e = .returned (.int .i64 (limitP c f ⟨#[102, 117, 110, 99]⟩ - 1)) ∧ Ext w w' := by
  obtain ⟨⟨l0, l1⟩, ⟨c0, c1⟩, ⟨f0, f1⟩, o1, i1, s1, n1, u1⟩ := h
  unfold limitP
  rw [if_neg (show ¬ (⟨#[102, 117, 110, 99]⟩ : ByteArray) = a_const by decide), if_neg (show ¬ (⟨#[102, 117, 110, 99]⟩ : ByteArray) = a_int by decide), if_neg (show ¬ (⟨#[102, 117, 110, 99]⟩ : ByteArray) = a_str by decide), if_neg (show ¬ (⟨#[102, 117, 110, 99]⟩ : ByteArray) = a_name by decide), if_neg (show ¬ (⟨#[102, 117, 110, 99]⟩ : ByteArray) = a_local by decide), if_neg (show ¬ (⟨#[102, 117, 110, 99]⟩ : ByteArray) = a_cell by decide), if_pos (show (⟨#[102, 117, 110, 99]⟩ : ByteArray) = a_func by decide)]
  unfold codeV fnV
  go_enter Tryd.func46, Tryd.ntmps46
  go_wp2
  go_ret
  exact ⟨by first | rfl | (congr 2; go_num) | (congr 2; omega), (by repeat (first | exact Ext.refl _ | (refine Ext.drew_ ?_) | (refine Ext.drewN_ ?_ _) | (refine Ext.alloc_ ?_ _)))⟩
set_option maxRecDepth 100000 in
theorem most_op (c : CodeP) (V : CodeV) (f : FnP) (v : OpsV) (h : FnOK c f) (w : World) : Calls Tryd.prog 46 #[codeV c V, fnV f v, .string ⟨#[111, 112]⟩] w fun e w' => e = .returned (.int .i64 (limitP c f ⟨#[111, 112]⟩ - 1)) ∧ Ext w w' := by
  obtain ⟨⟨l0, l1⟩, ⟨c0, c1⟩, ⟨f0, f1⟩, o1, i1, s1, n1, u1⟩ := h
  unfold limitP
  rw [if_neg (show ¬ (⟨#[111, 112]⟩ : ByteArray) = a_const by decide), if_neg (show ¬ (⟨#[111, 112]⟩ : ByteArray) = a_int by decide), if_neg (show ¬ (⟨#[111, 112]⟩ : ByteArray) = a_str by decide), if_neg (show ¬ (⟨#[111, 112]⟩ : ByteArray) = a_name by decide), if_neg (show ¬ (⟨#[111, 112]⟩ : ByteArray) = a_local by decide), if_neg (show ¬ (⟨#[111, 112]⟩ : ByteArray) = a_cell by decide), if_neg (show ¬ (⟨#[111, 112]⟩ : ByteArray) = a_func by decide), if_pos (show (⟨#[111, 112]⟩ : ByteArray) = a_op by decide)]
  unfold codeV fnV
  go_enter Tryd.func46, Tryd.ntmps46
  go_wp2
  go_ret
  exact ⟨by first | rfl | (congr 2; go_num) | (congr 2; omega), (by repeat (first | exact Ext.refl _ | (refine Ext.drew_ ?_) | (refine Ext.drewN_ ?_ _) | (refine Ext.alloc_ ?_ _)))⟩
set_option maxRecDepth 100000 in
theorem most_many (c : CodeP) (V : CodeV) (f : FnP) (v : OpsV) (h : FnOK c f) (w : World) : Calls Tryd.prog 46 #[codeV c V, fnV f v, .string ⟨#[109, 97, 110, 121]⟩] w fun e w' => e = .returned (.int .i64 (limitP c f ⟨#[109, 97, 110, 121]⟩ - 1)) ∧ Ext w w' := by
  obtain ⟨⟨l0, l1⟩, ⟨c0, c1⟩, ⟨f0, f1⟩, o1, i1, s1, n1, u1⟩ := h
  unfold limitP
  rw [if_neg (show ¬ (⟨#[109, 97, 110, 121]⟩ : ByteArray) = a_const by decide), if_neg (show ¬ (⟨#[109, 97, 110, 121]⟩ : ByteArray) = a_int by decide), if_neg (show ¬ (⟨#[109, 97, 110, 121]⟩ : ByteArray) = a_str by decide), if_neg (show ¬ (⟨#[109, 97, 110, 121]⟩ : ByteArray) = a_name by decide), if_neg (show ¬ (⟨#[109, 97, 110, 121]⟩ : ByteArray) = a_local by decide), if_neg (show ¬ (⟨#[109, 97, 110, 121]⟩ : ByteArray) = a_cell by decide), if_neg (show ¬ (⟨#[109, 97, 110, 121]⟩ : ByteArray) = a_func by decide), if_neg (show ¬ (⟨#[109, 97, 110, 121]⟩ : ByteArray) = a_op by decide), if_pos (show (⟨#[109, 97, 110, 121]⟩ : ByteArray) = a_many by decide)]
  unfold codeV fnV
  go_enter Tryd.func46, Tryd.ntmps46
  go_wp2
  go_ret
  exact ⟨by first | rfl | (congr 2; go_num) | (congr 2; omega), (by repeat (first | exact Ext.refl _ | (refine Ext.drew_ ?_) | (refine Ext.drewN_ ?_ _) | (refine Ext.alloc_ ?_ _)))⟩
set_option maxRecDepth 100000 in
theorem most_none (c : CodeP) (V : CodeV) (f : FnP) (v : OpsV) (h : FnOK c f) (w : World) : Calls Tryd.prog 46 #[codeV c V, fnV f v, .string ⟨#[]⟩] w fun e w' => e = .returned (.int .i64 (limitP c f ⟨#[]⟩ - 1)) ∧ Ext w w' := by
  obtain ⟨⟨l0, l1⟩, ⟨c0, c1⟩, ⟨f0, f1⟩, o1, i1, s1, n1, u1⟩ := h
  unfold limitP
  rw [if_neg (show ¬ (⟨#[]⟩ : ByteArray) = a_const by decide), if_neg (show ¬ (⟨#[]⟩ : ByteArray) = a_int by decide), if_neg (show ¬ (⟨#[]⟩ : ByteArray) = a_str by decide), if_neg (show ¬ (⟨#[]⟩ : ByteArray) = a_name by decide), if_neg (show ¬ (⟨#[]⟩ : ByteArray) = a_local by decide), if_neg (show ¬ (⟨#[]⟩ : ByteArray) = a_cell by decide), if_neg (show ¬ (⟨#[]⟩ : ByteArray) = a_func by decide), if_neg (show ¬ (⟨#[]⟩ : ByteArray) = a_op by decide), if_neg (show ¬ (⟨#[]⟩ : ByteArray) = a_many by decide)]
  unfold codeV fnV
  go_enter Tryd.func46, Tryd.ntmps46
  go_wp2
  go_ret
  exact ⟨by first | rfl | (congr 2; go_num) | (congr 2; omega), (by repeat (first | exact Ext.refl _ | (refine Ext.drew_ ?_) | (refine Ext.drewN_ ?_ _) | (refine Ext.alloc_ ?_ _)))⟩
/-- With enough steps it ends. -/
theorem run_ends (last : Bool) (n : Nat) (f : Nat → StepP) : ∀ (k : Nat) (g : GoP), g.s.length = n → leftP g ≤ k → (runP last n f k g).todo = [] ∨ (runP last n f k g).ok = false
  | 0, g, _, h => by
    left
    unfold leftP at h
    exact List.length_eq_zero_iff.1 (show g.todo.length = 0 by omega)
  | k + 1, g, hl, h => by
    unfold runP
    split
    · assumption
    · rename_i hd
      have hd1 : g.todo ≠ [] := fun e => hd (Or.inl e)
      have h1 := leave_len last g.todo hd1
      have h2 := stepP_keep n (f (pickP last g.todo)) ((seenP g.s (pickP last g.todo)).getD (0, [])) { g with todo := leaveP last g.todo } hl
      refine run_ends last n f k _ h2.1 ?_
      rw [h2.2]
      unfold leftP at h ⊢
      simp only
      omega
/-- Ops only open a try at themselves. -/
def TamesP (f : Nat → StepP) : Prop := ∀ i x l, (f i).outs x = some l → ∀ c ∈ l, ∀ t ∈ c.2.2, t ∈ x.2 ∨ t.toNat = i
def SolP (n : Nat) (f : Nat → StepP) (T : List (Option StP)) : Prop := T.length = n ∧ seenP T 0 = some (0, []) ∧ HeldP T ∧ ∀ i, ShutP n f T i
theorem base_under {s T : List (Option StP)} (h : UnderP s T) (tr : List Int) (ht : ∀ t ∈ tr, seenP s t.toNat ≠ none) : baseP T tr = baseP s tr := by
  unfold baseP
  cases hg : tr.getLast? with
  | none => rfl
  | some t =>
    have hm : t ∈ tr := List.mem_of_getLast? hg
    have := ht t hm
    cases hs : seenP s t.toNat with
    | none => exact absurd hs this
    | some y =>
      simp only [highP, hs, h _ _ hs]
theorem low_under {s T : List (Option StP)} (h : UnderP s T) (p : StepP) (x : StP) (ht : ∀ t ∈ x.2, seenP s t.toNat ≠ none) : lowP T p x = lowP s p x := by
  unfold lowP
  rw [base_under h x.2 ht]
/-- What a coming does where it is well. -/
theorem comeP_ok (n : Nat) (g : GoP) (i : Int) (x : StP) (hl : g.s.length = n) (h : (comeP n g i x).ok = true) :
    g.ok = true ∧ ¬ n ≤ i.toNat ∧ UnderP g.s (comeP n g i x).s ∧ seenP (comeP n g i x).s i.toNat = some x ∧ (∀ j y, seenP (comeP n g i x).s j = some y → seenP g.s j = some y ∨ (y = x ∧ j ∈ (comeP n g i x).todo)) ∧ (∀ j ∈ g.todo, j ∈ (comeP n g i x).todo) ∧ (∀ j ∈ (comeP n g i x).todo, j ∈ g.todo ∨ seenP (comeP n g i x).s j ≠ none) := by
  unfold comeP at h ⊢
  by_cases hi : n ≤ i.toNat
  · rw [if_pos hi] at h; cases h
  · rw [if_neg hi] at h ⊢
    cases hs : seenP g.s i.toNat with
    | none =>
      rw [hs] at h
      simp only at h ⊢
      have hlt : i.toNat < g.s.length := by rw [hl]; omega
      refine ⟨h, hi, ?_, ?_, ?_, fun j hj => List.mem_append_left _ hj, ?_⟩
      · intro j y hj
        rw [seenP_set hlt]
        split
        · rename_i e; rw [← e, hs] at hj; cases hj
        · exact hj
      · rw [seenP_set hlt, if_pos rfl]
      · intro j y hj
        rw [seenP_set hlt] at hj
        split at hj
        · rename_i e
          right
          exact ⟨(Option.some.inj hj).symm, by rw [← e]; simp⟩
        · exact Or.inl hj
      · intro j hj
        rcases List.mem_append.1 hj with q | q
        · exact Or.inl q
        · right
          rw [List.mem_singleton.1 q, seenP_set hlt, if_pos rfl]
          exact fun z => by cases z
    | some y =>
      rw [hs] at h
      simp only at h ⊢
      by_cases e : y = x
      · subst e
        simp only [if_true] at h ⊢
        exact ⟨h, hi, fun _ _ q => q, hs, fun j z q => Or.inl q, fun j q => q, fun j q => Or.inl q⟩
      · rw [if_neg e] at h; cases h
theorem comesP_ok (n : Nat) (l : List (Int × StP)) : ∀ (g : GoP), g.s.length = n → (comesP n l g).ok = true →
    g.ok = true ∧ UnderP g.s (comesP n l g).s ∧ (∀ c ∈ l, ¬ n ≤ c.1.toNat ∧ seenP (comesP n l g).s c.1.toNat = some c.2) ∧ (∀ j y, seenP (comesP n l g).s j = some y → seenP g.s j = some y ∨ ((∃ c ∈ l, y = c.2) ∧ j ∈ (comesP n l g).todo)) ∧ (∀ j ∈ g.todo, j ∈ (comesP n l g).todo) ∧ (∀ j ∈ (comesP n l g).todo, j ∈ g.todo ∨ seenP (comesP n l g).s j ≠ none) := by
  induction l with
  | nil => intro g _ h; exact ⟨h, fun _ _ q => q, by simp, fun j y q => Or.inl q, fun j q => q, fun j q => Or.inl q⟩
  | cons c l ih =>
    intro g hl h
    obtain ⟨a1, a2, a3, a4, a5, a6⟩ := ih (comeP n g c.1 c.2) (comeP_len n g _ _ hl) h
    obtain ⟨b1, b2, b3, b4, b5, b6, b7⟩ := comeP_ok n g c.1 c.2 hl a1
    refine ⟨b1, b3.trans a2, ?_, ?_, fun j hj => a5 j (b6 j hj), fun j hj => ?_⟩
    · intro d hd
      rcases List.mem_cons.1 hd with rfl | hd
      · exact ⟨b2, a2 _ _ b4⟩
      · exact a3 d hd
    · intro j y hj
      rcases a4 j y hj with q | ⟨⟨d, hd, e⟩, q⟩
      · rcases b5 j y q with r | ⟨r1, r2⟩
        · exact Or.inl r
        · exact Or.inr ⟨⟨c, List.mem_cons_self, r1⟩, a5 j r2⟩
      · exact Or.inr ⟨⟨d, List.mem_cons_of_mem _ hd, e⟩, q⟩
    · rcases a6 j hj with q | q
      · rcases b7 j q with r | r
        · exact Or.inl r
        · exact Or.inr (a2.some r)
      · exact Or.inr q
theorem run_sol (last : Bool) (n : Nat) (f : Nat → StepP) (ht : TamesP f) : ∀ (k : Nat) (g : GoP), InvP n f g → InvP n f (runP last n f k g)
  | 0, g, h => h
  | k + 1, g, h => by
    unfold runP
    split
    · exact h
    · rename_i hd
      have hd1 : g.todo ≠ [] := fun e => hd (Or.inl e)
      have hd2 : g.ok = true := by cases q : g.ok with | true => rfl | false => exact absurd (Or.inr q) hd
      refine run_sol last n f ht k _ ?_
      have hpm := (pick_mem last g.todo hd1 (pickP last g.todo)).2 (Or.inl rfl)
      have hmm := fun j => pick_mem last g.todo hd1 j
      generalize pickP last g.todo = at_ at *
      generalize leaveP last g.todo = rest at *
      obtain ⟨x, hx⟩ : ∃ x, seenP g.s at_ = some x := by
        cases q : seenP g.s at_ with
        | none => exact absurd q (h.todo hd2 _ hpm)
        | some x => exact ⟨x, rfl⟩
      rw [hx]
      simp only [Option.getD_some]
      have hlen := (stepP_keep n (f at_) x { g with todo := rest } h.len).1
      by_cases hok : (stepP n (f at_) x { g with todo := rest }).ok = true
      · unfold stepP at hok hlen ⊢
        simp only at hok hlen ⊢
        cases hlow : lowP g.s (f at_) x with
        | true => rw [hlow] at hok; simp at hok
        | false =>
          rw [hlow] at hok hlen
          simp only [Bool.false_eq_true, if_false] at hok hlen ⊢
          cases ho : (f at_).outs x with
          | none => rw [ho] at hok; simp at hok
          | some l =>
            rw [ho] at hok hlen
            simp only at hok hlen ⊢
            obtain ⟨a1, a2, a3, a4, a5, a6⟩ := comesP_ok n l { g with todo := rest } h.len hok
            simp only at a2 a4 a5 a6
            have hheld := h.held hd2
            have held2 : HeldP (comesP n l { g with todo := rest }).s := by
              intro j y hj t htt
              rcases a4 j y hj with q | ⟨⟨c, hc, rfl⟩, -⟩
              · exact a2.some (hheld j y q t htt)
              · rcases ht at_ x l ho c hc t htt with q | q
                · exact a2.some (hheld at_ x hx t q)
                · rw [q]; exact a2.some (by rw [hx]; exact fun z => by cases z)
            refine ⟨hlen, fun _ => a2 _ _ (h.first hd2), fun _ => held2, fun _ i hi => ?_, fun _ i hi => ?_⟩
            · intro y hy
              by_cases e : i = at_
              · subst e
                have hyx : y = x := by have := a2 _ _ hx; rw [this] at hy; exact (Option.some.inj hy).symm
                subst hyx
                refine ⟨?_, l, ho, a3⟩
                rw [low_under a2 (f i) y (hheld i y hx)]
                exact hlow
              · rcases a4 i y hy with q | ⟨-, q⟩
                · obtain ⟨r1, l', r2, r3⟩ := h.shut hd2 i (fun hm => by
                    rcases (hmm i).1 hm with z | z
                    · exact e z
                    · exact hi (a5 i z)) y q
                  refine ⟨?_, l', r2, fun c hc => ⟨(r3 c hc).1, a2 _ _ (r3 c hc).2⟩⟩
                  rw [low_under a2 (f i) y (hheld i y q)]
                  exact r1
                · exact absurd q hi
            · rcases a6 i hi with q | q
              · exact a2.some (h.todo hd2 i ((hmm i).2 (Or.inr q)))
              · exact q
      · exact ⟨hlen, fun q => absurd q hok, fun q => absurd q hok, fun q => absurd q hok, fun q => absurd q hok⟩
theorem start_inv (n : Nat) (f : Nat → StepP) : InvP n f (startP n) := by
  have hlen : (startP n).s.length = n := comeP_len n _ _ _ (by simp)
  have key : (startP n).ok = true → _ := comeP_ok n ⟨List.replicate n none, [], true⟩ 0 (0, []) (by simp)
  refine ⟨hlen, fun h => (key h).2.2.2.1, fun h i x hx t ht => ?_, fun h i hi x hx => ?_, fun h i hi => ?_⟩
  · rcases (key h).2.2.2.2.1 i x hx with q | ⟨rfl, -⟩
    · simp only [seen_none] at q; cases q
    · cases ht
  · rcases (key h).2.2.2.2.1 i x hx with q | ⟨-, q⟩
    · simp only [seen_none] at q; cases q
    · exact absurd q hi
  · rcases (key h).2.2.2.2.2.2 i hi with q | q
    · cases q
    · exact q
theorem sol_of_ok (last : Bool) (n : Nat) (f : Nat → StepP) (ht : TamesP f) (h : okP last n f = true) : ∃ T, SolP n f T := by
  have h1 := run_sol last n f ht (n + 1) _ (start_inv n f)
  have h2 := run_ends last n f (n + 1) _ (start_inv n f).len (start_left n)
  unfold okP at h
  rcases h2 with h2 | h2
  · exact ⟨_, h1.len, h1.first h, h1.held h, fun i => h1.shut h i (by rw [h2]; simp)⟩
  · rw [h] at h2; cases h2
theorem comeP_under (n : Nat) (T : List (Option StP)) (g : GoP) (i : Int) (x : StP) (hl : g.s.length = n) (hok : g.ok = true) (hu : UnderP g.s T) (hi : ¬ n ≤ i.toNat) (hx : seenP T i.toNat = some x) :
    (comeP n g i x).ok = true ∧ UnderP (comeP n g i x).s T := by
  unfold comeP
  rw [if_neg hi]
  cases hs : seenP g.s i.toNat with
  | none =>
    refine ⟨hok, fun j y hj => ?_⟩
    simp only at hj
    rw [seenP_set (by rw [hl]; omega)] at hj
    split at hj
    · rename_i e; rw [← e, hx]; exact hj
    · exact hu j y hj
  | some y =>
    have : y = x := by have := hu _ _ hs; rw [hx] at this; exact (Option.some.inj this).symm
    subst this
    simp only [if_true]
    exact ⟨hok, hu⟩
theorem comesP_under (n : Nat) (T : List (Option StP)) (l : List (Int × StP)) : ∀ (g : GoP), g.s.length = n → g.ok = true → UnderP g.s T → (∀ c ∈ l, ¬ n ≤ c.1.toNat ∧ seenP T c.1.toNat = some c.2) →
    (comesP n l g).ok = true ∧ UnderP (comesP n l g).s T := by
  induction l with
  | nil => intro g _ h1 h2 _; exact ⟨h1, h2⟩
  | cons c l ih =>
    intro g hl h1 h2 h3
    obtain ⟨a1, a2⟩ := comeP_under n T g c.1 c.2 hl h1 h2 (h3 c List.mem_cons_self).1 (h3 c List.mem_cons_self).2
    exact ih _ (comeP_len n g _ _ hl) a1 a2 fun d hd => h3 d (List.mem_cons_of_mem _ hd)
theorem run_ok (last : Bool) (n : Nat) (f : Nat → StepP) (ht : TamesP f) (T : List (Option StP)) (hT : SolP n f T) : ∀ (k : Nat) (g : GoP), InvP n f g → g.ok = true → UnderP g.s T → (runP last n f k g).ok = true
  | 0, g, _, h, _ => h
  | k + 1, g, hv, h, hu => by
    have hk := run_sol last n f ht 1 g hv
    unfold runP at hk ⊢
    split
    · exact h
    · rename_i hd
      rw [if_neg hd] at hk
      simp only [runP] at hk
      have hd1 : g.todo ≠ [] := fun e => hd (Or.inl e)
      have hpm := (pick_mem last g.todo hd1 (pickP last g.todo)).2 (Or.inl rfl)
      generalize pickP last g.todo = at_ at *
      generalize leaveP last g.todo = rest at *
      obtain ⟨x, hx⟩ : ∃ x, seenP g.s at_ = some x := by
        cases q : seenP g.s at_ with
        | none => exact absurd q (hv.todo h _ hpm)
        | some x => exact ⟨x, rfl⟩
      rw [hx] at hk ⊢
      simp only [Option.getD_some] at hk ⊢
      obtain ⟨s1, l, s2, s3⟩ := hT.2.2.2 at_ x (hu _ _ hx)
      rw [low_under hu (f at_) x (hv.held h at_ x hx)] at s1
      have key : (stepP n (f at_) x { g with todo := rest }).ok = true ∧ UnderP (stepP n (f at_) x { g with todo := rest }).s T := by
        unfold stepP
        simp only [s1, s2, Bool.false_eq_true, if_false]
        exact comesP_under n T l { g with todo := rest } hv.len h hu s3
      exact run_ok last n f ht T hT k _ hk key.1 key.2
/-- WHICH OP IS GONE THROUGH NEXT CHANGES NOTHING. -/
theorem ok_same (a b : Bool) (n : Nat) (f : Nat → StepP) (ht : TamesP f) (h : okP a n f = true) : okP b n f = true := by
  obtain ⟨T, hT⟩ := sol_of_ok a n f ht h
  have hn : ¬ n ≤ (0 : Int).toNat := by
    have := seenP_lt hT.2.1
    rw [hT.1] at this
    omega
  obtain ⟨h1, h2⟩ := comeP_under n T ⟨List.replicate n none, [], true⟩ 0 (0, []) (by simp) rfl (fun i x q => by simp only [seen_none] at q; cases q) hn hT.2.1
  exact run_ok b n f ht T hT (n + 1) _ (start_inv n f) h1 h2
theorem ok_both (n : Nat) (f : Nat → StepP) (ht : TamesP f) : okP true n f = okP false n f := by
  cases h1 : okP true n f <;> cases h2 : okP false n f
  · rfl
  · rw [ok_same false true n f ht h2] at h1; cases h1
  · rw [ok_same true false n f ht h1] at h2; cases h2
  · rfl
theorem steps_tame (ops : List OpP) : TamesP (stepsP ops) := by
  intro i x l h c hc t ht
  replace h : outsP i (opAt ops i) x = some l := h
  unfold outsP at h
  simp only at h
  split at h
  · cases h; cases hc
  split at h
  · cases h; rw [List.mem_singleton.1 hc] at ht; exact Or.inl ht
  split at h
  · cases h
    rcases List.mem_cons.1 hc with rfl | hc
    · exact Or.inl ht
    · rw [List.mem_singleton.1 hc] at ht; exact Or.inl ht
  split at h
  · cases h
    rcases List.mem_cons.1 hc with rfl | hc
    · exact Or.inl ht
    · rw [List.mem_singleton.1 hc] at ht; exact Or.inl ht
  split at h
  · cases h
    rcases List.mem_cons.1 hc with rfl | hc
    · exact Or.inl ht
    · rw [List.mem_singleton.1 hc] at ht
      rcases List.mem_append.1 ht with q | q
      · exact Or.inl q
      · rw [List.mem_singleton.1 q]; exact Or.inr (by simp)
  split at h
  · split at h
    · cases h
    · cases h; rw [List.mem_singleton.1 hc] at ht; exact Or.inl ((List.dropLast_sublist _).subset ht)
  · cases h; rw [List.mem_singleton.1 hc] at ht; exact Or.inl ht
def funcB (c : CodeP) (f : FnP) (first : Bool) : Bool := formP c f first 0 f.ops && okP false f.ops.length (stepsP f.ops)
theorem func_same (c : CodeP) (f : FnP) (first : Bool) : funcA c f first = funcB c f first := by
  unfold funcA funcB
  rw [ok_both _ _ (steps_tame f.ops)]
  cases h : f.ops with
  | nil =>
    have : okP false ([] : List OpP).length (stepsP []) = false := by decide +kernel
    rw [this]; simp
  | cons a l => rfl
theorem verify_same (most : Int) (c : CodeP) : verifyP most funcA c = verifyP most funcB c := by
  have : funcA = funcB := by funext c f first; exact func_same c f first
  rw [this]
end Go.Proofs.YtgjjkllngopboaaDoor
