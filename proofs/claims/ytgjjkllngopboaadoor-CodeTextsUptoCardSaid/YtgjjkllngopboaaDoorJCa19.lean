/- The walk of Verify: is code right, as the code has it. -/
import Derived.Test.YtgjjkllngopboaaDoorJCa17
import Derived.Test.YtgjjkllngopboaaDoorJCa18
namespace Go.Proofs.YtgjjkllngopboaaDoor
open Go.RowKit
set_option linter.unusedVariables false
set_option linter.unusedSimpArgs false

/-- What Verify hands back: an error's number and its place. -/
def VerPost (gb gs : Addr) (w : World) (r : Int × Int) (e : Ending) (w' : World) : Prop :=
  Ext w w' ∧ ((r = (0, -1) ∧ e = .returned .nilIface) ∨ (r = (2, -1) ∧ e = .returned (errV gb)) ∨ (r = (3, -1) ∧ e = .returned (errV gs)) ∨
    ∃ (i x : Nat), r = (3, (i : Int)) ∧ e = .returned (.iface 82 (.pointer (some ⟨x, 0, none⟩))) ∧ w'.cell? ⟨x, 0, none⟩ = some (.int .i64 (i : Int)) ∧ w'.cell? ⟨x, 1, none⟩ = some (errV gs))
def wideP (c : CodeP) : Bool := decide (20000 < countP c) || decide (400 < c.funcs.length) || decide (2000 < c.ints.length) || decide (2000 < c.strs.length) || decide (2000 < c.names.length)
theorem verify_wide {c : CodeP} {ok : CodeP → FnP → Bool → Bool} (h : wideP c = true) : verifyP 20000 ok c = (2, -1) := by
  unfold verifyP
  rw [if_pos]
  simp only [wideP, Bool.or_eq_true, decide_eq_true_eq] at h
  omega
theorem verify_empty {c : CodeP} {ok : CodeP → FnP → Bool → Bool} (h : wideP c = false) (h2 : c.funcs = []) : verifyP 20000 ok c = (3, -1) := by
  unfold verifyP
  rw [if_neg, if_pos h2]
  simp only [wideP, Bool.or_eq_false_iff, decide_eq_false_iff_not] at h
  omega
theorem verify_nums {c : CodeP} {ok : CodeP → FnP → Bool → Bool} (h : wideP c = false) (h2 : ¬ c.funcs = []) (h3 : numsAll true c.funcs = false) : verifyP 20000 ok c = (3, -1) := by
  unfold verifyP
  rw [if_neg, if_neg h2, h3]
  · rfl
  simp only [wideP, Bool.or_eq_false_iff, decide_eq_false_iff_not] at h
  omega
theorem verify_each {c : CodeP} {ok : CodeP → FnP → Bool → Bool} (h : wideP c = false) (h2 : ¬ c.funcs = []) (h3 : numsAll true c.funcs = true) : verifyP 20000 ok c = match wrongP (ok c) 0 c.funcs with | some i => (3, (i : Int)) | none => (0, -1) := by
  unfold verifyP
  rw [if_neg, if_neg h2, h3]
  · rfl
  simp only [wideP, Bool.or_eq_false_iff, decide_eq_false_iff_not] at h
  omega
/-- A function's four numbers. -/
def four (f : FnP) : List Int := [f.params, f.locals, f.cells, f.frees]
def numOK (first : Bool) (n : Int) : Bool := decide (0 ≤ n) && decide (n ≤ 400) && !(first && decide (0 < n))
theorem numsB_eq (first : Bool) (f : FnP) : numsB first f = ((four f).all (numOK first) && decide (f.params ≤ f.locals)) := rfl
theorem numsAll_mem : ∀ {l : List FnP} {first : Bool}, numsAll first l = true → ∀ f ∈ l, (0 ≤ f.locals ∧ f.locals ≤ 400) ∧ (0 ≤ f.cells ∧ f.cells ≤ 400) ∧ (0 ≤ f.frees ∧ f.frees ≤ 400)
  | [], _, _ => fun f h => by cases h
  | a :: r, first, h => fun f hm => by
    unfold numsAll at h
    rw [Bool.and_eq_true] at h
    rcases List.mem_cons.1 hm with rfl | hm
    · have h1 := h.1
      rw [numsB_eq] at h1
      simp only [four, numOK, List.all_cons, List.all_nil, Bool.and_eq_true, decide_eq_true_eq] at h1
      omega
    · exact numsAll_mem h.2 f hm
theorem wide_lens {c : CodeP} (h : wideP c = false) : countP c ≤ 20000 ∧ c.funcs.length ≤ 400 ∧ c.ints.length ≤ 2000 ∧ c.strs.length ≤ 2000 ∧ c.names.length ≤ 2000 := by
  simp only [wideP, Bool.or_eq_false_iff, decide_eq_false_iff_not] at h
  omega
theorem ops_count {c : CodeP} {f : FnP} (h : f ∈ c.funcs) : f.ops.length ≤ countP c := by
  have key : ∀ l : List FnP, f ∈ l → f.ops.length ≤ (l.map fun f => f.ops.length).sum := by
    intro l
    induction l with
    | nil => intro h; cases h
    | cons a l ih =>
      intro h
      simp only [List.map_cons, List.sum_cons]
      rcases List.mem_cons.1 h with rfl | h
      · omega
      · have := ih h; omega
  exact key c.funcs h
theorem fn_ok {c : CodeP} (h : wideP c = false) (h3 : numsAll true c.funcs = true) {f : FnP} (hm : f ∈ c.funcs) : FnOK c f := by
  obtain ⟨a1, a2, a3, a4, a5⟩ := wide_lens h
  obtain ⟨b1, b2, b3⟩ := numsAll_mem h3 f hm
  have := ops_count hm
  exact ⟨b1, b2, b3, by omega, by omega, by omega, by omega, by omega⟩
/-- A function's cells in the row of functions. -/
theorem fn_cells {w : World} {c : CodeP} {V : CodeV} (h : RCode w c V) {k : Nat} (hk : k < c.funcs.length) :
    ∃ fb fo va vc, V.F.1 = some ⟨fb, fo, none⟩ ∧ w.cell? ⟨fb, fo + k * 6, none⟩ = some (.string (c.funcs[k]).name) ∧ w.cell? ⟨fb, fo + k * 6 + 1, none⟩ = some (.int .i64 (c.funcs[k]).params) ∧ w.cell? ⟨fb, fo + k * 6 + 2, none⟩ = some (.int .i64 (c.funcs[k]).locals) ∧
      w.cell? ⟨fb, fo + k * 6 + 3, none⟩ = some (.int .i64 (c.funcs[k]).cells) ∧ w.cell? ⟨fb, fo + k * 6 + 4, none⟩ = some (.int .i64 (c.funcs[k]).frees) ∧ w.cell? ⟨fb, fo + k * 6 + 5, none⟩ = some (.slice va (c.funcs[k]).ops.length vc) ∧ RSl w va (opCells (c.funcs[k]).ops) ∧ (va, vc) ∈ V.fs := by
  have hat := fnCells_at (withV c V) k (by rw [withV_len h]; exact hk)
  have hfs := withV_fst h k hk
  obtain ⟨fb, fo, hfe⟩ := h.F.some_ (by rw [fnCells_len, withV_len h]; omega)
  have hF := h.F
  rw [hfe] at hF
  have hmem : (withV c V)[k]'(by rw [withV_len h]; exact hk) ∈ withV c V := List.getElem_mem _
  have ho := h.ops _ hmem
  rw [hfs] at hat ho
  refine ⟨fb, fo, ((withV c V)[k]'(by rw [withV_len h]; exact hk)).2.1, ((withV c V)[k]'(by rw [withV_len h]; exact hk)).2.2, hfe, hF.at_ hat.1, ?_, ?_, ?_, ?_, ?_, ho, ?_⟩
  · rw [Nat.add_assoc]; exact hF.at_ hat.2.1
  · rw [Nat.add_assoc]; exact hF.at_ hat.2.2.1
  · rw [Nat.add_assoc]; exact hF.at_ hat.2.2.2.1
  · rw [Nat.add_assoc]; exact hF.at_ hat.2.2.2.2.1
  · rw [Nat.add_assoc]; exact hF.at_ hat.2.2.2.2.2
  · exact (List.of_mem_zip (show ((withV c V)[k]'(by rw [withV_len h]; exact hk)) ∈ c.funcs.zip V.fs from List.getElem_mem _)).2
set_option maxRecDepth 100000 in
set_option maxHeartbeats 16000000 in
theorem verify_walk (c : CodeP) (V : CodeV) (gb gs : Addr) (w : World) (hR : RCode w c V) (hG : GBound w gb) (hS : GShape w gs) (hin : ∀ x ∈ V.fs, ∀ y, x.1 = some y → y.block < w.heap.size) :
    Calls Tryd.prog 14 #[codeV c V] w (VerPost gb gs w (verifyP 20000 funcA c)) := by
  obtain ⟨⟨fa, fcp⟩, ⟨ia, icp⟩, ⟨sa, scp⟩, ⟨na, ncp⟩, fs⟩ := V
  have hcn := hR.count
  have hlG := cell_lt hG
  have hlS := cell_lt hS
  have HR := Lib.hid hR
  have HGB := Lib.hid hG
  have HGS := Lib.hid hS
  have HIN := Lib.hid hin
  simp only at HIN
  obtain ⟨RES, hRES⟩ : ∃ RES, RES = verifyP 20000 funcA c := ⟨_, rfl⟩
  rw [← hRES]
  have HRES := Lib.hid hRES
  clear hR hG hS hRES hin
  unfold codeV
  simp only
  go_enter Tryd.func14, Tryd.ntmps14
  go_upto_region 1 with fail
  obtain ⟨B, hB⟩ : ∃ B, B = w.heap.size := ⟨_, rfl⟩
  refine namedW (fun w1 hw1 => ?_)
  have hX1 : Ext w w1 := by rw [hw1]; exact (Ext.refl w).alloc_ _
  have p0 : w1.cell? ⟨B, 0, none⟩ = some (.slice fa c.funcs.length fcp) := by rw [hw1, hB]; simp [go_sem]
  have p1 : w1.cell? ⟨B, 1, none⟩ = some (.slice ia c.ints.length icp) := by rw [hw1, hB]; simp [go_sem]
  have p2 : w1.cell? ⟨B, 2, none⟩ = some (.slice sa c.strs.length scp) := by rw [hw1, hB]; simp [go_sem]
  have p3 : w1.cell? ⟨B, 3, none⟩ = some (.slice na c.names.length ncp) := by rw [hw1, hB]; simp [go_sem]
  rw [← hB]
  have HX1 := Lib.hid hX1
  have hlB : B < w1.heap.size := cell_lt p0
  clear hw1 hX1 hB
  have hcnt := count_any c ⟨(fa, fcp), (ia, icp), (sa, scp), (na, ncp), fs⟩ w1 (HR.out.ext HX1.out)
  unfold codeV at hcnt
  simp only at hcnt
  have HCNT := Lib.hid hcnt
  clear hcnt
  by_cases d0 : 20000 < countP c
  · have z0 : decide ((20000 : Int) < (countP c : Int)) = true := decide_eq_true (by omega)
    obtain rfl : RES = (2, -1) := by rw [HRES.out]; exact verify_wide (by simp [wideP, d0])
    clear d0
    go_wp2_with (go_at_call 11; refine HCNT.out.mono ?_; rintro e w2 ⟨rfl, hE2⟩; have HE2 := Lib.hid hE2; have q0 := hE2.cell_ p0; have q1 := hE2.cell_ p1; have q2 := hE2.cell_ p2; have q3 := hE2.cell_ p3; have gg := (HX1.out.trans_ hE2).cell_ HGB.out; have hls2 := hE2.size; clear hE2)
    go_ret
    exact ⟨HX1.out.trans_ HE2.out, Or.inr (Or.inl ⟨rfl, rfl⟩)⟩
  have z0 : decide ((20000 : Int) < (countP c : Int)) = false := decide_eq_false (by omega)
  by_cases d1 : 400 < c.funcs.length
  · have z1 : decide ((400 : Int) < (c.funcs.length : Int)) = true := decide_eq_true (by omega)
    obtain rfl : RES = (2, -1) := by rw [HRES.out]; exact verify_wide (by simp [wideP, d1])
    clear d1
    go_wp2_with (go_at_call 11; refine HCNT.out.mono ?_; rintro e w2 ⟨rfl, hE2⟩; have HE2 := Lib.hid hE2; have q0 := hE2.cell_ p0; have q1 := hE2.cell_ p1; have q2 := hE2.cell_ p2; have q3 := hE2.cell_ p3; have gg := (HX1.out.trans_ hE2).cell_ HGB.out; have hls2 := hE2.size; clear hE2)
    go_ret
    exact ⟨HX1.out.trans_ HE2.out, Or.inr (Or.inl ⟨rfl, rfl⟩)⟩
  have z1 : decide ((400 : Int) < (c.funcs.length : Int)) = false := decide_eq_false (by omega)
  by_cases d2 : 2000 < c.ints.length
  · have z2 : decide ((2000 : Int) < (c.ints.length : Int)) = true := decide_eq_true (by omega)
    obtain rfl : RES = (2, -1) := by rw [HRES.out]; exact verify_wide (by simp [wideP, d2])
    clear d2
    go_wp2_with (go_at_call 11; refine HCNT.out.mono ?_; rintro e w2 ⟨rfl, hE2⟩; have HE2 := Lib.hid hE2; have q0 := hE2.cell_ p0; have q1 := hE2.cell_ p1; have q2 := hE2.cell_ p2; have q3 := hE2.cell_ p3; have gg := (HX1.out.trans_ hE2).cell_ HGB.out; have hls2 := hE2.size; clear hE2)
    go_ret
    exact ⟨HX1.out.trans_ HE2.out, Or.inr (Or.inl ⟨rfl, rfl⟩)⟩
  have z2 : decide ((2000 : Int) < (c.ints.length : Int)) = false := decide_eq_false (by omega)
  by_cases d3 : 2000 < c.strs.length
  · have z3 : decide ((2000 : Int) < (c.strs.length : Int)) = true := decide_eq_true (by omega)
    obtain rfl : RES = (2, -1) := by rw [HRES.out]; exact verify_wide (by simp [wideP, d3])
    clear d3
    go_wp2_with (go_at_call 11; refine HCNT.out.mono ?_; rintro e w2 ⟨rfl, hE2⟩; have HE2 := Lib.hid hE2; have q0 := hE2.cell_ p0; have q1 := hE2.cell_ p1; have q2 := hE2.cell_ p2; have q3 := hE2.cell_ p3; have gg := (HX1.out.trans_ hE2).cell_ HGB.out; have hls2 := hE2.size; clear hE2)
    go_ret
    exact ⟨HX1.out.trans_ HE2.out, Or.inr (Or.inl ⟨rfl, rfl⟩)⟩
  have z3 : decide ((2000 : Int) < (c.strs.length : Int)) = false := decide_eq_false (by omega)
  by_cases d4 : 2000 < c.names.length
  · have z4 : decide ((2000 : Int) < (c.names.length : Int)) = true := decide_eq_true (by omega)
    obtain rfl : RES = (2, -1) := by rw [HRES.out]; exact verify_wide (by simp [wideP, d4])
    clear d4
    go_wp2_with (go_at_call 11; refine HCNT.out.mono ?_; rintro e w2 ⟨rfl, hE2⟩; have HE2 := Lib.hid hE2; have q0 := hE2.cell_ p0; have q1 := hE2.cell_ p1; have q2 := hE2.cell_ p2; have q3 := hE2.cell_ p3; have gg := (HX1.out.trans_ hE2).cell_ HGB.out; have hls2 := hE2.size; clear hE2)
    go_ret
    exact ⟨HX1.out.trans_ HE2.out, Or.inr (Or.inl ⟨rfl, rfl⟩)⟩
  have z4 : decide ((2000 : Int) < (c.names.length : Int)) = false := decide_eq_false (by omega)
  have hw : wideP c = false := by simp [wideP]; omega
  have HWD := Lib.hid hw
  clear hw
  go_upto_region 3 with (go_at_call 11; refine HCNT.out.mono ?_; rintro e w2 ⟨rfl, hE2⟩; have HE2 := Lib.hid hE2; have q0 := hE2.cell_ p0; have q1 := hE2.cell_ p1; have q2 := hE2.cell_ p2; have q3 := hE2.cell_ p3; have gg := (HX1.out.trans_ hE2).cell_ HGB.out; have hls2 := hE2.size; clear hE2)
  clear z0 z1 z2 z3 z4 HCNT
  by_cases hem : c.funcs = []
  · obtain rfl : RES = (3, -1) := by rw [HRES.out]; exact verify_empty HWD.out hem
    have hz : ((c.funcs.length : Int) == 0) = true := by rw [hem]; rfl
    have gs2 := (HX1.out.trans_ HE2.out).cell_ HGS.out
    clear hem
    go_wp2
    go_ret
    exact ⟨HX1.out.trans_ HE2.out, Or.inr (Or.inr (Or.inl ⟨rfl, rfl⟩))⟩
  have hz : ((c.funcs.length : Int) == 0) = false := by
    have : c.funcs.length ≠ 0 := fun e => hem (List.eq_nil_of_length_eq_zero e)
    simpa using this
  have HEM := Lib.hid hem
  have hX2 := HX1.out.trans_ HE2.out
  have HX2 := Lib.hid hX2
  have hlB2 : B < w2.heap.size := by omega
  have hfl : c.funcs.length ≤ 400 := by omega
  clear hem hX2 p0 p1 p2 p3 gg
  go_upto_region 6 with fail
  clear hz
  go_loopg [46] (c.funcs.length) (fun r i wr => ∃ k : Nat, k + r = c.funcs.length ∧ i = .int .i64 (k : Int) ∧ Hid (numsAll true c.funcs = numsAll (decide (k = 0)) (c.funcs.drop k)) ∧ Hid (Ext w2 wr))
  case atStart => exact ⟨0, by omega, rfl, by show _ = _; rw [List.drop_zero]; rfl, Ext.refl w2⟩
  case round =>
    obtain ⟨k, hk, rfl, hP, hE⟩ := hrel
    cases gk with
    | succ r =>
      have hlt : k < c.funcs.length := by omega
      have hltz : (k : Int) < (c.funcs.length : Int) := by omega
      obtain ⟨fb, fo, va, vc, hfa, c0, c1, c2, c3, c4, c5, -, -⟩ := fn_cells ((HR.out.ext HX2.out).ext hE.out) hlt
      simp only at hfa
      subst hfa
      have hdrop : c.funcs.drop k = c.funcs[k] :: c.funcs.drop (k + 1) := List.drop_eq_getElem_cons hlt
      have hP' : numsAll true c.funcs = (numsB (decide (k = 0)) c.funcs[k] && numsAll (decide (k + 1 = 0)) (c.funcs.drop (k + 1))) := by
        rw [hP.out, hdrop]
        rfl
      have HP := Lib.hid hP'
      clear hP hP' hdrop
      obtain ⟨fn, hfn⟩ : ∃ fn, fn = c.funcs[k] := ⟨_, rfl⟩
      rw [← hfn] at c0 c1 c2 c3 c4 c5 HP
      obtain ⟨f0, f1, f2, f3, f4, fops⟩ := fn
      simp only at c0 c1 c2 c3 c4 c5
      have HK := Lib.hid hk
      have HFN := Lib.hid hfn
      have hlb : fb < wr.heap.size := cell_lt c0
      clear hk hfn
      go_upto_region 9 with fail
      obtain ⟨P4, hP4⟩ : ∃ P4, P4 = wr.heap.size := ⟨_, rfl⟩
      obtain ⟨P5, hP5⟩ : ∃ P5, P5 = wr.heap.size + 1 := ⟨_, rfl⟩
      refine namedW (fun w4 hw4 => ?_)
      have hX4 : Ext wr w4 := by rw [hw4]; exact ((Ext.refl wr).alloc_ _).alloc_ _
      have p41 : w4.cell? ⟨P4, 1, none⟩ = some (.int .i64 f1) := by rw [hw4, hP4]; simp [go_sem]
      have p42 : w4.cell? ⟨P4, 2, none⟩ = some (.int .i64 f2) := by rw [hw4, hP4]; simp [go_sem]
      have r0 : w4.cell? ⟨P5, 0, none⟩ = some (.int .i64 f1) := by rw [hw4, hP5]; simp [go_sem]
      have r1 : w4.cell? ⟨P5, 1, none⟩ = some (.int .i64 f2) := by rw [hw4, hP5]; simp [go_sem]
      have r2 : w4.cell? ⟨P5, 2, none⟩ = some (.int .i64 f3) := by rw [hw4, hP5]; simp [go_sem]
      have r3 : w4.cell? ⟨P5, 3, none⟩ = some (.int .i64 f4) := by rw [hw4, hP5]; simp [go_sem]
      rw [← hP5, ← hP4]
      have HR4 : Hid (∀ j, j < 4 → w4.cell? ⟨P5, j, none⟩ = some (.int .i64 ([f1, f2, f3, f4].getD j 0))) := fun j hj => by
        have : j = 0 ∨ j = 1 ∨ j = 2 ∨ j = 3 := by omega
        rcases this with rfl | rfl | rfl | rfl
        · exact r0
        · exact r1
        · exact r2
        · exact r3
      have HE4 := Lib.hid ((HX2.out.trans_ hE.out).trans_ hX4)
      have HE5 := Lib.hid (hE.out.trans_ hX4)
      clear hw4 hP4 hP5 hX4 r0 r1 r2 r3 c0 c1 c2 c3 c4 c5 hE
      go_loopg [61] 4 (fun r2 i wr2 => ∃ j : Nat, j + r2 = 4 ∧ i = .int .i64 (j : Int) ∧ Hid (∀ q, q < j → numOK (decide (k = 0)) ([f1, f2, f3, f4].getD q 0) = true) ∧ Hid (Ext w4 wr2))
      case atStart => exact ⟨0, by omega, rfl, fun q hq => absurd hq (Nat.not_lt_zero _), Ext.refl w4⟩
      case round =>
        obtain ⟨j, hj, rfl, hQ, hE2⟩ := hrel
        have gs2 := (HE4.out.trans_ hE2.out).cell_ HGS.out
        cases gk with
        | succ r2 =>
          have hj4 : j < 4 := by omega
          have hjz : (j : Int) < 4 := by omega
          have hc := hE2.out.cell_ (HR4.out j hj4)
          obtain ⟨n, hn⟩ : ∃ n, n = [f1, f2, f3, f4].getD j 0 := ⟨_, rfl⟩
          rw [← hn] at hc
          have HJ := Lib.hid hj
          have HNO' : numOK (decide (k = 0)) n = false → numsAll true c.funcs = false := fun h => by
            rw [HP.out, numsB_eq]
            have hmem : [f1, f2, f3, f4].getD j 0 ∈ [f1, f2, f3, f4] := by
              rw [List.getD_eq_getElem?_getD, List.getElem?_eq_getElem (by simpa using hj4)]
              exact List.getElem_mem _
            have : (four ⟨f0, f1, f2, f3, f4, fops⟩).all (numOK (decide (k = 0))) = false := by
              rw [List.all_eq_false]
              exact ⟨_, hmem, by rw [← hn, h]; simp⟩
            rw [this]; rfl
          have HNN := Lib.hid HNO'
          have HN := Lib.hid hn
          clear hj hn HNO'
          by_cases a1 : n < 0
          · have z1 : decide (n < 0) = true := decide_eq_true a1
            have HNO := Lib.hid (HNN.out (by simp [numOK]; omega))
            clear a1
            obtain rfl : RES = (3, -1) := by rw [HRES.out]; exact verify_nums HWD.out HEM.out HNO.out
            go_wp2
            go_ret
            exact ⟨HE4.out.trans_ hE2.out, Or.inr (Or.inr (Or.inl ⟨rfl, rfl⟩))⟩
          have z1 : decide (n < 0) = false := decide_eq_false a1
          by_cases a2 : 400 < n
          · have z2 : decide (400 < n) = true := decide_eq_true a2
            have HNO := Lib.hid (HNN.out (by simp [numOK]; omega))
            clear a1 a2
            obtain rfl : RES = (3, -1) := by rw [HRES.out]; exact verify_nums HWD.out HEM.out HNO.out
            go_wp2
            go_ret
            exact ⟨HE4.out.trans_ hE2.out, Or.inr (Or.inr (Or.inl ⟨rfl, rfl⟩))⟩
          have z2 : decide (400 < n) = false := decide_eq_false a2
          by_cases a3 : k = 0
          · have z3 : ((k : Int) == 0) = true := by rw [a3]; rfl
            by_cases a4 : 0 < n
            · have z4 : decide (0 < n) = true := decide_eq_true a4
              have HNO := Lib.hid (HNN.out (by simp [numOK, a3, a4]))
              have HA3 := Lib.hid a3
              clear a1 a2 a3 a4
              obtain rfl : RES = (3, -1) := by rw [HRES.out]; exact verify_nums HWD.out HEM.out HNO.out
              go_wp2
              go_ret
              exact ⟨HE4.out.trans_ hE2.out, Or.inr (Or.inr (Or.inl ⟨rfl, rfl⟩))⟩
            · have z4 : decide (0 < n) = false := decide_eq_false a4
              have HOK : Hid (numOK (decide (k = 0)) n = true) := by show numOK _ n = true; simp [numOK, a4]; omega
              have HA3 := Lib.hid a3
              clear a1 a2 a3 a4
              go_wp2
              go_roundg r2
              case measure => omega
              case rel =>
                refine ⟨j + 1, by have := HJ.out; omega, by go_num, fun q hq => ?_, hE2.out⟩
                by_cases e : q = j
                · rw [e, ← HN.out]; exact HOK.out
                · exact hQ.out q (by omega)
          · have z3 : ((k : Int) == 0) = false := by simpa using a3
            have HOK : Hid (numOK (decide (k = 0)) n = true) := by show numOK _ n = true; simp [numOK, a3]; omega
            have HA3 := Lib.hid a3
            clear a1 a2 a3
            go_wp2
            go_roundg r2
            case measure => omega
            case rel =>
              refine ⟨j + 1, by have := HJ.out; omega, by go_num, fun q hq => ?_, hE2.out⟩
              by_cases e : q = j
              · rw [e, ← HN.out]; exact HOK.out
              · exact hQ.out q (by omega)
        | zero =>
          obtain rfl : j = 4 := by omega
          have hall : (four ⟨f0, f1, f2, f3, f4, fops⟩).all (numOK (decide (k = 0))) = true := by
            simp only [four, List.all_cons, List.all_nil, Bool.and_true, Bool.and_eq_true]
            exact ⟨hQ.out 0 (by omega), hQ.out 1 (by omega), hQ.out 2 (by omega), hQ.out 3 (by omega)⟩
          have s41 := hE2.out.cell_ p41
          have s42 := hE2.out.cell_ p42
          have HALL := Lib.hid hall
          have h44 : ¬ ((4 : Nat) : Int) < 4 := by omega
          clear hall hj hQ p41 p42
          by_cases b1 : f2 < f1
          · have z1 : decide (f2 < f1) = true := decide_eq_true b1
            have HNO : Hid (numsAll true c.funcs = false) := by
              show _ = _
              rw [HP.out, numsB_eq, HALL.out]
              have : decide (f1 ≤ f2) = false := decide_eq_false (by omega)
              show (true && decide (f1 ≤ f2) && _) = false
              rw [this]; rfl
            clear b1
            obtain rfl : RES = (3, -1) := by rw [HRES.out]; exact verify_nums HWD.out HEM.out HNO.out
            go_wp2
            go_ret
            exact ⟨HE4.out.trans_ hE2.out, Or.inr (Or.inr (Or.inl ⟨rfl, rfl⟩))⟩
          · have z1 : decide (f2 < f1) = false := decide_eq_false b1
            have HP2 : Hid (numsAll true c.funcs = numsAll (decide (k + 1 = 0)) (c.funcs.drop (k + 1))) := by
              show _ = _
              rw [HP.out, numsB_eq, HALL.out]
              have : decide (f1 ≤ f2) = true := decide_eq_true (by omega)
              show (true && decide (f1 ≤ f2) && _) = _
              rw [this]; rfl
            have hE5 : Ext w2 wr := HE5.out.trans_ hE2.out
            have HE6 := Lib.hid hE5
            clear b1 hE5
            go_wp2
            go_roundg r
            case measure => omega
            case rel => exact ⟨k + 1, by have := HK.out; omega, by go_num, HP2.out, HE6.out⟩
    | zero =>
      obtain rfl : k = c.funcs.length := by omega
      have hnum : numsAll true c.funcs = true := by
        rw [hP.out, List.drop_length]; rfl
      have HNUM := Lib.hid hnum
      have hres : RES = match wrongP (funcA c) 0 c.funcs with | some i => (3, (i : Int)) | none => (0, -1) := by rw [HRES.out]; exact verify_each HWD.out HEM.out hnum
      have HRES2 := Lib.hid hres
      have hltz : ¬ ((c.funcs.length : Nat) : Int) < (c.funcs.length : Int) := by omega
      have HEW := Lib.hid (HX2.out.trans_ hE.out)
      have q0 := hE.out.cell_ q0
      have q1 := hE.out.cell_ q1
      have q2 := hE.out.cell_ q2
      have q3 := hE.out.cell_ q3
      clear hP hnum hres hk hE HRES
      go_upto_region 19 with (go_at_call 22; refine (shapes_walk _).mono ?_; rintro e w7 ⟨rfl, hM7, hE7⟩; have q0 := hE7.cell_ q0; have q1 := hE7.cell_ q1; have q2 := hE7.cell_ q2; have q3 := hE7.cell_ q3; have HM7 := Lib.hid hM7; have HE7 := Lib.hid (HEW.out.trans_ hE7); clear hM7 hE7)
      clear hltz
      generalize hmb : wr.heap.size = mb at *
      have hlmb : mb < w7.heap.size := HM7.out.lt
      have hlB7 : B < w7.heap.size := cell_lt q0
      clear hmb
      go_loopg [92] (c.funcs.length) (fun r i wx => ∃ k : Nat, k + r = c.funcs.length ∧ i = .int .i64 (k : Int) ∧ Hid (wrongP (funcA c) 0 c.funcs = wrongP (funcA c) k (c.funcs.drop k)) ∧ Hid (Ext w7 wx))
      case atStart => exact ⟨0, by omega, rfl, by show _ = _; rw [List.drop_zero], Ext.refl w7⟩
      case round =>
        clear HE2 HX2 HX1 hls2
        obtain ⟨k, hk, rfl, hP, hE⟩ := hrel
        cases gk with
        | zero =>
          obtain rfl : k = c.funcs.length := by omega
          obtain rfl : RES = (0, -1) := by
            rw [HRES2.out, hP.out, List.drop_length]; rfl
          have hltz : ¬ ((c.funcs.length : Nat) : Int) < (c.funcs.length : Int) := by omega
          clear hP hk HRES2
          go_wp2
          go_ret
          exact ⟨HE7.out.trans_ hE.out, Or.inl ⟨rfl, rfl⟩⟩
        | succ r =>
          have hlt : k < c.funcs.length := by omega
          have hltz : (k : Int) < (c.funcs.length : Int) := by omega
          have hR7 := HR.out.ext (HE7.out.trans_ hE.out)
          obtain ⟨fb, fo, va, vc, hfa, c0, c1, c2, c3, c4, c5, hops, hvin⟩ := fn_cells hR7 hlt
          simp only at hfa hvin
          subst hfa
          have HVIN := Lib.hid (HIN.out _ hvin)
          clear hvin
          have hmem : c.funcs[k] ∈ c.funcs := List.getElem_mem hlt
          have HOK := Lib.hid (fn_ok HWD.out HNUM.out hmem)
          have hdrop : c.funcs.drop k = c.funcs[k] :: c.funcs.drop (k + 1) := List.drop_eq_getElem_cons hlt
          have hP' : wrongP (funcA c) 0 c.funcs = if funcA c c.funcs[k] (k == 0) then wrongP (funcA c) (k + 1) (c.funcs.drop (k + 1)) else some k := by
            rw [hP.out, hdrop]
            rfl
          have HP := Lib.hid hP'
          clear hP hP' hdrop hmem
          generalize c.funcs[k] = fn at *
          have q0 := hE.out.cell_ q0
          have q1 := hE.out.cell_ q1
          have q2 := hE.out.cell_ q2
          have q3 := hE.out.cell_ q3
          have hsz := hE.out.size
          have HK := Lib.hid hk
          have HOPS := Lib.hid hops
          have HR7 := Lib.hid hR7
          have C0 := Lib.hid c0
          have C1 := Lib.hid c1
          have C2 := Lib.hid c2
          have C3 := Lib.hid c3
          have C4 := Lib.hid c4
          have C5 := Lib.hid c5
          have hlb : fb < wr.heap.size := cell_lt c0
          clear hk hops hR7 c0 c1 c2 c3 c4 c5
          go_upto_region 21 with fail
          go_region
          obtain ⟨K, hK⟩ : ∃ K, K = wr.heap.size := ⟨_, rfl⟩
          obtain ⟨w9, hw9⟩ : ∃ w9, w9 = (wr.alloc (.cells #[.slice (some ⟨fb, fo, none⟩) c.funcs.length fcp, .slice ia c.ints.length icp, .slice sa c.strs.length scp, .slice na c.names.length ncp, .pointer (some ⟨fb, fo + k * 6, none⟩), .map (some mb), .slice none 0 0, .slice none 0 0, .bool false] 80)).drew := ⟨_, rfl⟩
          rw [← hK, ← hw9]
          have hX9 : Ext wr w9 := by rw [hw9]; exact ((Ext.refl wr).alloc_ _).drew_
          have hm9 : MapS w9 mb shapeE := (HM7.out.ext hE.out).ext hX9
          have hn9 : NChk w9 wr.heap.size K mb c ⟨(some ⟨fb, fo, none⟩, fcp), (ia, icp), (sa, scp), (na, ncp), fs⟩ fn (va, vc) fb (fo + k * 6) := by
            refine ⟨⟨?_, ?_, ?_, ?_, ?_, hX9.cell_ C0.out, hX9.cell_ C1.out, hX9.cell_ C2.out, hX9.cell_ C3.out, hX9.cell_ C4.out, hX9.cell_ C5.out⟩, ?_, ?_, ?_, ?_, ?_, hm9, HOPS.out.ext hX9, by omega, hX9.size, hlb, by omega, fun y hy => ?_⟩
            · rw [hw9, hK]; simp [go_sem]
            · rw [hw9, hK]; simp [go_sem]
            · rw [hw9, hK]; simp [go_sem]
            · rw [hw9, hK]; simp [go_sem]
            · rw [hw9, hK]; simp [go_sem]
            · rw [hw9, hK]; simp [go_sem]
            · rw [hw9, hK]; simp [go_sem]
            · rw [hw9, hK]; simp [go_sem]
            · rw [hw9, hK]; simp [go_sem]
            · exact ⟨_, _, by rw [hw9, hK]; exact heap_alloc_new wr _⟩
            · have := HVIN.out y hy
              have h1 := HE7.out.size
              omega
          have hck := check_walk K mb c _ fn (va, vc) fb (fo + k * 6) wr w9 hn9 HOK.out HR7.out hX9 (fun x hx => (numsAll_mem HNUM.out x hx).2.2) ((k : Int) == 0)
          have hkz : ((k : Int) == 0) = (k == 0) := by
            by_cases e : k = 0
            · subst e; rfl
            · have h1 : (k == 0) = false := by simpa using e
              rw [h1]; simp; exact e
          have HCK := Lib.hid hck
          have HKZ := Lib.hid hkz
          have hls9 := hX9.size
          have g9 := hX9.cell_ (hE.out.cell_ (HE7.out.cell_ HGS.out))
          have hlK9 : K < w9.heap.size := cell_lt hn9.k8
          have HEX := Lib.hid hE.out
          have HX9 := Lib.hid hX9
          clear hw9 hX9 hm9 hn9 hck hkz q0 q1 q2 q3 hK hlK9 hls9
          cases hfA : funcA c fn (k == 0) with
          | true =>
            have HFA := Lib.hid hfA
            clear hfA
            go_wp2_with (go_at_call 31; refine HCK.out.mono ?_; rintro e w10 ⟨he, hE10⟩; rw [HKZ.out, HFA.out] at he; subst he; have HE10 := Lib.hid hE10; clear hE10)
            go_roundg r
            case measure => omega
            case rel =>
              refine ⟨k + 1, by have := HK.out; omega, by go_num, ?_, hE.out.trans_ HE10.out⟩
              show _ = _
              rw [HP.out, HFA.out]
              rfl
          | false =>
            have HFA := Lib.hid hfA
            have hrf : RES = (3, (k : Int)) := by rw [HRES2.out, HP.out, HFA.out]; rfl
            have HRF := Lib.hid hrf
            clear hfA hrf
            go_wp2_with (go_at_call 31; refine HCK.out.mono ?_; rintro e w10 ⟨he, hE10⟩; rw [HKZ.out, HFA.out] at he; subst he; have HE10 := Lib.hid hE10; have g10 := hE10.cell_ (hE.out.cell_ (HE7.out.cell_ HGS.out)); clear hE10 g9)
            go_ret
            refine ⟨((HE7.out.trans_ hE.out).trans_ HE10.out).trans_ ((Ext.refl _).alloc_ _), Or.inr (Or.inr (Or.inr ⟨k, w10.heap.size, HRF.out, rfl, by simp [go_sem], by simp [go_sem]⟩))⟩
end Go.Proofs.YtgjjkllngopboaaDoor
