/- The walk of Text: code's text, as the code has it. -/
import Derived.Test.YtgjjkllngopboaaDoorJCa12
import Derived.Test.YtgjjkllngopboaaDoorJCa13
import Derived.Test.YtgjjkllngopboaaDoorJCa19
import Derived.Laws.EntriesVeiled
import Derived.Deep.RegionHeld3
namespace Go.Proofs.YtgjjkllngopboaaDoor
open Go.RowKit
set_option linter.unusedVariables false
set_option linter.unusedSimpArgs false

theorem row_strs (w : World) (e : TypeId) (xs : List ByteArray) (a : Array Value) (ha : a.toList = xs.map Value.string) : ∀ (j : Nat) x, xs[j]? = some x → (w.alloc (.cells a e)).cell? ⟨w.heap.size, 0 + j, none⟩ = some (.string x) := fun j x hx => by
  rw [Nat.zero_add, cell_of_row _ _ j a e (0, 0) (heap_alloc_new w _), ← Array.getElem?_toList, ha, List.getElem?_map, hx]
  rfl
theorem keep_map {w w' : World} {b mb : Nat} {es : List (ByteArray × Value)} (h : MapS w mb es) (hk : Lib.OthersKept 5 (some b) w w') (hb : mb ≠ b) : MapS w' mb es := by
  obtain ⟨ents, clock, h1, h2⟩ := h
  exact ⟨ents, clock, hk mb _ h1 (fun e => by injection e with e; exact hb (by first | exact e | exact e.symm)) (fun c fz e => by cases e), h2⟩
theorem keep_cells {w w' : World} {b g : Nat} {cur : Array Value} {t : TypeId} (h : w.heap[g]? = some (.cells cur t (0, 0))) (hk : Lib.OthersKept 5 (some b) w w') (hb : g ≠ b) (ht : t ≠ 5) : w'.heap[g]? = some (.cells cur t (0, 0)) :=
  hk g _ h (fun e => by injection e with e; exact hb (by first | exact e | exact e.symm)) (fun c fz e => by injection e with e1 e2; exact ht e2)
theorem Ext.heapA {w w' : World} (h : Ext w w') {k : Nat} {o o2 : Obj} (hk : w.heap[k]? = some o) : (w'.alloc o2).heap[k]? = some o := by
  have hl : k < w.heap.size := by
    rcases Nat.lt_or_ge k w.heap.size with g | g
    · exact g
    · simp [Array.getElem?_eq_none g] at hk
  rw [Below.block (h.alloc_ o2) k hl]; exact hk
theorem parts_le_0 (c : CodeP) : (partB c).size ≤ (textC c).size := Nat.le_trans (parts_le c).2.1 (parts_le c).2.2
theorem parts_le_1 (c : CodeP) : (partC c).size ≤ (textC c).size := (parts_le c).2.2
theorem quote1_pos (x : UInt8) : 1 ≤ (quote1 x).length := by
  unfold quote1
  split
  · simp
  split
  · simp
  split <;> simp
theorem quotes_ge : ∀ l : List UInt8, l.length ≤ (quotesP l).length
  | [] => Nat.le_refl _
  | a :: l => by
    have h1 := quote1_pos a
    have h2 := quotes_ge l
    unfold quotesP at h2 ⊢
    rw [List.flatMap_cons, List.length_append, List.length_cons]
    omega
theorem str_small (j : Nat) (x : ByteArray) : x.size ≤ (strLine j x).size := by
  have h1 : x.size ≤ (quotedP x).size := by
    have := quotes_ge x.data.toList
    have h2 : x.data.toList.length = x.size := by simp
    show _ ≤ (34 :: (quotesP x.data.toList ++ [34])).toArray.size
    simp only [List.size_toArray, List.length_cons, List.length_append]
    omega
  unfold strLine lineP
  simp only [joinP, ByteArray.size_append]
  omega
theorem fld_shape (x y : Int) (z : ByteArray) (W : World) : (Instr.field 67 (.agg #[.int .i64 x, .int .i64 y, .string z]) 2).run Tryd.prog W = .ok (.string z) W := by kernel_rfl
theorem bldStep {b : Nat} {w1 wr v : World} (hb : b = w1.heap.size) (hE : Ext w1 wr) (h : Below b wr v) : Ext w1 v := by subst hb; exact hE.trans h
theorem cellRow {w : World} {g : Nat} {cur : Array Value} {t : TypeId} (h : w.heap[g]? = some (.cells cur t (0, 0))) (j : Nat) (v : Value) (hv : cur[j]? = some v) : w.cell? ⟨g, j, none⟩ = some v := by rw [cell_of_row w g j cur t (0, 0) h]; exact hv
def in64 (n : Int) : Prop := -9223372036854775808 ≤ n ∧ n ≤ 9223372036854775807
structure Nums64 (c : CodeP) : Prop where
  fns : ∀ f ∈ c.funcs, in64 f.params ∧ in64 f.locals ∧ in64 f.cells ∧ in64 f.frees ∧ ∀ op ∈ f.ops, in64 op.a
  ints : ∀ x ∈ c.ints, in64 x
set_option maxRecDepth 100000 in
set_option maxHeartbeats 16000000 in
theorem text_walk (c : CodeP) (V : CodeV) (w : World) (hR : RCode w c V) (hP : Pow w) (hN : Nums64 c) (hT : (textC c).size ≤ 17592186044416) :
    Calls Tryd.prog 8 #[codeV c V] w fun e w' => e = .returned (.string (textC c)) ∧ Ext w w' := by
  obtain ⟨⟨fa, fcp⟩, ⟨ia, icp⟩, ⟨sa, scp⟩, ⟨na, ncp⟩, fs⟩ := V
  have hcn := hR.count
  obtain ⟨pt1, pt2, pt3⟩ := parts_le c
  have HR := Lib.hid hR
  have HPW := Lib.hid hP
  have HN := Lib.hid hN
  clear hR hP hN
  unfold codeV
  simp only
  go_enter Tryd.func8, Tryd.ntmps8
  go_upto_region 1 with fail
  refine namedW (fun w1 hw1 => ?_)
  have hX1 : Ext w w1 := by rw [hw1]; exact (Ext.refl w).alloc_ _
  obtain ⟨P1, hP1⟩ : ∃ P1, P1 = w.heap.size := ⟨_, rfl⟩
  have p0 : w1.cell? ⟨P1, 0, none⟩ = some (.slice fa c.funcs.length fcp) := by rw [hw1, hP1]; simp [go_sem]
  have p1 : w1.cell? ⟨P1, 1, none⟩ = some (.slice ia c.ints.length icp) := by rw [hw1, hP1]; simp [go_sem]
  have p2 : w1.cell? ⟨P1, 2, none⟩ = some (.slice sa c.strs.length scp) := by rw [hw1, hP1]; simp [go_sem]
  have p3 : w1.cell? ⟨P1, 3, none⟩ = some (.slice na c.names.length ncp) := by rw [hw1, hP1]; simp [go_sem]
  rw [← hP1]
  have HX1 := Lib.hid hX1
  have lP1 : P1 < w1.heap.size := cell_lt p0
  clear hw1 hP1 hX1
  go_upto_region 5 with fail
  obtain ⟨b, hb⟩ : ∃ b, b = w1.heap.size := ⟨_, rfl⟩
  refine namedW (fun w2 hw2 => ?_)
  have hB2 : Bld b b ⟨#[]⟩ w2 := by rw [hw2, hb]; exact bldNew w1
  have hX2 : Ext w1 w2 := by rw [hw2]; exact (Ext.refl w1).alloc_ _
  rw [← hb]
  have HB := Lib.hid hb
  have HB2 := Lib.hid hB2
  have HX2 := Lib.hid hX2
  have q0 := hX2.cell_ p0
  have hlb := hB2.lt_
  clear hw2 hb hB2 hX2
  go_upto_region 7 with (go_at_call 22; refine (shapes_walk _).mono ?_; rintro e w3 ⟨rfl, hM3, hE3⟩; have q0 := hE3.cell_ q0; have HM3 := Lib.hid hM3; have HX3 := Lib.hid (HX2.out.trans_ hE3); have HB3 := Lib.hid (HB2.out.ext_ hE3); clear hM3 hE3)
  obtain ⟨mb, hmb⟩ : ∃ mb, mb = w2.heap.size := ⟨_, rfl⟩
  rw [← hmb]
  rw [← hmb] at HM3
  have hmbb : mb ≠ b := by omega
  clear hmb
  go_loopg [23] (c.funcs.length) (fun r i wr => ∃ (k : Nat) (s : ByteArray), k + r = c.funcs.length ∧ i = .int .i64 (k : Int) ∧ Hid (s = fnsP 0 (c.funcs.take k) ⟨#[]⟩) ∧ Hid (Bld b b s wr) ∧ Hid (MapS wr mb shapeE) ∧ Hid (Ext w1 wr))
  case atStart => exact ⟨0, _, by omega, rfl, rfl, HB3.out, HM3.out, HX3.out⟩
  case round =>
    obtain ⟨k, s, hk, rfl, hs, hB, hM, hE⟩ := hrel
    clear q0
    cases gk with
    | succ r =>
      have hlt : k < c.funcs.length := by omega
      have hltz : (k : Int) < (c.funcs.length : Int) := by omega
      obtain ⟨fb, fo, va, vc, hfa, c0, c1, c2, c3, c4, c5, hops, -⟩ := fn_cells (HR.out.ext HX1.out) hlt
      simp only at hfa
      subst hfa
      obtain ⟨pa1, pa2⟩ := fn_part c k hlt
      have hn := HN.out.fns _ (List.getElem_mem hlt)
      have hsn := fnsP_snoc c.funcs 0 k ⟨#[]⟩ hlt
      rw [Nat.zero_add, ← hs.out] at hsn
      rw [← hs.out] at pa1 pa2
      obtain ⟨fn, hfn⟩ : ∃ fn, fn = c.funcs[k] := ⟨_, rfl⟩
      rw [← hfn] at c0 c1 c2 c3 c4 c5 hops pa1 pa2 hn hsn
      have HSN := Lib.hid hsn
      have HPA := Lib.hid pa2
      obtain ⟨f0, f1, f2, f3, f4, fops⟩ := fn
      simp only at c0 c1 c2 c3 c4 c5 hops hn
      have c0 := hE.out.cell_ c0
      have c1 := hE.out.cell_ c1
      have c2 := hE.out.cell_ c2
      have c3 := hE.out.cell_ c3
      have c4 := hE.out.cell_ c4
      have c5 := hE.out.cell_ c5
      obtain ⟨⟨n1, n1'⟩, ⟨n2, n2'⟩, ⟨n3, n3'⟩, ⟨n4, n4'⟩, hna⟩ := hn
      have HNA := Lib.hid hna
      have HOPS := Lib.hid hops
      have HK := Lib.hid hk
      have hlb2 : fb < wr.heap.size := cell_lt c0
      have hlmb : mb < wr.heap.size := hM.out.lt
      have hlbb : b < wr.heap.size := hB.out.lt_
      have hcl : fops.length ≤ 1000000000000000000 := by
        have h1 := ops_count (List.getElem_mem hlt)
        rw [← hfn] at h1
        simp only at h1
        omega
      have HKK : Hid (k ≤ 1000000000000000000) := by show k ≤ _; omega
      clear hk hfn hsn pa2 hna hops
      go_upto_region 9 with fail
      obtain ⟨P9, hP9⟩ : ∃ P9, P9 = wr.heap.size := ⟨_, rfl⟩
      refine namedW (fun w4 hw4 => ?_)
      have hX4 : Ext wr w4 := by rw [hw4]; exact (Ext.refl wr).alloc_ _
      have x0 : w4.cell? ⟨P9, 0, none⟩ = some (.string f0) := by rw [hw4, hP9]; simp [go_sem]
      have x1 : w4.cell? ⟨P9, 1, none⟩ = some (.int .i64 f1) := by rw [hw4, hP9]; simp [go_sem]
      have x2 : w4.cell? ⟨P9, 2, none⟩ = some (.int .i64 f2) := by rw [hw4, hP9]; simp [go_sem]
      have x3 : w4.cell? ⟨P9, 3, none⟩ = some (.int .i64 f3) := by rw [hw4, hP9]; simp [go_sem]
      have x4 : w4.cell? ⟨P9, 4, none⟩ = some (.int .i64 f4) := by rw [hw4, hP9]; simp [go_sem]
      have hblk9 : w4.heap[P9]? = some (.cells #[.string f0, .int .i64 f1, .int .i64 f2, .int .i64 f3, .int .i64 f4, .slice va fops.length vc] 46 (0, 0)) := by rw [hw4, hP9]; exact heap_alloc_new wr _
      rw [← hP9]
      have HBLK9 := Lib.hid hblk9
      have HB4 := Lib.hid (hB.out.ext_ hX4)
      have HM4 := Lib.hid (hM.out.ext hX4)
      have HE4 := Lib.hid (hE.out.trans_ hX4)
      have hPw : Pow w4 := HPW.out.ext (HX1.out.trans_ (hE.out.trans_ hX4))
      have HPW4 := Lib.hid hPw
      have lP9 : P9 < w4.heap.size := cell_lt x0
      have hP9b : P9 ≠ b := by omega
      have hlb4 : b < w4.heap.size := by have := hX4.size; omega
      clear hw4 hP9 hX4 hblk9 hPw c0 c1 c2 c3 c4 c5
      have hfl : fnLine k ⟨f0, f1, f2, f3, f4, fops⟩ = lineP [⟨#[102, 117, 110, 99]⟩, decS (k : Int), dashP f0, decS f1, decS f2, decS f3, decS f4] := rfl
      rw [hfl] at pa1
      rw [ByteArray.size_append] at pa1
      refine wp_region_held_drew (S := fun W => W.cell? ⟨P9, 0, none⟩ = some (.string f0) ∧ W.cell? ⟨P9, 1, none⟩ = some (.int .i64 f1) ∧ W.cell? ⟨P9, 2, none⟩ = some (.int .i64 f2) ∧ W.cell? ⟨P9, 3, none⟩ = some (.int .i64 f3) ∧ W.cell? ⟨P9, 4, none⟩ = some (.int .i64 f4)) (by kernel_rfl) ?_ (fun hHeld => ?_)
      · exact ⟨x0, x1, x2, x3, x4⟩
      refine tk 0 ⟨some 28, _, _, _, _, _⟩ ?_ rfl ?_ ?_
      rotate_left
      · (intro w hSw; (try dsimp only at hSw); go_simp; try with_reducible rfl)
      try simp only [tkS]
      refine tk 1 ⟨some 29, _, _, _, _, _⟩ ?_ rfl ?_ ?_
      rotate_left
      · (intro w hSw; (try dsimp only at hSw); go_simp; try with_reducible rfl)
      try simp only [tkS]
      refine tk 2 ⟨some 30, _, _, _, _, _⟩ ?_ rfl ?_ ?_
      rotate_left
      · (intro w hSw; (try dsimp only at hSw); go_simp; try with_reducible rfl)
      try simp only [tkS]
      refine tk 4 ⟨some 32, _, _, _, _, _⟩ ?_ rfl ?_ ?_
      rotate_left
      · (intro w hSw; (try dsimp only at hSw); go_simp; try with_reducible rfl)
      try simp only [tkS]
      refine tk 5 ⟨some 33, _, _, _, _, _⟩ ?_ rfl ?_ ?_
      rotate_left
      · (intro w hSw; (try dsimp only at hSw); go_simp; try with_reducible rfl)
      try simp only [tkS]
      refine tk 6 ⟨some 34, _, _, _, _, _⟩ ?_ rfl ?_ ?_
      rotate_left
      · (intro w hSw; (try dsimp only at hSw); go_simp; try with_reducible rfl)
      try simp only [tkS]
      refine tk 8 ⟨some 36, _, _, _, _, _⟩ ?_ rfl ?_ ?_
      rotate_left
      · (intro w hSw; (try dsimp only at hSw); go_simp; try with_reducible rfl)
      try simp only [tkS]
      refine tk 9 ⟨some 37, _, _, _, _, _⟩ ?_ rfl ?_ ?_
      rotate_left
      · (intro w hSw; (try dsimp only at hSw); go_simp; try with_reducible rfl)
      try simp only [tkS]
      refine tk 10 ⟨some 38, _, _, _, _, _⟩ ?_ rfl ?_ ?_
      rotate_left
      · (intro w hSw; (try dsimp only at hSw); go_simp; try with_reducible rfl)
      try simp only [tkS]
      refine tk 12 ⟨some 40, _, _, _, _, _⟩ ?_ rfl ?_ ?_
      rotate_left
      · (intro w hSw; (try dsimp only at hSw); go_simp; try with_reducible rfl)
      try simp only [tkS]
      refine tk 13 ⟨some 41, _, _, _, _, _⟩ ?_ rfl ?_ ?_
      rotate_left
      · (intro w hSw; (try dsimp only at hSw); go_simp; try with_reducible rfl)
      try simp only [tkS]
      refine tk 14 ⟨some 42, _, _, _, _, _⟩ ?_ rfl ?_ ?_
      rotate_left
      · (intro w hSw; (try dsimp only at hSw); go_simp; try with_reducible rfl)
      try simp only [tkS]
      refine tk 16 ⟨some 44, _, _, _, _, _⟩ ?_ rfl ?_ ?_
      rotate_left
      · (intro w hSw; (try dsimp only at hSw); go_simp; try with_reducible rfl)
      try simp only [tkS]
      refine tk 17 ⟨some 45, _, _, _, _, _⟩ ?_ rfl ?_ ?_
      rotate_left
      · (intro w hSw; (try dsimp only at hSw); go_simp; try with_reducible rfl)
      try simp only [tkS]
      refine tk 18 ⟨some 46, _, _, _, _, _⟩ ?_ rfl ?_ ?_
      rotate_left
      · (intro w hSw; (try dsimp only at hSw); go_simp; try with_reducible rfl)
      try simp only [tkS]
      refine tk 20 ⟨some 48, _, _, _, _, _⟩ ?_ rfl ?_ ?_
      rotate_left
      · (intro w hSw; (try dsimp only at hSw); go_simp; try with_reducible rfl)
      try simp only [tkS]
      refine tk 21 ⟨some 49, _, _, _, _, _⟩ ?_ rfl ?_ ?_
      rotate_left
      · (intro w hSw; (try dsimp only at hSw); go_simp; try with_reducible rfl)
      try simp only [tkS]
      refine tk 22 ⟨some 50, _, _, _, _, _⟩ ?_ rfl ?_ ?_
      rotate_left
      · (intro w hSw; (try dsimp only at hSw); go_simp; try with_reducible rfl)
      try simp only [tkS]
      refine wpAnyH_ready (rs := [3]) (by kernel_rfl) (by simp) ?_
      refine AllReadyH.cons (o := ⟨some 31, _, _, _, _, _⟩) rfl (fun K hK => ?_) AllReadyH.nil
      go_simp
      refine (itoaT_any (k : Int) (by omega) (by have := HKK.out; omega) _ (HPW4.out.ext (Ext.trans_ (Ext.refl w4) (by first | exact Ext.refl _ | exact (Ext.refl _).drew_ | exact (Ext.refl _).drewN_ _)))).mono ?_
      rintro e v1 ⟨rfl, hq⟩
      have HX_v1 : Hid (Ext w4 v1) := Ext.trans_ (Ext.trans_ (Ext.refl w4) (by first | exact Ext.refl _ | exact (Ext.refl _).drew_ | exact (Ext.refl _).drewN_ _)) hq
      clear hq
      refine hK.out _ _ ?_ (fun hHeld => ?_)
      · (try dsimp only); exact ⟨HX_v1.out.cell_ x0, HX_v1.out.cell_ x1, HX_v1.out.cell_ x2, HX_v1.out.cell_ x3, HX_v1.out.cell_ x4⟩
      clear hK K
      try simp only [tkS]
      refine wpAnyH_ready (rs := [7]) (by kernel_rfl) (by simp) ?_
      refine AllReadyH.cons (o := ⟨some 35, _, _, _, _, _⟩) rfl (fun K hK => ?_) AllReadyH.nil
      go_simp
      refine (nameC_any f0 _).mono ?_
      rintro e v2 ⟨rfl, hq⟩
      have HX_v2 : Hid (Ext w4 v2) := by rw [hq]; exact Ext.trans_ HX_v1.out (by first | exact Ext.refl _ | exact (Ext.refl _).drew_ | exact (Ext.refl _).drewN_ _)
      clear hq
      refine hK.out _ _ ?_ (fun hHeld => ?_)
      · (try dsimp only); exact ⟨HX_v2.out.cell_ x0, HX_v2.out.cell_ x1, HX_v2.out.cell_ x2, HX_v2.out.cell_ x3, HX_v2.out.cell_ x4⟩
      clear hK K
      try simp only [tkS]
      refine wpAnyH_ready (rs := [11]) (by kernel_rfl) (by simp) ?_
      refine AllReadyH.cons (o := ⟨some 39, _, _, _, _, _⟩) rfl (fun K hK => ?_) AllReadyH.nil
      go_simp
      refine (itoaT_any f1 n1 n1' _ (HPW4.out.ext (Ext.trans_ (HX_v2.out) (by first | exact Ext.refl _ | exact (Ext.refl _).drew_ | exact (Ext.refl _).drewN_ _)))).mono ?_
      rintro e v3 ⟨rfl, hq⟩
      have HX_v3 : Hid (Ext w4 v3) := Ext.trans_ (Ext.trans_ (HX_v2.out) (by first | exact Ext.refl _ | exact (Ext.refl _).drew_ | exact (Ext.refl _).drewN_ _)) hq
      clear hq
      refine hK.out _ _ ?_ (fun hHeld => ?_)
      · (try dsimp only); exact ⟨HX_v3.out.cell_ x0, HX_v3.out.cell_ x1, HX_v3.out.cell_ x2, HX_v3.out.cell_ x3, HX_v3.out.cell_ x4⟩
      clear hK K
      try simp only [tkS]
      refine wpAnyH_ready (rs := [15]) (by kernel_rfl) (by simp) ?_
      refine AllReadyH.cons (o := ⟨some 43, _, _, _, _, _⟩) rfl (fun K hK => ?_) AllReadyH.nil
      go_simp
      refine (itoaT_any f2 n2 n2' _ (HPW4.out.ext (Ext.trans_ (HX_v3.out) (by first | exact Ext.refl _ | exact (Ext.refl _).drew_ | exact (Ext.refl _).drewN_ _)))).mono ?_
      rintro e v4 ⟨rfl, hq⟩
      have HX_v4 : Hid (Ext w4 v4) := Ext.trans_ (Ext.trans_ (HX_v3.out) (by first | exact Ext.refl _ | exact (Ext.refl _).drew_ | exact (Ext.refl _).drewN_ _)) hq
      clear hq
      refine hK.out _ _ ?_ (fun hHeld => ?_)
      · (try dsimp only); exact ⟨HX_v4.out.cell_ x0, HX_v4.out.cell_ x1, HX_v4.out.cell_ x2, HX_v4.out.cell_ x3, HX_v4.out.cell_ x4⟩
      clear hK K
      try simp only [tkS]
      refine wpAnyH_ready (rs := [19]) (by kernel_rfl) (by simp) ?_
      refine AllReadyH.cons (o := ⟨some 47, _, _, _, _, _⟩) rfl (fun K hK => ?_) AllReadyH.nil
      go_simp
      refine (itoaT_any f3 n3 n3' _ (HPW4.out.ext (Ext.trans_ (HX_v4.out) (by first | exact Ext.refl _ | exact (Ext.refl _).drew_ | exact (Ext.refl _).drewN_ _)))).mono ?_
      rintro e v5 ⟨rfl, hq⟩
      have HX_v5 : Hid (Ext w4 v5) := Ext.trans_ (Ext.trans_ (HX_v4.out) (by first | exact Ext.refl _ | exact (Ext.refl _).drew_ | exact (Ext.refl _).drewN_ _)) hq
      clear hq
      refine hK.out _ _ ?_ (fun hHeld => ?_)
      · (try dsimp only); exact ⟨HX_v5.out.cell_ x0, HX_v5.out.cell_ x1, HX_v5.out.cell_ x2, HX_v5.out.cell_ x3, HX_v5.out.cell_ x4⟩
      clear hK K
      try simp only [tkS]
      refine wpAnyH_ready (rs := [23]) (by kernel_rfl) (by simp) ?_
      refine AllReadyH.cons (o := ⟨some 51, _, _, _, _, _⟩) rfl (fun K hK => ?_) AllReadyH.nil
      go_simp
      refine (itoaT_any f4 n4 n4' _ (HPW4.out.ext (Ext.trans_ (HX_v5.out) (by first | exact Ext.refl _ | exact (Ext.refl _).drew_ | exact (Ext.refl _).drewN_ _)))).mono ?_
      rintro e v6 ⟨rfl, hq⟩
      have HX_v6 : Hid (Ext w4 v6) := Ext.trans_ (Ext.trans_ (HX_v5.out) (by first | exact Ext.refl _ | exact (Ext.refl _).drew_ | exact (Ext.refl _).drewN_ _)) hq
      clear hq
      refine hK.out _ _ ?_ (fun hHeld => ?_)
      · (try dsimp only); exact ⟨HX_v6.out.cell_ x0, HX_v6.out.cell_ x1, HX_v6.out.cell_ x2, HX_v6.out.cell_ x3, HX_v6.out.cell_ x4⟩
      clear hK K
      try simp only [tkS]
      refine wpAnyH_ready (rs := [24]) (by kernel_rfl) (by simp) ?_
      refine AllReadyH.cons (o := ⟨some 52, _, _, _, _, _⟩) rfl (fun K hK => ?_) AllReadyH.nil
      go_simp
      skip
      refine hK.out _ _ ?_ (fun hHeld => ?_)
      · (try dsimp only); exact ⟨((HX_v6.out.alloc_ _).cell_ x0), ((HX_v6.out.alloc_ _).cell_ x1), ((HX_v6.out.alloc_ _).cell_ x2), ((HX_v6.out.alloc_ _).cell_ x3), ((HX_v6.out.alloc_ _).cell_ x4)⟩
      clear hK K
      try simp only [tkS]
      refine wpAnyH_ready (rs := [25]) (by kernel_rfl) (by simp) ?_
      refine AllReadyH.cons (o := ⟨some 53, _, _, _, _, _⟩) rfl (fun K hK => ?_) AllReadyH.nil
      go_simp
      refine (line_any b s [⟨#[102, 117, 110, 99]⟩, decS (k : Int), dashP f0, decS f1, decS f2, decS f3, decS f4] v6.heap.size 0 7 _ (HB4.out.ext_ (HX_v6.out.alloc_ _)) (row_strs v6 _ _ _ rfl) (by simp) (by simp) (Nat.le_refl _) (by omega)).mono ?_
      rintro e v7 ⟨rfl, hq⟩
      have HL7 := Lib.hid hq
      have hblk7 := keep_cells (HX_v6.out.heapA HBLK9.out) hq.others hP9b (by decide)
      have HBLK7 := Lib.hid hblk7
      clear hq hblk7
      refine hK.out _ _ ?_ (fun hHeld => ?_)
      · (try dsimp only); exact ⟨cellRow HBLK7.out 0 _ rfl, cellRow HBLK7.out 1 _ rfl, cellRow HBLK7.out 2 _ rfl, cellRow HBLK7.out 3 _ rfl, cellRow HBLK7.out 4 _ rfl⟩
      clear hK K
      try simp only [tkS]
      refine wpAnyH_done (by kernel_rfl) ?_ _
      clear hHeld
      have x5 : v7.cell? ⟨P9, 5, none⟩ = some (.slice va fops.length vc) := cellRow HBLK7.out 5 _ rfl
      obtain ⟨S1, hS1⟩ : ∃ S1, S1 = s ++ fnLine k ⟨f0, f1, f2, f3, f4, fops⟩ := ⟨_, rfl⟩
      rw [← hS1] at HPA HSN
      have HS1 := Lib.hid hS1
      have HB7 : Hid (Bld b b S1 v7) := by show Bld b b S1 v7; rw [HS1.out, hfl]; exact HL7.out.bld
      have HM7 := Lib.hid (keep_map (HM4.out.ext (HX_v6.out.alloc_ _)) HL7.out.others hmbb)
      have HE7 := Lib.hid (bldStep HB.out (HE4.out.trans_ (HX_v6.out.alloc_ _)) HL7.out.below)
      clear hS1 hfl pa1 x0 x1 x2 x3 x4 hs hB hM hE HB4 HM4 HE4 HL7 HX_v1 HX_v2 HX_v3 HX_v4 HX_v5 HX_v6
      go_upto_region 11 with fail
      clear x5
      go_loopg [57] (fops.length) (fun r2 i wr2 => ∃ (j : Nat) (u : ByteArray), j + r2 = fops.length ∧ i = .int .i64 (j : Int) ∧ Hid (u = opsP 0 (fops.take j) S1) ∧ Hid (Bld b b u wr2) ∧ Hid (MapS wr2 mb shapeE) ∧ Hid (Ext w1 wr2))
      case atStart => exact ⟨0, S1, by omega, rfl, rfl, HB7.out, HM7.out, HE7.out⟩
      case round =>
        clear HB7 HM7 HE7 HBLK9 HBLK7
        obtain ⟨j, u, hj, rfl, hu, hB, hM, hE⟩ := hrel
        cases gk with
        | zero =>
          obtain rfl : j = fops.length := by omega
          have hltz : ¬ ((fops.length : Nat) : Int) < (fops.length : Int) := by omega
          have hfin : Hid (u = fnsP 0 (c.funcs.take (k + 1)) ⟨#[]⟩) := by
            show _ = _
            rw [HSN.out, hu.out, List.take_length]
          clear hj hu
          go_wp2
          go_roundg r
          case measure => omega
          case rel => exact ⟨k + 1, u, by have := HK.out; omega, by go_num, hfin.out, hB.out, hM.out, hE.out⟩
        | succ r2 =>
          have hjlt : j < fops.length := by omega
          have hjltz : (j : Int) < (fops.length : Int) := by omega
          have hat := opCells_at fops j hjlt
          obtain ⟨ob, oo, hov, o0⟩ := (HOPS.out.ext hE.out) _ _ hat.1
          subst hov
          have o1r := HOPS.out.ext hE.out
          have o1 := o1r.at_ hat.2
          rw [← Nat.add_assoc] at o1
          have hna := HNA.out _ (List.getElem_mem hjlt)
          have hsj := opsP_snoc fops j S1 hjlt
          rw [← hu.out] at hsj
          have hpj := HPA.out (j + 1)
          rw [hsj] at hpj
          obtain ⟨op, hop⟩ : ∃ op, op = fops[j] := ⟨_, rfl⟩
          rw [← hop] at o0 o1 hna hsj hpj
          obtain ⟨nm, ax⟩ := op
          simp only at o0 o1 hna
          obtain ⟨na1, na2⟩ := hna
          have HSJ := Lib.hid hsj
          have HJ := Lib.hid hj
          have hlob : ob < wr.heap.size := cell_lt o0
          have hlmb : mb < wr.heap.size := hM.out.lt
          have hlbb : b < wr.heap.size := hB.out.lt_
          have HJJ : Hid (j ≤ 1000000000000000000) := by show j ≤ _; omega
          rw [ByteArray.size_append] at hpj
          clear hj hop hsj hat o1r hu
          go_upto_region 13 with fail
          obtain ⟨P11, hP11⟩ : ∃ P11, P11 = wr.heap.size := ⟨_, rfl⟩
          refine namedW (fun w8 hw8 => ?_)
          have hX8 : Ext wr w8 := by rw [hw8]; exact (Ext.refl wr).alloc_ _
          have y0 : w8.cell? ⟨P11, 0, none⟩ = some (.string nm) := by rw [hw8, hP11]; simp [go_sem]
          have y1 : w8.cell? ⟨P11, 1, none⟩ = some (.int .i64 ax) := by rw [hw8, hP11]; simp [go_sem]
          have hblk11 : w8.heap[P11]? = some (.cells #[.string nm, .int .i64 ax] 48 (0, 0)) := by rw [hw8, hP11]; exact heap_alloc_new wr _
          rw [← hP11]
          have HBLK11 := Lib.hid hblk11
          have HB8 := Lib.hid (hB.out.ext_ hX8)
          have hM8 := hM.out.ext hX8
          have HM8 := Lib.hid hM8
          have HE8 := Lib.hid (hE.out.trans_ hX8)
          have hPw : Pow w8 := HPW.out.ext (HX1.out.trans_ (hE.out.trans_ hX8))
          have HPW8 := Lib.hid hPw
          have lP11 : P11 < w8.heap.size := cell_lt y0
          have hP11b : P11 ≠ b := by omega
          have hlb8 : b < w8.heap.size := by have := hX8.size; omega
          have hlk : (Instr.lookup 64 (.map (some mb)) (.string nm) false).run Tryd.prog w8 = .ok (.agg #[.int .i64 (shT nm), .int .i64 (shP nm), .string (shK nm)]) w8 := by
            have := run_lookup_maps (P := Tryd.prog) (w := w8) (Tryd.underlying64) (Tryd.underlying9) (z := .agg #[.int .i64 0, .int .i64 0, .string ⟨#[]⟩]) (by kernel_rfl) hM8 nm false
            rw [(shape_look nm).1] at this
            exact this
          have hfld := fld_shape (shT nm) (shP nm) (shK nm) w8
          clear hw8 hP11 hX8 hblk11 hPw o0 o1 hM8 hB hM hE
          by_cases hke : shK nm = ⟨#[]⟩
          · have hol : opLine j ⟨nm, ax⟩ = lineP [⟨#[32]⟩, decS (j : Int), nm] := by unfold opLine; rw [if_pos (show kindP ⟨nm, ax⟩ = ⟨#[]⟩ from hke)]
            have hem : (shK nm).toList.isEmpty = true := by rw [hke, ByteArray.toList_eq]; rfl
            have HKE := Lib.hid hke
            have HOL := Lib.hid hol
            rw [hol] at hpj
            clear hke hol
            go_upto_region 14 with fail
            refine wp_region_held_drew (S := fun W => W.cell? ⟨P11, 0, none⟩ = some (.string nm) ∧ W.cell? ⟨P11, 1, none⟩ = some (.int .i64 ax)) (by kernel_rfl) ?_ (fun hHeld => ?_)
            · exact ⟨y0, y1⟩
            refine tk 0 ⟨some 68, _, _, _, _, _⟩ ?_ rfl ?_ ?_
            rotate_left
            · (intro w hSw; (try dsimp only at hSw); go_simp; try with_reducible rfl)
            try simp only [tkS]
            refine tk 1 ⟨some 69, _, _, _, _, _⟩ ?_ rfl ?_ ?_
            rotate_left
            · (intro w hSw; (try dsimp only at hSw); go_simp; try with_reducible rfl)
            try simp only [tkS]
            refine tk 2 ⟨some 70, _, _, _, _, _⟩ ?_ rfl ?_ ?_
            rotate_left
            · (intro w hSw; (try dsimp only at hSw); go_simp; try with_reducible rfl)
            try simp only [tkS]
            refine tk 4 ⟨some 72, _, _, _, _, _⟩ ?_ rfl ?_ ?_
            rotate_left
            · (intro w hSw; (try dsimp only at hSw); go_simp; try with_reducible rfl)
            try simp only [tkS]
            refine tk 5 ⟨some 73, _, _, _, _, _⟩ ?_ rfl ?_ ?_
            rotate_left
            · (intro w hSw; (try dsimp only at hSw); go_simp; try with_reducible rfl)
            try simp only [tkS]
            refine wpAnyH_ready (rs := [3]) (by kernel_rfl) (by simp) ?_
            refine AllReadyH.cons (o := ⟨some 71, _, _, _, _, _⟩) rfl (fun K hK => ?_) AllReadyH.nil
            go_simp
            refine (itoaT_any (j : Int) (by omega) (by have := HJJ.out; omega) _ (HPW8.out.ext (Ext.trans_ (Ext.refl w8) (by first | exact Ext.refl _ | exact (Ext.refl _).drew_ | exact (Ext.refl _).drewN_ _)))).mono ?_
            rintro e u1 ⟨rfl, hq⟩
            have HX_u1 : Hid (Ext w8 u1) := Ext.trans_ (Ext.trans_ (Ext.refl w8) (by first | exact Ext.refl _ | exact (Ext.refl _).drew_ | exact (Ext.refl _).drewN_ _)) hq
            clear hq
            refine hK.out _ _ ?_ (fun hHeld => ?_)
            · (try dsimp only); exact ⟨HX_u1.out.cell_ y0, HX_u1.out.cell_ y1⟩
            clear hK K
            try simp only [tkS]
            refine wpAnyH_ready (rs := [6]) (by kernel_rfl) (by simp) ?_
            refine AllReadyH.cons (o := ⟨some 74, _, _, _, _, _⟩) rfl (fun K hK => ?_) AllReadyH.nil
            go_simp
            skip
            refine hK.out _ _ ?_ (fun hHeld => ?_)
            · (try dsimp only); exact ⟨((HX_u1.out.alloc_ _).cell_ y0), ((HX_u1.out.alloc_ _).cell_ y1)⟩
            clear hK K
            try simp only [tkS]
            refine wpAnyH_ready (rs := [7]) (by kernel_rfl) (by simp) ?_
            refine AllReadyH.cons (o := ⟨some 75, _, _, _, _, _⟩) rfl (fun K hK => ?_) AllReadyH.nil
            go_simp
            refine (line_any b u [⟨#[32]⟩, decS (j : Int), nm] u1.heap.size 0 3 _ (HB8.out.ext_ (HX_u1.out.alloc_ _)) (row_strs u1 _ _ _ rfl) (by simp) (by simp) (Nat.le_refl _) (by omega)).mono ?_
            rintro e z9 ⟨rfl, hq⟩
            have HL9 := Lib.hid hq
            have hblk9 := keep_cells (HX_u1.out.heapA HBLK11.out) hq.others hP11b (by decide)
            have HBLK9 := Lib.hid hblk9
            clear hq hblk9
            refine hK.out _ _ ?_ (fun hHeld => ?_)
            · (try dsimp only); exact ⟨cellRow HBLK9.out 0 _ rfl, cellRow HBLK9.out 1 _ rfl⟩
            clear hK K
            try simp only [tkS]
            refine wpAnyH_done (by kernel_rfl) ?_ _
            clear hHeld
            have HB9 : Hid (Bld b b (u ++ opLine j ⟨nm, ax⟩) z9) := by show Bld b b _ z9; rw [HOL.out]; exact HL9.out.bld
            have HM9 := Lib.hid (keep_map (HM8.out.ext (HX_u1.out.alloc_ _)) HL9.out.others hmbb)
            have HE9 := Lib.hid (bldStep HB.out (HE8.out.trans_ (HX_u1.out.alloc_ _)) HL9.out.below)
            clear y0 y1
            go_wp2
            go_roundg r2
            case measure => omega
            case rel => exact ⟨j + 1, _, by have := HJ.out; omega, by go_num, HSJ.out.symm, HB9.out, HM9.out, HE9.out⟩
          · have hol : opLine j ⟨nm, ax⟩ = lineP [⟨#[32]⟩, decS (j : Int), nm, decS ax] := by unfold opLine; rw [if_neg (show ¬ kindP ⟨nm, ax⟩ = ⟨#[]⟩ from hke)]
            have hem : (shK nm).toList.isEmpty = false := empty_no hke
            have HKE := Lib.hid hke
            have HOL := Lib.hid hol
            rw [hol] at hpj
            clear hke hol
            go_upto_region 15 with fail
            refine wp_region_held_drew (S := fun W => W.cell? ⟨P11, 0, none⟩ = some (.string nm) ∧ W.cell? ⟨P11, 1, none⟩ = some (.int .i64 ax)) (by kernel_rfl) ?_ (fun hHeld => ?_)
            · exact ⟨y0, y1⟩
            refine tk 0 ⟨some 76, _, _, _, _, _⟩ ?_ rfl ?_ ?_
            rotate_left
            · (intro w hSw; (try dsimp only at hSw); go_simp; try with_reducible rfl)
            try simp only [tkS]
            refine tk 1 ⟨some 77, _, _, _, _, _⟩ ?_ rfl ?_ ?_
            rotate_left
            · (intro w hSw; (try dsimp only at hSw); go_simp; try with_reducible rfl)
            try simp only [tkS]
            refine tk 2 ⟨some 78, _, _, _, _, _⟩ ?_ rfl ?_ ?_
            rotate_left
            · (intro w hSw; (try dsimp only at hSw); go_simp; try with_reducible rfl)
            try simp only [tkS]
            refine tk 4 ⟨some 80, _, _, _, _, _⟩ ?_ rfl ?_ ?_
            rotate_left
            · (intro w hSw; (try dsimp only at hSw); go_simp; try with_reducible rfl)
            try simp only [tkS]
            refine tk 5 ⟨some 81, _, _, _, _, _⟩ ?_ rfl ?_ ?_
            rotate_left
            · (intro w hSw; (try dsimp only at hSw); go_simp; try with_reducible rfl)
            try simp only [tkS]
            refine tk 6 ⟨some 82, _, _, _, _, _⟩ ?_ rfl ?_ ?_
            rotate_left
            · (intro w hSw; (try dsimp only at hSw); go_simp; try with_reducible rfl)
            try simp only [tkS]
            refine tk 7 ⟨some 83, _, _, _, _, _⟩ ?_ rfl ?_ ?_
            rotate_left
            · (intro w hSw; (try dsimp only at hSw); go_simp; try with_reducible rfl)
            try simp only [tkS]
            refine tk 8 ⟨some 84, _, _, _, _, _⟩ ?_ rfl ?_ ?_
            rotate_left
            · (intro w hSw; (try dsimp only at hSw); go_simp; try with_reducible rfl)
            try simp only [tkS]
            refine wpAnyH_ready (rs := [3]) (by kernel_rfl) (by simp) ?_
            refine AllReadyH.cons (o := ⟨some 79, _, _, _, _, _⟩) rfl (fun K hK => ?_) AllReadyH.nil
            go_simp
            refine (itoaT_any (j : Int) (by omega) (by have := HJJ.out; omega) _ (HPW8.out.ext (Ext.trans_ (Ext.refl w8) (by first | exact Ext.refl _ | exact (Ext.refl _).drew_ | exact (Ext.refl _).drewN_ _)))).mono ?_
            rintro e u1 ⟨rfl, hq⟩
            have HX_u1 : Hid (Ext w8 u1) := Ext.trans_ (Ext.trans_ (Ext.refl w8) (by first | exact Ext.refl _ | exact (Ext.refl _).drew_ | exact (Ext.refl _).drewN_ _)) hq
            clear hq
            refine hK.out _ _ ?_ (fun hHeld => ?_)
            · (try dsimp only); exact ⟨HX_u1.out.cell_ y0, HX_u1.out.cell_ y1⟩
            clear hK K
            try simp only [tkS]
            refine wpAnyH_ready (rs := [9]) (by kernel_rfl) (by simp) ?_
            refine AllReadyH.cons (o := ⟨some 85, _, _, _, _, _⟩) rfl (fun K hK => ?_) AllReadyH.nil
            go_simp
            refine (itoaT_any ax na1 na2 _ (HPW8.out.ext (Ext.trans_ (HX_u1.out) (by first | exact Ext.refl _ | exact (Ext.refl _).drew_ | exact (Ext.refl _).drewN_ _)))).mono ?_
            rintro e u2 ⟨rfl, hq⟩
            have HX_u2 : Hid (Ext w8 u2) := Ext.trans_ (Ext.trans_ (HX_u1.out) (by first | exact Ext.refl _ | exact (Ext.refl _).drew_ | exact (Ext.refl _).drewN_ _)) hq
            clear hq
            refine hK.out _ _ ?_ (fun hHeld => ?_)
            · (try dsimp only); exact ⟨HX_u2.out.cell_ y0, HX_u2.out.cell_ y1⟩
            clear hK K
            try simp only [tkS]
            refine wpAnyH_ready (rs := [10]) (by kernel_rfl) (by simp) ?_
            refine AllReadyH.cons (o := ⟨some 86, _, _, _, _, _⟩) rfl (fun K hK => ?_) AllReadyH.nil
            go_simp
            skip
            refine hK.out _ _ ?_ (fun hHeld => ?_)
            · (try dsimp only); exact ⟨((HX_u2.out.alloc_ _).cell_ y0), ((HX_u2.out.alloc_ _).cell_ y1)⟩
            clear hK K
            try simp only [tkS]
            refine wpAnyH_ready (rs := [11]) (by kernel_rfl) (by simp) ?_
            refine AllReadyH.cons (o := ⟨some 87, _, _, _, _, _⟩) rfl (fun K hK => ?_) AllReadyH.nil
            go_simp
            refine (line_any b u [⟨#[32]⟩, decS (j : Int), nm, decS ax] u2.heap.size 0 4 _ (HB8.out.ext_ (HX_u2.out.alloc_ _)) (row_strs u2 _ _ _ rfl) (by simp) (by simp) (Nat.le_refl _) (by omega)).mono ?_
            rintro e z9 ⟨rfl, hq⟩
            have HL9 := Lib.hid hq
            have hblk9 := keep_cells (HX_u2.out.heapA HBLK11.out) hq.others hP11b (by decide)
            have HBLK9 := Lib.hid hblk9
            clear hq hblk9
            refine hK.out _ _ ?_ (fun hHeld => ?_)
            · (try dsimp only); exact ⟨cellRow HBLK9.out 0 _ rfl, cellRow HBLK9.out 1 _ rfl⟩
            clear hK K
            try simp only [tkS]
            refine wpAnyH_done (by kernel_rfl) ?_ _
            clear hHeld
            have HB9 : Hid (Bld b b (u ++ opLine j ⟨nm, ax⟩) z9) := by show Bld b b _ z9; rw [HOL.out]; exact HL9.out.bld
            have HM9 := Lib.hid (keep_map (HM8.out.ext (HX_u2.out.alloc_ _)) HL9.out.others hmbb)
            have HE9 := Lib.hid (bldStep HB.out (HE8.out.trans_ (HX_u2.out.alloc_ _)) HL9.out.below)
            clear y0 y1
            go_wp2
            go_roundg r2
            case measure => omega
            case rel => exact ⟨j + 1, _, by have := HJ.out; omega, by go_num, HSJ.out.symm, HB9.out, HM9.out, HE9.out⟩
    | zero =>
      obtain rfl : k = c.funcs.length := by omega
      have hltz : ¬ ((c.funcs.length : Nat) : Int) < (c.funcs.length : Int) := by omega
      have hs1 : s = partA c := by rw [hs.out, List.take_length]; rfl
      have HS := Lib.hid hs1
      have q1 := hE.out.cell_ p1
      have q2 := hE.out.cell_ p2
      have q3 := hE.out.cell_ p3
      clear hs hs1 hk
      go_upto_region 19 with fail
      clear hltz q1
      go_loopg [93] (c.ints.length) (fun r2 i wr2 => ∃ (j : Nat) (u : ByteArray), j + r2 = c.ints.length ∧ i = .int .i64 (j : Int) ∧ Hid (u = eachP intLine 0 (c.ints.take j) (partA c)) ∧ Hid (Bld b b u wr2) ∧ Hid (Ext w1 wr2))
      case atStart => exact ⟨0, s, by omega, rfl, by show _ = _; rw [HS.out]; rfl, hB.out, hE.out⟩
      case round =>
        obtain ⟨j, u, hj, rfl, hu, hB2, hE2⟩ := hrel
        clear HS
        cases gk with
        | succ r2 =>
          have hjlt : j < c.ints.length := by omega
          have hjltz : (j : Int) < (c.ints.length : Int) := by omega
          have hgx : (c.ints.map fun x => Value.int .i64 x)[j]? = some (Value.int .i64 c.ints[j]) := by simp [hjlt]
          obtain ⟨ob, oo, hov, o0⟩ := (((HR.out.I).ext HX1.out).ext hE2.out) _ _ hgx
          simp only at hov
          subst hov
          have hsj := eachP_snoc intLine c.ints 0 j (partA c) hjlt
          rw [Nat.zero_add, ← hu.out] at hsj
          have hpj := eachP_part intLine c.ints 0 (partA c) (j + 1)
          rw [hsj] at hpj
          have hpj2 : (u ++ intLine j c.ints[j]).size ≤ (textC c).size := Nat.le_trans hpj (by first | exact Nat.le_refl _ | exact parts_le_0 c)
          have hna := HN.out.ints _ (List.getElem_mem hjlt)
          generalize c.ints[j] = x at *
          obtain ⟨na1, na2⟩ := hna
          have hol : intLine j x = lineP [⟨#[105, 110, 116]⟩, decS (j : Int), decS x] := rfl
          rw [hol, ByteArray.size_append] at hpj2
          have HOL := Lib.hid hol
          have HSJ := Lib.hid hsj
          have HJ := Lib.hid hj
          have hlbb : b < wr.heap.size := hB2.out.lt_
          have HJJ : Hid (j ≤ 1000000000000000000) := by show j ≤ _; omega
          have hPw : Pow wr := HPW.out.ext (HX1.out.trans_ hE2.out)
          have HPW8 := Lib.hid hPw
          clear hj hsj hu hol hPw hpj hgx
          go_wp2_with (first
            | (go_at_call 20; refine (itoaT_any (j : Int) (by omega) (by have := HJJ.out; omega) _ HPW8.out).mono ?_; rintro e v1 ⟨rfl, hq⟩; have HV1 : Hid (Ext wr v1) := hq; have hls1 := hq.size; clear hq)
            | (go_at_call 23; refine (fmtT_any x na1 na2 _ (HPW8.out.ext HV1.out)).mono ?_; rintro e v2 ⟨rfl, hq⟩; have HV2 : Hid (Ext wr v2) := HV1.out.trans_ hq; have hls2 := hq.size; clear hq)
            | (go_at_call 17; refine (line_any b u [⟨#[105, 110, 116]⟩, decS (j : Int), decS x] v2.heap.size 0 3 _ (hB2.out.ext_ (HV2.out.alloc_ _)) (row_strs v2 _ _ _ rfl) (by simp) (by simp) (Nat.le_refl _) (by omega)).mono ?_; rintro e v3 ⟨rfl, hq⟩; have HL3 := Lib.hid hq; clear hq))
          have HB9 : Hid (Bld b b (u ++ intLine j x) v3) := by show Bld b b _ v3; rw [HOL.out]; exact HL3.out.bld
          have HE9 := Lib.hid (bldStep HB.out (hE2.out.trans_ (HV2.out.alloc_ _)) HL3.out.below)
          go_roundg r2
          case measure => omega
          case rel => exact ⟨j + 1, _, by have := HJ.out; omega, by go_num, HSJ.out.symm, HB9.out, HE9.out⟩
        | zero =>
          obtain rfl : j = c.ints.length := by omega
          have hltz : ¬ ((c.ints.length : Nat) : Int) < (c.ints.length : Int) := by omega
          have hs1 : u = partB c := by rw [hu.out, List.take_length]; rfl
          have HS := Lib.hid hs1
          have q2 := hE2.out.cell_ p2
          have q3 := hE2.out.cell_ p3
          clear hu hs1 hj
          go_upto_region 24 with fail
          clear hltz q2
          go_loopg [110] (c.strs.length) (fun r2 i wr2 => ∃ (j : Nat) (u : ByteArray), j + r2 = c.strs.length ∧ i = .int .i64 (j : Int) ∧ Hid (u = eachP strLine 0 (c.strs.take j) (partB c)) ∧ Hid (Bld b b u wr2) ∧ Hid (Ext w1 wr2))
          case atStart => exact ⟨0, u, by omega, rfl, by show _ = _; rw [HS.out]; rfl, hB2.out, hE2.out⟩
          case round =>
            obtain ⟨j, u, hj, rfl, hu, hB2, hE2⟩ := hrel
            clear HS
            cases gk with
            | succ r2 =>
              have hjlt : j < c.strs.length := by omega
              have hjltz : (j : Int) < (c.strs.length : Int) := by omega
              have hgx : (c.strs.map Value.string)[j]? = some (Value.string c.strs[j]) := by simp [hjlt]
              obtain ⟨ob, oo, hov, o0⟩ := (((HR.out.S).ext HX1.out).ext hE2.out) _ _ hgx
              simp only at hov
              subst hov
              have hsj := eachP_snoc strLine c.strs 0 j (partB c) hjlt
              rw [Nat.zero_add, ← hu.out] at hsj
              have hpj := eachP_part strLine c.strs 0 (partB c) (j + 1)
              rw [hsj] at hpj
              have hpj2 : (u ++ strLine j c.strs[j]).size ≤ (textC c).size := Nat.le_trans hpj (by first | exact Nat.le_refl _ | exact parts_le_1 c)
              generalize c.strs[j] = x at *
              have hol : strLine j x = lineP [⟨#[115, 116, 114]⟩, decS (j : Int), quotedP x] := rfl
              rw [hol, ByteArray.size_append] at hpj2
              have hqs : x.size ≤ 17592186044416 := by have := str_small j x; rw [hol] at this; omega
              have HOL := Lib.hid hol
              have HSJ := Lib.hid hsj
              have HJ := Lib.hid hj
              have hlbb : b < wr.heap.size := hB2.out.lt_
              have HJJ : Hid (j ≤ 1000000000000000000) := by show j ≤ _; omega
              have hPw : Pow wr := HPW.out.ext (HX1.out.trans_ hE2.out)
              have HPW8 := Lib.hid hPw
              clear hj hsj hu hol hPw hpj hgx
              go_wp2_with (first
                | (go_at_call 20; refine (itoaT_any (j : Int) (by omega) (by have := HJJ.out; omega) _ HPW8.out).mono ?_; rintro e v1 ⟨rfl, hq⟩; have HV1 : Hid (Ext wr v1) := hq; have hls1 := hq.size; clear hq)
                | (go_at_call 24; refine (quote_any x _ hqs).mono ?_; rintro e v2 ⟨rfl, hq⟩; have HV2 : Hid (Ext wr v2) := HV1.out.trans_ hq; have hls2 := hq.size; clear hq)
                | (go_at_call 17; refine (line_any b u [⟨#[115, 116, 114]⟩, decS (j : Int), quotedP x] v2.heap.size 0 3 _ (hB2.out.ext_ (HV2.out.alloc_ _)) (row_strs v2 _ _ _ rfl) (by simp) (by simp) (Nat.le_refl _) (by omega)).mono ?_; rintro e v3 ⟨rfl, hq⟩; have HL3 := Lib.hid hq; clear hq))
              have HB9 : Hid (Bld b b (u ++ strLine j x) v3) := by show Bld b b _ v3; rw [HOL.out]; exact HL3.out.bld
              have HE9 := Lib.hid (bldStep HB.out (hE2.out.trans_ (HV2.out.alloc_ _)) HL3.out.below)
              go_roundg r2
              case measure => omega
              case rel => exact ⟨j + 1, _, by have := HJ.out; omega, by go_num, HSJ.out.symm, HB9.out, HE9.out⟩
            | zero =>
              obtain rfl : j = c.strs.length := by omega
              have hltz : ¬ ((c.strs.length : Nat) : Int) < (c.strs.length : Int) := by omega
              have hs1 : u = partC c := by rw [hu.out, List.take_length]; rfl
              have HS := Lib.hid hs1
              have q3 := hE2.out.cell_ p3
              clear hu hs1 hj
              go_upto_region 29 with fail
              clear hltz q3
              go_loopg [127] (c.names.length) (fun r2 i wr2 => ∃ (j : Nat) (u : ByteArray), j + r2 = c.names.length ∧ i = .int .i64 (j : Int) ∧ Hid (u = eachP nameLine 0 (c.names.take j) (partC c)) ∧ Hid (Bld b b u wr2) ∧ Hid (Ext w1 wr2))
              case atStart => exact ⟨0, u, by omega, rfl, by show _ = _; rw [HS.out]; rfl, hB2.out, hE2.out⟩
              case round =>
                obtain ⟨j, u, hj, rfl, hu, hB2, hE2⟩ := hrel
                clear HS
                cases gk with
                | succ r2 =>
                  have hjlt : j < c.names.length := by omega
                  have hjltz : (j : Int) < (c.names.length : Int) := by omega
                  have hgx : (c.names.map Value.string)[j]? = some (Value.string c.names[j]) := by simp [hjlt]
                  obtain ⟨ob, oo, hov, o0⟩ := (((HR.out.N).ext HX1.out).ext hE2.out) _ _ hgx
                  simp only at hov
                  subst hov
                  have hsj := eachP_snoc nameLine c.names 0 j (partC c) hjlt
                  rw [Nat.zero_add, ← hu.out] at hsj
                  have hpj := eachP_part nameLine c.names 0 (partC c) (j + 1)
                  rw [hsj] at hpj
                  have hpj2 : (u ++ nameLine j c.names[j]).size ≤ (textC c).size := Nat.le_trans hpj (by first | exact Nat.le_refl _ | exact parts_le_2 c)
                  generalize c.names[j] = x at *
                  have hol : nameLine j x = lineP [⟨#[110, 97, 109, 101]⟩, decS (j : Int), dashP x] := rfl
                  rw [hol, ByteArray.size_append] at hpj2
                  have HOL := Lib.hid hol
                  have HSJ := Lib.hid hsj
                  have HJ := Lib.hid hj
                  have hlbb : b < wr.heap.size := hB2.out.lt_
                  have HJJ : Hid (j ≤ 1000000000000000000) := by show j ≤ _; omega
                  have hPw : Pow wr := HPW.out.ext (HX1.out.trans_ hE2.out)
                  have HPW8 := Lib.hid hPw
                  clear hj hsj hu hol hPw hpj hgx
                  go_wp2_with (first
                    | (go_at_call 20; refine (itoaT_any (j : Int) (by omega) (by have := HJJ.out; omega) _ HPW8.out).mono ?_; rintro e v1 ⟨rfl, hq⟩; have HV1 : Hid (Ext wr v1) := hq; have hls1 := hq.size; clear hq)
                    | (go_at_call 21; refine (nameC_any x _).mono ?_; rintro e v2 ⟨rfl, hq⟩; have HV2 : Hid (Ext wr v2) := (by rw [hq]; exact HV1.out); clear hq)
                    | (go_at_call 17; refine (line_any b u [⟨#[110, 97, 109, 101]⟩, decS (j : Int), dashP x] v2.heap.size 0 3 _ (hB2.out.ext_ (HV2.out.alloc_ _)) (row_strs v2 _ _ _ rfl) (by simp) (by simp) (Nat.le_refl _) (by omega)).mono ?_; rintro e v3 ⟨rfl, hq⟩; have HL3 := Lib.hid hq; clear hq))
                  have HB9 : Hid (Bld b b (u ++ nameLine j x) v3) := by show Bld b b _ v3; rw [HOL.out]; exact HL3.out.bld
                  have HE9 := Lib.hid (bldStep HB.out (hE2.out.trans_ (HV2.out.alloc_ _)) HL3.out.below)
                  go_roundg r2
                  case measure => omega
                  case rel => exact ⟨j + 1, _, by have := HJ.out; omega, by go_num, HSJ.out.symm, HB9.out, HE9.out⟩
                | zero =>
                  obtain rfl : j = c.names.length := by omega
                  have hltz : ¬ ((c.names.length : Nat) : Int) < (c.names.length : Int) := by omega
                  have hs1 : u = textC c := by rw [hu.out, List.take_length]; rfl
                  have HS := Lib.hid hs1
                  clear hu hs1 hj
                  have hbsz : b ≤ wr.heap.size := Nat.le_of_lt hB2.out.lt_
                  go_wp2_with (go_at_call 25; refine (string_any b b u _ hB2.out hbsz).mono ?_; rintro e w9 ⟨rfl, hq⟩; have HQ := Lib.hid hq; clear hq)
                  go_ret
                  exact ⟨by rw [HS.out]; rfl, HX1.out.trans_ (bldStep HB.out hE2.out HQ.out)⟩
end Go.Proofs.YtgjjkllngopboaaDoor
