/- The walk of the document's CodeText. -/
import Derived.Test.YtgjjkllngopboaaDoorJCf01
import Derived.Test.YtgjjkllngopboaaDoorJCc01
import Derived.Test.YtgjjkllngopboaaDoorJCd03
import Derived.Deep.CutRange
namespace Go.Proofs.YtgjjkllngopboaaDoor
open Go.RowKit
set_option linter.unusedVariables false
set_option linter.unusedSimpArgs false

theorem fn_txt (s a b c d e f : ByteArray) : ((((((((((((s ++ ⟨#[102, 117, 110, 99, 32]⟩) ++ a) ++ ⟨#[32]⟩) ++ b) ++ ⟨#[32]⟩) ++ c) ++ ⟨#[32]⟩) ++ d) ++ ⟨#[32]⟩) ++ e) ++ ⟨#[32]⟩) ++ f) ++ ⟨#[10]⟩ = s ++ lineP [⟨#[102, 117, 110, 99]⟩, a, b, c, d, e, f] := by
  unfold lineP
  simp only [joinP]
  rw [show (⟨#[102, 117, 110, 99, 32]⟩ : ByteArray) = ⟨#[102, 117, 110, 99]⟩ ++ ⟨#[32]⟩ from rfl]
  simp only [ByteArray.append_assoc]
theorem two_txt (s x a b : ByteArray) (y : ByteArray) (h : y = x ++ ⟨#[32]⟩) : ((((s ++ y) ++ a) ++ ⟨#[32]⟩) ++ b) ++ ⟨#[10]⟩ = s ++ lineP [x, a, b] := by
  unfold lineP
  simp only [joinP]
  rw [h]
  simp only [ByteArray.append_assoc]
theorem three_txt (s a b c : ByteArray) : ((((((s ++ ⟨#[32, 32]⟩) ++ a) ++ ⟨#[32]⟩) ++ b) ++ ⟨#[32]⟩) ++ c) ++ ⟨#[10]⟩ = s ++ lineP [⟨#[32]⟩, a, b, c] := by
  unfold lineP
  simp only [joinP]
  rw [show (⟨#[32, 32]⟩ : ByteArray) = ⟨#[32]⟩ ++ ⟨#[32]⟩ from rfl]
  simp only [ByteArray.append_assoc]
theorem dash_size (s : ByteArray) : (dashP s).size ≤ s.size + 1 := by
  unfold dashP
  split
  · show (1 : Nat) ≤ _; omega
  · omega
theorem name_line (i : Nat) (f : FnP) : f.name.size ≤ (fnLine i f).size := by
  have h : f.name.size ≤ (dashP f.name).size := by
    unfold dashP
    split
    · rename_i h; rw [h]; exact Nat.zero_le _
    · exact Nat.le_refl _
  unfold fnLine lineP
  simp only [joinP, ByteArray.size_append]
  omega
theorem op_line (i : Nat) (op : OpP) : op.name.size ≤ (opLine i op).size := by
  unfold opLine
  split
  · unfold lineP; simp only [joinP, ByteArray.size_append]; omega
  · unfold lineP; simp only [joinP, ByteArray.size_append]; omega
theorem each_line {α : Type} (g : Nat → α → ByteArray) (l : List α) (out : ByteArray) (k : Nat) (hk : k < l.length) : (eachP g 0 (l.take k) out).size ≤ (eachP g 0 l out).size ∧ (g k l[k]).size ≤ (eachP g 0 l out).size := by
  refine ⟨eachP_part g l 0 out k, ?_⟩
  have h1 := eachP_part g l 0 out (k + 1)
  rw [eachP_snoc g l 0 k out hk, Nat.zero_add, ByteArray.size_append] at h1
  omega
theorem name_small (j : Nat) (x : ByteArray) : x.size ≤ (nameLine j x).size := by
  have h : x.size ≤ (dashP x).size := by
    unfold dashP
    split
    · rename_i h; rw [h]; exact Nat.zero_le _
    · exact Nat.le_refl _
  unfold nameLine lineP
  simp only [joinP, ByteArray.size_append]
  omega
set_option maxRecDepth 100000 in
set_option maxHeartbeats 40000000 in
theorem codeText_walk (c : CodeP) (V : CodeV) (w : World) (hR : RCode w c V) (hN : Nums64 c) (hT : (textC c).size ≤ 17592186044416) :
    Calls Tryd.prog 10 #[codeV c V] w fun e w' => e = .returned (.string (textC c)) ∧ Ext w w' := by
  obtain ⟨⟨fa, fcp⟩, ⟨ia, icp⟩, ⟨sa, scp⟩, ⟨na, ncp⟩, fs⟩ := V
  have hcn := hR.count
  obtain ⟨pt1, pt2, pt3⟩ := parts_le c
  have HR := Lib.hid hR
  have HN := Lib.hid hN
  obtain ⟨RES, hRES⟩ : ∃ RES, RES = textC c := ⟨_, rfl⟩
  rw [← hRES]
  have HRES := Lib.hid hRES
  clear hR hN hRES
  unfold codeV
  simp only
  go_enter Tryd.func10, Tryd.ntmps10
  go_upto_region 1 with fail
  obtain ⟨P1, hP1⟩ : ∃ P1, P1 = w.heap.size := ⟨_, rfl⟩
  refine namedW (fun w1 hw1 => ?_)
  have p0 : w1.cell? ⟨P1, 0, none⟩ = some (.slice fa c.funcs.length fcp) := by rw [hw1, hP1]; simp [go_sem]
  have p1 : w1.cell? ⟨P1, 1, none⟩ = some (.slice ia c.ints.length icp) := by rw [hw1, hP1]; simp [go_sem]
  have p2 : w1.cell? ⟨P1, 2, none⟩ = some (.slice sa c.strs.length scp) := by rw [hw1, hP1]; simp [go_sem]
  have p3 : w1.cell? ⟨P1, 3, none⟩ = some (.slice na c.names.length ncp) := by rw [hw1, hP1]; simp [go_sem]
  have hX1 : Ext w w1 := by rw [hw1]; exact (Ext.refl w).alloc_ _
  rw [← hP1]
  have HX1 := Lib.hid hX1
  clear hw1 hP1 hX1
  go_upto_region 3 with fail
  go_loopg [3, 4] (c.funcs.length) (fun r q i wr => ∃ (k : Nat) (s : ByteArray), k + r = c.funcs.length ∧ q = .string s ∧ i = .int .i64 (k : Int) ∧ Hid (s = fnsP 0 (c.funcs.take k) ⟨#[]⟩) ∧ Hid (Ext w1 wr))
  case atStart => exact ⟨0, ⟨#[]⟩, by omega, rfl, rfl, rfl, Ext.refl _⟩
  case round =>
    obtain ⟨k, s, hk, rfl, rfl, hs, hE⟩ := hrel
    have p0 := hE.out.cell_ p0
    have p1 := hE.out.cell_ p1
    have p2 := hE.out.cell_ p2
    have p3 := hE.out.cell_ p3
    have lP1 : P1 < wr.heap.size := cell_lt p0
    cases gk with
    | succ r =>
      have hlt : k < c.funcs.length := by omega
      have hltz : (k : Int) < (c.funcs.length : Int) := by omega
      obtain ⟨fb, fo, va, vc, hfa, k0, k1, k2, k3, k4, k5, hops, -⟩ := fn_cells (HR.out.ext (HX1.out.trans_ hE.out)) hlt
      simp only at hfa
      subst hfa
      obtain ⟨pa1, pa2⟩ := fn_part c k hlt
      have hn := HN.out.fns _ (List.getElem_mem hlt)
      have hsn := fnsP_snoc c.funcs 0 k ⟨#[]⟩ hlt
      rw [Nat.zero_add, ← hs.out] at hsn
      rw [← hs.out] at pa1 pa2
      have hnl := name_line k c.funcs[k]
      obtain ⟨fn, hfn⟩ : ∃ fn, fn = c.funcs[k] := ⟨_, rfl⟩
      rw [← hfn] at k0 k1 k2 k3 k4 k5 hops pa1 pa2 hn hsn hnl
      have hcl : fn.ops.length ≤ 1000000000000000000 := by
        have h1 := ops_count (List.getElem_mem hlt)
        rw [← hfn] at h1
        omega
      obtain ⟨⟨n1, n1'⟩, ⟨n2, n2'⟩, ⟨n3, n3'⟩, ⟨n4, n4'⟩, hna⟩ := hn
      rw [ByteArray.size_append] at pa1
      have HSN := Lib.hid hsn
      have HPA := Lib.hid pa2
      have HNA := Lib.hid hna
      have HOPS := Lib.hid hops
      have HK := Lib.hid hk
      have HKK : Hid (k ≤ 1000000000000000000) := by show k ≤ _; omega
      have hlb : fb < wr.heap.size := cell_lt k0
      have HS := Lib.hid hs.out
      clear hs hk hfn hsn pa2 hna hops
      go_upto_region 6 with fail
      obtain ⟨P5, hP5⟩ : ∃ P5, P5 = wr.heap.size := ⟨_, rfl⟩
      refine namedW (fun w2 hw2 => ?_)
      have q0 : w2.cell? ⟨P5, 0, none⟩ = some (.string fn.name) := by rw [hw2, hP5]; simp [go_sem]
      have q1 : w2.cell? ⟨P5, 1, none⟩ = some (.int .i64 fn.params) := by rw [hw2, hP5]; simp [go_sem]
      have q2 : w2.cell? ⟨P5, 2, none⟩ = some (.int .i64 fn.locals) := by rw [hw2, hP5]; simp [go_sem]
      have q3 : w2.cell? ⟨P5, 3, none⟩ = some (.int .i64 fn.cells) := by rw [hw2, hP5]; simp [go_sem]
      have q4 : w2.cell? ⟨P5, 4, none⟩ = some (.int .i64 fn.frees) := by rw [hw2, hP5]; simp [go_sem]
      have q5 : w2.cell? ⟨P5, 5, none⟩ = some (.slice va fn.ops.length vc) := by rw [hw2, hP5]; simp [go_sem]
      have hX2 : Ext wr w2 := by rw [hw2]; exact (Ext.refl wr).alloc_ _
      rw [← hP5]
      have HX2 := Lib.hid hX2
      clear hw2 hP5 hX2 k0 k1 k2 k3 k4 k5 hlb
      have hfl : fnLine k fn = lineP [⟨#[102, 117, 110, 99]⟩, decS (k : Int), dashP fn.name, decS fn.params, decS fn.locals, decS fn.cells, decS fn.frees] := rfl
      have HFL := Lib.hid hfl
      have z0 := decS_size (k : Int)
      have z1 := decS_size fn.params
      have z2 := decS_size fn.locals
      have z3 := decS_size fn.cells
      have z4 := decS_size fn.frees
      have z5 := dash_size fn.name
      have c0 := fun W => decimal_all (k : Int) (by omega) (by have := HKK.out; omega) W
      have c1 := fun W => decimal_all fn.params n1 n1' W
      have c2 := fun W => decimal_all fn.locals n2 n2' W
      have c3 := fun W => decimal_all fn.cells n3 n3' W
      have c4 := fun W => decimal_all fn.frees n4 n4' W
      have c5 : ∀ W, Calls Tryd.prog 27 #[.string fn.name] W fun e w' => e = .returned (.string (dashP fn.name)) ∧ w' = W := fun W => dash_any fn.name W
      generalize decS (k : Int) = d0 at *
      generalize decS fn.params = d1 at *
      generalize decS fn.locals = d2 at *
      generalize decS fn.cells = d3 at *
      generalize decS fn.frees = d4 at *
      generalize dashP fn.name = d5 at *
      have C0 := Lib.hid c0
      have C1 := Lib.hid c1
      have C2 := Lib.hid c2
      have C3 := Lib.hid c3
      have C4 := Lib.hid c4
      have C5 := Lib.hid c5
      clear c0 c1 c2 c3 c4 c5 hfl
      go_cut [3] from 20 to 56 (fun q wx => ∃ s2, q = .string s2 ∧ Hid (s2 = s ++ fnLine k fn) ∧ Hid (Ext w2 wx))
      case first =>
        have sz0 : ¬ 9223372036854775807 < s.size + 5 := by omega
        have sy0 : ¬ maxLen < s.size + 5 := by unfold maxLen; omega
        have sz1 : ¬ 9223372036854775807 < s.size + 5 + d0.size := by omega
        have sy1 : ¬ maxLen < s.size + 5 + d0.size := by unfold maxLen; omega
        have sz2 : ¬ 9223372036854775807 < s.size + 5 + d0.size + 1 := by omega
        have sy2 : ¬ maxLen < s.size + 5 + d0.size + 1 := by unfold maxLen; omega
        have sz3 : ¬ 9223372036854775807 < s.size + 5 + d0.size + 1 + d5.size := by omega
        have sy3 : ¬ maxLen < s.size + 5 + d0.size + 1 + d5.size := by unfold maxLen; omega
        have sz4 : ¬ 9223372036854775807 < s.size + 5 + d0.size + 1 + d5.size + 1 := by omega
        have sy4 : ¬ maxLen < s.size + 5 + d0.size + 1 + d5.size + 1 := by unfold maxLen; omega
        have sz5 : ¬ 9223372036854775807 < s.size + 5 + d0.size + 1 + d5.size + 1 + d1.size := by omega
        have sy5 : ¬ maxLen < s.size + 5 + d0.size + 1 + d5.size + 1 + d1.size := by unfold maxLen; omega
        have sz6 : ¬ 9223372036854775807 < s.size + 5 + d0.size + 1 + d5.size + 1 + d1.size + 1 := by omega
        have sy6 : ¬ maxLen < s.size + 5 + d0.size + 1 + d5.size + 1 + d1.size + 1 := by unfold maxLen; omega
        have sz7 : ¬ 9223372036854775807 < s.size + 5 + d0.size + 1 + d5.size + 1 + d1.size + 1 + d2.size := by omega
        have sy7 : ¬ maxLen < s.size + 5 + d0.size + 1 + d5.size + 1 + d1.size + 1 + d2.size := by unfold maxLen; omega
        have sz8 : ¬ 9223372036854775807 < s.size + 5 + d0.size + 1 + d5.size + 1 + d1.size + 1 + d2.size + 1 := by omega
        have sy8 : ¬ maxLen < s.size + 5 + d0.size + 1 + d5.size + 1 + d1.size + 1 + d2.size + 1 := by unfold maxLen; omega
        have sz9 : ¬ 9223372036854775807 < s.size + 5 + d0.size + 1 + d5.size + 1 + d1.size + 1 + d2.size + 1 + d3.size := by omega
        have sy9 : ¬ maxLen < s.size + 5 + d0.size + 1 + d5.size + 1 + d1.size + 1 + d2.size + 1 + d3.size := by unfold maxLen; omega
        have sz10 : ¬ 9223372036854775807 < s.size + 5 + d0.size + 1 + d5.size + 1 + d1.size + 1 + d2.size + 1 + d3.size + 1 := by omega
        have sy10 : ¬ maxLen < s.size + 5 + d0.size + 1 + d5.size + 1 + d1.size + 1 + d2.size + 1 + d3.size + 1 := by unfold maxLen; omega
        have sz11 : ¬ 9223372036854775807 < s.size + 5 + d0.size + 1 + d5.size + 1 + d1.size + 1 + d2.size + 1 + d3.size + 1 + d4.size := by omega
        have sy11 : ¬ maxLen < s.size + 5 + d0.size + 1 + d5.size + 1 + d1.size + 1 + d2.size + 1 + d3.size + 1 + d4.size := by unfold maxLen; omega
        have sz12 : ¬ 9223372036854775807 < s.size + 5 + d0.size + 1 + d5.size + 1 + d1.size + 1 + d2.size + 1 + d3.size + 1 + d4.size + 1 := by omega
        have sy12 : ¬ maxLen < s.size + 5 + d0.size + 1 + d5.size + 1 + d1.size + 1 + d2.size + 1 + d3.size + 1 + d4.size + 1 := by unfold maxLen; omega
        refine wp_region_held_drew (S := fun W => W.cell? ⟨P5, 0, none⟩ = some (.string fn.name) ∧ W.cell? ⟨P5, 1, none⟩ = some (.int .i64 fn.params) ∧ W.cell? ⟨P5, 2, none⟩ = some (.int .i64 fn.locals) ∧ W.cell? ⟨P5, 3, none⟩ = some (.int .i64 fn.cells) ∧ W.cell? ⟨P5, 4, none⟩ = some (.int .i64 fn.frees)) (by kernel_rfl) ?_ (fun hHeld => ?_)
        · exact ⟨q0, q1, q2, q3, q4⟩
        refine tk 0 ⟨some 26, _, _, _, _, _⟩ ?_ rfl ?_ ?_
        rotate_left
        · (intro w hSw; (try dsimp only at hSw); go_simp; try with_reducible rfl)
        try simp only [tkS]
        refine tk 1 ⟨some 27, _, _, _, _, _⟩ ?_ rfl ?_ ?_
        rotate_left
        · (intro w hSw; (try dsimp only at hSw); go_simp; try with_reducible rfl)
        try simp only [tkS]
        refine tk 2 ⟨some 28, _, _, _, _, _⟩ ?_ rfl ?_ ?_
        rotate_left
        · (intro w hSw; (try dsimp only at hSw); go_simp; try with_reducible rfl)
        try simp only [tkS]
        refine tk 6 ⟨some 32, _, _, _, _, _⟩ ?_ rfl ?_ ?_
        rotate_left
        · (intro w hSw; (try dsimp only at hSw); go_simp; try with_reducible rfl)
        try simp only [tkS]
        refine tk 7 ⟨some 33, _, _, _, _, _⟩ ?_ rfl ?_ ?_
        rotate_left
        · (intro w hSw; (try dsimp only at hSw); go_simp; try with_reducible rfl)
        try simp only [tkS]
        refine tk 11 ⟨some 37, _, _, _, _, _⟩ ?_ rfl ?_ ?_
        rotate_left
        · (intro w hSw; (try dsimp only at hSw); go_simp; try with_reducible rfl)
        try simp only [tkS]
        refine tk 12 ⟨some 38, _, _, _, _, _⟩ ?_ rfl ?_ ?_
        rotate_left
        · (intro w hSw; (try dsimp only at hSw); go_simp; try with_reducible rfl)
        try simp only [tkS]
        refine tk 16 ⟨some 42, _, _, _, _, _⟩ ?_ rfl ?_ ?_
        rotate_left
        · (intro w hSw; (try dsimp only at hSw); go_simp; try with_reducible rfl)
        try simp only [tkS]
        refine tk 17 ⟨some 43, _, _, _, _, _⟩ ?_ rfl ?_ ?_
        rotate_left
        · (intro w hSw; (try dsimp only at hSw); go_simp; try with_reducible rfl)
        try simp only [tkS]
        refine tk 21 ⟨some 47, _, _, _, _, _⟩ ?_ rfl ?_ ?_
        rotate_left
        · (intro w hSw; (try dsimp only at hSw); go_simp; try with_reducible rfl)
        try simp only [tkS]
        refine tk 22 ⟨some 48, _, _, _, _, _⟩ ?_ rfl ?_ ?_
        rotate_left
        · (intro w hSw; (try dsimp only at hSw); go_simp; try with_reducible rfl)
        try simp only [tkS]
        refine tk 26 ⟨some 52, _, _, _, _, _⟩ ?_ rfl ?_ ?_
        rotate_left
        · (intro w hSw; (try dsimp only at hSw); go_simp; try with_reducible rfl)
        try simp only [tkS]
        refine tk 27 ⟨some 53, _, _, _, _, _⟩ ?_ rfl ?_ ?_
        rotate_left
        · (intro w hSw; (try dsimp only at hSw); go_simp; try with_reducible rfl)
        try simp only [tkS]
        refine wpAnyH_ready (rs := [3]) (by kernel_rfl) (by simp) ?_
        refine AllReadyH.cons (o := ⟨some 29, _, _, _, _, _⟩) rfl (fun K hK => ?_) AllReadyH.nil
        go_simp
        refine (C0.out _).mono ?_
        rintro e w3 ⟨rfl, hq⟩
        have HY3 : Hid (Ext w2 w3) := Ext.trans_ (by first | exact Ext.refl _ | exact (Ext.refl _).drew_ | exact (Ext.refl _).drewN_ _) hq
        clear hq
        refine hK.out _ _ ?_ (fun hHeld => ?_)
        · (try dsimp only); exact ⟨HY3.out.cell_ q0, HY3.out.cell_ q1, HY3.out.cell_ q2, HY3.out.cell_ q3, HY3.out.cell_ q4⟩
        clear hK K
        try simp only [tkS]
        refine tk 4 ⟨some 30, _, _, _, _, _⟩ ?_ rfl ?_ ?_
        rotate_left
        · (intro w hSw; (try dsimp only at hSw); go_simp; try with_reducible rfl)
        try simp only [tkS]
        refine tk 5 ⟨some 31, _, _, _, _, _⟩ ?_ rfl ?_ ?_
        rotate_left
        · (intro w hSw; (try dsimp only at hSw); go_simp; try with_reducible rfl)
        try simp only [tkS]
        refine wpAnyH_ready (rs := [8]) (by kernel_rfl) (by simp) ?_
        refine AllReadyH.cons (o := ⟨some 34, _, _, _, _, _⟩) rfl (fun K hK => ?_) AllReadyH.nil
        go_simp
        refine (C5.out _).mono ?_
        rintro e w4 ⟨rfl, hq⟩
        subst hq
        refine hK.out _ _ ?_ (fun hHeld => ?_)
        · (try dsimp only); exact ⟨HY3.out.cell_ q0, HY3.out.cell_ q1, HY3.out.cell_ q2, HY3.out.cell_ q3, HY3.out.cell_ q4⟩
        clear hK K
        try simp only [tkS]
        refine tk 9 ⟨some 35, _, _, _, _, _⟩ ?_ rfl ?_ ?_
        rotate_left
        · (intro w hSw; (try dsimp only at hSw); go_simp; try with_reducible rfl)
        try simp only [tkS]
        refine tk 10 ⟨some 36, _, _, _, _, _⟩ ?_ rfl ?_ ?_
        rotate_left
        · (intro w hSw; (try dsimp only at hSw); go_simp; try with_reducible rfl)
        try simp only [tkS]
        refine wpAnyH_ready (rs := [13]) (by kernel_rfl) (by simp) ?_
        refine AllReadyH.cons (o := ⟨some 39, _, _, _, _, _⟩) rfl (fun K hK => ?_) AllReadyH.nil
        go_simp
        refine (C1.out _).mono ?_
        rintro e w5 ⟨rfl, hq⟩
        have HY5 : Hid (Ext w2 w5) := Ext.trans_ HY3.out hq
        clear hq
        refine hK.out _ _ ?_ (fun hHeld => ?_)
        · (try dsimp only); exact ⟨HY5.out.cell_ q0, HY5.out.cell_ q1, HY5.out.cell_ q2, HY5.out.cell_ q3, HY5.out.cell_ q4⟩
        clear hK K
        try simp only [tkS]
        refine tk 14 ⟨some 40, _, _, _, _, _⟩ ?_ rfl ?_ ?_
        rotate_left
        · (intro w hSw; (try dsimp only at hSw); go_simp; try with_reducible rfl)
        try simp only [tkS]
        refine tk 15 ⟨some 41, _, _, _, _, _⟩ ?_ rfl ?_ ?_
        rotate_left
        · (intro w hSw; (try dsimp only at hSw); go_simp; try with_reducible rfl)
        try simp only [tkS]
        refine wpAnyH_ready (rs := [18]) (by kernel_rfl) (by simp) ?_
        refine AllReadyH.cons (o := ⟨some 44, _, _, _, _, _⟩) rfl (fun K hK => ?_) AllReadyH.nil
        go_simp
        refine (C2.out _).mono ?_
        rintro e w6 ⟨rfl, hq⟩
        have HY6 : Hid (Ext w2 w6) := Ext.trans_ HY5.out hq
        clear hq
        refine hK.out _ _ ?_ (fun hHeld => ?_)
        · (try dsimp only); exact ⟨HY6.out.cell_ q0, HY6.out.cell_ q1, HY6.out.cell_ q2, HY6.out.cell_ q3, HY6.out.cell_ q4⟩
        clear hK K
        try simp only [tkS]
        refine tk 19 ⟨some 45, _, _, _, _, _⟩ ?_ rfl ?_ ?_
        rotate_left
        · (intro w hSw; (try dsimp only at hSw); go_simp; try with_reducible rfl)
        try simp only [tkS]
        refine tk 20 ⟨some 46, _, _, _, _, _⟩ ?_ rfl ?_ ?_
        rotate_left
        · (intro w hSw; (try dsimp only at hSw); go_simp; try with_reducible rfl)
        try simp only [tkS]
        refine wpAnyH_ready (rs := [23]) (by kernel_rfl) (by simp) ?_
        refine AllReadyH.cons (o := ⟨some 49, _, _, _, _, _⟩) rfl (fun K hK => ?_) AllReadyH.nil
        go_simp
        refine (C3.out _).mono ?_
        rintro e w7 ⟨rfl, hq⟩
        have HY7 : Hid (Ext w2 w7) := Ext.trans_ HY6.out hq
        clear hq
        refine hK.out _ _ ?_ (fun hHeld => ?_)
        · (try dsimp only); exact ⟨HY7.out.cell_ q0, HY7.out.cell_ q1, HY7.out.cell_ q2, HY7.out.cell_ q3, HY7.out.cell_ q4⟩
        clear hK K
        try simp only [tkS]
        refine tk 24 ⟨some 50, _, _, _, _, _⟩ ?_ rfl ?_ ?_
        rotate_left
        · (intro w hSw; (try dsimp only at hSw); go_simp; try with_reducible rfl)
        try simp only [tkS]
        refine tk 25 ⟨some 51, _, _, _, _, _⟩ ?_ rfl ?_ ?_
        rotate_left
        · (intro w hSw; (try dsimp only at hSw); go_simp; try with_reducible rfl)
        try simp only [tkS]
        refine wpAnyH_ready (rs := [28]) (by kernel_rfl) (by simp) ?_
        refine AllReadyH.cons (o := ⟨some 54, _, _, _, _, _⟩) rfl (fun K hK => ?_) AllReadyH.nil
        go_simp
        refine (C4.out _).mono ?_
        rintro e w8 ⟨rfl, hq⟩
        have HY8 : Hid (Ext w2 w8) := Ext.trans_ HY7.out hq
        clear hq
        refine hK.out _ _ ?_ (fun hHeld => ?_)
        · (try dsimp only); exact ⟨HY8.out.cell_ q0, HY8.out.cell_ q1, HY8.out.cell_ q2, HY8.out.cell_ q3, HY8.out.cell_ q4⟩
        clear hK K
        try simp only [tkS]
        refine tk 29 ⟨some 55, _, _, _, _, _⟩ ?_ rfl ?_ ?_
        rotate_left
        · (intro w hSw; (try dsimp only at hSw); go_simp; try with_reducible rfl)
        try simp only [tkS]
        refine tk 30 ⟨some 56, _, _, _, _, _⟩ ?_ rfl ?_ ?_
        rotate_left
        · (intro w hSw; (try dsimp only at hSw); go_simp; try with_reducible rfl)
        try simp only [tkS]
        refine tk 31 ⟨some 3, _, _, _, _, _⟩ ?_ rfl ?_ ?_
        rotate_left
        · (intro w hSw; (try dsimp only at hSw); go_simp; try with_reducible rfl)
        try simp only [tkS]
        refine wpAnyH_done (by kernel_rfl) ?_ _
        clear hHeld
        go_wp2_with fail
        go_meet
        case rel => exact ⟨_, rfl, by unfold Hid; rw [fn_txt, ← HFL.out], HY8.out⟩
      case rest =>
      obtain ⟨s2, rfl, hs2, HY8⟩ := hcut
      have hs2 := hs2.out
      obtain ⟨w8, hw8⟩ : ∃ w8, w8 = wc := ⟨_, rfl⟩
      rw [← hw8] at HY8 ⊢
      clear hw8
      have q5 := HY8.out.cell_ q5
      have HE8 := Lib.hid ((hE.out.trans_ HX2.out).trans_ HY8.out)
      have lP5 : P5 < w8.heap.size := cell_lt q5
      have hpa : s2.size ≤ (partA c).size := by rw [hs2, ByteArray.size_append]; exact pa1
      have HPA2 : Hid (∀ j, (opsP 0 (fn.ops.take j) s2).size ≤ (partA c).size) := fun j => by rw [hs2]; exact HPA.out j
      have HSN2 : Hid (fnsP 0 (c.funcs.take (k + 1)) ⟨#[]⟩ = opsP 0 fn.ops s2) := by rw [hs2]; exact HSN.out
      have HOPS8 := Lib.hid (HOPS.out.ext (HX2.out.trans_ HY8.out))
      clear hs2 pa1 hnl z0 z1 z2 z3 z4 z5 q0 q1 q2 q3 q4 p0 p1 p2 p3 HFL HPA HSN HOPS C0 C1 C2 C3 C4 C5 HX2 HY8 HS
      go_upto_region 8 with fail
      go_loopg [3, 6] (fn.ops.length) (fun r q i wr => ∃ (j : Nat) (t : ByteArray), j + r = fn.ops.length ∧ q = .string t ∧ i = .int .i64 (j : Int) ∧ Hid (t = opsP 0 (fn.ops.take j) s2) ∧ Hid (Ext w8 wr))
      case atStart => exact ⟨0, s2, by omega, rfl, rfl, rfl, Ext.refl _⟩
      case round =>
        obtain ⟨j, s, hj, rfl, rfl, ht, hE3⟩ := hrel
        have q5 := hE3.out.cell_ q5
        have lP5 : P5 < wr.heap.size := cell_lt q5
        cases gk with
        | succ r2 =>
          have hjl : j < fn.ops.length := by omega
          have hjz : (j : Int) < (fn.ops.length : Int) := by omega
          have hRo := HOPS8.out.ext hE3.out
          have hat := opCells_at fn.ops j hjl
          obtain ⟨ob, oo, hov, o0⟩ := hRo _ _ hat.1
          subst hov
          have o1 := hRo.at_ hat.2
          rw [← Nat.add_assoc] at o1
          have hlo : ob < wr.heap.size := cell_lt o0
          have hsnj := opsP_snoc fn.ops j s2 hjl
          have hpj := HPA2.out (j + 1)
          rw [hsnj, ByteArray.size_append] at hpj
          have hol := op_line j fn.ops[j]
          have hna := HNA.out _ (List.getElem_mem hjl)
          rw [← ht.out] at hsnj hpj
          obtain ⟨op, hop⟩ : ∃ op, op = fn.ops[j] := ⟨_, rfl⟩
          rw [← hop] at o0 o1 hsnj hpj hol hna
          have HSJ := Lib.hid hsnj
          have HJ := Lib.hid hj
          have hjj : j ≤ 1000000000000000000 := by omega
          obtain ⟨na1, na2⟩ := hna
          have hsh := kShape_any op.name op.a
          have hopl : ∀ kd, kindP op = kd → opLine j op = (if kd = ⟨#[]⟩ then lineP [⟨#[32]⟩, decS (j : Int), op.name] else lineP [⟨#[32]⟩, decS (j : Int), op.name, decS op.a]) := fun kd hk => by unfold opLine; rw [hk]
          have z0 := decS_size (j : Int)
          have z1 := decS_size op.a
          have c0 := fun W => decimal_all (j : Int) (by omega) (by omega) W
          have c1 := fun W => decimal_all op.a na1 na2 W
          generalize decS (j : Int) = d0 at *
          generalize decS op.a = d1 at *
          have C0 := Lib.hid c0
          have C1 := Lib.hid c1
          have HSH := Lib.hid hsh
          have HOPL := Lib.hid hopl
          clear hRo hat ht hj hop hsnj c0 c1 hsh hopl
          obtain ⟨nm, ax⟩ := op
          simp only at o0 o1 hpj hol na1 na2
          go_upto_region 10 with fail
          have sz0 : ¬ 9223372036854775807 < s.size + 2 := by omega
          have sy0 : ¬ maxLen < s.size + 2 := by unfold maxLen; omega
          have sz1 : ¬ 9223372036854775807 < s.size + 2 + d0.size := by omega
          have sy1 : ¬ maxLen < s.size + 2 + d0.size := by unfold maxLen; omega
          have sz2 : ¬ 9223372036854775807 < s.size + 2 + d0.size + 1 := by omega
          have sy2 : ¬ maxLen < s.size + 2 + d0.size + 1 := by unfold maxLen; omega
          have sz3 : ¬ 9223372036854775807 < s.size + 2 + d0.size + 1 + nm.size := by omega
          have sy3 : ¬ maxLen < s.size + 2 + d0.size + 1 + nm.size := by unfold maxLen; omega
          have sz4 : ¬ 9223372036854775807 < s.size + 2 + d0.size + 1 + nm.size + 1 := by omega
          have sy4 : ¬ maxLen < s.size + 2 + d0.size + 1 + nm.size + 1 := by unfold maxLen; omega
          have sz5 : ¬ 9223372036854775807 < s.size + 2 + d0.size + 1 + nm.size + 1 + d1.size := by omega
          have sy5 : ¬ maxLen < s.size + 2 + d0.size + 1 + nm.size + 1 + d1.size := by unfold maxLen; omega
          have sz6 : ¬ 9223372036854775807 < s.size + 2 + d0.size + 1 + nm.size + 1 + d1.size + 1 := by omega
          have sy6 : ¬ maxLen < s.size + 2 + d0.size + 1 + nm.size + 1 + d1.size + 1 := by unfold maxLen; omega
          have sz9 : ¬ 9223372036854775807 < s.size + 2 + d0.size + 1 + nm.size + 1 := by omega
          have sy9 : ¬ maxLen < s.size + 2 + d0.size + 1 + nm.size + 1 := by unfold maxLen; omega
          refine wp_region_held_drew (S := fun W => W.cell? ⟨P5, 5, none⟩ = some (.slice (some ⟨ob, oo, none⟩) fn.ops.length vc) ∧ W.cell? ⟨ob, oo + j * 2, none⟩ = some (.string nm)) (by kernel_rfl) ?_ (fun hHeld => ?_)
          · exact ⟨q5, o0⟩
          refine tk 0 ⟨some 64, _, _, _, _, _⟩ ?_ rfl ?_ ?_
          rotate_left
          · (intro w hSw; (try dsimp only at hSw); go_simp; try with_reducible rfl)
          try simp only [tkS]
          refine tk 1 ⟨some 65, _, _, _, _, _⟩ ?_ rfl ?_ ?_
          rotate_left
          · (intro w hSw; (try dsimp only at hSw); go_simp; try with_reducible rfl)
          try simp only [tkS]
          refine tk 2 ⟨some 66, _, _, _, _, _⟩ ?_ rfl ?_ ?_
          rotate_left
          · (intro w hSw; (try dsimp only at hSw); go_simp; try with_reducible rfl)
          try simp only [tkS]
          refine tk 6 ⟨some 70, _, _, _, _, _⟩ ?_ rfl ?_ ?_
          rotate_left
          · (intro w hSw; (try dsimp only at hSw); go_simp; try with_reducible rfl)
          try simp only [tkS]
          refine tk 7 ⟨some 71, _, _, _, _, _⟩ ?_ rfl ?_ ?_
          rotate_left
          · (intro w hSw; (try dsimp only at hSw); go_simp; try with_reducible rfl)
          try simp only [tkS]
          refine tk 8 ⟨some 72, _, _, _, _, _⟩ ?_ rfl ?_ ?_
          rotate_left
          · (intro w hSw; (try dsimp only at hSw); go_simp; try with_reducible rfl)
          try simp only [tkS]
          refine tk 9 ⟨some 73, _, _, _, _, _⟩ ?_ rfl ?_ ?_
          rotate_left
          · (intro w hSw; (try dsimp only at hSw); go_simp; try with_reducible rfl)
          try simp only [tkS]
          refine tk 10 ⟨some 74, _, _, _, _, _⟩ ?_ rfl ?_ ?_
          rotate_left
          · (intro w hSw; (try dsimp only at hSw); go_simp; try with_reducible rfl)
          try simp only [tkS]
          refine tk 11 ⟨some 75, _, _, _, _, _⟩ ?_ rfl ?_ ?_
          rotate_left
          · (intro w hSw; (try dsimp only at hSw); go_simp; try with_reducible rfl)
          try simp only [tkS]
          refine wpAnyH_ready (rs := [3]) (by kernel_rfl) (by simp) ?_
          refine AllReadyH.cons (o := ⟨some 67, _, _, _, _, _⟩) rfl (fun K hK => ?_) AllReadyH.nil
          go_simp
          refine (C0.out _).mono ?_
          rintro e w3 ⟨rfl, hq⟩
          have HY3 : Hid (Ext wr w3) := Ext.trans_ (by first | exact Ext.refl _ | exact (Ext.refl _).drew_ | exact (Ext.refl _).drewN_ _) hq
          clear hq
          refine hK.out _ _ ?_ (fun hHeld => ?_)
          · (try dsimp only); exact ⟨HY3.out.cell_ q5, HY3.out.cell_ o0⟩
          clear hK K
          try simp only [tkS]
          refine tk 4 ⟨some 68, _, _, _, _, _⟩ ?_ rfl ?_ ?_
          rotate_left
          · (intro w hSw; (try dsimp only at hSw); go_simp; try with_reducible rfl)
          try simp only [tkS]
          refine tk 5 ⟨some 69, _, _, _, _, _⟩ ?_ rfl ?_ ?_
          rotate_left
          · (intro w hSw; (try dsimp only at hSw); go_simp; try with_reducible rfl)
          try simp only [tkS]
          refine tk 12 ⟨some 76, _, _, _, _, _⟩ ?_ rfl ?_ ?_
          rotate_left
          · (intro w hSw; (try dsimp only at hSw); go_simp; try with_reducible rfl)
          try simp only [tkS]
          refine tk 13 ⟨some 3, _, _, _, _, _⟩ ?_ rfl ?_ ?_
          rotate_left
          · (intro w hSw; (try dsimp only at hSw); go_simp; try with_reducible rfl)
          try simp only [tkS]
          refine wpAnyH_done (by kernel_rfl) ?_ _
          clear hHeld
          clear sz0 sy0 sz1 sy1 sz2 sy2 sz3 sy3 sz4 sy4 sz5 sy5 sz6 sy6 sz9 sy9
          obtain ⟨t3, ht3⟩ : ∃ t3, t3 = (((s ++ ⟨#[32, 32]⟩) ++ d0) ++ ⟨#[32]⟩) ++ nm := ⟨_, rfl⟩
          have ht3z : t3.size ≤ 17592186044516 := by rw [ht3]; simp only [ByteArray.size_append]; show s.size + 2 + d0.size + 1 + nm.size ≤ _; omega
          rw [← ht3]
          have HT3 := Lib.hid ht3
          clear ht3 hpj hol
          obtain ⟨w4, hw4⟩ : ∃ w4, w4 = w3 := ⟨_, rfl⟩
          rw [← hw4]
          have hX4 : Ext wr w4 := by rw [hw4]; exact HY3.out
          have q5 := hX4.cell_ q5
          have o0 := hX4.cell_ o0
          have o1 := hX4.cell_ o1
          have HX4 := Lib.hid (hE3.out.trans_ hX4)
          have lP5 : P5 < w4.heap.size := cell_lt q5
          have hlo : ob < w4.heap.size := cell_lt o0
          clear hw4 hX4 HY3
          have hsk : ∀ kd, kindP ⟨nm, ax⟩ = kd → ∀ W, Calls Tryd.prog 28 #[.agg #[.string nm, .int .i64 ax]] W fun e w' => (∃ t pu kn, e = .returned (.tuple #[.int .i64 t, .int .i64 pu, .string kd, .bool kn])) ∧ Ext W w' := fun kd hkd W => (HSH.out W).mono fun e w' h => by
            obtain ⟨⟨t, h1, -⟩, h3⟩ := h
            rw [hkd] at h1
            exact ⟨⟨_, _, _, h1⟩, h3⟩
          by_cases hke : kindP ⟨nm, ax⟩ = ⟨#[]⟩
          · have hl2 : opLine j ⟨nm, ax⟩ = lineP [⟨#[32]⟩, d0, nm] := by rw [HOPL.out _ hke, if_pos rfl]
            have HL2 := Lib.hid hl2
            have HSK := Lib.hid (hsk _ hke)
            clear hke hl2 hsk HOPL HSH C0 C1
            go_wp2_with (go_at_call 28; refine (HSK.out _).mono ?_; rintro e w5 ⟨⟨t, pu, kn, rfl⟩, hq⟩; have HX5 := Lib.hid (HX4.out.trans_ hq); have q5 := hq.cell_ q5; have o0 := hq.cell_ o0; have o1 := hq.cell_ o1; have lP5 : P5 < w5.heap.size := cell_lt q5; have hlo : ob < w5.heap.size := cell_lt o0; clear hq)
            go_roundg r2
            case measure => omega
            case rel =>
              refine ⟨j + 1, _, by have := HJ.out; omega, rfl, by go_num, ?_, HX5.out⟩
              unfold Hid
              rw [HSJ.out, HL2.out, HT3.out]
              exact two_txt s ⟨#[32]⟩ d0 nm ⟨#[32, 32]⟩ rfl
          · have hl2 : opLine j ⟨nm, ax⟩ = lineP [⟨#[32]⟩, d0, nm, d1] := by rw [HOPL.out _ rfl, if_neg hke]
            have HL2 := Lib.hid hl2
            obtain ⟨kd, hkd⟩ : ∃ kd, kindP ⟨nm, ax⟩ = kd := ⟨_, rfl⟩
            have HSK := Lib.hid (hsk kd hkd)
            rw [hkd] at hke
            have zk := empty_no hke
            clear hke hl2 hsk HOPL HSH C0 hkd
            go_wp2_with (first
              | (go_at_call 28; refine (HSK.out _).mono ?_; rintro e w5 ⟨⟨t, pu, kn, rfl⟩, hq⟩; have HX5 := Lib.hid (HX4.out.trans_ hq); have q5 := hq.cell_ q5; have o0 := hq.cell_ o0; have o1 := hq.cell_ o1; have lP5 : P5 < w5.heap.size := cell_lt q5; have hlo : ob < w5.heap.size := cell_lt o0; clear hq)
              | (go_at_call 26; refine (C1.out _).mono ?_; rintro e w6 ⟨rfl, hq⟩; have HX6 := Lib.hid (HX5.out.trans_ hq); clear hq))
            go_roundg r2
            case measure => omega
            case rel =>
              refine ⟨j + 1, _, by have := HJ.out; omega, rfl, by go_num, ?_, HX6.out⟩
              unfold Hid
              rw [HSJ.out, HL2.out, HT3.out]
              exact three_txt s d0 nm d1
        | zero =>
          obtain rfl : j = fn.ops.length := by omega
          have hjz : ¬ ((fn.ops.length : Nat) : Int) < (fn.ops.length : Int) := by omega
          have hfin : s = fnsP 0 (c.funcs.take (k + 1)) ⟨#[]⟩ := by rw [HSN2.out, ht.out, List.take_length]
          have HFIN := Lib.hid hfin
          clear ht hj hfin
          go_wp2
          go_roundg r
          case measure => omega
          case rel => exact ⟨k + 1, _, by have := HK.out; omega, rfl, by go_num, HFIN.out, HE8.out.trans_ hE3.out⟩
    | zero =>
      obtain rfl : k = c.funcs.length := by omega
      have hltz : ¬ ((c.funcs.length : Nat) : Int) < (c.funcs.length : Int) := by omega
      have hsA : s = partA c := by rw [hs.out, List.take_length]; rfl
      have HSA := Lib.hid hsA
      clear hs hk hsA
      go_upto_region 16 with fail
      obtain ⟨wo, hwo⟩ : ∃ wo, wo = wr := ⟨_, rfl⟩
      rw [← hwo] at hE p0 p1 p2 p3 lP1 ⊢
      have HE1 := Lib.hid (HX1.out.trans_ hE.out)
      clear hwo hE p0
      go_loopg [3, 11] (c.ints.length) (fun r q i wr => ∃ (j : Nat) (t : ByteArray), j + r = c.ints.length ∧ q = .string t ∧ i = .int .i64 (j : Int) ∧ Hid (t = eachP intLine 0 (c.ints.take j) (partA c)) ∧ Hid (Ext wo wr))
      case atStart => exact ⟨0, s, by omega, rfl, rfl, HSA.out, Ext.refl _⟩
      case round =>
        clear HSA
        obtain ⟨j, s, hj, rfl, rfl, ht, hE⟩ := hrel
        have p1 := hE.out.cell_ p1
        have p2 := hE.out.cell_ p2
        have p3 := hE.out.cell_ p3
        have lP1 : P1 < wr.heap.size := cell_lt p1
        cases gk with
        | succ r =>
          have hlt : j < c.ints.length := by omega
          have hltz : (j : Int) < (c.ints.length : Int) := by omega
          have hRS := (HR.out.ext (HE1.out.trans_ hE.out)).I
          simp only at hRS
          obtain ⟨sb, so, rfl⟩ := hRS.some_ (by simp; omega)
          have o0 : wr.cell? ⟨sb, so + j, none⟩ = some (.int .i64 c.ints[j]) := hRS.at_ (by simp [hlt])
          have hsn := eachP_snoc intLine c.ints 0 j (partA c) hlt
          rw [Nat.zero_add, ← ht.out] at hsn
          obtain ⟨e1, e2⟩ := each_line intLine c.ints (partA c) j hlt
          rw [← ht.out] at e1
          have e3 : (eachP intLine 0 c.ints (partA c)).size ≤ (textC c).size := parts_le_0 c
          have hlo : sb < wr.heap.size := cell_lt o0
          obtain ⟨na1, na2⟩ := HN.out.ints _ (List.getElem_mem hlt)
          have c1 := fun W => decimal_all c.ints[j] na1 na2 W
          have z1 := decS_size c.ints[j]
          generalize hx : c.ints[j] = x at *
          have HSN := Lib.hid hsn
          have HJ := Lib.hid hj
          have hjj : j ≤ 1000000000000000000 := by omega
          have z0 := decS_size (j : Int)
          have c0 := fun W => decimal_all (j : Int) (by omega) (by omega) W
          generalize hd0 : decS (j : Int) = d0 at *
          generalize hd1 : decS x = d1 at *
          have HD0 := Lib.hid hd0
          have C0 := Lib.hid c0
          have C1 := Lib.hid c1
          have HD1 := Lib.hid hd1
          clear hRS hsn hj ht c0 c1 hx hd1 hd0 e2
          have w0 : s.size ≤ 17592186044416 := by omega
          go_upto_region 18 with fail
          have sz0 : ¬ 9223372036854775807 < s.size + 4 := by omega
          have sy0 : ¬ maxLen < s.size + 4 := by unfold maxLen; omega
          have sz1 : ¬ 9223372036854775807 < s.size + 4 + d0.size := by omega
          have sy1 : ¬ maxLen < s.size + 4 + d0.size := by unfold maxLen; omega
          have sz2 : ¬ 9223372036854775807 < s.size + 4 + d0.size + 1 := by omega
          have sy2 : ¬ maxLen < s.size + 4 + d0.size + 1 := by unfold maxLen; omega
          have sz3 : ¬ 9223372036854775807 < s.size + 4 + d0.size + 1 + d1.size := by omega
          have sy3 : ¬ maxLen < s.size + 4 + d0.size + 1 + d1.size := by unfold maxLen; omega
          have sz4 : ¬ 9223372036854775807 < s.size + 4 + d0.size + 1 + d1.size + 1 := by omega
          have sy4 : ¬ maxLen < s.size + 4 + d0.size + 1 + d1.size + 1 := by unfold maxLen; omega
          refine wp_region_held_drew (S := fun W => W.cell? ⟨P1, 1, none⟩ = some (.slice (some ⟨sb, so, none⟩) c.ints.length icp) ∧ W.cell? ⟨sb, so + j, none⟩ = some (.int .i64 x)) (by kernel_rfl) ?_ (fun hHeld => ?_)
          · exact ⟨p1, o0⟩
          refine tk 0 ⟨some 109, _, _, _, _, _⟩ ?_ rfl ?_ ?_
          rotate_left
          · (intro w hSw; (try dsimp only at hSw); go_simp; try with_reducible rfl)
          try simp only [tkS]
          refine tk 1 ⟨some 110, _, _, _, _, _⟩ ?_ rfl ?_ ?_
          rotate_left
          · (intro w hSw; (try dsimp only at hSw); go_simp; try with_reducible rfl)
          try simp only [tkS]
          refine tk 2 ⟨some 111, _, _, _, _, _⟩ ?_ rfl ?_ ?_
          rotate_left
          · (intro w hSw; (try dsimp only at hSw); go_simp; try with_reducible rfl)
          try simp only [tkS]
          refine tk 6 ⟨some 115, _, _, _, _, _⟩ ?_ rfl ?_ ?_
          rotate_left
          · (intro w hSw; (try dsimp only at hSw); go_simp; try with_reducible rfl)
          try simp only [tkS]
          refine tk 7 ⟨some 116, _, _, _, _, _⟩ ?_ rfl ?_ ?_
          rotate_left
          · (intro w hSw; (try dsimp only at hSw); go_simp; try with_reducible rfl)
          try simp only [tkS]
          refine tk 8 ⟨some 117, _, _, _, _, _⟩ ?_ rfl ?_ ?_
          rotate_left
          · (intro w hSw; (try dsimp only at hSw); go_simp; try with_reducible rfl)
          try simp only [tkS]
          refine tk 9 ⟨some 118, _, _, _, _, _⟩ ?_ rfl ?_ ?_
          rotate_left
          · (intro w hSw; (try dsimp only at hSw); go_simp; try with_reducible rfl)
          try simp only [tkS]
          refine tk 10 ⟨some 119, _, _, _, _, _⟩ ?_ rfl ?_ ?_
          rotate_left
          · (intro w hSw; (try dsimp only at hSw); go_simp; try with_reducible rfl)
          try simp only [tkS]
          refine wpAnyH_ready (rs := [3]) (by kernel_rfl) (by simp) ?_
          refine AllReadyH.cons (o := ⟨some 112, _, _, _, _, _⟩) rfl (fun K hK => ?_) AllReadyH.nil
          go_simp
          refine (C0.out _).mono ?_
          rintro e w3 ⟨rfl, hq⟩
          have HY3 : Hid (Ext wr w3) := Ext.trans_ (by first | exact Ext.refl _ | exact (Ext.refl _).drew_ | exact (Ext.refl _).drewN_ _) hq
          clear hq
          refine hK.out _ _ ?_ (fun hHeld => ?_)
          · (try dsimp only); exact ⟨HY3.out.cell_ p1, HY3.out.cell_ o0⟩
          clear hK K
          try simp only [tkS]
          refine tk 4 ⟨some 113, _, _, _, _, _⟩ ?_ rfl ?_ ?_
          rotate_left
          · (intro w hSw; (try dsimp only at hSw); go_simp; try with_reducible rfl)
          try simp only [tkS]
          refine tk 5 ⟨some 114, _, _, _, _, _⟩ ?_ rfl ?_ ?_
          rotate_left
          · (intro w hSw; (try dsimp only at hSw); go_simp; try with_reducible rfl)
          try simp only [tkS]
          refine wpAnyH_ready (rs := [11]) (by kernel_rfl) (by simp) ?_
          refine AllReadyH.cons (o := ⟨some 120, _, _, _, _, _⟩) rfl (fun K hK => ?_) AllReadyH.nil
          go_simp
          refine (C1.out _).mono ?_
          rintro e w5 ⟨rfl, hq⟩
          have HY5 : Hid (Ext wr w5) := Ext.trans_ HY3.out hq
          clear hq
          refine hK.out _ _ ?_ (fun hHeld => ?_)
          · (try dsimp only); exact ⟨HY5.out.cell_ p1, HY5.out.cell_ o0⟩
          clear hK K
          try simp only [tkS]
          refine tk 12 ⟨some 121, _, _, _, _, _⟩ ?_ rfl ?_ ?_
          rotate_left
          · (intro w hSw; (try dsimp only at hSw); go_simp; try with_reducible rfl)
          try simp only [tkS]
          refine tk 13 ⟨some 122, _, _, _, _, _⟩ ?_ rfl ?_ ?_
          rotate_left
          · (intro w hSw; (try dsimp only at hSw); go_simp; try with_reducible rfl)
          try simp only [tkS]
          refine tk 14 ⟨some 3, _, _, _, _, _⟩ ?_ rfl ?_ ?_
          rotate_left
          · (intro w hSw; (try dsimp only at hSw); go_simp; try with_reducible rfl)
          try simp only [tkS]
          refine wpAnyH_done (by kernel_rfl) ?_ _
          clear hHeld
          clear sz0 sy0 sz1 sy1 sz2 sy2 sz3 sy3 sz4 sy4
          rw [two_txt s ⟨#[105, 110, 116]⟩ d0 d1 ⟨#[105, 110, 116, 32]⟩ rfl]
          go_wp2
          go_roundg r
          case measure => omega
          case rel => exact ⟨j + 1, _, by have := HJ.out; omega, rfl, by go_num, by unfold Hid; rw [HSN.out]; unfold intLine; rw [HD1.out, HD0.out], hE.out.trans_ HY5.out⟩
        | zero =>
          obtain rfl : j = c.ints.length := by omega
          have hltz : ¬ ((c.ints.length : Nat) : Int) < (c.ints.length : Int) := by omega
          have hsA : s = partB c := by rw [ht.out, List.take_length]; rfl
          have HSA := Lib.hid hsA
          clear ht hj hsA
          go_upto_region 20 with fail
          obtain ⟨wo2, hwo⟩ : ∃ wo2, wo2 = wr := ⟨_, rfl⟩
          rw [← hwo] at hE p1 p2 p3 lP1 ⊢
          have HE2 := Lib.hid (HE1.out.trans_ hE.out)
          clear hwo hE p1
          go_loopg [3, 12] (c.strs.length) (fun r q i wr => ∃ (j : Nat) (t : ByteArray), j + r = c.strs.length ∧ q = .string t ∧ i = .int .i64 (j : Int) ∧ Hid (t = eachP strLine 0 (c.strs.take j) (partB c)) ∧ Hid (Ext wo2 wr))
          case atStart => exact ⟨0, s, by omega, rfl, rfl, HSA.out, Ext.refl _⟩
          case round =>
            clear HSA
            obtain ⟨j, s, hj, rfl, rfl, ht, hE⟩ := hrel
            have p2 := hE.out.cell_ p2
            have p3 := hE.out.cell_ p3
            have lP1 : P1 < wr.heap.size := cell_lt p2
            cases gk with
            | succ r =>
              have hlt : j < c.strs.length := by omega
              have hltz : (j : Int) < (c.strs.length : Int) := by omega
              have hRS := (HR.out.ext (HE2.out.trans_ hE.out)).S
              simp only at hRS
              obtain ⟨sb, so, rfl⟩ := hRS.some_ (by simp; omega)
              have o0 : wr.cell? ⟨sb, so + j, none⟩ = some (.string c.strs[j]) := hRS.at_ (by simp [hlt])
              have hsn := eachP_snoc strLine c.strs 0 j (partB c) hlt
              rw [Nat.zero_add, ← ht.out] at hsn
              obtain ⟨e1, e2⟩ := each_line strLine c.strs (partB c) j hlt
              rw [← ht.out] at e1
              have e3 : (eachP strLine 0 c.strs (partB c)).size ≤ (textC c).size := parts_le_1 c
              have hlo : sb < wr.heap.size := cell_lt o0
              have hxz := str_small j c.strs[j]
              have hxt : c.strs[j].size ≤ 17592186044416 := by omega
              have c1 := fun W => quotedR_any c.strs[j] W hxt
              have z1 := quotedP_size c.strs[j]
              generalize hx : c.strs[j] = x at *
              have HSN := Lib.hid hsn
              have HJ := Lib.hid hj
              have hjj : j ≤ 1000000000000000000 := by omega
              have z0 := decS_size (j : Int)
              have c0 := fun W => decimal_all (j : Int) (by omega) (by omega) W
              generalize hd0 : decS (j : Int) = d0 at *
              generalize hd1 : quotedP x = d1 at *
              have HD0 := Lib.hid hd0
              have C0 := Lib.hid c0
              have C1 := Lib.hid c1
              have HD1 := Lib.hid hd1
              clear hRS hsn hj ht c0 c1 hx hd1 hd0 e2
              have w0 : s.size ≤ 17592186044416 := by omega
              go_upto_region 22 with fail
              have sz0 : ¬ 9223372036854775807 < s.size + 4 := by omega
              have sy0 : ¬ maxLen < s.size + 4 := by unfold maxLen; omega
              have sz1 : ¬ 9223372036854775807 < s.size + 4 + d0.size := by omega
              have sy1 : ¬ maxLen < s.size + 4 + d0.size := by unfold maxLen; omega
              have sz2 : ¬ 9223372036854775807 < s.size + 4 + d0.size + 1 := by omega
              have sy2 : ¬ maxLen < s.size + 4 + d0.size + 1 := by unfold maxLen; omega
              have sz3 : ¬ 9223372036854775807 < s.size + 4 + d0.size + 1 + d1.size := by omega
              have sy3 : ¬ maxLen < s.size + 4 + d0.size + 1 + d1.size := by unfold maxLen; omega
              have sz4 : ¬ 9223372036854775807 < s.size + 4 + d0.size + 1 + d1.size + 1 := by omega
              have sy4 : ¬ maxLen < s.size + 4 + d0.size + 1 + d1.size + 1 := by unfold maxLen; omega
              refine wp_region_held_drew (S := fun W => W.cell? ⟨P1, 2, none⟩ = some (.slice (some ⟨sb, so, none⟩) c.strs.length scp) ∧ W.cell? ⟨sb, so + j, none⟩ = some (.string x)) (by kernel_rfl) ?_ (fun hHeld => ?_)
              · exact ⟨p2, o0⟩
              refine tk 0 ⟨some 130, _, _, _, _, _⟩ ?_ rfl ?_ ?_
              rotate_left
              · (intro w hSw; (try dsimp only at hSw); go_simp; try with_reducible rfl)
              try simp only [tkS]
              refine tk 1 ⟨some 131, _, _, _, _, _⟩ ?_ rfl ?_ ?_
              rotate_left
              · (intro w hSw; (try dsimp only at hSw); go_simp; try with_reducible rfl)
              try simp only [tkS]
              refine tk 2 ⟨some 132, _, _, _, _, _⟩ ?_ rfl ?_ ?_
              rotate_left
              · (intro w hSw; (try dsimp only at hSw); go_simp; try with_reducible rfl)
              try simp only [tkS]
              refine tk 6 ⟨some 136, _, _, _, _, _⟩ ?_ rfl ?_ ?_
              rotate_left
              · (intro w hSw; (try dsimp only at hSw); go_simp; try with_reducible rfl)
              try simp only [tkS]
              refine tk 7 ⟨some 137, _, _, _, _, _⟩ ?_ rfl ?_ ?_
              rotate_left
              · (intro w hSw; (try dsimp only at hSw); go_simp; try with_reducible rfl)
              try simp only [tkS]
              refine tk 8 ⟨some 138, _, _, _, _, _⟩ ?_ rfl ?_ ?_
              rotate_left
              · (intro w hSw; (try dsimp only at hSw); go_simp; try with_reducible rfl)
              try simp only [tkS]
              refine tk 9 ⟨some 139, _, _, _, _, _⟩ ?_ rfl ?_ ?_
              rotate_left
              · (intro w hSw; (try dsimp only at hSw); go_simp; try with_reducible rfl)
              try simp only [tkS]
              refine tk 10 ⟨some 140, _, _, _, _, _⟩ ?_ rfl ?_ ?_
              rotate_left
              · (intro w hSw; (try dsimp only at hSw); go_simp; try with_reducible rfl)
              try simp only [tkS]
              refine wpAnyH_ready (rs := [3]) (by kernel_rfl) (by simp) ?_
              refine AllReadyH.cons (o := ⟨some 133, _, _, _, _, _⟩) rfl (fun K hK => ?_) AllReadyH.nil
              go_simp
              refine (C0.out _).mono ?_
              rintro e w3 ⟨rfl, hq⟩
              have HY3 : Hid (Ext wr w3) := Ext.trans_ (by first | exact Ext.refl _ | exact (Ext.refl _).drew_ | exact (Ext.refl _).drewN_ _) hq
              clear hq
              refine hK.out _ _ ?_ (fun hHeld => ?_)
              · (try dsimp only); exact ⟨HY3.out.cell_ p2, HY3.out.cell_ o0⟩
              clear hK K
              try simp only [tkS]
              refine tk 4 ⟨some 134, _, _, _, _, _⟩ ?_ rfl ?_ ?_
              rotate_left
              · (intro w hSw; (try dsimp only at hSw); go_simp; try with_reducible rfl)
              try simp only [tkS]
              refine tk 5 ⟨some 135, _, _, _, _, _⟩ ?_ rfl ?_ ?_
              rotate_left
              · (intro w hSw; (try dsimp only at hSw); go_simp; try with_reducible rfl)
              try simp only [tkS]
              refine wpAnyH_ready (rs := [11]) (by kernel_rfl) (by simp) ?_
              refine AllReadyH.cons (o := ⟨some 141, _, _, _, _, _⟩) rfl (fun K hK => ?_) AllReadyH.nil
              go_simp
              refine (C1.out _).mono ?_
              rintro e w5 ⟨rfl, hq⟩
              have HY5 : Hid (Ext wr w5) := Ext.trans_ HY3.out hq
              clear hq
              refine hK.out _ _ ?_ (fun hHeld => ?_)
              · (try dsimp only); exact ⟨HY5.out.cell_ p2, HY5.out.cell_ o0⟩
              clear hK K
              try simp only [tkS]
              refine tk 12 ⟨some 142, _, _, _, _, _⟩ ?_ rfl ?_ ?_
              rotate_left
              · (intro w hSw; (try dsimp only at hSw); go_simp; try with_reducible rfl)
              try simp only [tkS]
              refine tk 13 ⟨some 143, _, _, _, _, _⟩ ?_ rfl ?_ ?_
              rotate_left
              · (intro w hSw; (try dsimp only at hSw); go_simp; try with_reducible rfl)
              try simp only [tkS]
              refine tk 14 ⟨some 3, _, _, _, _, _⟩ ?_ rfl ?_ ?_
              rotate_left
              · (intro w hSw; (try dsimp only at hSw); go_simp; try with_reducible rfl)
              try simp only [tkS]
              refine wpAnyH_done (by kernel_rfl) ?_ _
              clear hHeld
              clear sz0 sy0 sz1 sy1 sz2 sy2 sz3 sy3 sz4 sy4
              rw [two_txt s ⟨#[115, 116, 114]⟩ d0 d1 ⟨#[115, 116, 114, 32]⟩ rfl]
              go_wp2
              go_roundg r
              case measure => omega
              case rel => exact ⟨j + 1, _, by have := HJ.out; omega, rfl, by go_num, by unfold Hid; rw [HSN.out]; unfold strLine; rw [HD1.out, HD0.out], hE.out.trans_ HY5.out⟩
            | zero =>
              obtain rfl : j = c.strs.length := by omega
              have hltz : ¬ ((c.strs.length : Nat) : Int) < (c.strs.length : Int) := by omega
              have hsA : s = partC c := by rw [ht.out, List.take_length]; rfl
              have HSA := Lib.hid hsA
              clear ht hj hsA
              go_upto_region 24 with fail
              obtain ⟨wo3, hwo⟩ : ∃ wo3, wo3 = wr := ⟨_, rfl⟩
              rw [← hwo] at hE p2 p3 lP1 ⊢
              have HE3 := Lib.hid (HE2.out.trans_ hE.out)
              clear hwo hE p2
              go_loopg [3, 13] (c.names.length) (fun r q i wr => ∃ (j : Nat) (t : ByteArray), j + r = c.names.length ∧ q = .string t ∧ i = .int .i64 (j : Int) ∧ Hid (t = eachP nameLine 0 (c.names.take j) (partC c)) ∧ Hid (Ext wo3 wr))
              case atStart => exact ⟨0, s, by omega, rfl, rfl, HSA.out, Ext.refl _⟩
              case round =>
                clear HSA
                obtain ⟨j, s, hj, rfl, rfl, ht, hE⟩ := hrel
                have p3 := hE.out.cell_ p3
                have lP1 : P1 < wr.heap.size := cell_lt p3
                cases gk with
                | succ r =>
                  have hlt : j < c.names.length := by omega
                  have hltz : (j : Int) < (c.names.length : Int) := by omega
                  have hRS := (HR.out.ext (HE3.out.trans_ hE.out)).N
                  simp only at hRS
                  obtain ⟨sb, so, rfl⟩ := hRS.some_ (by simp; omega)
                  have o0 : wr.cell? ⟨sb, so + j, none⟩ = some (.string c.names[j]) := hRS.at_ (by simp [hlt])
                  have hsn := eachP_snoc nameLine c.names 0 j (partC c) hlt
                  rw [Nat.zero_add, ← ht.out] at hsn
                  obtain ⟨e1, e2⟩ := each_line nameLine c.names (partC c) j hlt
                  rw [← ht.out] at e1
                  have e3 : (eachP nameLine 0 c.names (partC c)).size ≤ (textC c).size := Nat.le_refl _
                  have hlo : sb < wr.heap.size := cell_lt o0
                  have hxz := name_small j c.names[j]
                  have hxt : c.names[j].size ≤ 17592186044416 := by omega
                  have c1 : ∀ W, Calls Tryd.prog 27 #[.string c.names[j]] W fun e w' => e = .returned (.string (dashP c.names[j])) ∧ w' = W := fun W => dash_any c.names[j] W
                  have z1 := dash_size c.names[j]
                  generalize hx : c.names[j] = x at *
                  have HSN := Lib.hid hsn
                  have HJ := Lib.hid hj
                  have hjj : j ≤ 1000000000000000000 := by omega
                  have z0 := decS_size (j : Int)
                  have c0 := fun W => decimal_all (j : Int) (by omega) (by omega) W
                  generalize hd0 : decS (j : Int) = d0 at *
                  generalize hd1 : dashP x = d1 at *
                  have HD0 := Lib.hid hd0
                  have C0 := Lib.hid c0
                  have C1 := Lib.hid c1
                  have HD1 := Lib.hid hd1
                  clear hRS hsn hj ht c0 c1 hx hd1 hd0 e2
                  have w0 : s.size ≤ 17592186044416 := by omega
                  go_upto_region 26 with fail
                  have sz0 : ¬ 9223372036854775807 < s.size + 5 := by omega
                  have sy0 : ¬ maxLen < s.size + 5 := by unfold maxLen; omega
                  have sz1 : ¬ 9223372036854775807 < s.size + 5 + d0.size := by omega
                  have sy1 : ¬ maxLen < s.size + 5 + d0.size := by unfold maxLen; omega
                  have sz2 : ¬ 9223372036854775807 < s.size + 5 + d0.size + 1 := by omega
                  have sy2 : ¬ maxLen < s.size + 5 + d0.size + 1 := by unfold maxLen; omega
                  have sz3 : ¬ 9223372036854775807 < s.size + 5 + d0.size + 1 + d1.size := by omega
                  have sy3 : ¬ maxLen < s.size + 5 + d0.size + 1 + d1.size := by unfold maxLen; omega
                  have sz4 : ¬ 9223372036854775807 < s.size + 5 + d0.size + 1 + d1.size + 1 := by omega
                  have sy4 : ¬ maxLen < s.size + 5 + d0.size + 1 + d1.size + 1 := by unfold maxLen; omega
                  refine wp_region_held_drew (S := fun W => W.cell? ⟨P1, 3, none⟩ = some (.slice (some ⟨sb, so, none⟩) c.names.length ncp) ∧ W.cell? ⟨sb, so + j, none⟩ = some (.string x)) (by kernel_rfl) ?_ (fun hHeld => ?_)
                  · exact ⟨p3, o0⟩
                  refine tk 0 ⟨some 151, _, _, _, _, _⟩ ?_ rfl ?_ ?_
                  rotate_left
                  · (intro w hSw; (try dsimp only at hSw); go_simp; try with_reducible rfl)
                  try simp only [tkS]
                  refine tk 1 ⟨some 152, _, _, _, _, _⟩ ?_ rfl ?_ ?_
                  rotate_left
                  · (intro w hSw; (try dsimp only at hSw); go_simp; try with_reducible rfl)
                  try simp only [tkS]
                  refine tk 2 ⟨some 153, _, _, _, _, _⟩ ?_ rfl ?_ ?_
                  rotate_left
                  · (intro w hSw; (try dsimp only at hSw); go_simp; try with_reducible rfl)
                  try simp only [tkS]
                  refine tk 6 ⟨some 157, _, _, _, _, _⟩ ?_ rfl ?_ ?_
                  rotate_left
                  · (intro w hSw; (try dsimp only at hSw); go_simp; try with_reducible rfl)
                  try simp only [tkS]
                  refine tk 7 ⟨some 158, _, _, _, _, _⟩ ?_ rfl ?_ ?_
                  rotate_left
                  · (intro w hSw; (try dsimp only at hSw); go_simp; try with_reducible rfl)
                  try simp only [tkS]
                  refine tk 8 ⟨some 159, _, _, _, _, _⟩ ?_ rfl ?_ ?_
                  rotate_left
                  · (intro w hSw; (try dsimp only at hSw); go_simp; try with_reducible rfl)
                  try simp only [tkS]
                  refine tk 9 ⟨some 160, _, _, _, _, _⟩ ?_ rfl ?_ ?_
                  rotate_left
                  · (intro w hSw; (try dsimp only at hSw); go_simp; try with_reducible rfl)
                  try simp only [tkS]
                  refine tk 10 ⟨some 161, _, _, _, _, _⟩ ?_ rfl ?_ ?_
                  rotate_left
                  · (intro w hSw; (try dsimp only at hSw); go_simp; try with_reducible rfl)
                  try simp only [tkS]
                  refine wpAnyH_ready (rs := [3]) (by kernel_rfl) (by simp) ?_
                  refine AllReadyH.cons (o := ⟨some 154, _, _, _, _, _⟩) rfl (fun K hK => ?_) AllReadyH.nil
                  go_simp
                  refine (C0.out _).mono ?_
                  rintro e w3 ⟨rfl, hq⟩
                  have HY3 : Hid (Ext wr w3) := Ext.trans_ (by first | exact Ext.refl _ | exact (Ext.refl _).drew_ | exact (Ext.refl _).drewN_ _) hq
                  clear hq
                  refine hK.out _ _ ?_ (fun hHeld => ?_)
                  · (try dsimp only); exact ⟨HY3.out.cell_ p3, HY3.out.cell_ o0⟩
                  clear hK K
                  try simp only [tkS]
                  refine tk 4 ⟨some 155, _, _, _, _, _⟩ ?_ rfl ?_ ?_
                  rotate_left
                  · (intro w hSw; (try dsimp only at hSw); go_simp; try with_reducible rfl)
                  try simp only [tkS]
                  refine tk 5 ⟨some 156, _, _, _, _, _⟩ ?_ rfl ?_ ?_
                  rotate_left
                  · (intro w hSw; (try dsimp only at hSw); go_simp; try with_reducible rfl)
                  try simp only [tkS]
                  refine wpAnyH_ready (rs := [11]) (by kernel_rfl) (by simp) ?_
                  refine AllReadyH.cons (o := ⟨some 162, _, _, _, _, _⟩) rfl (fun K hK => ?_) AllReadyH.nil
                  go_simp
                  refine (C1.out _).mono ?_
                  rintro e w5 ⟨rfl, hq⟩
                  subst hq
                  refine hK.out _ _ ?_ (fun hHeld => ?_)
                  · (try dsimp only); exact ⟨HY3.out.cell_ p3, HY3.out.cell_ o0⟩
                  clear hK K
                  try simp only [tkS]
                  refine tk 12 ⟨some 163, _, _, _, _, _⟩ ?_ rfl ?_ ?_
                  rotate_left
                  · (intro w hSw; (try dsimp only at hSw); go_simp; try with_reducible rfl)
                  try simp only [tkS]
                  refine tk 13 ⟨some 164, _, _, _, _, _⟩ ?_ rfl ?_ ?_
                  rotate_left
                  · (intro w hSw; (try dsimp only at hSw); go_simp; try with_reducible rfl)
                  try simp only [tkS]
                  refine tk 14 ⟨some 3, _, _, _, _, _⟩ ?_ rfl ?_ ?_
                  rotate_left
                  · (intro w hSw; (try dsimp only at hSw); go_simp; try with_reducible rfl)
                  try simp only [tkS]
                  refine wpAnyH_done (by kernel_rfl) ?_ _
                  clear hHeld
                  clear sz0 sy0 sz1 sy1 sz2 sy2 sz3 sy3 sz4 sy4
                  rw [two_txt s ⟨#[110, 97, 109, 101]⟩ d0 d1 ⟨#[110, 97, 109, 101, 32]⟩ rfl]
                  go_wp2
                  go_roundg r
                  case measure => omega
                  case rel => exact ⟨j + 1, _, by have := HJ.out; omega, rfl, by go_num, by unfold Hid; rw [HSN.out]; unfold nameLine; rw [HD1.out, HD0.out], hE.out.trans_ HY3.out⟩
                | zero =>
                  obtain rfl : j = c.names.length := by omega
                  have hltz : ¬ ((c.names.length : Nat) : Int) < (c.names.length : Int) := by omega
                  have hsA : s = textC c := by rw [ht.out, List.take_length]; rfl
                  have HSA := Lib.hid hsA
                  clear ht hj hsA
                  obtain rfl : RES = s := by rw [HRES.out, HSA.out]
                  clear HSA HRES
                  go_wp2
                  go_ret
                  exact ⟨rfl, HE3.out.trans_ hE.out⟩
end Go.Proofs.YtgjjkllngopboaaDoor
