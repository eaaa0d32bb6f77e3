/- How large code's text is. -/
import Derived.Test.YtgjjkllngopboaaDoorJCf02
import Derived.Test.YtgjjkllngopboaaDoorJCc01
import Derived.Test.YtgjjkllngopboaaDoorJCc02
import Derived.Test.YtgjjkllngopboaaDoorJCa21
import Derived.Test.YtgjjkllngopboaaDoorJCd09
namespace Go.Proofs.YtgjjkllngopboaaDoor
open Go.RowKit
set_option linter.unusedVariables false
set_option linter.unusedSimpArgs false

theorem each_size {α : Type} (g : Nat → α → ByteArray) (B : α → Nat) : ∀ (l : List α) (i : Nat) (out : ByteArray), (∀ i, ∀ x ∈ l, (g i x).size ≤ B x) → (eachP g i l out).size ≤ out.size + (l.map B).sum
  | [], _, out, _ => by simp [eachP]
  | x :: l, i, out, h => by
    have h1 := each_size g B l (i + 1) (out ++ g i x) fun j y hy => h j y (by simp [hy])
    have h2 := h i x (by simp)
    simp only [eachP, List.map_cons, List.sum_cons]
    rw [ByteArray.size_append] at h1
    omega
theorem opLine_size (k : Nat) (op : OpP) : (opLine k op).size ≤ op.name.size + 80 := by
  have z0 := decS_size (k : Int)
  have z1 := decS_size op.a
  have e1 : (⟨#[32]⟩ : ByteArray).size = 1 := rfl
  have e2 : (⟨#[10]⟩ : ByteArray).size = 1 := rfl
  unfold opLine
  split
  · unfold lineP; simp only [joinP, ByteArray.size_append, e1, e2]; omega
  · unfold lineP; simp only [joinP, ByteArray.size_append, e1, e2]; omega
theorem fnLine_size (i : Nat) (f : FnP) : (fnLine i f).size ≤ f.name.size + 200 := by
  have z0 := decS_size (i : Int)
  have z1 := decS_size f.params
  have z2 := decS_size f.locals
  have z3 := decS_size f.cells
  have z4 := decS_size f.frees
  have z5 := dash_size f.name
  have e1 : (⟨#[32]⟩ : ByteArray).size = 1 := rfl
  have e2 : (⟨#[10]⟩ : ByteArray).size = 1 := rfl
  have e3 : (⟨#[102, 117, 110, 99]⟩ : ByteArray).size = 4 := rfl
  unfold fnLine lineP
  simp only [joinP, ByteArray.size_append, e1, e2, e3]
  omega
theorem intLine_size (i : Nat) (x : Int) : (intLine i x).size ≤ 300 := by
  have z0 := decS_size (i : Int)
  have z1 := decS_size x
  have e1 : (⟨#[32]⟩ : ByteArray).size = 1 := rfl
  have e2 : (⟨#[10]⟩ : ByteArray).size = 1 := rfl
  have e3 : (⟨#[105, 110, 116]⟩ : ByteArray).size = 3 := rfl
  unfold intLine lineP
  simp only [joinP, ByteArray.size_append, e1, e2, e3]
  omega
theorem strLine_size (i : Nat) (x : ByteArray) : (strLine i x).size ≤ 300 * (x.size + 1) := by
  have z0 := decS_size (i : Int)
  have z1 := quotedP_size x
  have e1 : (⟨#[32]⟩ : ByteArray).size = 1 := rfl
  have e2 : (⟨#[10]⟩ : ByteArray).size = 1 := rfl
  have e3 : (⟨#[115, 116, 114]⟩ : ByteArray).size = 3 := rfl
  unfold strLine lineP
  simp only [joinP, ByteArray.size_append, e1, e2, e3]
  omega
theorem nameLine_size (i : Nat) (x : ByteArray) : (nameLine i x).size ≤ 300 * (x.size + 1) := by
  have z0 := decS_size (i : Int)
  have z1 := dash_size x
  have e1 : (⟨#[32]⟩ : ByteArray).size = 1 := rfl
  have e2 : (⟨#[10]⟩ : ByteArray).size = 1 := rfl
  have e3 : (⟨#[110, 97, 109, 101]⟩ : ByteArray).size = 4 := rfl
  unfold nameLine lineP
  simp only [joinP, ByteArray.size_append, e1, e2, e3]
  omega
theorem sum_le {α : Type} (f g : α → Nat) (h : ∀ x, f x ≤ 300 * g x) : ∀ l : List α, (l.map f).sum ≤ 300 * (l.map g).sum
  | [] => by simp
  | x :: l => by
    have h1 := sum_le f g h l
    have h2 := h x
    simp only [List.map_cons, List.sum_cons]
    omega
theorem fns_size : ∀ (l : List FnP) (i : Nat) (out : ByteArray), (fnsP i l out).size ≤ out.size + 300 * (l.map bulkF).sum
  | [], _, out => by simp [fnsP]
  | f :: l, i, out => by
    have h1 := fns_size l (i + 1) (opsP 0 f.ops (out ++ fnLine i f))
    have h2 := each_size opLine (fun o => o.name.size + 80) f.ops 0 (out ++ fnLine i f) fun j x _ => opLine_size j x
    rw [← opsP_each, ByteArray.size_append] at h2
    have h3 := fnLine_size i f
    have h4 := sum_le (fun o : OpP => o.name.size + 80) (fun o => o.name.size + 2) (fun o => by omega) f.ops
    simp only [fnsP, List.map_cons, List.sum_cons, bulkF]
    omega
theorem text_size (c : CodeP) : (textC c).size ≤ 300 * bulkC c := by
  have h1 := each_size nameLine (fun x => 300 * (x.size + 1)) c.names 0 (partC c) fun j x _ => nameLine_size j x
  have h2 := each_size strLine (fun x => 300 * (x.size + 1)) c.strs 0 (partB c) fun j x _ => strLine_size j x
  have h3 := each_size intLine (fun x => 300) c.ints 0 (partA c) fun j x _ => intLine_size j x
  have h4 := fns_size c.funcs 0 ⟨#[]⟩
  have h5 := sum_le (fun x : ByteArray => 300 * (x.size + 1)) (fun x => x.size + 1) (fun x => Nat.le_refl _) c.names
  have h6 := sum_le (fun x : ByteArray => 300 * (x.size + 1)) (fun x => x.size + 1) (fun x => Nat.le_refl _) c.strs
  have h7 : (c.ints.map fun _ => 300).sum = 300 * c.ints.length := by
    rw [List.map_const']
    simp [Nat.mul_comm]
  have e0 : (⟨#[]⟩ : ByteArray).size = 0 := rfl
  have a1 : eachP nameLine 0 c.names (partC c) = textC c := rfl
  have a2 : eachP strLine 0 c.strs (partB c) = partC c := rfl
  have a3 : eachP intLine 0 c.ints (partA c) = partB c := rfl
  have a4 : fnsP 0 c.funcs ⟨#[]⟩ = partA c := rfl
  rw [a1] at h1
  rw [a2] at h2
  rw [a3] at h3
  rw [a4] at h4
  unfold bulkC
  omega
set_option maxRecDepth 100000 in
set_option maxHeartbeats 8000000 in
theorem codeTexts_any (c : CodeP) (V : CodeV) (w : World) (hR : RCodeR w c V) (hZ : SizedC c) (hN : Nums64 c) (hB : bulkC c ≤ 1048576) (gb gs : Addr) (hgb : GBound w gb) (hgs : GShape w gs) (hP : Pow w) :
    Calls Tryd.prog 3 #[codeV c V] w fun e w' => e = .returned (.bool true) ∧ Ext w w' := by
  have hts : (textC c).size ≤ 17592186044416 := by have := text_size c; omega
  have hh := fun W (hx : Ext w W) => halt_walk _ _ W (hx.cell_ hgb) (hx.cell_ hgs) (hP.ext hx)
  have HH := Lib.hid hh
  have HP := Lib.hid hP
  have hta := fun W (hx : Ext w W) => tame_any c V W (hR.ext hx) hZ
  have hco := fun (ht : tameB c = true) W (hx : Ext w W) => codeOf_any c V W (hR.ext hx) hZ (tame_count ht).2.2.1 (tame_count ht).2.1 (tame_count ht).1
  have hct := fun (ht : tameB c = true) W (hx : Ext w W) => codeText_walk c V W ((hR.ext hx).full (tame_count ht).1) hN hts
  have hcu := fun (ht : tameB c = true) W (hx : Ext w W) => countOf_any c V W ((hR.ext hx).full (tame_count ht).1)
  have htx : ∀ W V2, RCode W c V2 → Ext w W → Calls Tryd.prog 8 #[codeV c V2] W fun e w' => e = .returned (.string (textC c)) ∧ Ext W w' := fun W V2 hr hx => text_walk c V2 W hr (hP.ext hx) hN hts
  obtain ⟨⟨fa, fcp⟩, ⟨ia, icp⟩, ⟨sa, scp⟩, ⟨na, ncp⟩, fs⟩ := V
  unfold codeV at hta hco hct hcu ⊢
  simp only at hta hco hct hcu ⊢
  have HTA := Lib.hid hta
  have HCO := Lib.hid hco
  have HCT := Lib.hid hct
  have HCU := Lib.hid hcu
  have HTX := Lib.hid htx
  clear hR hZ hN hP hh hta hco hct hcu htx hgb hgs hB hts
  go_enter Tryd.func3, Tryd.ntmps3
  go_upto_region 1 with fail
  obtain ⟨P1, hP1⟩ : ∃ P1, P1 = w.heap.size := ⟨_, rfl⟩
  refine namedW (fun w1 hw1 => ?_)
  have p0 : w1.cell? ⟨P1, 0, none⟩ = some (.slice fa c.funcs.length fcp) := by rw [hw1, hP1]; simp [go_sem]
  have p1 : w1.cell? ⟨P1, 1, none⟩ = some (.slice ia c.ints.length icp) := by rw [hw1, hP1]; simp [go_sem]
  have p2 : w1.cell? ⟨P1, 2, none⟩ = some (.slice sa c.strs.length scp) := by rw [hw1, hP1]; simp [go_sem]
  have p3 : w1.cell? ⟨P1, 3, none⟩ = some (.slice na c.names.length ncp) := by rw [hw1, hP1]; simp [go_sem]
  have hX1 : Ext w w1 := by rw [hw1]; exact (Ext.refl w).alloc_ _
  rw [← hP1]
  have HX1 := Lib.hid hX1
  clear hw1 hP1 hX1
  go_upto_region 2 with (go_at_call 6; refine (HH.out _ HX1.out).mono ?_; rintro e w2 ⟨rfl, hq⟩; have HX2 := Lib.hid (HX1.out.trans_ hq); have p0 := hq.cell_ p0; have p1 := hq.cell_ p1; have p2 := hq.cell_ p2; have p3 := hq.cell_ p3; clear hq)
  have lP : P1 < w2.heap.size := cell_lt p0
  cases ht : tameB c with
  | false =>
    rw [ht] at HTA
    clear ht
    go_wp2_with (go_at_call 7; refine (HTA.out _ HX2.out).mono ?_; rintro e w3 ⟨rfl, hq⟩; have HX3 := Lib.hid (HX2.out.trans_ hq); clear hq)
    go_ret
    exact ⟨rfl, HX3.out⟩
  | true =>
    have HC2 := Lib.hid (HCO.out ht)
    have HT2 := Lib.hid (HCT.out ht)
    have HU2 := Lib.hid (HCU.out ht)
    rw [ht] at HTA
    clear ht
    go_upto_region 4 with (go_at_call 7; refine (HTA.out _ HX2.out).mono ?_; rintro e w3 ⟨rfl, hq⟩; have HX3 := Lib.hid (HX2.out.trans_ hq); have p0 := hq.cell_ p0; have p1 := hq.cell_ p1; have p2 := hq.cell_ p2; have p3 := hq.cell_ p3; clear hq)
    have lP : P1 < w3.heap.size := cell_lt p0
    generalize textC c = tx at *
    refine wp_region_held_drew (S := fun W => W.cell? ⟨P1, 0, none⟩ = some (.slice fa c.funcs.length fcp) ∧ W.cell? ⟨P1, 1, none⟩ = some (.slice ia c.ints.length icp) ∧ W.cell? ⟨P1, 2, none⟩ = some (.slice sa c.strs.length scp) ∧ W.cell? ⟨P1, 3, none⟩ = some (.slice na c.names.length ncp)) (by kernel_rfl) ?_ (fun hHeld => ?_)
    · exact ⟨p0, p1, p2, p3⟩
    refine tk 0 ⟨some 13, _, _, _, _, _⟩ ?_ rfl ?_ ?_
    rotate_left
    · (intro w hSw; (try dsimp only at hSw); go_simp; try with_reducible rfl)
    try simp only [tkS]
    refine tk 3 ⟨some 16, _, _, _, _, _⟩ ?_ rfl ?_ ?_
    rotate_left
    · (intro w hSw; (try dsimp only at hSw); go_simp; try with_reducible rfl)
    try simp only [tkS]
    refine wpAnyH_ready (rs := [1]) (by kernel_rfl) (by simp) ?_
    refine AllReadyH.cons (o := ⟨some 14, _, _, _, _, _⟩) rfl (fun K hK => ?_) AllReadyH.nil
    go_simp
    refine (HC2.out _ (HX3.out.trans_ (by first | exact Ext.refl _ | exact (Ext.refl _).drew_ | exact (Ext.refl _).drewN_ _))).mono ?_
    rintro e w4 ⟨V2, rfl, hR4, hE4, hin4⟩
    have HX4 : Hid (Ext w3 w4) := Ext.trans_ (by first | exact Ext.refl _ | exact (Ext.refl _).drew_ | exact (Ext.refl _).drewN_ _) hE4
    have HR4 := Lib.hid hR4
    clear hR4 hE4 hin4
    refine hK.out _ _ ?_ (fun hHeld => ?_)
    · (try dsimp only); exact ⟨HX4.out.cell_ p0, HX4.out.cell_ p1, HX4.out.cell_ p2, HX4.out.cell_ p3⟩
    clear hK K
    try simp only [tkS]
    refine wpAnyH_ready (rs := [2]) (by kernel_rfl) (by simp) ?_
    refine AllReadyH.cons (o := ⟨some 15, _, _, _, _, _⟩) rfl (fun K hK => ?_) AllReadyH.nil
    go_simp
    refine (HTX.out _ V2 HR4.out (HX3.out.trans_ HX4.out)).mono ?_
    rintro e w5 ⟨rfl, hE5⟩
    have HX5 := Lib.hid (HX4.out.trans_ hE5)
    clear hE5
    refine hK.out _ _ ?_ (fun hHeld => ?_)
    · (try dsimp only); exact ⟨HX5.out.cell_ p0, HX5.out.cell_ p1, HX5.out.cell_ p2, HX5.out.cell_ p3⟩
    clear hK K
    try simp only [tkS]
    refine wpAnyH_ready (rs := [4]) (by kernel_rfl) (by simp) ?_
    refine AllReadyH.cons (o := ⟨some 17, _, _, _, _, _⟩) rfl (fun K hK => ?_) AllReadyH.nil
    go_simp
    refine (HT2.out _ (HX3.out.trans_ HX5.out)).mono ?_
    rintro e w6 ⟨rfl, hE6⟩
    have HX6 := Lib.hid (HX5.out.trans_ hE6)
    clear hE6
    refine hK.out _ _ ?_ (fun hHeld => ?_)
    · (try dsimp only); exact ⟨HX6.out.cell_ p0, HX6.out.cell_ p1, HX6.out.cell_ p2, HX6.out.cell_ p3⟩
    clear hK K
    try simp only [tkS]
    refine tk 5 ⟨some 18, _, _, _, _, _⟩ ?_ rfl ?_ ?_
    rotate_left
    · (intro w hSw; (try dsimp only at hSw); go_simp; try with_reducible rfl)
    try simp only [tkS]
    refine tk 6 ⟨some 19, _, _, _, _, _⟩ ?_ rfl ?_ ?_
    rotate_left
    · (intro w hSw; (try dsimp only at hSw); go_simp; try with_reducible rfl)
    try simp only [tkS]
    refine tk 7 ⟨some 20, _, _, _, _, _⟩ ?_ rfl ?_ ?_
    rotate_left
    · (intro w hSw; (try dsimp only at hSw); go_simp; try with_reducible rfl)
    try simp only [tkS]
    refine tk 10 ⟨some 23, _, _, _, _, _⟩ ?_ rfl ?_ ?_
    rotate_left
    · (intro w hSw; (try dsimp only at hSw); go_simp; try with_reducible rfl)
    try simp only [tkS]
    refine wpAnyH_ready (rs := [8]) (by kernel_rfl) (by simp) ?_
    refine AllReadyH.cons (o := ⟨some 21, _, _, _, _, _⟩) rfl (fun K hK => ?_) AllReadyH.nil
    go_simp
    refine (HC2.out _ (HX3.out.trans_ HX6.out)).mono ?_
    rintro e w7 ⟨V3, rfl, hR7, hE7, hin7⟩
    have HX7 := Lib.hid (HX6.out.trans_ hE7)
    have HR7 := Lib.hid hR7
    clear hR7 hE7 hin7
    refine hK.out _ _ ?_ (fun hHeld => ?_)
    · (try dsimp only); exact ⟨HX7.out.cell_ p0, HX7.out.cell_ p1, HX7.out.cell_ p2, HX7.out.cell_ p3⟩
    clear hK K
    try simp only [tkS]
    refine wpAnyH_ready (rs := [9]) (by kernel_rfl) (by simp) ?_
    refine AllReadyH.cons (o := ⟨some 22, _, _, _, _, _⟩) rfl (fun K hK => ?_) AllReadyH.nil
    go_simp
    refine (count_any c V3 _ HR7.out).mono ?_
    rintro e w8 ⟨rfl, hE8⟩
    have HX8 := Lib.hid (HX7.out.trans_ hE8)
    clear hE8
    refine hK.out _ _ ?_ (fun hHeld => ?_)
    · (try dsimp only); exact ⟨HX8.out.cell_ p0, HX8.out.cell_ p1, HX8.out.cell_ p2, HX8.out.cell_ p3⟩
    clear hK K
    try simp only [tkS]
    refine wpAnyH_ready (rs := [11]) (by kernel_rfl) (by simp) ?_
    refine AllReadyH.cons (o := ⟨some 24, _, _, _, _, _⟩) rfl (fun K hK => ?_) AllReadyH.nil
    go_simp
    refine (HU2.out _ (HX3.out.trans_ HX8.out)).mono ?_
    rintro e w9 ⟨rfl, hE9⟩
    have HX9 := Lib.hid (HX8.out.trans_ hE9)
    clear hE9
    refine hK.out _ _ ?_ (fun hHeld => ?_)
    · (try dsimp only); exact ⟨HX9.out.cell_ p0, HX9.out.cell_ p1, HX9.out.cell_ p2, HX9.out.cell_ p3⟩
    clear hK K
    try simp only [tkS]
    refine tk 12 ⟨some 25, _, _, _, _, _⟩ ?_ rfl ?_ ?_
    rotate_left
    · (intro w hSw; (try dsimp only at hSw); go_simp; try with_reducible rfl)
    try simp only [tkS]
    refine tk 13 ⟨some 26, _, _, _, _, _⟩ ?_ rfl ?_ ?_
    rotate_left
    · (intro w hSw; (try dsimp only at hSw); go_simp; try with_reducible rfl)
    try simp only [tkS]
    refine tk 14 ⟨some 2, _, _, _, _, _⟩ ?_ rfl ?_ ?_
    rotate_left
    · (intro w hSw; (try dsimp only at hSw); go_simp; try with_reducible rfl)
    try simp only [tkS]
    refine wpAnyH_done (by kernel_rfl) ?_ _
    clear hHeld
    go_wp2
    go_ret
    exact ⟨by simp, HX3.out.trans_ HX9.out⟩
end Go.Proofs.YtgjjkllngopboaaDoor
