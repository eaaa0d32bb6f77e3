/- The walk of the checker's come. -/
import Derived.Test.YtgjjkllngopboaaDoorJCa06
import Derived.Laws.EntriesVeiled
import Derived.Test.YtgjjkllngopboaaDoorJCa04
namespace Go.Proofs.YtgjjkllngopboaaDoor
open Go.RowKit
set_option linter.unusedVariables false
set_option linter.unusedSimpArgs false

def ComeV (w : World) (B K sb mb : Nat) (c : CodeP) (V : CodeV) (f : FnP) (v : OpsV) (fb fo : Nat) (tv : Value) (g : GoP) (e : Ending) (w' : World) : Prop :=
  e = .returned (.tuple #[]) ∧ ∃ tv', OChk w' B K sb mb c V f v fb fo tv' g ∧ Keep (OwnC K sb tv) w w' ∧ (∀ k, tv'.ownBlock = some k → tv.ownBlock = some k ∨ w.heap.size ≤ k) ∧ ∀ k, k < w.heap.size → Stray w sb g.s.length k → Stray w' sb g.s.length k
theorem natsV_snoc (l : List Nat) (i : Nat) : natsV (l ++ [i]) = natsV l ++ [.int .i64 (i : Int)] := by simp [natsV]
theorem natsV_len (l : List Nat) : (natsV l).length = l.length := by simp [natsV]
set_option maxRecDepth 100000 in
set_option maxHeartbeats 4000000 in
theorem come_far (B K sb mb : Nat) (c : CodeP) (V : CodeV) (f : FnP) (v : OpsV) (fb fo : Nat) (tv : Value) (g : GoP) (w : World) (h : OChk w B K sb mb c V f v fb fo tv g) (tg : Int) (h0 : (f.ops.length : Int) ≤ tg) (st : Value) (hst : ∃ a b d, st = .agg #[a, b, d]) :
    Calls Tryd.prog 44 #[.pointer (some ⟨K, 0, none⟩), .int .i64 tg, st] w (ComeV w B K sb mb c V f v fb fo tv { g with ok := false }) := by
  obtain ⟨s0, s1, s2, rfl⟩ := hst
  have H := Lib.hid h
  have hl := h.lt
  have k4 := h.R.kf
  have f5 := h.R.f5
  have k8 := h.k8
  have fr := h.froK 8
  have hlK := h.lt.1
  have hlf := cell_lt h.R.f0
  clear h hl
  go_enter Tryd.func44, Tryd.ntmps44
  go_wp2
  go_end0
  refine ⟨rfl, tv, (H.out.bad false).ext ((Ext.refl _).alloc_ _), ?_, fun k hk => Or.inl hk, fun k hk hs => hs.same ?_⟩
  · exact (Keep.set_ (Keep.refl _ w) (p := ⟨K, 8, none⟩) (Or.inl (Or.inl rfl)) _).alloc_ _
  · have e1 : (w.setCell ⟨K, 8, none⟩ (.bool false)).heap[sb]? = w.heap[sb]? := heap_setCell_other w ⟨K, 8, none⟩ sb _ (Ne.symm H.out.ne)
    rw [← e1]
    exact Below.block ((Ext.refl _).alloc_ _) sb (by have := H.out.lt.2; simpa [World.setCell] using this)
set_option maxRecDepth 100000 in
set_option maxHeartbeats 4000000 in
theorem come_new (B K sb mb : Nat) (c : CodeP) (V : CodeV) (f : FnP) (v : OpsV) (fb fo : Nat) (tv : Value) (g : GoP) (w : World) (h : OChk w B K sb mb c V f v fb fo tv g) (hn : g.s.length = f.ops.length) (h6 : f.ops.length ≤ 1000000) (hlen : g.todo.length ≤ 1000001)
    (i : Nat) (hi : i < f.ops.length) (hun : seenP g.s i = none) (b0 : Bool) (x : StP) (hxl : x.2.length ≤ 1000000) (a : Option Addr) (cp : Nat) (hr : RInts w a cp x.2) :
    Calls Tryd.prog 44 #[.pointer (some ⟨K, 0, none⟩), .int .i64 (i : Int), .agg #[.bool b0, .int .i64 x.1, .slice a x.2.length cp]] w (ComeV w B K sb mb c V f v fb fo tv { g with s := g.s.set i (some x), todo := g.todo ++ [i] }) := by
  have his : i < g.s.length := by omega
  obtain ⟨a0, c0, hst, hfr⟩ := h.st i his
  rw [hun] at hst
  obtain ⟨s0, s1, s2, hro⟩ := hst
  simp only [Option.isSome_none, Option.map_none, Option.getD_none, List.length_nil] at s0 s1 s2
  have k4 := h.R.kf
  have f5 := h.R.f5
  have k6 := h.k6
  have fr0 := h.froS (i * 3)
  have fr1 := h.froS (i * 3 + 1)
  have fr2 := h.froS (i * 3 + 2)
  have hlK := h.lt.1
  have hlS := h.lt.2
  have hlf := cell_lt h.R.f0
  have hiz : (i : Int) < (f.ops.length : Int) := by omega
  rw [hn] at k6
  have H := Lib.hid h
  have HN := Lib.hid hn
  have HR := Lib.hid hr
  have HUN := Lib.hid hun
  have HIS := Lib.hid his
  clear h hfr hro hun his hr hn
  go_enter Tryd.func44, Tryd.ntmps44
  go_upto_region 5 with fail
  obtain ⟨P1, hP1⟩ : ∃ P1, P1 = w.heap.size := ⟨_, rfl⟩
  refine namedW (fun w1 hw1 => ?_)
  have p1 : w1.cell? ⟨P1, 1, none⟩ = some (.int .i64 x.1) := by rw [hw1, hP1]; simp [go_sem]
  have p2 : w1.cell? ⟨P1, 2, none⟩ = some (.slice a x.2.length cp) := by rw [hw1, hP1]; simp [go_sem]
  have hX1 : Ext w w1 := by rw [hw1]; exact (Ext.refl w).alloc_ _
  rw [← hP1]
  have HP1 : Hid (P1 = w.heap.size) := hP1
  have HX1 := Lib.hid hX1
  have r0 := hX1.cell_ s0
  have r1 := hX1.cell_ s1
  have r2 := hX1.cell_ s2
  have q0 : w1.frozen? ⟨sb, i * 3, none⟩ = false := by rw [hX1.three.2.1 _ _ hlS]; exact fr0
  have q1 : w1.frozen? ⟨sb, i * 3 + 1, none⟩ = false := by rw [hX1.three.2.1 _ _ hlS]; exact fr1
  have q2 : w1.frozen? ⟨sb, i * 3 + 2, none⟩ = false := by rw [hX1.three.2.1 _ _ hlS]; exact fr2
  have hSP : sb < P1 := by omega
  have hlP : P1 < w1.heap.size := cell_lt p1
  clear hw1 hP1 hX1 s0 s1 s2 fr0 fr1 fr2 k4 f5 k6
  obtain ⟨xh, xt⟩ := x
  simp only at p1 p2 hxl ⊢
  refine wp_region_held_drew (S := fun W => W.cell? ⟨P1, 1, none⟩ = some (.int .i64 xh) ∧ W.cell? ⟨P1, 2, none⟩ = some (.slice a xt.length cp)) (by kernel_rfl) ?_ (fun hHeld => ?_)
  · exact ⟨p1, p2⟩
  refine tk 0 ⟨some 32, _, _, _, _, _⟩ ?_ rfl ?_ ?_
  rotate_left
  · (intro w hSw; (try dsimp only at hSw); go_simp; try with_reducible rfl)
  try simp only [tkS]
  refine tk 1 ⟨some 33, _, _, _, _, _⟩ ?_ rfl ?_ ?_
  rotate_left
  · (intro w hSw; (try dsimp only at hSw); go_simp; try with_reducible rfl)
  try simp only [tkS]
  refine tk 2 ⟨some 34, _, _, _, _, _⟩ ?_ rfl ?_ ?_
  rotate_left
  · (intro w hSw; (try dsimp only at hSw); go_simp; try with_reducible rfl)
  try simp only [tkS]
  refine tk 3 ⟨some 35, _, _, _, _, _⟩ ?_ rfl ?_ ?_
  rotate_left
  · (intro w hSw; (try dsimp only at hSw); go_simp; try with_reducible rfl)
  try simp only [tkS]
  refine tk 4 ⟨some 36, _, _, _, _, _⟩ ?_ rfl ?_ ?_
  rotate_left
  · (intro w hSw; (try dsimp only at hSw); go_simp; try with_reducible rfl)
  try simp only [tkS]
  refine wpAnyH_ready (rs := [5]) (by kernel_rfl) (by simp) ?_
  refine AllReadyH.cons (o := ⟨some 37, _, _, _, _, _⟩) rfl (fun K hK => ?_) AllReadyH.nil
  go_simp
  refine (cloneInts_any a cp xt _ (HR.out.ext (Ext.trans_ HX1.out (by first | exact Ext.refl _ | exact (Ext.refl _).drew_ | exact (Ext.refl _).drewN_ _))) hxl).mono ?_
  rintro e w2 ⟨a2, c2, rfl, hO2, hE2⟩
  have HX2 : Hid (Ext w1 w2) := Ext.trans_ (by first | exact Ext.refl _ | exact (Ext.refl _).drew_ | exact (Ext.refl _).drewN_ _) hE2
  have HO2 := Lib.hid hO2
  clear hO2 hE2
  have t0 := HX2.out.cell_ r0
  have t1 := HX2.out.cell_ r1
  have t2 := HX2.out.cell_ r2
  have u0 : w2.frozen? ⟨sb, i * 3, none⟩ = false := by rw [HX2.out.three.2.1 _ _ (by omega)]; exact q0
  have u1 : w2.frozen? ⟨sb, i * 3 + 1, none⟩ = false := by rw [HX2.out.three.2.1 _ _ (by omega)]; exact q1
  have u2 : w2.frozen? ⟨sb, i * 3 + 2, none⟩ = false := by rw [HX2.out.three.2.1 _ _ (by omega)]; exact q2
  refine hK.out _ _ ?_ (fun hHeld => ?_)
  · (try dsimp only); exact ⟨HX2.out.cell_ p1, HX2.out.cell_ p2⟩
  clear hK K
  try simp only [tkS]
  refine tk 6 ⟨some 38, _, _, _, _, _⟩ ?_ rfl ?_ ?_
  rotate_left
  · (intro w hSw; (try dsimp only at hSw); go_simp; try with_reducible rfl)
  try simp only [tkS]
  refine tk 7 ⟨some 39, _, _, _, _, _⟩ ?_ rfl ?_ ?_
  rotate_left
  · (intro w hSw; (try dsimp only at hSw); go_simp; try with_reducible rfl)
  try simp only [tkS]
  refine wpAnyH_ready (rs := [8]) (by kernel_rfl) (by simp) ?_
  refine AllReadyH.cons (o := ⟨none, _, _, _, _, _⟩) rfl (fun K hK => ?_) AllReadyH.nil
  go_simp
  skip
  refine hK.out _ _ ?_ (fun hHeld => ?_)
  · (try dsimp only); (refine ⟨?_, ?_⟩ <;> (repeat rw [World.cell?_setCell_far _ _ _ _ (by simp only; omega)]))
    · exact HX2.out.cell_ p1
    · exact HX2.out.cell_ p2
  clear hK K
  try simp only [tkS]
  refine wpAnyH_done (by kernel_rfl) ?_ _
  have T2 := Lib.hid t2
  clear hHeld t0 t1 t2 u0 u1 u2 r0 r1 r2 q0 q1 q2
  generalize hW3' : ((w2.setCell ⟨sb, i * 3, none⟩ (.bool true)).setCell ⟨sb, i * 3 + 1, none⟩ (.int .i64 xh)).setCell ⟨sb, i * 3 + 2, none⟩ (.slice a2 xt.length c2) = w3
  have hX02 := HX1.out.trans_ HX2.out
  have hO2 := H.out.ext hX02
  have hri := owns_rints HO2.out
  have hfr2 : StFree w2 K sb tv a2 := fun y hy => by
    subst hy
    have h1 := (HO2.out.lt y.block rfl)
    have hd : w1.drew.heap.size = w1.heap.size := rfl
    have hs1 := HX1.out.size
    refine ⟨h1.2, fun e => ?_, fun e => ?_, fun e => ?_⟩
    · omega
    · omega
    · have := (H.out.todo.lt e).2; omega
  have hO3 := OChk.setSt hO2 HIS.out (xh, xt) hri hfr2
  simp only at hO3
  rw [hW3'] at hO3
  have hK3 : Keep (OwnC K sb tv) w w3 := by
    rw [← hW3']
    exact (((Keep.of_ext hX02).set_ (p := ⟨sb, i * 3, none⟩) (Or.inl (Or.inr (Or.inl rfl))) _).set_ (p := ⟨sb, i * 3 + 1, none⟩) (Or.inl (Or.inr (Or.inl rfl))) _).set_ (p := ⟨sb, i * 3 + 2, none⟩) (Or.inl (Or.inr (Or.inl rfl))) _
  have HC3 : Hid (w3.cell? ⟨sb, i * 3 + 2, none⟩ = some (.slice a2 xt.length c2) ∧ ∀ j, j ≠ i → w3.cell? ⟨sb, j * 3 + 2, none⟩ = w2.cell? ⟨sb, j * 3 + 2, none⟩) := by
    rw [← hW3']
    refine ⟨cell_set_same (x := .slice a0 0 c0) ?_, fun j hj => ?_⟩
    · rw [cell_set_off (by omega), cell_set_off (by omega)]; exact T2.out
    · rw [cell_set_off (by omega), cell_set_off (by omega), cell_set_off (by omega)]
  have HA2 : Hid (∀ z, a2 = some z → w.heap.size ≤ z.block) := fun z hz => by
    subst hz
    have h1 := (HO2.out.lt z.block rfl)
    have hd : w1.drew.heap.size = w1.heap.size := rfl
    have hs1 := HX1.out.size
    omega
  have HX02 := Lib.hid hX02
  have HLS3 := Lib.hid hO3.lt.2
  have HNS := Lib.hid hO3.nS
  clear hW3' hX02 hO2 hri hfr2
  obtain ⟨i0, hii, hz0, hz1, hz2⟩ := info_parts infoInt
  have htl := natsV_len g.todo
  obtain ⟨v9, w9, hrun9, ht9, hg9, hv9⟩ := run_append_tail (P := Tryd.prog) (w := w3.alloc (.cells #[.int .i64 (i : Int)] 3)) 75 75 B 3 i0 (.int .i64 0) 8 undInts hii hz0 hz1 hz2 rfl tv (natsV g.todo) (hO3.todo.ext ((Ext.refl _).alloc_ _)) ⟨w3.heap.size, 0, none⟩ 1 (.int .i64 (i : Int)) (by simp [go_sem]) rfl (by rw [htl]; unfold maxLen; omega) (by rw [htl]; omega) (by have := hO3.hB; simp; omega)
  obtain ⟨a9, n9, c9, rfl⟩ := ht9.slice
  have hO3a := hO3.ext ((Ext.refl w3).alloc_ (.cells #[.int .i64 (i : Int)] 3))
  have y7 : w3.cell? ⟨K, 7, none⟩ = some tv := hO3.k7
  have hv9' : ∀ k, (Value.slice a9 n9 c9).ownBlock = some k → tv.ownBlock = some k ∨ (w3.alloc (.cells #[.int .i64 (i : Int)] 3)).heap.size ≤ k := fun k hk => hv9 k hk
  rw [← natsV_snoc] at ht9
  have hO9 := OChk.pushTodo hO3a hg9 ht9 hv9'
  have hK9 : Keep (fun k => tv.ownBlock = some k) w3 w9 := ((Keep.refl _ w3).alloc_ _).trans (Keep.of_grown hg9 fun k hk => Or.inl hk)
  have y9 : w9.cell? ⟨K, 7, none⟩ = some tv := hK9.cell (p := ⟨K, 7, none⟩) hO3.nK hO3.k7
  have yf : w9.frozen? ⟨K, 7, none⟩ = false := by rw [hK9.frozen (p := ⟨K, 7, none⟩) hO3.nK hO3.lt.1]; exact hO3.froK 7
  have hs3 := hK3.size
  have hl3 := hO3.lt.1
  obtain ⟨ta, tn, tc, htv⟩ := hO3.todo.slice
  have HTV := Lib.hid htv
  rw [htv] at hrun9 y7 y9
  have HRUN := Lib.hid hrun9
  have HK3 := Lib.hid hK3
  have HK9 := Lib.hid hK9
  have HO9 := Lib.hid hO9
  have HV9 := Lib.hid hv9'
  clear htv hrun9 hK3 hK9 hO9 hv9' hv9 hO3 hO3a hg9 ht9 htl hz0 hz1 hz2 hii
  go_wp2_with (at_builtin; refine wpList_append_known rfl _ _ 75 rfl (.slice ta tn tc) _ rfl rfl HRUN.out ?_)
  go_end0
  refine ⟨rfl, .slice a9 n9 c9, HO9.out, ?_, fun k hk => ?_, fun k hk hs => ?_⟩
  · exact (HK3.out.trans (HK9.out.wide fun k hk => Or.inr (Or.inr hk))).set_ (p := ⟨K, 7, none⟩) (Or.inl (Or.inl rfl)) _
  · rcases HV9.out k hk with q | q
    · exact Or.inl q
    · exact Or.inr (by simp at q; omega)
  · simp only [List.length_set] at hs ⊢
    intro j z m cq hj hc
    have e9 : ∀ p, w9.cell? ⟨sb, p, none⟩ = w3.cell? ⟨sb, p, none⟩ := fun p => World.cell?_of_block (w := w3) (a := ⟨sb, p, none⟩) (HK9.out.block sb HLS3.out HNS.out)
    rw [World.cell?_of_block (w := w9) (a := ⟨sb, j * 3 + 2, none⟩) (heap_setCell_other w9 ⟨K, 7, none⟩ sb _ (Ne.symm H.out.ne)), e9] at hc
    by_cases e : j = i
    · subst e
      rw [HC3.out.1] at hc
      injection hc with hc
      injection hc with hc
      have := HA2.out z hc
      omega
    · rw [HC3.out.2 j e] at hc
      rw [World.cell?_of_block (w := w) (a := ⟨sb, j * 3 + 2, none⟩) (Below.block HX02.out sb hlS)] at hc
      exact hs j z m cq hj hc
set_option maxRecDepth 100000 in
set_option maxHeartbeats 4000000 in
theorem come_high (B K sb mb : Nat) (c : CodeP) (V : CodeV) (f : FnP) (v : OpsV) (fb fo : Nat) (tv : Value) (g : GoP) (w : World) (h : OChk w B K sb mb c V f v fb fo tv g) (hn : g.s.length = f.ops.length) (h6 : f.ops.length ≤ 1000000)
    (i : Nat) (hi : i < f.ops.length) (y : StP) (hun : seenP g.s i = some y) (hyl : y.2.length ≤ 1000000) (b0 : Bool) (x : StP) (hxl : x.2.length ≤ 1000000) (a : Option Addr) (cp : Nat) (hr : RInts w a cp x.2) (hne : y.1 ≠ x.1) :
    Calls Tryd.prog 44 #[.pointer (some ⟨K, 0, none⟩), .int .i64 (i : Int), .agg #[.bool b0, .int .i64 x.1, .slice a x.2.length cp]] w (ComeV w B K sb mb c V f v fb fo tv { g with ok := false }) := by
  have his : i < g.s.length := by omega
  obtain ⟨a0, c0, hst, hfr⟩ := h.st i his
  rw [hun] at hst
  obtain ⟨s0, s1, s2, hro⟩ := hst
  simp only [Option.isSome_some, Option.map_some, Option.getD_some] at s0 s1 s2 hro
  obtain ⟨xh, xt⟩ := x
  obtain ⟨yh, yt⟩ := y
  simp only at hne hxl hyl s1 s2 hro hr ⊢
  have k4 := h.R.kf
  have f5 := h.R.f5
  have k6 := h.k6
  have k8 := h.k8
  have fr := h.froK 8
  have hlK := h.lt.1
  have hlS := h.lt.2
  have hlf := cell_lt h.R.f0
  have hiz : (i : Int) < (f.ops.length : Int) := by omega
  rw [hn] at k6
  have H := Lib.hid h
  have HN := Lib.hid hn
  have HR := Lib.hid hr
  have HRO := Lib.hid hro
  have HUN := Lib.hid hun
  have HIS := Lib.hid his
  clear h hfr hro hun his hr hn
  have hd1 : (yh == xh) = false := by simpa using hne
  have hd2 : decide (yh = xh) = false := by simpa using hne
  have hd3 : (yh != xh) = true := by simpa using hne
  go_enter Tryd.func44, Tryd.ntmps44
  go_upto_region 7 with fail
  obtain ⟨P1, hP1⟩ : ∃ P1, P1 = w.heap.size := ⟨_, rfl⟩
  refine namedW (fun w1 hw1 => ?_)
  have p1 : w1.cell? ⟨P1, 1, none⟩ = some (.int .i64 xh) := by rw [hw1, hP1]; simp [go_sem]
  have p2 : w1.cell? ⟨P1, 2, none⟩ = some (.slice a xt.length cp) := by rw [hw1, hP1]; simp [go_sem]
  have hX1 : Ext w w1 := by rw [hw1]; exact (Ext.refl w).alloc_ _
  rw [← hP1]
  have HP1 : Hid (P1 = w.heap.size) := hP1
  have HX1 := Lib.hid hX1
  have r1 := hX1.cell_ s1
  have r2 := hX1.cell_ s2
  have r8 := hX1.cell_ k8
  have hs1 := hX1.size
  have fr8 : w1.frozen? ⟨K, 8, none⟩ = false := by rw [hX1.three.2.1 _ _ hlK]; exact fr
  clear hw1 hP1 hX1 s0 s1 s2 k4 f5 k6 k8 fr
  refine wp_region_held_drew (S := fun W => W.cell? ⟨P1, 1, none⟩ = some (.int .i64 xh) ∧ W.cell? ⟨P1, 2, none⟩ = some (.slice a xt.length cp) ∧ W.cell? ⟨sb, i * 3 + 1, none⟩ = some (.int .i64 yh) ∧ W.cell? ⟨sb, i * 3 + 2, none⟩ = some (.slice a0 yt.length c0)) (by kernel_rfl) ?_ (fun hHeld => ?_)
  · exact ⟨p1, p2, r1, r2⟩
  refine tk 0 ⟨some 51, _, _, _, _, _⟩ ?_ rfl ?_ ?_
  rotate_left
  · (intro w hSw; (try dsimp only at hSw); go_simp; try with_reducible rfl)
  try simp only [tkS]
  refine tk 1 ⟨some 52, _, _, _, _, _⟩ ?_ rfl ?_ ?_
  rotate_left
  · (intro w hSw; (try dsimp only at hSw); go_simp; try with_reducible rfl)
  try simp only [tkS]
  refine tk 2 ⟨some 53, _, _, _, _, _⟩ ?_ rfl ?_ ?_
  rotate_left
  · (intro w hSw; (try dsimp only at hSw); go_simp; try with_reducible rfl)
  try simp only [tkS]
  refine tk 3 ⟨some 54, _, _, _, _, _⟩ ?_ rfl ?_ ?_
  rotate_left
  · (intro w hSw; (try dsimp only at hSw); go_simp; try with_reducible rfl)
  try simp only [tkS]
  refine tk 4 ⟨some 55, _, _, _, _, _⟩ ?_ rfl ?_ ?_
  rotate_left
  · (intro w hSw; (try dsimp only at hSw); go_simp; try with_reducible rfl)
  try simp only [tkS]
  refine tk 5 ⟨some 56, _, _, _, _, _⟩ ?_ rfl ?_ ?_
  rotate_left
  · (intro w hSw; (try dsimp only at hSw); go_simp; try with_reducible rfl)
  try simp only [tkS]
  refine tk 6 ⟨some 57, _, _, _, _, _⟩ ?_ rfl ?_ ?_
  rotate_left
  · (intro w hSw; (try dsimp only at hSw); go_simp; try with_reducible rfl)
  try simp only [tkS]
  refine tk 7 ⟨some 58, _, _, _, _, _⟩ ?_ rfl ?_ ?_
  rotate_left
  · (intro w hSw; (try dsimp only at hSw); go_simp; try with_reducible rfl)
  try simp only [tkS]
  refine tn 8 ⟨some 59, _, _, _, _, _⟩ rfl ?_
  try simp only [tkS]
  refine tn 9 ⟨some 60, _, _, _, _, _⟩ rfl ?_
  try simp only [tkS]
  refine tn 10 ⟨some 61, _, _, _, _, _⟩ rfl ?_
  try simp only [tkS]
  refine tn 11 ⟨some 62, _, _, _, _, _⟩ rfl ?_
  try simp only [tkS]
  refine tn 12 ⟨some 63, _, _, _, _, _⟩ rfl ?_
  try simp only [tkS]
  refine tn 13 ⟨some 64, _, _, _, _, _⟩ rfl ?_
  try simp only [tkS]
  refine tn 14 ⟨some 65, _, _, _, _, _⟩ rfl ?_
  try simp only [tkS]
  refine tn 15 ⟨some 66, _, _, _, _, _⟩ rfl ?_
  try simp only [tkS]
  refine tk 16 ⟨some 67, _, _, _, _, _⟩ ?_ rfl ?_ ?_
  rotate_left
  · (intro w hSw; (try dsimp only at hSw); go_simp; try with_reducible rfl)
  try simp only [tkS]
  refine tk 17 ⟨some 50, _, _, _, _, _⟩ ?_ rfl ?_ ?_
  rotate_left
  · (intro w hSw; (try dsimp only at hSw); go_simp; try with_reducible rfl)
  try simp only [tkS]
  refine wpAnyH_done (by kernel_rfl) ?_ _
  clear hHeld p1 p2 r1 r2
  obtain ⟨w2, hw2⟩ : ∃ w2, w2 = w1.drew := ⟨_, rfl⟩
  rw [← hw2]
  have hX2 : Ext w1 w2 := by rw [hw2]; exact (by first | exact Ext.refl _ | exact (Ext.refl _).drew_ | exact (Ext.refl _).drewN_ _)
  have z8 := hX2.cell_ r8
  have zf : w2.frozen? ⟨K, 8, none⟩ = false := by rw [hX2.three.2.1 _ _ (by have := hX2.size; skip; omega)]; exact fr8
  have HX2 := Lib.hid hX2
  clear hw2 hX2
  go_wp2
  go_end0
  have hx : Ext w w2 := HX1.out.trans_ HX2.out
  exact ⟨rfl, tv, (H.out.ext hx).bad false, (Keep.of_ext hx).set_ (p := ⟨K, 8, none⟩) (Or.inl (Or.inl rfl)) _, fun k hk => Or.inl hk, fun k hk hs => hs.same ((heap_setCell_other w2 ⟨K, 8, none⟩ sb _ (Ne.symm H.out.ne)).trans (Below.block hx sb hlS))⟩
set_option maxRecDepth 100000 in
set_option maxHeartbeats 4000000 in
theorem come_same (B K sb mb : Nat) (c : CodeP) (V : CodeV) (f : FnP) (v : OpsV) (fb fo : Nat) (tv : Value) (g : GoP) (w : World) (h : OChk w B K sb mb c V f v fb fo tv g) (hn : g.s.length = f.ops.length) (h6 : f.ops.length ≤ 1000000)
    (i : Nat) (hi : i < f.ops.length) (y : StP) (hun : seenP g.s i = some y) (hyl : y.2.length ≤ 1000000) (b0 : Bool) (x : StP) (hxl : x.2.length ≤ 1000000) (a : Option Addr) (cp : Nat) (hr : RInts w a cp x.2) (heq : y.1 = x.1) (htt : y.2 = x.2) :
    Calls Tryd.prog 44 #[.pointer (some ⟨K, 0, none⟩), .int .i64 (i : Int), .agg #[.bool b0, .int .i64 x.1, .slice a x.2.length cp]] w (ComeV w B K sb mb c V f v fb fo tv g) := by
  have his : i < g.s.length := by omega
  obtain ⟨a0, c0, hst, hfr⟩ := h.st i his
  rw [hun] at hst
  obtain ⟨s0, s1, s2, hro⟩ := hst
  simp only [Option.isSome_some, Option.map_some, Option.getD_some] at s0 s1 s2 hro
  obtain ⟨xh, xt⟩ := x
  obtain ⟨yh, yt⟩ := y
  simp only at heq htt hxl hyl s1 s2 hro hr ⊢
  have k4 := h.R.kf
  have f5 := h.R.f5
  have k6 := h.k6
  have k8 := h.k8
  have fr := h.froK 8
  have hlK := h.lt.1
  have hlS := h.lt.2
  have hlf := cell_lt h.R.f0
  have hiz : (i : Int) < (f.ops.length : Int) := by omega
  rw [hn] at k6
  have H := Lib.hid h
  have HN := Lib.hid hn
  have HR := Lib.hid hr
  have HRO := Lib.hid hro
  have HUN := Lib.hid hun
  have HIS := Lib.hid his
  clear h hfr hro hun his hr hn
  obtain rfl : xh = yh := heq.symm
  have HTT := Lib.hid htt
  clear htt heq
  go_enter Tryd.func44, Tryd.ntmps44
  go_upto_region 7 with fail
  obtain ⟨P1, hP1⟩ : ∃ P1, P1 = w.heap.size := ⟨_, rfl⟩
  refine namedW (fun w1 hw1 => ?_)
  have p1 : w1.cell? ⟨P1, 1, none⟩ = some (.int .i64 xh) := by rw [hw1, hP1]; simp [go_sem]
  have p2 : w1.cell? ⟨P1, 2, none⟩ = some (.slice a xt.length cp) := by rw [hw1, hP1]; simp [go_sem]
  have hX1 : Ext w w1 := by rw [hw1]; exact (Ext.refl w).alloc_ _
  rw [← hP1]
  have HP1 : Hid (P1 = w.heap.size) := hP1
  have HX1 := Lib.hid hX1
  have r1 := hX1.cell_ s1
  have r2 := hX1.cell_ s2
  have r8 := hX1.cell_ k8
  have hs1 := hX1.size
  have fr8 : w1.frozen? ⟨K, 8, none⟩ = false := by rw [hX1.three.2.1 _ _ hlK]; exact fr
  clear hw1 hP1 hX1 s0 s1 s2 k4 f5 k6 k8 fr
  refine wp_region_held_drew (S := fun W => W.cell? ⟨P1, 1, none⟩ = some (.int .i64 xh) ∧ W.cell? ⟨P1, 2, none⟩ = some (.slice a xt.length cp) ∧ W.cell? ⟨sb, i * 3 + 1, none⟩ = some (.int .i64 xh) ∧ W.cell? ⟨sb, i * 3 + 2, none⟩ = some (.slice a0 yt.length c0)) (by kernel_rfl) ?_ (fun hHeld => ?_)
  · exact ⟨p1, p2, r1, r2⟩
  refine tk 0 ⟨some 51, _, _, _, _, _⟩ ?_ rfl ?_ ?_
  rotate_left
  · (intro w hSw; (try dsimp only at hSw); go_simp; try with_reducible rfl)
  try simp only [tkS]
  refine tk 1 ⟨some 52, _, _, _, _, _⟩ ?_ rfl ?_ ?_
  rotate_left
  · (intro w hSw; (try dsimp only at hSw); go_simp; try with_reducible rfl)
  try simp only [tkS]
  refine tk 2 ⟨some 53, _, _, _, _, _⟩ ?_ rfl ?_ ?_
  rotate_left
  · (intro w hSw; (try dsimp only at hSw); go_simp; try with_reducible rfl)
  try simp only [tkS]
  refine tk 3 ⟨some 54, _, _, _, _, _⟩ ?_ rfl ?_ ?_
  rotate_left
  · (intro w hSw; (try dsimp only at hSw); go_simp; try with_reducible rfl)
  try simp only [tkS]
  refine tk 4 ⟨some 55, _, _, _, _, _⟩ ?_ rfl ?_ ?_
  rotate_left
  · (intro w hSw; (try dsimp only at hSw); go_simp; try with_reducible rfl)
  try simp only [tkS]
  refine tk 5 ⟨some 56, _, _, _, _, _⟩ ?_ rfl ?_ ?_
  rotate_left
  · (intro w hSw; (try dsimp only at hSw); go_simp; try with_reducible rfl)
  try simp only [tkS]
  refine tk 6 ⟨some 57, _, _, _, _, _⟩ ?_ rfl ?_ ?_
  rotate_left
  · (intro w hSw; (try dsimp only at hSw); go_simp; try with_reducible rfl)
  try simp only [tkS]
  refine tk 7 ⟨some 58, _, _, _, _, _⟩ ?_ rfl ?_ ?_
  rotate_left
  · (intro w hSw; (try dsimp only at hSw); go_simp; try with_reducible rfl)
  try simp only [tkS]
  refine tk 8 ⟨some 59, _, _, _, _, _⟩ ?_ rfl ?_ ?_
  rotate_left
  · (intro w hSw; (try dsimp only at hSw); go_simp; try with_reducible rfl)
  try simp only [tkS]
  refine tk 9 ⟨some 60, _, _, _, _, _⟩ ?_ rfl ?_ ?_
  rotate_left
  · (intro w hSw; (try dsimp only at hSw); go_simp; try with_reducible rfl)
  try simp only [tkS]
  refine tk 10 ⟨some 61, _, _, _, _, _⟩ ?_ rfl ?_ ?_
  rotate_left
  · (intro w hSw; (try dsimp only at hSw); go_simp; try with_reducible rfl)
  try simp only [tkS]
  refine tk 11 ⟨some 62, _, _, _, _, _⟩ ?_ rfl ?_ ?_
  rotate_left
  · (intro w hSw; (try dsimp only at hSw); go_simp; try with_reducible rfl)
  try simp only [tkS]
  refine tk 12 ⟨some 63, _, _, _, _, _⟩ ?_ rfl ?_ ?_
  rotate_left
  · (intro w hSw; (try dsimp only at hSw); go_simp; try with_reducible rfl)
  try simp only [tkS]
  refine tk 13 ⟨some 64, _, _, _, _, _⟩ ?_ rfl ?_ ?_
  rotate_left
  · (intro w hSw; (try dsimp only at hSw); go_simp; try with_reducible rfl)
  try simp only [tkS]
  refine wpAnyH_ready (rs := [14]) (by kernel_rfl) (by simp) ?_
  refine AllReadyH.cons (o := ⟨some 65, _, _, _, _, _⟩) rfl (fun K hK => ?_) AllReadyH.nil
  go_simp
  refine (equalInts_any a0 a c0 cp yt xt _ (HRO.out.ext (Ext.trans_ HX1.out (by first | exact Ext.refl _ | exact (Ext.refl _).drew_ | exact (Ext.refl _).drewN_ _))) (HR.out.ext (Ext.trans_ HX1.out (by first | exact Ext.refl _ | exact (Ext.refl _).drew_ | exact (Ext.refl _).drewN_ _))) hyl hxl).mono ?_
  rintro e w5 ⟨he, hE2⟩
  have he2 : e = .returned (.bool true) := by rw [he]; congr 2; simpa using HTT.out
  have HX5 : Hid (Ext w1 w5) := Ext.trans_ (by first | exact Ext.refl _ | exact (Ext.refl _).drew_ | exact (Ext.refl _).drewN_ _) hE2
  clear he hE2
  subst he2
  refine hK.out _ _ ?_ (fun hHeld => ?_)
  · (try dsimp only); exact ⟨HX5.out.cell_ p1, HX5.out.cell_ p2, HX5.out.cell_ r1, HX5.out.cell_ r2⟩
  clear hK K
  try simp only [tkS]
  refine tk 15 ⟨some 66, _, _, _, _, _⟩ ?_ rfl ?_ ?_
  rotate_left
  · (intro w hSw; (try dsimp only at hSw); go_simp; try with_reducible rfl)
  try simp only [tkS]
  refine tk 16 ⟨some 67, _, _, _, _, _⟩ ?_ rfl ?_ ?_
  rotate_left
  · (intro w hSw; (try dsimp only at hSw); go_simp; try with_reducible rfl)
  try simp only [tkS]
  refine tk 17 ⟨some 50, _, _, _, _, _⟩ ?_ rfl ?_ ?_
  rotate_left
  · (intro w hSw; (try dsimp only at hSw); go_simp; try with_reducible rfl)
  try simp only [tkS]
  refine wpAnyH_done (by kernel_rfl) ?_ _
  clear hHeld p1 p2 r1 r2
  go_wp2
  go_end0
  have hx : Ext w w5 := HX1.out.trans_ HX5.out
  have hy : Ext w _ := hx.trans_ (by first | exact Ext.refl _ | exact (Ext.refl _).drew_ | exact (Ext.refl _).drewN_ _)
  exact ⟨rfl, tv, H.out.ext hy, Keep.of_ext hy, fun k hk => Or.inl hk, fun k hk hs => hs.same (Below.block hy sb hlS)⟩
set_option maxRecDepth 100000 in
set_option maxHeartbeats 4000000 in
theorem come_tries (B K sb mb : Nat) (c : CodeP) (V : CodeV) (f : FnP) (v : OpsV) (fb fo : Nat) (tv : Value) (g : GoP) (w : World) (h : OChk w B K sb mb c V f v fb fo tv g) (hn : g.s.length = f.ops.length) (h6 : f.ops.length ≤ 1000000)
    (i : Nat) (hi : i < f.ops.length) (y : StP) (hun : seenP g.s i = some y) (hyl : y.2.length ≤ 1000000) (b0 : Bool) (x : StP) (hxl : x.2.length ≤ 1000000) (a : Option Addr) (cp : Nat) (hr : RInts w a cp x.2) (heq : y.1 = x.1) (htt : y.2 ≠ x.2) :
    Calls Tryd.prog 44 #[.pointer (some ⟨K, 0, none⟩), .int .i64 (i : Int), .agg #[.bool b0, .int .i64 x.1, .slice a x.2.length cp]] w (ComeV w B K sb mb c V f v fb fo tv { g with ok := false }) := by
  have his : i < g.s.length := by omega
  obtain ⟨a0, c0, hst, hfr⟩ := h.st i his
  rw [hun] at hst
  obtain ⟨s0, s1, s2, hro⟩ := hst
  simp only [Option.isSome_some, Option.map_some, Option.getD_some] at s0 s1 s2 hro
  obtain ⟨xh, xt⟩ := x
  obtain ⟨yh, yt⟩ := y
  simp only at heq htt hxl hyl s1 s2 hro hr ⊢
  have k4 := h.R.kf
  have f5 := h.R.f5
  have k6 := h.k6
  have k8 := h.k8
  have fr := h.froK 8
  have hlK := h.lt.1
  have hlS := h.lt.2
  have hlf := cell_lt h.R.f0
  have hiz : (i : Int) < (f.ops.length : Int) := by omega
  rw [hn] at k6
  have H := Lib.hid h
  have HN := Lib.hid hn
  have HR := Lib.hid hr
  have HRO := Lib.hid hro
  have HUN := Lib.hid hun
  have HIS := Lib.hid his
  clear h hfr hro hun his hr hn
  obtain rfl : xh = yh := heq.symm
  have HTT := Lib.hid htt
  clear htt heq
  go_enter Tryd.func44, Tryd.ntmps44
  go_upto_region 7 with fail
  obtain ⟨P1, hP1⟩ : ∃ P1, P1 = w.heap.size := ⟨_, rfl⟩
  refine namedW (fun w1 hw1 => ?_)
  have p1 : w1.cell? ⟨P1, 1, none⟩ = some (.int .i64 xh) := by rw [hw1, hP1]; simp [go_sem]
  have p2 : w1.cell? ⟨P1, 2, none⟩ = some (.slice a xt.length cp) := by rw [hw1, hP1]; simp [go_sem]
  have hX1 : Ext w w1 := by rw [hw1]; exact (Ext.refl w).alloc_ _
  rw [← hP1]
  have HP1 : Hid (P1 = w.heap.size) := hP1
  have HX1 := Lib.hid hX1
  have r1 := hX1.cell_ s1
  have r2 := hX1.cell_ s2
  have r8 := hX1.cell_ k8
  have hs1 := hX1.size
  have fr8 : w1.frozen? ⟨K, 8, none⟩ = false := by rw [hX1.three.2.1 _ _ hlK]; exact fr
  clear hw1 hP1 hX1 s0 s1 s2 k4 f5 k6 k8 fr
  refine wp_region_held_drew (S := fun W => W.cell? ⟨P1, 1, none⟩ = some (.int .i64 xh) ∧ W.cell? ⟨P1, 2, none⟩ = some (.slice a xt.length cp) ∧ W.cell? ⟨sb, i * 3 + 1, none⟩ = some (.int .i64 xh) ∧ W.cell? ⟨sb, i * 3 + 2, none⟩ = some (.slice a0 yt.length c0)) (by kernel_rfl) ?_ (fun hHeld => ?_)
  · exact ⟨p1, p2, r1, r2⟩
  refine tk 0 ⟨some 51, _, _, _, _, _⟩ ?_ rfl ?_ ?_
  rotate_left
  · (intro w hSw; (try dsimp only at hSw); go_simp; try with_reducible rfl)
  try simp only [tkS]
  refine tk 1 ⟨some 52, _, _, _, _, _⟩ ?_ rfl ?_ ?_
  rotate_left
  · (intro w hSw; (try dsimp only at hSw); go_simp; try with_reducible rfl)
  try simp only [tkS]
  refine tk 2 ⟨some 53, _, _, _, _, _⟩ ?_ rfl ?_ ?_
  rotate_left
  · (intro w hSw; (try dsimp only at hSw); go_simp; try with_reducible rfl)
  try simp only [tkS]
  refine tk 3 ⟨some 54, _, _, _, _, _⟩ ?_ rfl ?_ ?_
  rotate_left
  · (intro w hSw; (try dsimp only at hSw); go_simp; try with_reducible rfl)
  try simp only [tkS]
  refine tk 4 ⟨some 55, _, _, _, _, _⟩ ?_ rfl ?_ ?_
  rotate_left
  · (intro w hSw; (try dsimp only at hSw); go_simp; try with_reducible rfl)
  try simp only [tkS]
  refine tk 5 ⟨some 56, _, _, _, _, _⟩ ?_ rfl ?_ ?_
  rotate_left
  · (intro w hSw; (try dsimp only at hSw); go_simp; try with_reducible rfl)
  try simp only [tkS]
  refine tk 6 ⟨some 57, _, _, _, _, _⟩ ?_ rfl ?_ ?_
  rotate_left
  · (intro w hSw; (try dsimp only at hSw); go_simp; try with_reducible rfl)
  try simp only [tkS]
  refine tk 7 ⟨some 58, _, _, _, _, _⟩ ?_ rfl ?_ ?_
  rotate_left
  · (intro w hSw; (try dsimp only at hSw); go_simp; try with_reducible rfl)
  try simp only [tkS]
  refine tk 8 ⟨some 59, _, _, _, _, _⟩ ?_ rfl ?_ ?_
  rotate_left
  · (intro w hSw; (try dsimp only at hSw); go_simp; try with_reducible rfl)
  try simp only [tkS]
  refine tk 9 ⟨some 60, _, _, _, _, _⟩ ?_ rfl ?_ ?_
  rotate_left
  · (intro w hSw; (try dsimp only at hSw); go_simp; try with_reducible rfl)
  try simp only [tkS]
  refine tk 10 ⟨some 61, _, _, _, _, _⟩ ?_ rfl ?_ ?_
  rotate_left
  · (intro w hSw; (try dsimp only at hSw); go_simp; try with_reducible rfl)
  try simp only [tkS]
  refine tk 11 ⟨some 62, _, _, _, _, _⟩ ?_ rfl ?_ ?_
  rotate_left
  · (intro w hSw; (try dsimp only at hSw); go_simp; try with_reducible rfl)
  try simp only [tkS]
  refine tk 12 ⟨some 63, _, _, _, _, _⟩ ?_ rfl ?_ ?_
  rotate_left
  · (intro w hSw; (try dsimp only at hSw); go_simp; try with_reducible rfl)
  try simp only [tkS]
  refine tk 13 ⟨some 64, _, _, _, _, _⟩ ?_ rfl ?_ ?_
  rotate_left
  · (intro w hSw; (try dsimp only at hSw); go_simp; try with_reducible rfl)
  try simp only [tkS]
  refine wpAnyH_ready (rs := [14]) (by kernel_rfl) (by simp) ?_
  refine AllReadyH.cons (o := ⟨some 65, _, _, _, _, _⟩) rfl (fun K hK => ?_) AllReadyH.nil
  go_simp
  refine (equalInts_any a0 a c0 cp yt xt _ (HRO.out.ext (Ext.trans_ HX1.out (by first | exact Ext.refl _ | exact (Ext.refl _).drew_ | exact (Ext.refl _).drewN_ _))) (HR.out.ext (Ext.trans_ HX1.out (by first | exact Ext.refl _ | exact (Ext.refl _).drew_ | exact (Ext.refl _).drewN_ _))) hyl hxl).mono ?_
  rintro e w5 ⟨he, hE2⟩
  have he2 : e = .returned (.bool false) := by rw [he]; congr 2; simpa using HTT.out
  have HX5 : Hid (Ext w1 w5) := Ext.trans_ (by first | exact Ext.refl _ | exact (Ext.refl _).drew_ | exact (Ext.refl _).drewN_ _) hE2
  clear he hE2
  subst he2
  refine hK.out _ _ ?_ (fun hHeld => ?_)
  · (try dsimp only); exact ⟨HX5.out.cell_ p1, HX5.out.cell_ p2, HX5.out.cell_ r1, HX5.out.cell_ r2⟩
  clear hK K
  try simp only [tkS]
  refine tk 15 ⟨some 66, _, _, _, _, _⟩ ?_ rfl ?_ ?_
  rotate_left
  · (intro w hSw; (try dsimp only at hSw); go_simp; try with_reducible rfl)
  try simp only [tkS]
  refine tk 16 ⟨some 67, _, _, _, _, _⟩ ?_ rfl ?_ ?_
  rotate_left
  · (intro w hSw; (try dsimp only at hSw); go_simp; try with_reducible rfl)
  try simp only [tkS]
  refine tk 17 ⟨some 50, _, _, _, _, _⟩ ?_ rfl ?_ ?_
  rotate_left
  · (intro w hSw; (try dsimp only at hSw); go_simp; try with_reducible rfl)
  try simp only [tkS]
  refine wpAnyH_done (by kernel_rfl) ?_ _
  clear hHeld p1 p2 r1 r2
  obtain ⟨w2, hw2⟩ : ∃ w2, w2 = w5 := ⟨_, rfl⟩
  rw [← hw2]
  have hX2 : Ext w5 w2 := by rw [hw2]; exact (by first | exact Ext.refl _ | exact (Ext.refl _).drew_ | exact (Ext.refl _).drewN_ _)
  have z8 := hX2.cell_ (HX5.out.cell_ r8)
  have zf : w2.frozen? ⟨K, 8, none⟩ = false := by rw [hX2.three.2.1 _ _ (by have := hX2.size; have := HX5.out.size; omega)]; exact by rw [HX5.out.three.2.1 _ _ (by omega)]; exact fr8
  have HX2 := Lib.hid hX2
  clear hw2 hX2
  go_wp2
  go_end0
  have hx : Ext w w2 := (HX1.out.trans_ HX5.out).trans_ HX2.out
  exact ⟨rfl, tv, (H.out.ext hx).bad false, (Keep.of_ext hx).set_ (p := ⟨K, 8, none⟩) (Or.inl (Or.inl rfl)) _, fun k hk => Or.inl hk, fun k hk hs => hs.same ((heap_setCell_other w2 ⟨K, 8, none⟩ sb _ (Ne.symm H.out.ne)).trans (Below.block hx sb hlS))⟩
theorem base_none (K : Nat) (h : Int) (s : Bool) (ta : Option Addr) (tc : Nat) (w : World) :
    Calls Tryd.prog 64 #[.pointer (some ⟨K, 0, none⟩), .agg #[.bool s, .int .i64 h, .slice ta 0 tc]] w fun e w' => e = .returned (.int .i64 0) ∧ Ext w w' := by
  go_enter Tryd.func64, Tryd.ntmps64
  go_wp2
  go_ret
  exact ⟨rfl, by repeat (first | exact Ext.refl _ | (refine Ext.drew_ ?_) | (refine Ext.alloc_ ?_ _))⟩
set_option maxRecDepth 100000 in
theorem base_at (K : Nat) (h hh : Int) (s : Bool) (tb tp m tc sb so n sc t : Nat) (w : World) (hm : m < 1000000) (hn : n ≤ 1000000) (ht : t < n) (hK : K < w.heap.size)
    (k6 : w.cell? ⟨K, 6, none⟩ = some (.slice (some ⟨sb, so, none⟩) n sc)) (k7 : w.cell? ⟨tb, tp + m, none⟩ = some (.int .i64 (t : Int))) (k8 : w.cell? ⟨sb, so + t * 3 + 1, none⟩ = some (.int .i64 hh)) :
    Calls Tryd.prog 64 #[.pointer (some ⟨K, 0, none⟩), .agg #[.bool s, .int .i64 h, .slice (some ⟨tb, tp, none⟩) (m + 1 : Nat) tc]] w fun e w' => e = .returned (.int .i64 hh) ∧ Ext w w' := by
  have htz : (t : Int) < (n : Int) := by omega
  go_enter Tryd.func64, Tryd.ntmps64
  go_upto_region 3 with fail
  refine namedW (fun W3 hW3 => ?_)
  have hX : Ext w W3 := by rw [hW3]; repeat (first | exact Ext.refl _ | (refine Ext.drew_ ?_) | (refine Ext.drewN_ ?_ _) | (refine Ext.alloc_ ?_ _))
  have b2 : W3.cell? ⟨w.heap.size, 2, none⟩ = some (.slice (some ⟨tb, tp, none⟩) (m + 1 : Nat) tc) := by rw [hW3]; simp [go_sem]
  have j6 := hX.cell_ k6
  have j7 := hX.cell_ k7
  have j8 := hX.cell_ k8
  have HX := Lib.hid hX
  clear k6 k7 k8 hW3 hX
  go_quiet (fail)
  go_wp2
  go_ret
  exact ⟨rfl, by repeat (first | exact HX.out | (refine Ext.drew_ ?_) | (refine Ext.drewN_ ?_ _) | (refine Ext.alloc_ ?_ _))⟩
def StepV (w : World) (B K sb mb : Nat) (c : CodeP) (V : CodeV) (f : FnP) (v : OpsV) (fb fo : Nat) (tv : Value) (g : GoP) (e : Ending) (w' : World) : Prop :=
  e = .returned (.tuple #[]) ∧ ∃ tv', OChk w' B K sb mb c V f v fb fo tv' g ∧ Keep (OwnC K sb tv) w w' ∧ ∀ k, tv'.ownBlock = some k → tv.ownBlock = some k ∨ w.heap.size ≤ k
theorem ComeV.then_ {w w1 w2 : World} {K sb : Nat} {tv tv1 tv2 : Value} (h1 : Keep (OwnC K sb tv) w w1) (n1 : ∀ k, tv1.ownBlock = some k → tv.ownBlock = some k ∨ w.heap.size ≤ k)
    (h2 : Keep (OwnC K sb tv1) w1 w2) (n2 : ∀ k, tv2.ownBlock = some k → tv1.ownBlock = some k ∨ w1.heap.size ≤ k) : Keep (OwnC K sb tv) w w2 ∧ ∀ k, tv2.ownBlock = some k → tv.ownBlock = some k ∨ w.heap.size ≤ k := by
  refine ⟨h1.then_ h2 fun k hk hl => ?_, fun k hk => ?_⟩
  · rcases hl with q | q | q
    · exact Or.inl q
    · exact Or.inr (Or.inl q)
    · rcases n1 k q with r | r
      · exact Or.inr (Or.inr r)
      · omega
  · have := h1.size
    rcases n2 k hk with q | q
    · rcases n1 k q with r | r
      · exact Or.inl r
      · exact Or.inr r
    · exact Or.inr (by omega)
/-- Coming to whatever op, with whatever state. -/
theorem comeC_any (B K sb mb : Nat) (c : CodeP) (V : CodeV) (f : FnP) (v : OpsV) (fb fo : Nat) (tv : Value) (g : GoP) (w : World) (h : OChk w B K sb mb c V f v fb fo tv g) (hT : TallP f.ops.length g) (h6 : f.ops.length ≤ 1000000)
    (tg : Int) (h0 : 0 ≤ tg) (b0 : Bool) (x : StP) (hxl : x.2.length ≤ 1000000) (a : Option Addr) (cp : Nat) (hr : RInts w a cp x.2) :
    Calls Tryd.prog 44 #[.pointer (some ⟨K, 0, none⟩), .int .i64 tg, .agg #[.bool b0, .int .i64 x.1, .slice a x.2.length cp]] w (ComeV w B K sb mb c V f v fb fo tv (comeP f.ops.length g tg x)) := by
  unfold comeP
  by_cases hto : f.ops.length ≤ tg.toNat
  · rw [if_pos hto]
    exact come_far B K sb mb c V f v fb fo tv g w h tg (by omega) _ ⟨_, _, _, rfl⟩
  · rw [if_neg hto]
    obtain ⟨i, rfl⟩ : ∃ i : Nat, tg = (i : Int) := ⟨tg.toNat, by omega⟩
    simp only [Int.toNat_natCast] at hto ⊢
    have htl := hT.todoLen
    cases hs : seenP g.s i with
    | none => exact come_new B K sb mb c V f v fb fo tv g w h hT.len h6 (by omega) i (by omega) hs b0 x hxl a cp hr
    | some y =>
      have hyl := (hT.fits i y hs).len
      have hsl := seens_le g.s
      have hgl := hT.len
      simp only
      by_cases e : y = x
      · subst e
        rw [if_pos rfl]
        exact come_same B K sb mb c V f v fb fo tv g w h hT.len h6 i (by omega) y hs (by omega) b0 y hxl a cp hr rfl rfl
      · rw [if_neg e]
        by_cases e1 : y.1 = x.1
        · exact come_tries B K sb mb c V f v fb fo tv g w h hT.len h6 i (by omega) y hs (by omega) b0 x hxl a cp hr e1 (fun e2 => e (Prod.ext e1 e2))
        · exact come_high B K sb mb c V f v fb fo tv g w h hT.len h6 i (by omega) y hs (by omega) b0 x hxl a cp hr e1
theorem baseC_any (B K sb mb : Nat) (c : CodeP) (V : CodeV) (f : FnP) (v : OpsV) (fb fo : Nat) (tv : Value) (g : GoP) (w : World) (h : OChk w B K sb mb c V f v fb fo tv g) (hT : TallP f.ops.length g) (h6 : f.ops.length ≤ 1000000)
    (x : StP) (hx : FitsP f.ops.length (seensP g.s) x) (b0 : Bool) (a : Option Addr) (cp : Nat) (hr : RInts w a cp x.2) :
    Calls Tryd.prog 64 #[.pointer (some ⟨K, 0, none⟩), .agg #[.bool b0, .int .i64 x.1, .slice a x.2.length cp]] w fun e w' => e = .returned (.int .i64 (baseP g.s x.2)) ∧ Ext w w' := by
  obtain ⟨xh, xt⟩ := x
  simp only at hr ⊢
  rcases List.eq_nil_or_concat xt with rfl | ⟨l, t, hxt⟩
  · have e : baseP g.s [] = 0 := rfl
    rw [e]
    exact base_none K xh b0 a cp w
  · rw [List.concat_eq_append] at hxt
    subst hxt
    have hlt : l.length < (l ++ [t]).length := by simp
    obtain ⟨b, o, rfl, hc⟩ := hr.at_ hlt
    have ht := hx.rng t (by simp)
    have hlen := hx.len
    have hsl := seens_le g.s
    have hgl := hT.len
    simp only [List.length_append, List.length_singleton] at hlen
    have e : baseP g.s (l ++ [t]) = highP g.s t := by simp [baseP]
    rw [e]
    obtain ⟨T, rfl⟩ : ∃ T : Nat, t = (T : Int) := ⟨t.toNat, by omega⟩
    have hTl : T < g.s.length := by omega
    obtain ⟨a1, c1, hst, -⟩ := h.st T hTl
    have h8 := hst.s1
    have eh : highP g.s (T : Int) = ((seenP g.s T).map (·.1)).getD 0 := by simp [highP]
    rw [eh]
    have hc' : w.cell? ⟨b, o + l.length, none⟩ = some (.int .i64 (T : Int)) := by simpa using hc
    have := base_at K xh (((seenP g.s T).map (·.1)).getD 0) b0 b o l.length cp sb 0 g.s.length g.s.length T w (by omega) (by omega) hTl h.lt.1 h.k6 hc' (by simpa using h8)
    simpa using this
theorem step_low {n : Nat} {p : StepP} {x : StP} {g : GoP} (h : lowP g.s p x = true) : stepP n p x g = { g with ok := false } := by
  unfold stepP; rw [h]; rfl
theorem step_outs {n : Nat} {p : StepP} {x : StP} {g : GoP} (h : lowP g.s p x = false) {l : List (Int × StP)} (ho : p.outs x = some l) : stepP n p x g = comesP n l g := by
  unfold stepP; rw [h, ho]; rfl
theorem step_none {n : Nat} {p : StepP} {x : StP} {g : GoP} (h : lowP g.s p x = false) (ho : p.outs x = none) : stepP n p x g = { g with ok := false } := by
  unfold stepP; rw [h, ho]; rfl
theorem low1 {s : List (Option StP)} {p : StepP} {x : StP} (h : x.1 - p.takes < baseP s x.2) : lowP s p x = true := by simp [lowP, h]
theorem low2 {s : List (Option StP)} {p : StepP} {x : StP} (h : 1000 < x.1 - p.takes + p.puts) : lowP s p x = true := by simp [lowP, h]
theorem low3 {s : List (Option StP)} {p : StepP} {x : StP} (h : ¬ x.1 - p.takes < baseP s x.2) (h2 : ¬ 1000 < x.1 - p.takes + p.puts) : lowP s p x = false := by simp [lowP]; omega
theorem OwnC.new {B K sb mb : Nat} {c : CodeP} {V : CodeV} {f : FnP} {v : OpsV} {fb fo : Nat} {tv : Value} {g : GoP} {w : World} (h : OChk w B K sb mb c V f v fb fo tv g) {k : Nat} (hk : w.heap.size ≤ k) : ¬ OwnC K sb tv k := fun e => by
  have := h.lt
  rcases e with q | q | q
  · omega
  · omega
  · have := (h.todo.lt q).2; omega
theorem RInts.keep_ {K sb : Nat} {tv : Value} {w w5 w6 : World} {a : Option Addr} {cp : Nat} {l : List Int} (h : RInts w5 a cp l) (hf : StFree w K sb tv a) (hs : w.heap.size ≤ w5.heap.size) (hk : Keep (OwnC K sb tv) w5 w6) : RInts w6 a cp l :=
  h.cells fun y hy => hk.block y.block (by have := (hf y hy).1; omega) (fun e => by
    obtain ⟨_, q1, q2, q3⟩ := hf y hy
    rcases e with r | r | r
    · exact q1 r
    · exact q2 r
    · exact q3 r)
theorem own_ext {w w' : World} {B : Nat} {e : TypeId} {size : Nat} {v : Value} {n : Nat} {xs : List Value} (h : w.ownsRow B e size v n xs) (hx : Ext w w') : w'.ownsRow B e size v n xs := by
  obtain ⟨h1, h2⟩ := h
  refine ⟨h1, ?_⟩
  rcases h2 with h2 | ⟨g, cap, cur, hv, hg, hh, r⟩
  · exact Or.inl h2
  · exact Or.inr ⟨g, cap, cur, hv, hg, by rw [Below.block hx g (lt_of_block hh)]; exact hh, r⟩
theorem grown_ext {w w1 w2 : World} {r : Option Nat} (h : Ext w w1) (hg : w1.grownBy w2 r) (hr : ∀ k, r = some k → w.heap.size ≤ k) : Ext w w2 := Below.grown h hg h.size hr
theorem rsl_one (w : World) (e : TypeId) (x : Value) : RSl (w.alloc (.cells #[x] e)) (some ⟨w.heap.size, 0, none⟩) [x] := fun j u hu => by
  cases j with
  | zero =>
    simp at hu; subst hu
    exact ⟨_, _, rfl, by simp [go_sem]⟩
  | succ j => simp at hu
theorem ints_snoc (l : List Int) (x : Int) : ints (l ++ [x]) = ints l ++ [.int .i64 x] := by simp [ints]
theorem outs_some {i : Nat} {op : OpP} {x : StP} (m3 : op.name ≠ n_return) (m4 : op.name ≠ n_halt) (m5 : op.name ≠ n_raise) (m6 : op.name ≠ n_jump) (m7 : op.name ≠ n_unless) (m8 : op.name ≠ n_next) (m9 : op.name ≠ n_try) (m10 : op.name ≠ n_end) :
    outsP i op x = some [((i : Int) + 1, (x.1 - takesP op + putsP op, x.2))] := by
  unfold outsP
  rw [if_neg (by simp [m3, m4, m5]), if_neg m6, if_neg m7, if_neg m8, if_neg m9, if_neg m10]
theorem outs_ret {i : Nat} {op : OpP} {x : StP} (h : op.name = n_return ∨ op.name = n_halt ∨ op.name = n_raise) : outsP i op x = some [] := by
  unfold outsP
  rw [if_pos h]
theorem outs_jump {i : Nat} {op : OpP} {x : StP} (h : op.name = n_jump) : outsP i op x = some [(op.a, (x.1 - takesP op + putsP op, x.2))] := by
  unfold outsP
  rw [h, if_neg (by decide), if_pos rfl]
theorem outs_unless {i : Nat} {op : OpP} {x : StP} (h : op.name = n_unless) : outsP i op x = some [(op.a, (x.1 - takesP op + putsP op, x.2)), ((i : Int) + 1, (x.1 - takesP op + putsP op, x.2))] := by
  unfold outsP
  rw [h, if_neg (by decide), if_neg (by decide), if_pos rfl]
theorem outs_next {i : Nat} {op : OpP} {x : StP} (h : op.name = n_next) : outsP i op x = some [(op.a, (x.1 - 1, x.2)), ((i : Int) + 1, (x.1 - takesP op + putsP op, x.2))] := by
  unfold outsP
  rw [h, if_neg (by decide), if_neg (by decide), if_neg (by decide), if_pos rfl]
theorem outs_try {i : Nat} {op : OpP} {x : StP} (h : op.name = n_try) : outsP i op x = some [(op.a, (x.1 + 1, x.2)), ((i : Int) + 1, (x.1 - takesP op + putsP op, x.2 ++ [(i : Int)]))] := by
  unfold outsP
  rw [h, if_neg (by decide), if_neg (by decide), if_neg (by decide), if_neg (by decide), if_pos rfl]
theorem outs_end {i : Nat} {op : OpP} {x : StP} (h : op.name = n_end) : outsP i op x = if x.2 = [] then none else some [((i : Int) + 1, (x.1 - takesP op + putsP op, x.2.dropLast))] := by
  unfold outsP
  rw [h, if_neg (by decide), if_neg (by decide), if_neg (by decide), if_neg (by decide), if_neg (by decide), if_pos rfl]
end Go.Proofs.YtgjjkllngopboaaDoor
