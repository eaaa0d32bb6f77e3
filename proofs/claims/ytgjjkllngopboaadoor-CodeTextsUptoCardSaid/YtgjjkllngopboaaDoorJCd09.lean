/- plain.Code over an *api.Fault; faulted. -/
import Derived.Test.YtgjjkllngopboaaDoorJCd08
import Derived.Test.YtgjjkllngopboaaDoorJCa01
import Derived.Test.YtgjjkllngopboaaDoorJCc02
import Derived.Test.YtgjjkllngopboaaDoorJCa21
namespace Go.Proofs.YtgjjkllngopboaaDoor
open Go.RowKit
set_option linter.unusedVariables false
set_option linter.unusedSimpArgs false

set_option maxRecDepth 100000 in
set_option maxHeartbeats 4000000 in
theorem code_flt {E : Nat → Addr} {w : World} (h : ErrEnv E w) (k : Nat) (hk : k < 7) (x : Nat) (n : Int) (hx0 : w.cell? ⟨x, 0, none⟩ = some (.int .i64 n)) (hx1 : w.cell? ⟨x, 1, none⟩ = some (errV (E k))) :
    Calls Tryd.prog 30 #[fltV x] w fun e w' => e = .returned (.tuple #[.int .i64 (k + 1), .int .i64 n]) ∧ Ext w w' := by
  have l0 := cell_lt h.text
  have l1 := cell_lt h.bound
  have l2 := cell_lt h.shape
  have l3 := cell_lt h.name
  have l4 := cell_lt h.place
  have l5 := cell_lt h.full
  have l6 := cell_lt h.nothing
  have l7 := cell_lt hx0
  simp only at l0 l1 l2 l3 l4 l5 l6 l7
  have H := Lib.hid h
  have HX0 := Lib.hid hx0
  have HX1 := Lib.hid hx1
  clear h hx1
  go_enter Tryd.func30, Tryd.ntmps30
  go_wp2_with (first
    | (go_at_call 41; refine (as_hit ⟨x, 0, none⟩ ⟨w.heap.size, 0, none⟩ (.pointer none) _ (((Ext.refl w).alloc_ _).cell_ H.out.etype) (by simp [go_sem]) (by simp [go_sem])).mono ?_; rintro e w1 ⟨rfl, hw1⟩; have hb : Ext w w1 := (by rw [hw1]; exact ((((((Ext.refl w).alloc_ _).alloc_ _).alloc_ _).alloc_ _).alloc_ _).set_ (p := ⟨w.heap.size, 0, none⟩) (Nat.le_refl _) _); have ht : w1.cell? ⟨w.heap.size, 0, none⟩ = some (.pointer (some ⟨x, 0, none⟩)) := (by rw [hw1]; exact cell_set_same (x := .pointer none) ((((((Ext.refl _).alloc_ _).alloc_ _).alloc_ _).alloc_ _).cell_ (by simp [go_sem]))); have h1 := H.out.ext hb; have hz : w.heap.size < w1.heap.size := (by rw [hw1]; simp [World.setCell]; omega); have q0 := hb.cell_ HX0.out; have HB := Lib.hid hb; have c0 := h1.text; have c1 := h1.bound; have c2 := h1.shape; have c3 := h1.name; have c4 := h1.place; have c5 := h1.full; have c6 := h1.nothing; clear hw1 hb))
  have hx : Ext w (w1.alloc (.cells #[errV (E 0), errV (E 1), errV (E 2), errV (E 3), errV (E 4), errV (E 5), errV (E 6)] 39)) := HB.out.alloc_ _
  have h2 := Lib.hid (h1.ext ((Ext.refl w1).alloc_ (.cells #[errV (E 0), errV (E 1), errV (E 2), errV (E 3), errV (E 4), errV (E 5), errV (E 6)] 39)))
  have hq1 := Lib.hid (hx.cell_ HX1.out)
  have hcell : ∀ j, j < 7 → (w1.alloc (.cells #[errV (E 0), errV (E 1), errV (E 2), errV (E 3), errV (E 4), errV (E 5), errV (E 6)] 39)).cell? ⟨w1.heap.size, j, none⟩ = some (errV (E j)) := by
    intro j hj
    rw [World.cell?_alloc_new]
    match j, hj with
    | 0, _ => rfl
    | 1, _ => rfl
    | 2, _ => rfl
    | 3, _ => rfl
    | 4, _ => rfl
    | 5, _ => rfl
    | 6, _ => rfl
  have hxx := Lib.hid hx
  clear h1 hz c0 c1 c2 c3 c4 c5 c6 l0 l1 l2 l3 l4 l5 l6 l7 hx ht q0 HB hx0
  generalize w1.heap.size = nb at *
  generalize (w1.alloc (.cells #[errV (E 0), errV (E 1), errV (E 2), errV (E 3), errV (E 4), errV (E 5), errV (E 6)] 39)) = W at *
  have HC := Lib.hid hcell
  clear hcell
  go_loopg [3, 25] (7 : Nat) (fun r c i wr => ∃ j : Nat, j ≤ k ∧ j + r = 7 ∧ c = .int .i64 n ∧ i = .int .i64 (j : Int) ∧ Hid (Ext W wr))
  case atStart => exact ⟨0, Nat.zero_le _, rfl, rfl, rfl, Ext.refl _⟩
  case round =>
    obtain ⟨j, hj, hjr, rfl, rfl, hE⟩ := hrel
    obtain ⟨r, hr⟩ : ∃ r, gk = r + 1 := ⟨gk - 1, by omega⟩
    subst hr
    have hc := hE.out.cell_ (HC.out j (by omega))
    have h3 := Lib.hid (h2.out.ext hE.out)
    have hq := Lib.hid (hE.out.cell_ hq1.out)
    have hjz : (j : Int) < 7 := by omega
    have hnb : nb < wr.heap.size := cell_lt hc
    by_cases hjk : k = j
    · subst hjk
      go_wp2_with (first
        | (go_at_call 42; refine (isF_same x _ _ hq.out).mono ?_; rintro e w' ⟨rfl, hqq⟩; have HQQ := Lib.hid hqq; clear hqq))
      go_ret2
      exact ⟨rfl, (hxx.out.trans_ hE.out).trans_ HQQ.out⟩
    · have hd : j < k := by omega
      obtain ⟨ca, ta, ha⟩ := h3.out.blk k hk
      obtain ⟨cb, tb, hb⟩ := h3.out.blk j (by omega)
      have hne := h3.out.ne k j hk (by omega) hjk
      have Ha := Lib.hid ha
      have Hb := Lib.hid hb
      have HJR := Lib.hid hjr
      clear ha hb hjr
      go_wp2_with (first
        | (go_at_call 42; refine (isF_other x _ _ _ _ _ _ _ hq.out hne Ha.out Hb.out).mono ?_; rintro e w' ⟨rfl, hqq⟩; have HQQ := Lib.hid (hE.out.trans_ hqq); clear hqq))
      go_roundg r
      case measure => omega
      case rel => exact ⟨j + 1, by omega, by have := HJR.out; omega, rfl, by go_num, HQQ.out⟩
/-- What faulted answers: the same number, and (where there is an error) the same place. -/
theorem faulted_ok {E : Nat → Addr} {w : World} (h : ErrEnv E w) (r : Int × Int) (ev : Value)
    (hev : (r = (0, -1) ∧ ev = .nilIface) ∨ (r = (2, -1) ∧ ev = errV (E 1)) ∨ (r = (3, -1) ∧ ev = errV (E 2)) ∨
      ∃ (i x : Nat), r = (3, (i : Int)) ∧ ev = fltV x ∧ w.cell? ⟨x, 0, none⟩ = some (.int .i64 (i : Int)) ∧ w.cell? ⟨x, 1, none⟩ = some (errV (E 2))) :
    Calls Tryd.prog 13 #[ev, .agg #[.int .i64 r.1, .int .i64 r.2]] w fun e w' => e = .returned (.bool true) ∧ Ext w w' := by
  have key : ∀ W, Ext w W → Calls Tryd.prog 30 #[ev] W fun e w' => e = .returned (.tuple #[.int .i64 r.1, .int .i64 r.2]) ∧ Ext W w' := fun W hW => by
    rcases hev with ⟨rfl, rfl⟩ | ⟨rfl, rfl⟩ | ⟨rfl, rfl⟩ | ⟨i, x, rfl, rfl, h0, h1⟩
    · exact (code_nil W).mono fun e w' ⟨h1, h2⟩ => ⟨h1, by rw [h2]; exact Ext.refl _⟩
    · exact code_env (h.ext hW) 1 (by omega)
    · exact code_env (h.ext hW) 2 (by omega)
    · exact code_flt (h.ext hW) 2 (by omega) x _ (hW.cell_ h0) (hW.cell_ h1)
  have KEY := Lib.hid key
  obtain ⟨r1, r2⟩ := r
  simp only at KEY ⊢
  have z1 : (r1 == r1) = true := by simp
  have z2 : (r2 == r2) = true := by simp
  clear key hev
  cases hz : (r1 == 0) with
  | true =>
    go_enter Tryd.func13, Tryd.ntmps13
    go_wp2_with (go_at_call 30; refine (KEY.out _ ((Ext.refl w).alloc_ _)).mono ?_; rintro e w1 ⟨rfl, hq⟩; have HQ := Lib.hid (((Ext.refl w).alloc_ _).trans_ hq); have hz1 := hq.size; simp only [World.size_alloc] at hz1; have y0 := hq.cell_ (p := ⟨w.heap.size, 0, none⟩) (v := .int .i64 r1) (by simp [go_sem]); have y1 := hq.cell_ (p := ⟨w.heap.size, 1, none⟩) (v := .int .i64 r2) (by simp [go_sem]); clear hq)
    go_ret
    exact ⟨rfl, HQ.out⟩
  | false =>
    go_enter Tryd.func13, Tryd.ntmps13
    go_wp2_with (go_at_call 30; refine (KEY.out _ ((Ext.refl w).alloc_ _)).mono ?_; rintro e w1 ⟨rfl, hq⟩; have HQ := Lib.hid (((Ext.refl w).alloc_ _).trans_ hq); have hz1 := hq.size; simp only [World.size_alloc] at hz1; have y0 := hq.cell_ (p := ⟨w.heap.size, 0, none⟩) (v := .int .i64 r1) (by simp [go_sem]); have y1 := hq.cell_ (p := ⟨w.heap.size, 1, none⟩) (v := .int .i64 r2) (by simp [go_sem]); clear hq)
    go_ret
    exact ⟨rfl, HQ.out⟩
theorem tame_count {c : CodeP} (h : tameB c = true) : countP c + c.funcs.length + c.ints.length + c.strs.length + c.names.length ≤ 1000000000000000000 ∧ (∀ f ∈ c.funcs, f.ops.length ≤ 1000000) ∧ smallC c = true ∧ sumS c.strs + sumF c.funcs ≤ 2000 := by
  unfold tameB at h
  rw [Bool.and_eq_true, decide_eq_true_eq] at h
  obtain ⟨h1, h2⟩ := h
  obtain ⟨a1, a2, a3, a4⟩ := small_parts h1
  have hk : ∀ l : List FnP, (l.map fun f => f.ops.length).sum ≤ sumF l := by
    intro l
    induction l with
    | nil => exact Nat.le_refl _
    | cons a l ih =>
      unfold sumF at ih ⊢
      simp only [List.map_cons, List.sum_cons]
      omega
  have hc : countP c ≤ sumF c.funcs := hk _
  refine ⟨by omega, fun f hf => ?_, h1, h2⟩
  have := ops_count hf
  omega
/-- What an ending says of the error. -/
def EvOf (E : Nat → Addr) (w : World) (r : Int × Int) (ev : Value) : Prop :=
  (r = (0, -1) ∧ ev = .nilIface) ∨ (r = (2, -1) ∧ ev = errV (E 1)) ∨ (r = (3, -1) ∧ ev = errV (E 2)) ∨
      ∃ (i x : Nat), r = (3, (i : Int)) ∧ ev = fltV x ∧ w.cell? ⟨x, 0, none⟩ = some (.int .i64 (i : Int)) ∧ w.cell? ⟨x, 1, none⟩ = some (errV (E 2))
theorem evExt {E : Nat → Addr} {w w' : World} {r : Int × Int} {ev : Value} (h : EvOf E w r ev) (hx : Ext w w') : EvOf E w' r ev := by
  rcases h with h | h | h | ⟨i, x, h1, h2, h3, h4⟩
  · exact Or.inl h
  · exact Or.inr (Or.inl h)
  · exact Or.inr (Or.inr (Or.inl h))
  · exact Or.inr (Or.inr (Or.inr ⟨i, x, h1, h2, hx.cell_ h3, hx.cell_ h4⟩))
theorem verEv {E : Nat → Addr} {w' : World} {r : Int × Int} {e : Ending} (h : (r = (0, -1) ∧ e = .returned .nilIface) ∨ (r = (2, -1) ∧ e = .returned (errV (E 1))) ∨ (r = (3, -1) ∧ e = .returned (errV (E 2))) ∨
    ∃ (i x : Nat), r = (3, (i : Int)) ∧ e = .returned (.iface 82 (.pointer (some ⟨x, 0, none⟩))) ∧ w'.cell? ⟨x, 0, none⟩ = some (.int .i64 (i : Int)) ∧ w'.cell? ⟨x, 1, none⟩ = some (errV (E 2))) : ∃ ev, e = .returned ev ∧ EvOf E w' r ev := by
  rcases h with ⟨h1, h2⟩ | ⟨h1, h2⟩ | ⟨h1, h2⟩ | ⟨i, x, h1, h2, h3, h4⟩
  · exact ⟨_, h2, Or.inl ⟨h1, rfl⟩⟩
  · exact ⟨_, h2, Or.inr (Or.inl ⟨h1, rfl⟩)⟩
  · exact ⟨_, h2, Or.inr (Or.inr (Or.inl ⟨h1, rfl⟩))⟩
  · exact ⟨_, h2, Or.inr (Or.inr (Or.inr ⟨i, x, h1, rfl, h3, h4⟩))⟩
set_option maxRecDepth 100000 in
set_option maxHeartbeats 8000000 in
theorem codeVerifies_any (c : CodeP) (V : CodeV) (w : World) (hR : RCodeR w c V) (hZ : SizedC c) (E : Nat → Addr) (hE : ErrEnv E w) (hP : Pow w) :
    Calls Tryd.prog 4 #[codeV c V] w fun e w' => e = .returned (.bool true) ∧ Ext w w' := by
  have hh := fun W (hx : Ext w W) => halt_walk _ _ W (hE.ext hx).bound (hE.ext hx).shape (hP.ext hx)
  have HH := Lib.hid hh
  have HE := Lib.hid hE
  have hta := fun W (hx : Ext w W) => tame_any c V W (hR.ext hx) hZ
  have hco := fun (ht : tameB c = true) W (hx : Ext w W) => codeOf_any c V W (hR.ext hx) hZ (tame_count ht).2.2.1 (tame_count ht).2.1 (tame_count ht).1
  have hvo := fun (ht : tameB c = true) W (hx : Ext w W) => verOf_walk c V W ((hR.ext hx).full (tame_count ht).1)
  obtain ⟨⟨fa, fcp⟩, ⟨ia, icp⟩, ⟨sa, scp⟩, ⟨na, ncp⟩, fs⟩ := V
  unfold codeV at hta hco hvo ⊢
  simp only at hta hco hvo ⊢
  have HTA := Lib.hid hta
  have HCO := Lib.hid hco
  have HVO := Lib.hid hvo
  clear hR hZ hE hP hh hta hco hvo
  go_enter Tryd.func4, Tryd.ntmps4
  go_upto_region 1 with fail
  obtain ⟨P1, hP1⟩ : ∃ P1, P1 = w.heap.size := ⟨_, rfl⟩
  refine namedW (fun w1 hw1 => ?_)
  have p0 : w1.cell? ⟨P1, 0, none⟩ = some (.slice fa c.funcs.length fcp) := by rw [hw1, hP1]; simp [go_sem]
  have p1 : w1.cell? ⟨P1, 1, none⟩ = some (.slice ia c.ints.length icp) := by rw [hw1, hP1]; simp [go_sem]
  have p2 : w1.cell? ⟨P1, 2, none⟩ = some (.slice sa c.strs.length scp) := by rw [hw1, hP1]; simp [go_sem]
  have p3 : w1.cell? ⟨P1, 3, none⟩ = some (.slice na c.names.length ncp) := by rw [hw1, hP1]; simp [go_sem]
  have hX1 : Ext w w1 := by rw [hw1]; exact (Ext.refl w).alloc_ _
  rw [← hP1]
  have HX1 := Lib.hid hX1
  clear hw1 hP1 hX1
  go_upto_region 2 with (go_at_call 6; refine (HH.out _ HX1.out).mono ?_; rintro e w2 ⟨rfl, hq⟩; have HX2 := Lib.hid (HX1.out.trans_ hq); have p0 := hq.cell_ p0; have p1 := hq.cell_ p1; have p2 := hq.cell_ p2; have p3 := hq.cell_ p3; clear hq)
  have lP : P1 < w2.heap.size := cell_lt p0
  cases ht : tameB c with
  | false =>
    rw [ht] at HTA
    clear ht
    go_wp2_with (go_at_call 7; refine (HTA.out _ HX2.out).mono ?_; rintro e w3 ⟨rfl, hq⟩; have HX3 := Lib.hid (HX2.out.trans_ hq); clear hq)
    go_ret
    exact ⟨rfl, HX3.out⟩
  | true =>
    have hco2 := HCO.out ht
    have hvo2 := HVO.out ht
    have HC2 := Lib.hid hco2
    have HV2 := Lib.hid hvo2
    rw [ht] at HTA
    clear ht hco2 hvo2
    go_upto_region 4 with (go_at_call 7; refine (HTA.out _ HX2.out).mono ?_; rintro e w3 ⟨rfl, hq⟩; have HX3 := Lib.hid (HX2.out.trans_ hq); have p0 := hq.cell_ p0; have p1 := hq.cell_ p1; have p2 := hq.cell_ p2; have p3 := hq.cell_ p3; clear hq)
    have lP : P1 < w3.heap.size := cell_lt p0
    refine wp_region_held_drew (S := fun W => W.cell? ⟨P1, 0, none⟩ = some (.slice fa c.funcs.length fcp) ∧ W.cell? ⟨P1, 1, none⟩ = some (.slice ia c.ints.length icp) ∧ W.cell? ⟨P1, 2, none⟩ = some (.slice sa c.strs.length scp) ∧ W.cell? ⟨P1, 3, none⟩ = some (.slice na c.names.length ncp)) (by kernel_rfl) ?_ (fun hHeld => ?_)
    · exact ⟨p0, p1, p2, p3⟩
    refine tk 0 ⟨some 13, _, _, _, _, _⟩ ?_ rfl ?_ ?_
    rotate_left
    · (intro w hSw; (try dsimp only at hSw); go_simp; try with_reducible rfl)
    try simp only [tkS]
    refine tk 3 ⟨some 16, _, _, _, _, _⟩ ?_ rfl ?_ ?_
    rotate_left
    · (intro w hSw; (try dsimp only at hSw); go_simp; try with_reducible rfl)
    try simp only [tkS]
    refine wpAnyH_ready (rs := [1]) (by kernel_rfl) (by simp) ?_
    refine AllReadyH.cons (o := ⟨some 14, _, _, _, _, _⟩) rfl (fun K hK => ?_) AllReadyH.nil
    go_simp
    refine (HC2.out _ (HX3.out.trans_ (by first | exact Ext.refl _ | exact (Ext.refl _).drew_ | exact (Ext.refl _).drewN_ _))).mono ?_
    rintro e w4 ⟨V2, rfl, hR4, hE4, hin4⟩
    have HX4 : Hid (Ext w3 w4) := Ext.trans_ (by first | exact Ext.refl _ | exact (Ext.refl _).drew_ | exact (Ext.refl _).drewN_ _) hE4
    have HR4 := Lib.hid hR4
    have HIN := Lib.hid hin4
    clear hR4 hE4 hin4
    refine hK.out _ _ ?_ (fun hHeld => ?_)
    · (try dsimp only); exact ⟨HX4.out.cell_ p0, HX4.out.cell_ p1, HX4.out.cell_ p2, HX4.out.cell_ p3⟩
    clear hK K
    try simp only [tkS]
    refine wpAnyH_ready (rs := [2]) (by kernel_rfl) (by simp) ?_
    refine AllReadyH.cons (o := ⟨some 15, _, _, _, _, _⟩) rfl (fun K hK => ?_) AllReadyH.nil
    go_simp
    have hE4 := HE.out.ext (HX3.out.trans_ HX4.out)
    refine (verify_walk c V2 (E 1) (E 2) _ HR4.out hE4.bound hE4.shape HIN.out).mono ?_
    rintro e w5 ⟨hE5, hV5⟩
    obtain ⟨ev, rfl, hev⟩ := verEv hV5
    have HX5 := Lib.hid (HX4.out.trans_ hE5)
    have HEV := Lib.hid hev
    clear hE5 hV5 hev hE4
    refine hK.out _ _ ?_ (fun hHeld => ?_)
    · (try dsimp only); exact ⟨HX5.out.cell_ p0, HX5.out.cell_ p1, HX5.out.cell_ p2, HX5.out.cell_ p3⟩
    clear hK K
    try simp only [tkS]
    refine wpAnyH_ready (rs := [4]) (by kernel_rfl) (by simp) ?_
    refine AllReadyH.cons (o := ⟨some 17, _, _, _, _, _⟩) rfl (fun K hK => ?_) AllReadyH.nil
    go_simp
    refine (HV2.out _ (HX3.out.trans_ HX5.out)).mono ?_
    rintro e w6 ⟨rfl, hE6⟩
    rw [← verify_same]
    have HX6 := Lib.hid (HX5.out.trans_ hE6)
    have HE56 := Lib.hid hE6
    clear hE6
    refine hK.out _ _ ?_ (fun hHeld => ?_)
    · (try dsimp only); exact ⟨HX6.out.cell_ p0, HX6.out.cell_ p1, HX6.out.cell_ p2, HX6.out.cell_ p3⟩
    clear hK K
    try simp only [tkS]
    refine wpAnyH_ready (rs := [5]) (by kernel_rfl) (by simp) ?_
    refine AllReadyH.cons (o := ⟨some 18, _, _, _, _, _⟩) rfl (fun K hK => ?_) AllReadyH.nil
    go_simp
    refine (faulted_ok (HE.out.ext (HX3.out.trans_ HX6.out)) (verifyP 20000 funcA c) ev (evExt HEV.out HE56.out)).mono ?_
    rintro e w7 ⟨rfl, hE7⟩
    have HX7 := Lib.hid (HX6.out.trans_ hE7)
    clear hE7
    refine hK.out _ _ ?_ (fun hHeld => ?_)
    · (try dsimp only); exact ⟨HX7.out.cell_ p0, HX7.out.cell_ p1, HX7.out.cell_ p2, HX7.out.cell_ p3⟩
    clear hK K
    try simp only [tkS]
    refine tk 6 ⟨some 2, _, _, _, _, _⟩ ?_ rfl ?_ ?_
    rotate_left
    · (intro w hSw; (try dsimp only at hSw); go_simp; try with_reducible rfl)
    try simp only [tkS]
    refine wpAnyH_done (by kernel_rfl) ?_ _
    clear hHeld
    go_wp2
    go_ret
    exact ⟨rfl, HX3.out.trans_ HX7.out⟩
end Go.Proofs.YtgjjkllngopboaaDoor
