/- The law MinorAges: its walk. -/
import Derived.Test.YtecbbbaafcoliaaDoorJMn31
import Derived.Test.YtecbbbaafcoliaaDoorJMn37
import Derived.Test.YtecbbbaafcoliaaDoorJMn33
import Derived.Test.YtecbbbaafcoliaaDoorJMn34
import Derived.Test.YtecbbbaafcoliaaDoorJMn38
import Derived.Deep.Cut
import Derived.Test.YtecbbbaafcoliaaDoorJMn39
import Derived.Test.YtecbbbaafcoliaaDoorCards
import Derived.JoinedCond
import Derived.Lib.SmallJoins
import Derived.ProofKit
namespace Go.Proofs.YtecbbbaafcoliaaDoor
open Go.RowKit
set_option linter.unusedVariables false
set_option linter.unusedSimpArgs false

theorem kAll_good {M : Mem} (hg : goodB M = true) : (kN M).1 ++ (kO M).1 = objsAll M ∧ ((kN M).2 && (kO M).2) = true := by
  obtain ⟨hs, hob, hr, hw, hfo, hid⟩ := good_parts hg
  have h2 : ((kN M).2 && (kO M).2) = true := by
    cases hq : ((kN M).2 && (kO M).2) with
    | true => rfl
    | false => have := kAll_bad hq; rw [hob] at this; cases this
  exact ⟨(kAll_ok h2).1, h2⟩
set_option maxRecDepth 100000 in
set_option maxHeartbeats 4000000 in
theorem minorAges_nil (ten : Int) (w : World) (E : Nat → Addr) (h : G4 E w) :
    Calls Tryd.prog 5 #[.pointer none, .int .i64 ten] w fun e w' => e = .returned (.bool true) ∧ Ext w w' := by
  have H := Lib.hid h
  clear h
  go_enter Tryd.func5, Tryd.ntmps5
  go_wp2_with (first
    | (go_at_call 25; refine (still_any _ E H.out).mono ?_; rintro e w1 ⟨rfl, hq⟩; have HB1 := Lib.hid hq; clear hq)
    | (go_at_call 12; refine (near_nil _).mono ?_; rintro e w' ⟨rfl, hw9⟩; have hw9 := hw9.symm; subst hw9)
    | (go_at_call 18; refine (kCheck_nil _).mono ?_; rintro e w3 ⟨rfl, hq⟩; have HB3 : Hid (Ext w w3) := Ext.trans_ HB1.out hq; clear hq))
  go_ret
  exact ⟨rfl, HB3.out⟩
set_option maxRecDepth 100000 in
set_option maxHeartbeats 8000000 in
theorem minorAges_out (b o : Nat) (M : Mem) (S : Sls) (ten : Int) (w : World) (hM : RMem w b o M S) (E : Nat → Addr) (h : G4 E w) (hf : ¬ Near M ∨ (Near M ∧ 0 < chk M) ∨ (Near M ∧ chk M = 0 ∧ ten < 0) ∨ (Near M ∧ chk M = 0 ∧ ¬ ten < 0 ∧ 15 < ten)) :
    Calls Tryd.prog 5 #[.pointer (some ⟨b, o, none⟩), .int .i64 ten] w fun e w' => e = .returned (.bool true) ∧ Ext w w' := by
  have H := Lib.hid h
  have HM := Lib.hid hM
  clear h hM
  rcases hf with hn | ⟨hn, hc⟩ | ⟨hn, hc, ht⟩ | ⟨hn, hc, ht, ht2⟩
  · have HN := Lib.hid hn
    clear hn
    go_enter Tryd.func5, Tryd.ntmps5
    go_wp2_with (first
      | (go_at_call 25; refine (still_any _ E H.out).mono ?_; rintro e w1 ⟨rfl, hq⟩; have HB1 := Lib.hid hq; clear hq)
      | (go_at_call 12; refine (near_no b o M S HN.out _ (HM.out.ext HB1.out)).mono ?_; rintro e w' ⟨rfl, hw9⟩; have hw9 := hw9.symm; subst hw9))
    go_ret
    exact ⟨rfl, HB1.out⟩
  all_goals
    have HN := Lib.hid hn
    clear hn
    obtain ⟨c, hcc⟩ : ∃ c, chk M = c := ⟨_, rfl⟩
    rw [hcc] at hc
    have HCK := Lib.hid hcc
    clear hcc
    try subst hc
    go_enter Tryd.func5, Tryd.ntmps5
    go_wp2_with (first
      | (go_at_call 25; refine (still_any _ E H.out).mono ?_; rintro e w1 ⟨rfl, hq⟩; have HB1 := Lib.hid hq; clear hq)
      | (go_at_call 12; refine (near_yes b o M S HN.out _ (HM.out.ext HB1.out)).mono ?_; rintro e w' ⟨rfl, hw9⟩; have hw9 := hw9.symm; subst hw9)
      | (go_at_call 18; refine (kCheck_any b o M S _ (HM.out.ext HB1.out)).mono ?_; rintro e w2 ⟨he, hq⟩; rw [HCK.out] at he; subst he; have HB2 : Hid (Ext w w2) := Ext.trans_ HB1.out hq; clear hq))
    go_ret
    exact ⟨rfl, HB2.out⟩
/-- The round: what is asked of an object. -/
structure AgeOK (h ten : Int) (x y : Ob) : Prop where
  kind : hKind y.w = hKind x.w
  size : hSize y.w = hSize x.w
  at_ : (2 * h ≤ (x.a : Int) ∧ (y.a : Int) = (x.a : Int)) ∨ ((x.a : Int) < 2 * h ∧ (2 * h ≤ (y.a : Int) ↔ ten ≤ hAge x.w) ∧ ((y.a : Int) < 2 * h → hAge y.w = min 15 (hAge x.w + 1)))
set_option maxRecDepth 100000 in
set_option maxHeartbeats 8000000 in
theorem minorAges_full (b o : Nat) (M : Mem) (S : Sls) (ten : Int) (hn : Near M) (w : World) (hM : RMem w b o M S) (E : Nat → Addr) (h : G4 E w) (hc : chk M = 0) (t0 : 0 ≤ ten) (t1 : ten ≤ 15) (hfu : M.old - M.oldTop < M.top) :
    Calls Tryd.prog 5 #[.pointer (some ⟨b, o, none⟩), .int .i64 ten] w fun e w' => e = .returned (.bool true) ∧ Ext w w' := by
  have HCK := Lib.hid hc
  have HF := Lib.hid hn.few
  have HOK := Lib.hid hM.ok
  have H := Lib.hid h
  have HM := Lib.hid hM
  have HN := Lib.hid hn
  have HFU := Lib.hid hfu
  have HE6 : Hid (errC E 6 = errV (E 5)) := rfl
  clear h hM hn hc hfu
  go_enter Tryd.func5, Tryd.ntmps5
  go_wp2_with (first
    | (go_at_call 25; refine (still_any _ E H.out).mono ?_; rintro e w1 ⟨rfl, hq⟩; have HB1 := Lib.hid hq; clear hq)
    | (go_at_call 12; refine (near_yes b o M S HN.out _ (HM.out.ext HB1.out)).mono ?_; rintro e w' ⟨rfl, hw9⟩; have hw9 := hw9.symm; subst hw9)
    | (go_at_call 18; refine (kCheck_any b o M S _ (HM.out.ext HB1.out)).mono ?_; rintro e w2 ⟨he, hq⟩; rw [HCK.out] at he; subst he; have HB2 : Hid (Ext w w2) := Ext.trans_ HB1.out hq; clear hq)
    | (go_at_call 13; refine (memOf_walk b o M S _ (HM.out.ext HB2.out) HF.out).mono ?_; rintro e w3 ⟨bx, Sx, rfl, hq1, hq2⟩; have HX := Lib.hid hq1; have HB3 : Hid (Ext w w3) := Ext.trans_ HB2.out hq2; clear hq1 hq2)
    | (go_at_call 26; refine (collect_full bx 0 M Sx E ten _ (HX.out.mem HOK.out) (H.out.ext HB3.out) HCK.out t0 t1 HFU.out).mono ?_; rintro e w4 ⟨he, hq⟩; rw [HE6.out] at he; subst he; have HB4 : Hid (Ext w w4) := Ext.trans_ HB3.out hq; clear hq))
  go_ret
  exact ⟨rfl, HB4.out⟩
set_option maxRecDepth 100000 in
set_option maxHeartbeats 8000000 in
theorem minorAges_main (b o : Nat) (M : Mem) (S : Sls) (ten : Int) (hn : Near M) (w : World) (hM : RMem w b o M S) (E : Nat → Addr) (h : G4 E w) (hc : chk M = 0) (t0 : 0 ≤ ten) (t1 : ten ≤ 15) (hfu : ¬ M.old - M.oldTop < M.top) :
    Calls Tryd.prog 5 #[.pointer (some ⟨b, o, none⟩), .int .i64 ten] w fun e w' => e = .returned (.bool true) ∧ Ext w w' := by
  have hr : Ready M ten := ⟨hM.ok, hc, ⟨t0, t1⟩, by omega⟩
  have hs := hr.shp
  have s1 := hs.h1; have s2 := hs.h2
  have hgb : 0 < w.heap.size ∧ 1 < w.heap.size := ⟨cell_lt h.bound, cell_lt h.shape⟩
  obtain ⟨al, ag⟩ := collectC_ages hr
  obtain ⟨wd1, wd2⟩ := collectC_words hr
  have HAG : Hid (∀ k (h1 : k < (reachP M).length) (h2 : k < (reachP (collectC M ten)).length), AgeOK M.half ten (reachP M)[k] (reachP (collectC M ten))[k]) := fun k h1 h2 => by
    obtain ⟨a1, a2, a3⟩ := ag k h1 h2
    exact ⟨a1, a2, a3⟩
  have hNs : Shp (collectC M ten) := (good_parts (chk_zero (collectC_chk hr)).1).1
  have hka := kAll_good (chk_zero (collectC_chk hr)).1
  have hfewN := collectC_few hr hn.few
  have hokN := collectC_ok hr
  have hgN := (chk_zero (collectC_chk hr)).1
  have hhalf := collectC_half hr
  have hlr := (reachP_gath (chk_zero hc).1).len
  have hlo := objs_len hs
  have hlM := len_small hs
  have hloN := objs_len hNs
  have hlN := len_small hNs
  have hrl : (reachP M).length ≤ 196608 := by omega
  have hol : (objsAll (collectC M ten)).length ≤ 196608 := by omega
  have hmemN : Hid (∀ x ∈ objsAll (collectC M ten), (x.n : Int) = hSize x.w ∧ hSize x.w ≤ 4096) := fun x hx => ⟨found_n hokN hNs hx, ((isHd_iff x.w).1 (mem_in hNs hx).2.2).2.2⟩
  have hag : Hid (∀ k (h1 : k < (reachP M).length), 0 ≤ hAge (reachP M)[k].w ∧ hAge (reachP M)[k].w ≤ 15) := fun k h1 => by
    have hm := (reachP_gath (chk_zero hc).1).mem _ (List.getElem_mem h1)
    have := hd_in (reachP M)[k].w (by rw [(mem_in hs hm).2.1]; exact (wat_in hM.ok _).1)
    exact ⟨this.2.2.1, this.2.2.2.1⟩
  have hwz : Hid (∀ k, wordsN M.half ((objsAll (collectC M ten)).take k) ≤ 4097 * 196608 ∧ 0 ≤ wordsN M.half ((objsAll (collectC M ten)).take k)) := fun k => by
    have hsz : ∀ (l : List Ob), (∀ x ∈ l, x ∈ objsAll (collectC M ten)) → ((((l.filter fun o => decide ((o.a : Int) < 2 * M.half)).map fun o => 1 + o.n).sum : Nat) : Int) ≤ 4097 * (l.length : Int) := fun l hl => by
      induction l with
      | nil => simp
      | cons x l ih =>
        have h1 := hmemN.out x (hl x (by simp))
        have h2 := ih fun y hy => hl y (by simp [hy])
        rw [List.filter_cons]
        split
        · rw [List.map_cons, List.sum_cons, List.length_cons]; omega
        · rw [List.length_cons]; omega
    have h1 := hsz ((objsAll (collectC M ten)).take k) fun x hx => List.mem_of_mem_take hx
    have h2 : ((objsAll (collectC M ten)).take k).length ≤ 196608 := by rw [List.length_take]; omega
    unfold wordsN
    omega
  obtain ⟨NN, hNN⟩ : ∃ NN, NN = collectC M ten := ⟨_, rfl⟩
  rw [← hNN] at al ag wd1 wd2 HAG hNs hka hfewN hokN hgN hhalf hloN hlN hol hmemN hwz
  have HNN := Lib.hid hNN
  have HCK := Lib.hid hc
  have HF := Lib.hid hn.few
  have HOK := Lib.hid hM.ok
  have H := Lib.hid h
  have HM := Lib.hid hM
  have HN := Lib.hid hn
  have HR := Lib.hid hr
  have HGB := Lib.hid hgb
  have HFN := Lib.hid hfewN
  have HOKN := Lib.hid hokN
  have HGN := Lib.hid hgN
  have HGM := Lib.hid (chk_zero hc).1
  have HNS := Lib.hid hNs
  have HKA := Lib.hid hka
  have HALL := Lib.hid al
  have HHF := Lib.hid hhalf
  have HWD1 := Lib.hid wd1
  have HWD2 := Lib.hid wd2
  have HS := Lib.hid hs
  clear h hM hn hc hfu hr hs hgb al ag wd1 wd2 hNs hka hfewN hokN hgN hhalf hlr hlo hlM hloN hlN hNN
  go_enter Tryd.func5, Tryd.ntmps5
  go_upto_region 9 with (first
    | (go_at_call 25; refine (still_any _ E H.out).mono ?_; rintro e w1 ⟨rfl, hq⟩; have HB1 := Lib.hid hq; clear hq)
    | (go_at_call 12; refine (near_yes b o M S HN.out _ (HM.out.ext HB1.out)).mono ?_; rintro e w' ⟨rfl, hw9⟩; have hw9 := hw9.symm; subst hw9)
    | (go_at_call 18; refine (kCheck_any b o M S _ (HM.out.ext HB1.out)).mono ?_; rintro e w2 ⟨he, hq⟩; rw [HCK.out] at he; subst he; have HB2 : Hid (Ext w w2) := Ext.trans_ HB1.out hq; clear hq)
    | (go_at_call 13; refine (memOf_walk b o M S _ (HM.out.ext HB2.out) HF.out).mono ?_; rintro e w3 ⟨bx, Sx, rfl, hq1, hq2⟩; have HX := Lib.hid hq1; have HB3 : Hid (Ext w w3) := Ext.trans_ HB2.out hq2; have HE23 := Lib.hid hq2; clear hq1 hq2)
    | (go_at_call 26; refine (collect_walk w2.heap.size bx M Sx E ten _ HX.out (H.out.ext HB3.out).toG3 HR.out HE23.out.size ⟨Nat.lt_of_lt_of_le HGB.out.1 HB2.out.size, Nat.lt_of_lt_of_le HGB.out.2 HB2.out.size⟩).mono ?_; rintro e w4 ⟨rfl, S4, hq1, hq2, hq3⟩; rw [← HNN.out] at hq1; have HX4 := Lib.hid hq1; have HB4 : Hid (Ext w w4) := Ext.keep HB3.out hq2 (fun i hi => Nat.le_trans HB2.out.size (HX.out.own_size hi).1); clear hq1 hq2 hq3)
    | (go_at_call 16; refine (memBack_walk bx 0 NN S4 _ (HX4.out.mem HOKN.out) HFN.out).mono ?_; rintro e w5 ⟨B5, b5, S5, rfl, hq1, hq2, hq3⟩; have H5 := Lib.hid (hq1.mem HOKN.out); have HB5 : Hid (Ext w w5) := Ext.trans_ HB4.out hq3; clear hq1 hq2 hq3)
    | (go_at_call 27; refine (reached_walk b o M S _ (HM.out.ext HB5.out) HGM.out).mono ?_; rintro e w6 ⟨a6, c6, rfl, hq1, hq2⟩; have R6 := Lib.hid (own_rsl hq1); have HB6 : Hid (Ext w w6) := Ext.trans_ HB5.out hq2; have HE56 := Lib.hid hq2; clear hq1 hq2))
  go_wp2_with (first
    | (go_at_call 27; refine (reached_walk b5 0 NN S5 _ (H5.out.ext HE56.out) HGN.out).mono ?_; rintro e w7 ⟨a7, c7, he, hq1, hq2⟩; rw [HALL.out] at he; subst he; have R7 := Lib.hid (own_rsl hq1); have HB7 : Hid (Ext w w7) := Ext.trans_ HB6.out hq2; have HE67 := Lib.hid hq2; clear hq1 hq2))
  go_loopw [10] (fun i wr => ∃ k : Nat, k ≤ (reachP M).length ∧ i = .int .i64 (k : Int) ∧ Hid (Ext w7 wr)) (fun i _ => (reachP M).length - (intOf i).toNat)
  case atStart => exact ⟨0, Nat.zero_le _, rfl, Ext.refl _⟩
  case round =>
    obtain ⟨k, hk, rfl, hE⟩ := hrel
    by_cases hlt : k < (reachP M).length
    · have hltz : (k : Int) < ((reachP M).length : Int) := by omega
      have hlt2 : k < (reachP NN).length := by rw [HALL.out]; exact hlt
      obtain ⟨oa, oo, rfl, c0, c1, c2, c3⟩ := ob_cells4 (R6.out.ext (HE67.out.trans_ hE.out)) hlt
      obtain ⟨oa2, oo2, rfl, e0, e1, e2, e3⟩ := ob_cells4 (R7.out.ext hE.out) hlt2
      obtain ⟨g1, g2, g3⟩ := HAG.out k hlt hlt2
      obtain ⟨g4, g5⟩ := hag.out k hlt
      have d0 := (HM.out.ext (HB7.out.trans_ hE.out)).half
      generalize (reachP M)[k] = x at *
      generalize (reachP NN)[k] = y at *
      rw [g1] at e1
      rw [g2] at e3
      have i1 : IntKind.i64.wrap (2 * M.half) = 2 * M.half := IntWalk.i64_in _ (by omega)
      have i2 : IntKind.i64.wrap (hAge x.w + 1) = hAge x.w + 1 := IntWalk.i64_in _ (by omega)
      have hltb := (HM.out.ext (HB7.out.trans_ hE.out)).lt
      have hob1 := cell_lt c0
      have hob2 := cell_lt e0
      simp only at hob1 hob2
      clear g1 g2 hlt hlt2
      rcases g3 with ⟨g3, g6⟩ | ⟨g3, g6, g7⟩
      · rw [g6] at e0
        clear g6
        go_wp2
        go_region
        go_wp2
        go_roundw
        case rel =>
          refine ⟨k + 1, by omega, by go_num, ?_⟩
          refine Ext.trans_ hE.out ?_
          repeat (first | exact Ext.refl _ | (refine Ext.drew_ ?_) | (refine Ext.drewN_ ?_ _) | (refine Ext.alloc_ ?_ _))
        case measure => simp [intOf]; omega
      · have g3' : ¬ 2 * M.half ≤ (x.a : Int) := by omega
        by_cases hp : 15 < hAge x.w + 1
        · by_cases hq : 2 * M.half ≤ (y.a : Int)
          · have hq2 := g6.1 hq
            clear g6 g7
            go_wp2
            go_region
            go_wp2
            go_region
            go_wp2
            go_roundw
            case rel =>
              refine ⟨k + 1, by omega, by go_num, ?_⟩
              refine Ext.trans_ hE.out ?_
              repeat (first | exact Ext.refl _ | (refine Ext.drew_ ?_) | (refine Ext.drewN_ ?_ _) | (refine Ext.alloc_ ?_ _))
            case measure => simp [intOf]; omega
          · have hq2 : ¬ ten ≤ hAge x.w := fun h => hq (g6.2 h)
            have hq3 := g7 (by omega)
            exfalso; omega
        · by_cases hq : 2 * M.half ≤ (y.a : Int)
          · have hq2 := g6.1 hq
            clear g6 g7
            go_wp2
            go_region
            go_wp2
            go_region
            go_wp2
            go_roundw
            case rel =>
              refine ⟨k + 1, by omega, by go_num, ?_⟩
              refine Ext.trans_ hE.out ?_
              repeat (first | exact Ext.refl _ | (refine Ext.drew_ ?_) | (refine Ext.drewN_ ?_ _) | (refine Ext.alloc_ ?_ _))
            case measure => simp [intOf]; omega
          · have hq2 : ¬ ten ≤ hAge x.w := fun h => hq (g6.2 h)
            have hq3 := g7 (by omega)
            have hq4 : hAge y.w = hAge x.w + 1 := by omega
            rw [hq4] at e2
            clear g6 g7 hq3 hq4
            go_wp2
            go_region
            go_wp2
            go_region
            go_wp2
            go_roundw
            case rel =>
              refine ⟨k + 1, by omega, by go_num, ?_⟩
              refine Ext.trans_ hE.out ?_
              repeat (first | exact Ext.refl _ | (refine Ext.drew_ ?_) | (refine Ext.drewN_ ?_ _) | (refine Ext.alloc_ ?_ _))
            case measure => simp [intOf]; omega
    · have hltz : ¬ (k : Int) < ((reachP M).length : Int) := by omega
      have hE7 := hE.out
      go_wp2_with (go_at_call 19; refine (kAll_walk b5 0 NN S5 HNS.out _ (H5.out.ext ((HE56.out.trans_ HE67.out).trans_ hE7))).mono ?_; rintro e w8 ⟨a8, c8, rfl, hq1, hq2⟩; have R8 := Lib.hid (own_rsl hq1); have HE8 : Hid (Ext w5 w8) := Ext.trans_ ((HE56.out.trans_ HE67.out).trans_ hE7) hq2; clear hq1 hq2; rw [HKA.out.1] at R8; rw [HKA.out.1, HKA.out.2])
      go_loopw [17, 18] (fun s i wr => ∃ k : Nat, k ≤ (objsAll NN).length ∧ i = .int .i64 (k : Int) ∧ s = .int .i64 (wordsN M.half ((objsAll NN).take k)) ∧ Hid (Ext w8 wr)) (fun _ i _ => (objsAll NN).length - (intOf i).toNat)
      case atStart => exact ⟨0, Nat.zero_le _, rfl, by simp [wordsN], Ext.refl _⟩
      case round =>
        obtain ⟨k2, hk2, rfl, rfl, hE2⟩ := hrel
        have hM5 := H5.out.ext (HE8.out.trans_ hE2.out)
        have d5 := hM5.half
        rw [HHF.out] at d5
        have hltb5 := hM5.lt
        have i1 : IntKind.i64.wrap (2 * M.half) = 2 * M.half := IntWalk.i64_in _ (by omega)
        by_cases hlt2 : k2 < (objsAll NN).length
        · have hltz2 : (k2 : Int) < ((objsAll NN).length : Int) := by omega
          obtain ⟨oa, oo, rfl, c0, c1, c2, c3⟩ := ob_cells4 (R8.out.ext hE2.out) hlt2
          have hz := hmemN.out _ (List.getElem_mem hlt2)
          have hsn := wordsN_snoc M.half (objsAll NN) k2 hlt2
          obtain ⟨hw1, hw2⟩ := hwz.out k2
          rw [hz.1] at hsn
          have hz0 : 0 ≤ hSize (objsAll NN)[k2].w := by rw [← hz.1]; omega
          have hz4 := hz.2
          generalize (objsAll NN)[k2] = x at *
          generalize wordsN M.half (List.take k2 (objsAll NN)) = W0 at *
          have i2 : IntKind.i64.wrap (W0 + 1) = W0 + 1 := IntWalk.i64_in _ (by omega)
          have i3 : IntKind.i64.wrap (W0 + 1 + hSize x.w) = W0 + 1 + hSize x.w := IntWalk.i64_in _ (by omega)
          have HSN := Lib.hid hsn
          clear hsn hz hM5
          by_cases hq : (x.a : Int) < 2 * M.half
          · go_wp2
            go_region
            go_wp2
            go_roundw
            case rel =>
              refine ⟨k2 + 1, by omega, by go_num, ?_, hE2.out.drew_⟩
              rw [HSN.out, if_pos (by omega)]
              congr 1; omega
            case measure => simp [intOf]; omega
          · go_wp2
            go_region
            go_wp2
            go_roundw
            case rel =>
              refine ⟨k2 + 1, by omega, by go_num, ?_, hE2.out.drew_⟩
              rw [HSN.out, if_neg (by omega)]
            case measure => simp [intOf]; omega
        · have hltz2 : ¬ (k2 : Int) < ((objsAll NN).length : Int) := by omega
          have hwall : wordsN M.half (List.take k2 (objsAll NN)) = NN.top := by rw [List.take_of_length_le (by omega)]; exact HWD1.out
          rw [hwall]
          have dt := hM5.top
          have dm := (HM.out.ext (HB5.out.trans_ (HE8.out.trans_ hE2.out))).top
          have hle := HWD2.out
          have hltb := (HM.out.ext (HB5.out.trans_ (HE8.out.trans_ hE2.out))).lt
          have hee : (NN.top == NN.top) = true := by simp
          clear hM5 hwall
          go_wp2
          go_quiet (fail)
          go_wp2
          go_ret
          refine ⟨rfl, ?_⟩
          exact (HB5.out.trans_ (HE8.out.trans_ hE2.out)).drewN_ _
theorem minorAges_any (b o : Nat) (M : Mem) (S : Sls) (ten : Int) (w : World) (hM : RMem w b o M S) (E : Nat → Addr) (h : G4 E w) :
    Calls Tryd.prog 5 #[.pointer (some ⟨b, o, none⟩), .int .i64 ten] w fun e w' => e = .returned (.bool true) ∧ Ext w w' := by
  by_cases hn : Near M
  · by_cases hc : chk M = 0
    · by_cases t0 : ten < 0
      · exact minorAges_out b o M S ten w hM E h (Or.inr (Or.inr (Or.inl ⟨hn, hc, t0⟩)))
      · by_cases t1 : 15 < ten
        · exact minorAges_out b o M S ten w hM E h (Or.inr (Or.inr (Or.inr ⟨hn, hc, t0, t1⟩)))
        · by_cases hf : M.old - M.oldTop < M.top
          · exact minorAges_full b o M S ten hn w hM E h hc (by omega) (by omega) hf
          · exact minorAges_main b o M S ten hn w hM E h hc (by omega) (by omega) hf
    · exact minorAges_out b o M S ten w hM E h (Or.inr (Or.inl ⟨hn, by
        unfold chk at hc ⊢
        split at hc <;> (try split at hc) <;> simp_all⟩))
  · exact minorAges_out b o M S ten w hM E h (Or.inl hn)
end Go.Proofs.YtecbbbaafcoliaaDoor
/- The law MinorAges: its contract: whatever it is given it answers true, and leaves what was there. -/
namespace Go.Proofs.YtecbbbaafcoliaaDoor.MinorAges
open Go.ChangeShapes Go.WideShapes Go.ChangeAt Go.RowKit
open Go.ChangeMaps (open_string)
set_option linter.unusedVariables false
set_option linter.unusedSimpArgs false

set_option maxRecDepth 100000 in
theorem contract (H : Type) (enc : TypeId × Value → H) (W : World) (base : Nat) (args : Array Value) (ds gs : List (DataW H)) (before : List MemPlace)
    (hval : ∀ (j : Nat) t v, Tryd.f5.params[j]? = some t → args[j]? = some v → Value.okWide Tryd.prog W .any base t v)
    (hW : DataW.Whole enc Tryd.prog Tryd.f5.params.toList Rows.minorAgesSpec.vars false W args.toList ds gs before)
    (hsz : (DataW.weightsEach Tryd.prog (Tryd.f5.params.toList ++ (OpenSpec.ofChange Rows.minorAgesSpec).bare.plain.varTypes Tryd.prog) (ds ++ gs)).all (· ≤ reachBytes) = true) (hL : laidMetH Tryd.prog Rows.minorAgesRow.laid W) :
    Calls Tryd.prog 5 args W fun e W' => ∃ v, e = .returned v ∧ Rows.minorAgesSpec.post enc Tryd.prog Tryd.f5 false true false false W args v W' := by
  have hW' := hW
  obtain ⟨p, q, hA0, hV, rfl, hfz, hnd⟩ := hW
  have hA : DataW.TrodAll enc Tryd.prog W 0 (fun _ => true) true Tryd.f5.params.toList args.toList ds p := hA0
  rw [Tryd.params5] at hA hval
  obtain ⟨v0, vs0, d0, ds0, p0, q0, hargs, rfl, rfl, h0, r0⟩ := trodAll_cons hA
  obtain ⟨v1, vs1, d1, ds1, p1, q1, rfl, rfl, rfl, h1, r1⟩ := trodAll_cons r0
  obtain ⟨rfl, rfl, rfl⟩ := trodAll_nil r1
  obtain rfl : args = #[v0, v1] := by cases args; simp_all
  obtain ⟨rfl, rfl⟩ := trodVars_none hV
  obtain ⟨x1, rfl, rfl, rfl, w1⟩ := open_int Tryd.underlying3 (hval 1 3 v1 rfl rfl) h1
  obtain ⟨E, hE⟩ := g4_of_laid (W := W) (hL.filter fun x => laid4.any (·.1 == x.1))
  clear hA0
  obtain ⟨fuel0, hh0⟩ := id h0
  obtain ⟨pa0, rfl⟩ := okWide_pointer Tryd.underlying22 (hval 0 22 v0 rfl rfl)
  rcases read_mem hh0 with e0 | ⟨b0, o0, M0, S0, e0, hM0⟩
  · obtain rfl := Value.pointer.inj (List.singleton_inj.1 e0)
    refine (minorAges_nil x1 W  E hE ).mono fun e W' ⟨he, hg⟩ => ?_
    subst he
    exact ⟨_, rfl, law_post rfl rfl hW' (by simp [Rows.minorAgesSpec]) (by decide +kernel) hg⟩
  · obtain rfl := Value.pointer.inj (List.singleton_inj.1 e0)
    refine (minorAges_any b0 o0 M0 S0 x1 W  hM0 E hE ).mono fun e W' ⟨he, hg⟩ => ?_
    subst he
    exact ⟨_, rfl, law_post rfl rfl hW' (by simp [Rows.minorAgesSpec]) (by decide +kernel) hg⟩
end Go.Proofs.YtecbbbaafcoliaaDoor.MinorAges
/- The law MinorAges: its row's step, out of the contract; an input that fits. -/
namespace Go.Proofs.YtecbbbaafcoliaaDoor.MinorAges
open Go.ChangeShapes Go.WideShapes Go.ChangeAt Go.RowKit

theorem laid_met (os : Os) : laidMetH Tryd.prog Rows.minorAgesRow.laid ((World.doorLaid Tryd.prog 200 os).forCall (fun _ _ => 0) ⟨#[], #[.pointer none, .int .i64 0], []⟩).memory :=
  laidMetH_of_parts3 (fuel := 8) (laidMet_of_run' 8 (by kernel_rfl) (by kernel_rfl)) (by kernel_rfl) (by kernel_rfl)
theorem reads (os : Os) {H : Type} (enc : TypeId × Value → H) : ∃ places, DataW.whole enc Tryd.prog ((World.doorLaid Tryd.prog 200 os).forCall (fun _ _ => 0) ⟨#[], #[.pointer none, .int .i64 0], []⟩).memory Tryd.f5.params.toList Rows.minorAgesSpec.vars false #[.pointer none, .int .i64 0].toList 8 = some ([.nil, .lit (.int .i64 0)], [], places) :=
  ⟨[], by kernel_rfl⟩

set_option maxRecDepth 100000 in
theorem lifted (os : Os) (started : os.Started) (H : Type) (enc : TypeId × Value → H) (F : Stop.Interp) :
    ReturnsInHanded {} Tryd.checked os 5 .any ((OpenSpec.ofChange Rows.minorAgesSpec).preRow enc Tryd.prog Tryd.f5 Rows.minorAgesRow.domain false Rows.minorAgesRow.laid) (((OpenSpec.ofChange Rows.minorAgesSpec).at F).post enc Tryd.prog Tryd.f5 false true false false) := by
  obtain ⟨places, hx⟩ := reads os enc
  refine returnsInHanded_of_row (C := Tryd.checked) (s := OpenSpec.ofChange Rows.minorAgesSpec) own started (by kernel_rfl) Tryd.func5
    (witness_row_atRef (enc := enc) (C := Tryd.checked) false (World.doorLaid Tryd.prog 200 os) #[.pointer none, .int .i64 0] rfl (by kernel_rfl) (by kernel_rfl) (by kernel_rfl)
      (OpenSpec.preRow_of_cond 8 hx (by kernel_rfl) (fun k hk => by cases hk) (by kernel_rfl) (laid_met os))) ?_
  intro W base args ds gs before hval hW _ _ hsz hL _ _
  exact contract H enc W base args ds gs before hval hW hsz hL
end Go.Proofs.YtecbbbaafcoliaaDoor.MinorAges
/- The law MinorAges: the closed facts of its row, each by itself. -/
namespace Go.Proofs.YtecbbbaafcoliaaDoor.MinorAges
open Go.ChangeShapes Go.WideShapes Go.ChangeAt Go.RowKit

set_option maxHeartbeats 40000000 in
theorem closed : joinedFacts Tryd.prog 5 Tryd.f5 (OpenSpec.ofChange Rows.minorAgesSpec).bare Rows.minorAgesRow = true := by
  unfold joinedFacts
  repeat' (with_reducible refine Bool.and_eq_true_iff.2 ⟨?_, ?_⟩)
  all_goals as_aux_lemma => kernel_rfl
end Go.Proofs.YtecbbbaafcoliaaDoor.MinorAges
