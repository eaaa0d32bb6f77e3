/- The law MajorOrder: its walk. -/
import Derived.Test.YtecbbbaafcoliaaDoorJDa35
import Derived.Test.YtecbbbaafcoliaaDoorJDb01
import Derived.Test.YtecbbbaafcoliaaDoorJDa37
import Derived.Test.YtecbbbaafcoliaaDoorJDa28
import Derived.Test.YtecbbbaafcoliaaDoorJDa38
import Derived.Test.YtecbbbaafcoliaaDoorJDa21
import Derived.Deep.Cut
import Derived.Deep.LoopGhost
import Derived.Test.YtecbbbaafcoliaaDoorJDa39
import Derived.Test.YtecbbbaafcoliaaDoorCards
import Derived.JoinedCond
import Derived.Lib.SmallJoins
import Derived.ProofKit
import Derived.Test.YtecbbbaafcoliaaDoorTie
namespace Go.Proofs.YtecbbbaafcoliaaDoor
open Go.RowKit
set_option linter.unusedVariables false
set_option linter.unusedSimpArgs false

set_option maxRecDepth 100000 in
set_option maxHeartbeats 4000000 in
theorem majorOrder_nil (w : World) (E : Nat → Addr) (h : G4 E w) :
    Calls Tryd.prog 9 #[.pointer none] w fun e w' => e = .returned (.bool true) ∧ Ext w w' := by
  have H := Lib.hid h
  clear h
  go_enter Tryd.func9, Tryd.ntmps9
  go_wp2_with (first
    | (go_at_call 25; refine (still_any _ E H.out).mono ?_; rintro e w1 ⟨rfl, hq⟩; have HB1 := Lib.hid hq; clear hq)
    | (go_at_call 12; refine (near_nil _).mono ?_; rintro e w' ⟨rfl, hw9⟩; have hw9 := hw9.symm; subst hw9)
    | (go_at_call 18; refine (kCheck_nil _).mono ?_; rintro e w3 ⟨rfl, hq⟩; have HB3 : Hid (Ext w w3) := Ext.trans_ HB1.out hq; clear hq))
  go_ret
  exact ⟨rfl, HB3.out⟩
set_option maxRecDepth 100000 in
set_option maxHeartbeats 8000000 in
theorem majorOrder_out (b o : Nat) (M : Mem) (S : Sls) (w : World) (hM : RMem w b o M S) (E : Nat → Addr) (h : G4 E w) (hf : ¬ Near M ∨ (Near M ∧ 0 < chk M)) :
    Calls Tryd.prog 9 #[.pointer (some ⟨b, o, none⟩)] w fun e w' => e = .returned (.bool true) ∧ Ext w w' := by
  have H := Lib.hid h
  have HM := Lib.hid hM
  clear h hM
  rcases hf with hn | ⟨hn, hc⟩
  · have HN := Lib.hid hn
    clear hn
    go_enter Tryd.func9, Tryd.ntmps9
    go_wp2_with (first
      | (go_at_call 25; refine (still_any _ E H.out).mono ?_; rintro e w1 ⟨rfl, hq⟩; have HB1 := Lib.hid hq; clear hq)
      | (go_at_call 12; refine (near_no b o M S HN.out _ (HM.out.ext HB1.out)).mono ?_; rintro e w' ⟨rfl, hw9⟩; have hw9 := hw9.symm; subst hw9))
    go_ret
    exact ⟨rfl, HB1.out⟩
  · have HN := Lib.hid hn
    clear hn
    obtain ⟨c, hcc⟩ : ∃ c, chk M = c := ⟨_, rfl⟩
    rw [hcc] at hc
    have HCK := Lib.hid hcc
    clear hcc
    go_enter Tryd.func9, Tryd.ntmps9
    go_wp2_with (first
      | (go_at_call 25; refine (still_any _ E H.out).mono ?_; rintro e w1 ⟨rfl, hq⟩; have HB1 := Lib.hid hq; clear hq)
      | (go_at_call 12; refine (near_yes b o M S HN.out _ (HM.out.ext HB1.out)).mono ?_; rintro e w' ⟨rfl, hw9⟩; have hw9 := hw9.symm; subst hw9)
      | (go_at_call 18; refine (kCheck_any b o M S _ (HM.out.ext HB1.out)).mono ?_; rintro e w2 ⟨he, hq⟩; rw [HCK.out] at he; subst he; have HB2 : Hid (Ext w w2) := Ext.trans_ HB1.out hq; clear hq))
    go_ret
    exact ⟨rfl, HB2.out⟩
set_option maxRecDepth 100000 in
set_option maxHeartbeats 8000000 in
theorem majorOrder_full (b o : Nat) (M : Mem) (S : Sls) (hn : Near M) (w : World) (hM : RMem w b o M S) (E : Nat → Addr) (h : G4 E w) (hc : chk M = 0) (hfu : M.old < (liveM M : Int)) :
    Calls Tryd.prog 9 #[.pointer (some ⟨b, o, none⟩)] w fun e w' => e = .returned (.bool true) ∧ Ext w w' := by
  have HCK := Lib.hid hc
  have HF := Lib.hid hn.few
  have HOK := Lib.hid hM.ok
  have H := Lib.hid h
  have HM := Lib.hid hM
  have HN := Lib.hid hn
  have HFU := Lib.hid hfu
  have HE6 : Hid (errC E 6 = errV (E 5)) := rfl
  clear h hM hn hc hfu
  go_enter Tryd.func9, Tryd.ntmps9
  go_wp2_with (first
    | (go_at_call 25; refine (still_any _ E H.out).mono ?_; rintro e w1 ⟨rfl, hq⟩; have HB1 := Lib.hid hq; clear hq)
    | (go_at_call 12; refine (near_yes b o M S HN.out _ (HM.out.ext HB1.out)).mono ?_; rintro e w' ⟨rfl, hw9⟩; have hw9 := hw9.symm; subst hw9)
    | (go_at_call 18; refine (kCheck_any b o M S _ (HM.out.ext HB1.out)).mono ?_; rintro e w2 ⟨he, hq⟩; rw [HCK.out] at he; subst he; have HB2 : Hid (Ext w w2) := Ext.trans_ HB1.out hq; clear hq)
    | (go_at_call 13; refine (memOf_walk b o M S _ (HM.out.ext HB2.out) HF.out).mono ?_; rintro e w3 ⟨bx, Sx, rfl, hq1, hq2⟩; have HX := Lib.hid hq1; have HB3 : Hid (Ext w w3) := Ext.trans_ HB2.out hq2; clear hq1 hq2)
    | (go_at_call 34; refine (major_full bx M Sx E _ (HX.out.mem HOK.out) (H.out.ext HB3.out) HCK.out HFU.out).mono ?_; rintro e w4 ⟨he, hq⟩; rw [HE6.out] at he; subst he; have HB4 : Hid (Ext w w4) := Ext.trans_ HB3.out hq; clear hq))
  go_ret
  exact ⟨rfl, HB4.out⟩
set_option maxRecDepth 100000 in
set_option maxHeartbeats 8000000 in
theorem majorOrder_main (b o : Nat) (M : Mem) (S : Sls) (hn : Near M) (w : World) (hM : RMem w b o M S) (E : Nat → Addr) (h : G4 E w) (hc : chk M = 0) (hroom : (liveM M : Int) ≤ M.old) :
    Calls Tryd.prog 9 #[.pointer (some ⟨b, o, none⟩)] w fun e w' => e = .returned (.bool true) ∧ Ext w w' := by
  have hf : Full M := ⟨hM.ok, hc, hroom⟩
  have hokN := hf.okN
  have hfewN := hf.few hn.few
  have hgN := (chk_zero hf.chkN).1
  have hgb : 0 < w.heap.size ∧ 1 < w.heap.size := ⟨cell_lt h.bound, cell_lt h.shape⟩
  have HFULL := Lib.hid hf
  have HCK := Lib.hid hc
  have HF := Lib.hid hn.few
  have HOK := Lib.hid hM.ok
  have H := Lib.hid h
  have HM := Lib.hid hM
  have HN := Lib.hid hn
  have HGM := Lib.hid (chk_zero hc).1
  have HGB := Lib.hid hgb
  have hs := hf.shp
  have s1 := hs.h1
  have s2 := hs.h2
  have al : (reachP (majM M)).length = (reachP M).length := by rw [hf.reach, List.length_map]
  have HAG : Hid (∀ k (h1 : k < (reachP M).length) (h2 : k < (reachP (majM M)).length), (reachP (majM M))[k].a = toOf M (reachP M)[k].a) := fun k h1 h2 => by
    simp only [hf.reach, List.getElem_map]; rfl
  have HORD : Hid (∀ k (h1 : k < (reachP M).length) k2 (h2 : k2 < (reachP M).length), Ahead (hbM M) (reachP M)[k].a (reachP M)[k2].a → toOf M (reachP M)[k].a < toOf M (reachP M)[k2].a) := fun k h1 k2 h2 q => hf.order (List.mem_map_of_mem (f := (·.a)) (List.getElem_mem h1)) (List.mem_map_of_mem (f := (·.a)) (List.getElem_mem h2)) q
  have hrl : (reachP M).length ≤ 1000000 := by
    have := words_len hf.good (reachP_gath hf.good)
    have := len_small hs
    omega
  have hhb : (hbM M : Int) = 2 * M.half := by
    obtain ⟨hh, e1, e2, e4, -⟩ := hf.nums
    omega
  obtain ⟨NN, hNN⟩ : ∃ NN, NN = majM M := ⟨_, rfl⟩
  rw [← hNN] at al HAG hokN hfewN hgN
  have HNN := Lib.hid hNN
  have HOKN := Lib.hid hokN
  have HFN := Lib.hid hfewN
  have HGN := Lib.hid hgN
  have HALL := Lib.hid al
  have HHB := Lib.hid hhb
  clear h hM hn hc hroom hf hokN hfewN hgN hgb hs al hhb hNN
  go_enter Tryd.func9, Tryd.ntmps9
  go_upto_region 9 with (first
    | (go_at_call 25; refine (still_any _ E H.out).mono ?_; rintro e w1 ⟨rfl, hq⟩; have HB1 := Lib.hid hq; clear hq)
    | (go_at_call 12; refine (near_yes b o M S HN.out _ (HM.out.ext HB1.out)).mono ?_; rintro e w' ⟨rfl, hw9⟩; have hw9 := hw9.symm; subst hw9)
    | (go_at_call 18; refine (kCheck_any b o M S _ (HM.out.ext HB1.out)).mono ?_; rintro e w2 ⟨he, hq⟩; rw [HCK.out] at he; subst he; have HB2 : Hid (Ext w w2) := Ext.trans_ HB1.out hq; clear hq)
    | (go_at_call 13; refine (memOf_walk b o M S _ (HM.out.ext HB2.out) HF.out).mono ?_; rintro e w3 ⟨bx, Sx, rfl, hq1, hq2⟩; have HX := Lib.hid hq1; have HB3 : Hid (Ext w w3) := Ext.trans_ HB2.out hq2; have HE23 := Lib.hid hq2; clear hq1 hq2)
    | (go_at_call 34; refine (major_walk w2.heap.size bx M Sx E _ HX.out (H.out.ext HB3.out) HFULL.out HE23.out.size).mono ?_; rintro e w4 ⟨rfl, S4, hq1, hq2, hq3⟩; rw [← HNN.out] at hq1; have HX4 := Lib.hid hq1; have HB4 : Hid (Ext w w4) := Ext.keep HB3.out hq2 (fun i hi => Nat.le_trans HB2.out.size (HX.out.own_size hi).1); have HZ4 := Lib.hid hq2.size; clear hq1 hq2 hq3)
    | (go_at_call 16; refine (memBack_walk bx 0 NN S4 _ (HX4.out.mem HOKN.out) HFN.out).mono ?_; rintro e w5 ⟨B5, b5, S5, rfl, hq1, hq2, hq3⟩; have H5O := Lib.hid hq1; have HZ5 := Lib.hid hq2; have H5 := Lib.hid (hq1.mem HOKN.out); have HB5 : Hid (Ext w w5) := Ext.trans_ HB4.out hq3; have HE45 := Lib.hid hq3; clear hq1 hq2 hq3)
    | (go_at_call 27; refine (reached_walk b o M S _ (HM.out.ext HB5.out) HGM.out).mono ?_; rintro e w6 ⟨a6, c6, rfl, hq1, hq2⟩; have R6 := Lib.hid (own_rsl hq1); have HB6 : Hid (Ext w w6) := Ext.trans_ HB5.out hq2; have HE56 := Lib.hid hq2; clear hq1 hq2))
  go_wp2_with (first
    | (go_at_call 27; refine (reached_walk b5 0 NN S5 _ (H5.out.ext HE56.out) HGN.out).mono ?_; rintro e w7 ⟨a7, c7, he, hq1, hq2⟩; rw [HALL.out] at he; subst he; have R7 := Lib.hid (own_rsl hq1); have HB7 : Hid (Ext w w7) := Ext.trans_ HB6.out hq2; have HE67 := Lib.hid hq2; clear hq1 hq2))
  go_loopg [8] ((reachP M).length) (fun r i wr => ∃ k : Nat, k + r = (reachP M).length ∧ i = .int .i64 (k : Int) ∧ Hid (Ext w7 wr))
  case atStart => exact ⟨0, by omega, rfl, Ext.refl _⟩
  case round =>
    obtain ⟨k, hk, rfl, hE⟩ := hrel
    cases gk with
    | succ r =>
      have hlt : k < (reachP M).length := by omega
      have hltz : (k : Int) < ((reachP M).length : Int) := by omega
      have hltN : k < (reachP NN).length := by rw [HALL.out]; exact hlt
      obtain ⟨oa, oo, rfl, -, -, -, -⟩ := ob_cells4 (R6.out.ext (HE67.out.trans_ hE.out)) hlt
      obtain ⟨oa2, oo2, rfl, -, -, -, -⟩ := ob_cells4 (R7.out.ext hE.out) hltN
      go_wp2
      go_loopg [9] ((reachP M).length) (fun r2 i wr2 => ∃ k2 : Nat, k2 + r2 = (reachP M).length ∧ i = .int .i64 (k2 : Int) ∧ Hid (Ext w7 wr2))
      case atStart => exact ⟨0, by omega, rfl, hE.out⟩
      case round =>
        obtain ⟨k2, hk2, rfl, hE2⟩ := hrel
        cases gk with
        | succ r2 =>
          have hlt2 : k2 < (reachP M).length := by omega
          have hltz2 : (k2 : Int) < ((reachP M).length : Int) := by omega
          have hltN2 : k2 < (reachP NN).length := by rw [HALL.out]; exact hlt2
          have hR := R6.out.ext (HE67.out.trans_ hE2.out)
          have hRN := R7.out.ext hE2.out
          have c0 := hR.at_ (ocells_at (reachP M) k hlt).1
          have c1 := hR.at_ (ocells_at (reachP M) k2 hlt2).1
          have d0 := hRN.at_ (ocells_at (reachP NN) k hltN).1
          have d1 := hRN.at_ (ocells_at (reachP NN) k2 hltN2).1
          rw [HAG.out k hlt hltN] at d0
          rw [HAG.out k2 hlt2 hltN2] at d1
          have hor := HORD.out k hlt k2 hlt2
          have hmh := (HM.out.ext (HB7.out.trans_ hE2.out)).half
          have hbz := (HM.out.ext (HB7.out.trans_ hE2.out)).lt
          have z0 := cell_lt c0
          have z1 := cell_lt d0
          simp only at z0 z1
          generalize (reachP M)[k].a = x at *
          generalize (reachP M)[k2].a = y at *
          generalize toOf M x = x' at *
          generalize toOf M y = y' at *
          have i1 : IntKind.i64.wrap (2 * M.half) = 2 * M.half := IntWalk.i64_in _ (by omega)
          have hhb := HHB.out
          have HK := Lib.hid hk
          have HK2 := Lib.hid hk2
          have HORx := Lib.hid hor
          clear hR hRN hor hk hk2 hlt hlt2 hltN hltN2
          by_cases p1 : 2 * M.half ≤ (x : Int)
          · by_cases p2 : 2 * M.half ≤ (y : Int)
            · by_cases p3 : x < y
              · have hlt3 : x' < y' := HORx.out (by unfold Ahead; omega)
                have hlt4 : decide (y' ≤ x') = false := decide_eq_false (by omega)
                clear hlt3
                have d3 : decide (x < y) = true := decide_eq_true p3
                clear p3
                go_wp2
                go_quiet (fail)
                go_wp2
                go_quiet (fail)
                go_wp2
                go_quiet (fail)
                go_wp2
                go_quiet (fail)
                go_wp2
                go_roundg r2
                case measure => omega
                case rel => exact ⟨k2 + 1, by have := HK2.out; omega, by go_num, hE2.out.trans_ (by repeat (first | exact Ext.refl _ | (refine Ext.drew_ ?_) | (refine Ext.drewN_ ?_ _)))⟩
              · have d3 : decide (x < y) = false := decide_eq_false p3
                clear p3
                go_wp2
                go_quiet (fail)
                go_wp2
                go_quiet (fail)
                go_wp2
                go_quiet (fail)
                go_wp2
                go_quiet (fail)
                go_wp2
                go_roundg r2
                case measure => omega
                case rel => exact ⟨k2 + 1, by have := HK2.out; omega, by go_num, hE2.out.trans_ (by repeat (first | exact Ext.refl _ | (refine Ext.drew_ ?_) | (refine Ext.drewN_ ?_ _)))⟩
            · have hlt3 : x' < y' := HORx.out (by unfold Ahead; omega)
              have hlt4 : decide (y' ≤ x') = false := decide_eq_false (by omega)
              clear hlt3
              have d2 : decide (2 * M.half ≤ (y : Int)) = false := decide_eq_false p2
              clear p2
              go_wp2
              go_quiet (fail)
              go_wp2
              go_quiet (fail)
              go_wp2
              go_quiet (fail)
              go_wp2
              go_quiet (fail)
              go_wp2
              go_roundg r2
              case measure => omega
              case rel => exact ⟨k2 + 1, by have := HK2.out; omega, by go_num, hE2.out.trans_ (by repeat (first | exact Ext.refl _ | (refine Ext.drew_ ?_) | (refine Ext.drewN_ ?_ _)))⟩
          · by_cases p2 : 2 * M.half ≤ (y : Int)
            · have d1 : decide (2 * M.half ≤ (x : Int)) = false := decide_eq_false p1
              clear p1
              go_wp2
              go_quiet (fail)
              go_wp2
              go_quiet (fail)
              go_wp2
              go_quiet (fail)
              go_wp2
              go_quiet (fail)
              go_wp2
              go_roundg r2
              case measure => omega
              case rel => exact ⟨k2 + 1, by have := HK2.out; omega, by go_num, hE2.out.trans_ (by repeat (first | exact Ext.refl _ | (refine Ext.drew_ ?_) | (refine Ext.drewN_ ?_ _)))⟩
            · by_cases p3 : x < y
              · have hlt3 : x' < y' := HORx.out (by unfold Ahead; omega)
                have hlt4 : decide (y' ≤ x') = false := decide_eq_false (by omega)
                clear hlt3
                have d1 : decide (2 * M.half ≤ (x : Int)) = false := decide_eq_false p1
                clear p1
                have d2 : decide (2 * M.half ≤ (y : Int)) = false := decide_eq_false p2
                clear p2
                have d3 : decide (x < y) = true := decide_eq_true p3
                clear p3
                go_wp2
                go_quiet (fail)
                go_wp2
                go_quiet (fail)
                go_wp2
                go_quiet (fail)
                go_wp2
                go_quiet (fail)
                go_wp2
                go_roundg r2
                case measure => omega
                case rel => exact ⟨k2 + 1, by have := HK2.out; omega, by go_num, hE2.out.trans_ (by repeat (first | exact Ext.refl _ | (refine Ext.drew_ ?_) | (refine Ext.drewN_ ?_ _)))⟩
              · have d1 : decide (2 * M.half ≤ (x : Int)) = false := decide_eq_false p1
                clear p1
                have d2 : decide (2 * M.half ≤ (y : Int)) = false := decide_eq_false p2
                clear p2
                have d3 : decide (x < y) = false := decide_eq_false p3
                clear p3
                go_wp2
                go_quiet (fail)
                go_wp2
                go_quiet (fail)
                go_wp2
                go_quiet (fail)
                go_wp2
                go_quiet (fail)
                go_wp2
                go_roundg r2
                case measure => omega
                case rel => exact ⟨k2 + 1, by have := HK2.out; omega, by go_num, hE2.out.trans_ (by repeat (first | exact Ext.refl _ | (refine Ext.drew_ ?_) | (refine Ext.drewN_ ?_ _)))⟩
        | zero =>
          obtain rfl : k2 = (reachP M).length := by omega
          have hltz2 : ¬ (((reachP M).length : Nat) : Int) < ((reachP M).length : Int) := by omega
          go_wp2
          go_roundg r
          case measure => omega
          case rel => exact ⟨k + 1, by omega, by go_num, hE2.out⟩
    | zero =>
      obtain rfl : k = (reachP M).length := by omega
      have hltz : ¬ (((reachP M).length : Nat) : Int) < ((reachP M).length : Int) := by omega
      have hE7 := hE.out
      go_wp2
      go_ret
      exact ⟨rfl, HB7.out.trans_ hE7⟩
theorem majorOrder_any (b o : Nat) (M : Mem) (S : Sls) (w : World) (hM : RMem w b o M S) (E : Nat → Addr) (h : G4 E w) :
    Calls Tryd.prog 9 #[.pointer (some ⟨b, o, none⟩)] w fun e w' => e = .returned (.bool true) ∧ Ext w w' := by
  by_cases hn : Near M
  · by_cases hc : chk M = 0
    · by_cases hr : (liveM M : Int) ≤ M.old
      · exact majorOrder_main b o M S hn w hM E h hc hr
      · exact majorOrder_full b o M S hn w hM E h hc (by omega)
    · exact majorOrder_out b o M S w hM E h (Or.inr ⟨hn, by
        unfold chk at hc ⊢
        split at hc <;> (try split at hc) <;> simp_all⟩)
  · exact majorOrder_out b o M S w hM E h (Or.inl hn)
end Go.Proofs.YtecbbbaafcoliaaDoor
/- The law MajorOrder: its contract: whatever it is given it answers true, and leaves what was there. -/
namespace Go.Proofs.YtecbbbaafcoliaaDoor.MajorOrder
open Go.ChangeShapes Go.WideShapes Go.ChangeAt Go.RowKit
open Go.ChangeMaps (open_string)
set_option linter.unusedVariables false
set_option linter.unusedSimpArgs false

set_option maxRecDepth 100000 in
theorem contract (H : Type) (enc : TypeId × Value → H) (W : World) (base : Nat) (args : Array Value) (ds gs : List (DataW H)) (before : List MemPlace)
    (hval : ∀ (j : Nat) t v, Tryd.f9.params[j]? = some t → args[j]? = some v → Value.okWide Tryd.prog W .any base t v)
    (hW : DataW.Whole enc Tryd.prog Tryd.f9.params.toList Rows.majorOrderSpec.vars false W args.toList ds gs before)
    (hsz : (DataW.weightsEach Tryd.prog (Tryd.f9.params.toList ++ (OpenSpec.ofChange Rows.majorOrderSpec).bare.plain.varTypes Tryd.prog) (ds ++ gs)).all (· ≤ reachBytes) = true) (hL : laidMetH Tryd.prog Rows.majorOrderRow.laid W) :
    Calls Tryd.prog 9 args W fun e W' => ∃ v, e = .returned v ∧ Rows.majorOrderSpec.post enc Tryd.prog Tryd.f9 false true false false W args v W' := by
  have hW' := hW
  obtain ⟨p, q, hA0, hV, rfl, hfz, hnd⟩ := hW
  have hA : DataW.TrodAll enc Tryd.prog W 0 (fun _ => true) true Tryd.f9.params.toList args.toList ds p := hA0
  rw [Tryd.params9] at hA hval
  obtain ⟨v0, vs0, d0, ds0, p0, q0, hargs, rfl, rfl, h0, r0⟩ := trodAll_cons hA
  obtain ⟨rfl, rfl, rfl⟩ := trodAll_nil r0
  obtain rfl : args = #[v0] := by cases args; simp_all
  obtain ⟨rfl, rfl⟩ := trodVars_none hV
  obtain ⟨E, hE⟩ := g4_of_laid (W := W) (hL.filter fun x => laid4.any (·.1 == x.1))
  clear hA0
  obtain ⟨fuel0, hh0⟩ := id h0
  obtain ⟨pa0, rfl⟩ := okWide_pointer Tryd.underlying22 (hval 0 22 v0 rfl rfl)
  rcases read_mem hh0 with e0 | ⟨b0, o0, M0, S0, e0, hM0⟩
  · obtain rfl := Value.pointer.inj (List.singleton_inj.1 e0)
    refine (majorOrder_nil  W  E hE ).mono fun e W' ⟨he, hg⟩ => ?_
    subst he
    exact ⟨_, rfl, law_post rfl rfl hW' (by simp [Rows.majorOrderSpec]) (by decide +kernel) hg⟩
  · obtain rfl := Value.pointer.inj (List.singleton_inj.1 e0)
    refine (majorOrder_any b0 o0 M0 S0  W  hM0 E hE ).mono fun e W' ⟨he, hg⟩ => ?_
    subst he
    exact ⟨_, rfl, law_post rfl rfl hW' (by simp [Rows.majorOrderSpec]) (by decide +kernel) hg⟩
end Go.Proofs.YtecbbbaafcoliaaDoor.MajorOrder
/- The law MajorOrder: its row's step, out of the contract; an input that fits. -/
namespace Go.Proofs.YtecbbbaafcoliaaDoor.MajorOrder
open Go.ChangeShapes Go.WideShapes Go.ChangeAt Go.RowKit

theorem laid_met (os : Os) : laidMetH Tryd.prog Rows.majorOrderRow.laid ((World.doorLaid Tryd.prog 200 os).forCall (fun _ _ => 0) ⟨#[], #[.pointer none], []⟩).memory :=
  laidMetH_of_parts3 (fuel := 8) (laidMet_of_run' 8 (by kernel_rfl) (by kernel_rfl)) (by kernel_rfl) (by kernel_rfl)
theorem reads (os : Os) {H : Type} (enc : TypeId × Value → H) : ∃ places, DataW.whole enc Tryd.prog ((World.doorLaid Tryd.prog 200 os).forCall (fun _ _ => 0) ⟨#[], #[.pointer none], []⟩).memory Tryd.f9.params.toList Rows.majorOrderSpec.vars false #[.pointer none].toList 8 = some ([.nil], [], places) :=
  ⟨[], by kernel_rfl⟩

set_option maxRecDepth 100000 in
theorem lifted (os : Os) (started : os.Started) (H : Type) (enc : TypeId × Value → H) (F : Stop.Interp) :
    ReturnsInHanded {} Tryd.checked os 9 .any ((OpenSpec.ofChange Rows.majorOrderSpec).preRow enc Tryd.prog Tryd.f9 Rows.majorOrderRow.domain false Rows.majorOrderRow.laid) (((OpenSpec.ofChange Rows.majorOrderSpec).at F).post enc Tryd.prog Tryd.f9 false true false false) := by
  obtain ⟨places, hx⟩ := reads os enc
  refine returnsInHanded_of_row (C := Tryd.checked) (s := OpenSpec.ofChange Rows.majorOrderSpec) own started (by kernel_rfl) Tryd.func9
    (witness_row_atRef (enc := enc) (C := Tryd.checked) false (World.doorLaid Tryd.prog 200 os) #[.pointer none] rfl (by kernel_rfl) (by kernel_rfl) (by kernel_rfl)
      (OpenSpec.preRow_of_cond 8 hx (by kernel_rfl) (fun k hk => by cases hk) (by kernel_rfl) (laid_met os))) ?_
  intro W base args ds gs before hval hW _ _ hsz hL _ _
  exact contract H enc W base args ds gs before hval hW hsz hL
end Go.Proofs.YtecbbbaafcoliaaDoor.MajorOrder
/- The law MajorOrder: the closed facts of its row, each by itself. -/
namespace Go.Proofs.YtecbbbaafcoliaaDoor.MajorOrder
open Go.ChangeShapes Go.WideShapes Go.ChangeAt Go.RowKit

set_option maxHeartbeats 40000000 in
theorem closed : joinedFacts Tryd.prog 9 Tryd.f9 (OpenSpec.ofChange Rows.majorOrderSpec).bare Rows.majorOrderRow = true := by
  unfold joinedFacts
  repeat' (with_reducible refine Bool.and_eq_true_iff.2 ⟨?_, ?_⟩)
  all_goals as_aux_lemma => kernel_rfl
end Go.Proofs.YtecbbbaafcoliaaDoor.MajorOrder
/- The law MajorOrder: the statement, closed. -/
namespace Go.Proofs.YtecbbbaafcoliaaDoor.MajorOrder
open Go.ChangeShapes Go.WideShapes Go.ChangeAt Go.RowKit

set_option maxRecDepth 100000 in
theorem said : Rows.MajorOrderSaid :=
  OpenClaim.holds_of_cond 9 Tryd.f9 rfl rfl rfl rfl rfl rfl rfl ⟨rfl, rfl, rfl, rfl, rfl⟩ rfl rfl rfl rfl rfl (by kernel_rfl) Tryd.func9 closed
    (of_decide_eq_true (by kernel_rfl)) (by unfold Func.isWrapper; first | (rw [if_pos (by decide +kernel)]; kernel_rfl) | (rw [if_neg (by decide +kernel)]; exact ⟨rfl, rfl⟩))
    (fun os started H enc _ F => by rw [OpenClaim.pre_eq_preRow]; exact lifted os started H enc F)

theorem looks0 : true = Tryd.pinned.checked.prog.looks [] := by kernel_rfl
/-- No parameter wants a stand-in; the looks are the program's own. -/
theorem plain (f : FuncId) (fn : Func) (hf : Tryd.pinned.checked.prog.funcNamed "nurserypy/nurserypylaw3.MajorOrder" = some f) (hfn : Tryd.pinned.checked.prog.funcs[f]? = some fn) :
    true = Tryd.pinned.checked.prog.looks [] ∧ ∀ (j : Nat) t, fn.params[j]? = some t → Tryd.pinned.checked.prog.wantsStandIn t = false := by
  obtain rfl : f = 9 := Option.some.inj ((show Tryd.prog.funcNamed "nurserypy/nurserypylaw3.MajorOrder" = some 9 by kernel_rfl).symm.trans hf) |>.symm
  obtain rfl : fn = Tryd.f9 := (Option.some.inj (Tryd.func9.symm.trans hfn)).symm
  refine ⟨looks0, fun j t ht => ?_⟩
  rw [Tryd.params9] at ht
  have hm := Array.mem_of_getElem? ht
  simp only [List.mem_toArray, List.mem_cons, List.not_mem_nil, or_false] at hm
  rcases hm with rfl
  · exact (show Tryd.prog.wantsStandIn 22 = false by kernel_rfl)
theorem wfT : Rows.majorOrderRow.wfByText (OpenSpec.ofChange Rows.majorOrderSpec) = true := by kernel_rfl
theorem goesB : false = Rows.majorOrderRow.goesBy Tryd.pinned.checked.prog := by kernel_rfl
theorem mainI : Tryd.pinned.checked.prog.mainIs = some (Rows.majorOrderCard.stood.harness.1, Rows.majorOrderCard.stood.harness.2.toList) := by kernel_rfl

/-- THE STATEMENT. -/
theorem majorOrder_holds : Rows.MajorOrderCardSaid :=
  Claim7.holds_tied_plain_at .later [] _ _ _ _ said (fun _ h => by cases h) wfT (fun _ h => by cases h) majorOrder_row_tie rfl ⟨rfl, rfl⟩ mainI rfl plain goesB
end Go.Proofs.YtecbbbaafcoliaaDoor.MajorOrder
