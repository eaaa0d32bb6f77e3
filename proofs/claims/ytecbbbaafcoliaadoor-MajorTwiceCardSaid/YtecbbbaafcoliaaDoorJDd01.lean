/- The law MajorTwice: its walk. -/
import Derived.Test.YtecbbbaafcoliaaDoorJDa35
import Derived.Test.YtecbbbaafcoliaaDoorJDb01
import Derived.Test.YtecbbbaafcoliaaDoorJDa37
import Derived.Test.YtecbbbaafcoliaaDoorJDa28
import Derived.Test.YtecbbbaafcoliaaDoorJDa38
import Derived.Test.YtecbbbaafcoliaaDoorJDa21
import Derived.Test.YtecbbbaafcoliaaDoorJDa40
import Derived.Test.YtecbbbaafcoliaaDoorJDa39
import Derived.Test.YtecbbbaafcoliaaDoorJDa31
import Derived.Deep.Cut
import Derived.Deep.LoopGhost
import Derived.Test.YtecbbbaafcoliaaDoorCards
import Derived.JoinedCond
import Derived.Lib.SmallJoins
import Derived.ProofKit
import Derived.Test.YtecbbbaafcoliaaDoorTie
namespace Go.Proofs.YtecbbbaafcoliaaDoor
open Go.RowKit
set_option linter.unusedVariables false
set_option linter.unusedSimpArgs false

set_option maxRecDepth 100000 in
set_option maxHeartbeats 4000000 in
theorem majorTwice_nil (ten : Int) (w : World) (E : Nat → Addr) (h : G4 E w) :
    Calls Tryd.prog 10 #[.pointer none, .int .i64 ten] w fun e w' => e = .returned (.bool true) ∧ Ext w w' := by
  have H := Lib.hid h
  clear h
  go_enter Tryd.func10, Tryd.ntmps10
  go_wp2_with (first
    | (go_at_call 25; refine (still_any _ E H.out).mono ?_; rintro e w1 ⟨rfl, hq⟩; have HB1 := Lib.hid hq; clear hq)
    | (go_at_call 12; refine (near_nil _).mono ?_; rintro e w' ⟨rfl, hw9⟩; have hw9 := hw9.symm; subst hw9)
    | (go_at_call 18; refine (kCheck_nil _).mono ?_; rintro e w3 ⟨rfl, hq⟩; have HB3 : Hid (Ext w w3) := Ext.trans_ HB1.out hq; clear hq))
  go_ret
  exact ⟨rfl, HB3.out⟩
set_option maxRecDepth 100000 in
set_option maxHeartbeats 8000000 in
theorem majorTwice_out (b o : Nat) (M : Mem) (S : Sls) (ten : Int) (w : World) (hM : RMem w b o M S) (E : Nat → Addr) (h : G4 E w) (hf : ¬ Near M ∨ (Near M ∧ 0 < chk M)) :
    Calls Tryd.prog 10 #[.pointer (some ⟨b, o, none⟩), .int .i64 ten] w fun e w' => e = .returned (.bool true) ∧ Ext w w' := by
  have H := Lib.hid h
  have HM := Lib.hid hM
  clear h hM
  rcases hf with hn | ⟨hn, hc⟩
  · have HN := Lib.hid hn
    clear hn
    go_enter Tryd.func10, Tryd.ntmps10
    go_wp2_with (first
      | (go_at_call 25; refine (still_any _ E H.out).mono ?_; rintro e w1 ⟨rfl, hq⟩; have HB1 := Lib.hid hq; clear hq)
      | (go_at_call 12; refine (near_no b o M S HN.out _ (HM.out.ext HB1.out)).mono ?_; rintro e w' ⟨rfl, hw9⟩; have hw9 := hw9.symm; subst hw9))
    go_ret
    exact ⟨rfl, HB1.out⟩
  · have HN := Lib.hid hn
    clear hn
    obtain ⟨c, hcc⟩ : ∃ c, chk M = c := ⟨_, rfl⟩
    rw [hcc] at hc
    have HCK := Lib.hid hcc
    clear hcc
    go_enter Tryd.func10, Tryd.ntmps10
    go_wp2_with (first
      | (go_at_call 25; refine (still_any _ E H.out).mono ?_; rintro e w1 ⟨rfl, hq⟩; have HB1 := Lib.hid hq; clear hq)
      | (go_at_call 12; refine (near_yes b o M S HN.out _ (HM.out.ext HB1.out)).mono ?_; rintro e w' ⟨rfl, hw9⟩; have hw9 := hw9.symm; subst hw9)
      | (go_at_call 18; refine (kCheck_any b o M S _ (HM.out.ext HB1.out)).mono ?_; rintro e w2 ⟨he, hq⟩; rw [HCK.out] at he; subst he; have HB2 : Hid (Ext w w2) := Ext.trans_ HB1.out hq; clear hq))
    go_ret
    exact ⟨rfl, HB2.out⟩
set_option maxRecDepth 100000 in
set_option maxHeartbeats 8000000 in
theorem majorTwice_full (b o : Nat) (M : Mem) (S : Sls) (ten : Int) (hn : Near M) (w : World) (hM : RMem w b o M S) (E : Nat → Addr) (h : G4 E w) (hc : chk M = 0) (hfu : M.old < (liveM M : Int)) :
    Calls Tryd.prog 10 #[.pointer (some ⟨b, o, none⟩), .int .i64 ten] w fun e w' => e = .returned (.bool true) ∧ Ext w w' := by
  have HCK := Lib.hid hc
  have HF := Lib.hid hn.few
  have HOK := Lib.hid hM.ok
  have H := Lib.hid h
  have HM := Lib.hid hM
  have HN := Lib.hid hn
  have HFU := Lib.hid hfu
  have HE6 : Hid (errC E 6 = errV (E 5)) := rfl
  clear h hM hn hc hfu
  go_enter Tryd.func10, Tryd.ntmps10
  go_wp2_with (first
    | (go_at_call 25; refine (still_any _ E H.out).mono ?_; rintro e w1 ⟨rfl, hq⟩; have HB1 := Lib.hid hq; clear hq)
    | (go_at_call 12; refine (near_yes b o M S HN.out _ (HM.out.ext HB1.out)).mono ?_; rintro e w' ⟨rfl, hw9⟩; have hw9 := hw9.symm; subst hw9)
    | (go_at_call 18; refine (kCheck_any b o M S _ (HM.out.ext HB1.out)).mono ?_; rintro e w2 ⟨he, hq⟩; rw [HCK.out] at he; subst he; have HB2 : Hid (Ext w w2) := Ext.trans_ HB1.out hq; clear hq)
    | (go_at_call 13; refine (memOf_walk b o M S _ (HM.out.ext HB2.out) HF.out).mono ?_; rintro e w3 ⟨bx, Sx, rfl, hq1, hq2⟩; have HX := Lib.hid hq1; have HB3 : Hid (Ext w w3) := Ext.trans_ HB2.out hq2; clear hq1 hq2)
    | (go_at_call 34; refine (major_full bx M Sx E _ (HX.out.mem HOK.out) (H.out.ext HB3.out) HCK.out HFU.out).mono ?_; rintro e w4 ⟨he, hq⟩; rw [HE6.out] at he; subst he; have HB4 : Hid (Ext w w4) := Ext.trans_ HB3.out hq; clear hq))
  go_ret
  exact ⟨rfl, HB4.out⟩
set_option maxRecDepth 100000 in
set_option maxHeartbeats 8000000 in
theorem majorTwice_bound (b o : Nat) (M : Mem) (S : Sls) (ten : Int) (hn : Near M) (w : World) (hM : RMem w b o M S) (E : Nat → Addr) (h : G4 E w) (hc : chk M = 0) (hroom : (liveM M : Int) ≤ M.old) (ht : ten < 0 ∨ (¬ ten < 0 ∧ 15 < ten)) :
    Calls Tryd.prog 10 #[.pointer (some ⟨b, o, none⟩), .int .i64 ten] w fun e w' => e = .returned (.bool true) ∧ Ext w w' := by
  have hf : Full M := ⟨hM.ok, hc, hroom⟩
  have hokN := hf.okN
  have hfewN := hf.few hn.few
  have hgN := (chk_zero hf.chkN).1
  have hgb : 0 < w.heap.size ∧ 1 < w.heap.size := ⟨cell_lt h.bound, cell_lt h.shape⟩
  have HFULL := Lib.hid hf
  have HCK := Lib.hid hc
  have HF := Lib.hid hn.few
  have HOK := Lib.hid hM.ok
  have H := Lib.hid h
  have HM := Lib.hid hM
  have HN := Lib.hid hn
  have HGM := Lib.hid (chk_zero hc).1
  have HGB := Lib.hid hgb
  have htw := hf.twice
  have hfN := hf.again
  have HT := Lib.hid ht
  have HE2 : Hid (errC E 2 = errV (E 1)) := rfl
  obtain ⟨NN, hNN⟩ : ∃ NN, NN = majM M := ⟨_, rfl⟩
  rw [← hNN] at hokN hfewN hgN hfN
  rw [← hNN] at htw
  have HNN := Lib.hid hNN
  have HOKN := Lib.hid hokN
  have HFN := Lib.hid hfewN
  have HGN := Lib.hid hgN
  have HFUN := Lib.hid hfN
  have HTW := Lib.hid htw
  clear h hM hn hc hroom hf hokN hfewN hgN hgb hNN htw hfN ht
  go_enter Tryd.func10, Tryd.ntmps10
  go_upto_region 8 with (first
    | (go_at_call 25; refine (still_any _ E H.out).mono ?_; rintro e w1 ⟨rfl, hq⟩; have HB1 := Lib.hid hq; clear hq)
    | (go_at_call 12; refine (near_yes b o M S HN.out _ (HM.out.ext HB1.out)).mono ?_; rintro e w' ⟨rfl, hw9⟩; have hw9 := hw9.symm; subst hw9)
    | (go_at_call 18; refine (kCheck_any b o M S _ (HM.out.ext HB1.out)).mono ?_; rintro e w2 ⟨he, hq⟩; rw [HCK.out] at he; subst he; have HB2 : Hid (Ext w w2) := Ext.trans_ HB1.out hq; clear hq)
    | (go_at_call 13; refine (memOf_walk b o M S _ (HM.out.ext HB2.out) HF.out).mono ?_; rintro e w3 ⟨bx, Sx, rfl, hq1, hq2⟩; have HX := Lib.hid hq1; have HB3 : Hid (Ext w w3) := Ext.trans_ HB2.out hq2; have HE23 := Lib.hid hq2; clear hq1 hq2)
    | (go_at_call 34; refine (major_walk w2.heap.size bx M Sx E _ HX.out (H.out.ext HB3.out) HFULL.out HE23.out.size).mono ?_; rintro e w4 ⟨rfl, S4, hq1, hq2, hq3⟩; rw [← HNN.out] at hq1; have HX4 := Lib.hid hq1; have HB4 : Hid (Ext w w4) := Ext.keep HB3.out hq2 (fun i hi => Nat.le_trans HB2.out.size (HX.out.own_size hi).1); have HZ4 := Lib.hid hq2.size; clear hq1 hq2 hq3)
    | (go_at_call 16; refine (memBack_walk bx 0 NN S4 _ (HX4.out.mem HOKN.out) HFN.out).mono ?_; rintro e w5 ⟨B5, b5, S5, rfl, hq1, hq2, hq3⟩; have H5O := Lib.hid hq1; have HZ5 := Lib.hid hq2; have H5 := Lib.hid (hq1.mem HOKN.out); have HB5 : Hid (Ext w w5) := Ext.trans_ HB4.out hq3; have HE45 := Lib.hid hq3; clear hq1 hq2 hq3))
  have H5N : Hid (∀ {w6 : World}, Keep (OwnA bx S4) w5 w6 → RMem w6 b5 0 NN S5) := fun hk => (OMem.keptA H5O.out (fun k hlt hO => hk.block k hlt (fun hL => by have h1 := (H5O.out.own_size hO).1; have h2 := (HX4.out.own_size hL).2; have h3 := HZ5.out; omega))).mem HOKN.out
  go_upto_region 10 with (first
    | (go_at_call 34; refine (major_walk w2.heap.size bx NN S4 E _ (OM.ext HX4.out HE45.out) (H.out.ext HB5.out) HFUN.out (Nat.le_trans HE23.out.size (Nat.le_trans HZ4.out HE45.out.size))).mono ?_; rintro e w6 ⟨rfl, S6, hq1, hq2, hq3⟩; rw [HTW.out] at hq1; have HX6 := Lib.hid hq1; have H56 := Lib.hid (H5N.out hq2); have HB6 : Hid (Ext w w6) := Ext.keep HB5.out hq2 (fun i hi => Nat.le_trans HB2.out.size (HX4.out.own_size hi).1); clear hq1 hq2 hq3)
    | (go_at_call 16; refine (memBack_walk bx 0 NN S6 _ (HX6.out.mem HOKN.out) HFN.out).mono ?_; rintro e w7 ⟨B7, b7, S7, rfl, hq1, hq2, hq3⟩; have H7 := Lib.hid (hq1.mem HOKN.out); have HB7 : Hid (Ext w w7) := Ext.trans_ HB6.out hq3; have HE67 := Lib.hid hq3; clear hq1 hq2 hq3)
    | (go_at_call 15; refine (sameMemory_yes b7 0 b5 0 NN S7 S5 _ H7.out (H56.out.ext HE67.out)).mono ?_; rintro e w8 ⟨rfl, hq⟩; have HB8 : Hid (Ext w w8) := Ext.trans_ HB7.out hq; have HE58 := Lib.hid ((HE67.out).trans_ hq); clear hq))
  go_wp2_with (first
    | (go_at_call 13; refine (memOf_walk b o M S _ (HM.out.ext HB8.out) HF.out).mono ?_; rintro e w9 ⟨by_, Sy, rfl, hq1, hq2⟩; have HY := Lib.hid hq1; have HB9 : Hid (Ext w w9) := Ext.trans_ HB8.out hq2; have HE89 := Lib.hid hq2; clear hq1 hq2)
    | (go_at_call 26; refine (collect_bound by_ 0 M Sy E ten _ (HY.out.mem HOK.out) (H.out.ext HB9.out).toG3 HCK.out (by have := HT.out; omega)).mono ?_; rintro e w10 ⟨he, hq⟩; rw [HE2.out] at he; subst he; have HB10 : Hid (Ext w w10) := Ext.trans_ HB9.out hq; clear hq))
  go_ret
  exact ⟨rfl, HB10.out⟩
set_option maxRecDepth 100000 in
set_option maxHeartbeats 8000000 in
theorem majorTwice_more (b o : Nat) (M : Mem) (S : Sls) (ten : Int) (hn : Near M) (w : World) (hM : RMem w b o M S) (E : Nat → Addr) (h : G4 E w) (hc : chk M = 0) (hroom : (liveM M : Int) ≤ M.old) (t0 : 0 ≤ ten) (t1 : ten ≤ 15) (hfu : M.old - M.oldTop < M.top) :
    Calls Tryd.prog 10 #[.pointer (some ⟨b, o, none⟩), .int .i64 ten] w fun e w' => e = .returned (.bool true) ∧ Ext w w' := by
  have hf : Full M := ⟨hM.ok, hc, hroom⟩
  have hokN := hf.okN
  have hfewN := hf.few hn.few
  have hgN := (chk_zero hf.chkN).1
  have hgb : 0 < w.heap.size ∧ 1 < w.heap.size := ⟨cell_lt h.bound, cell_lt h.shape⟩
  have HFULL := Lib.hid hf
  have HCK := Lib.hid hc
  have HF := Lib.hid hn.few
  have HOK := Lib.hid hM.ok
  have H := Lib.hid h
  have HM := Lib.hid hM
  have HN := Lib.hid hn
  have HGM := Lib.hid (chk_zero hc).1
  have HGB := Lib.hid hgb
  have htw := hf.twice
  have hfN := hf.again
  have HFU := Lib.hid hfu
  have HE6 : Hid (errC E 6 = errV (E 5)) := rfl
  obtain ⟨NN, hNN⟩ : ∃ NN, NN = majM M := ⟨_, rfl⟩
  rw [← hNN] at hokN hfewN hgN hfN
  rw [← hNN] at htw
  have HNN := Lib.hid hNN
  have HOKN := Lib.hid hokN
  have HFN := Lib.hid hfewN
  have HGN := Lib.hid hgN
  have HFUN := Lib.hid hfN
  have HTW := Lib.hid htw
  clear h hM hn hc hroom hf hokN hfewN hgN hgb hNN htw hfN hfu
  go_enter Tryd.func10, Tryd.ntmps10
  go_upto_region 8 with (first
    | (go_at_call 25; refine (still_any _ E H.out).mono ?_; rintro e w1 ⟨rfl, hq⟩; have HB1 := Lib.hid hq; clear hq)
    | (go_at_call 12; refine (near_yes b o M S HN.out _ (HM.out.ext HB1.out)).mono ?_; rintro e w' ⟨rfl, hw9⟩; have hw9 := hw9.symm; subst hw9)
    | (go_at_call 18; refine (kCheck_any b o M S _ (HM.out.ext HB1.out)).mono ?_; rintro e w2 ⟨he, hq⟩; rw [HCK.out] at he; subst he; have HB2 : Hid (Ext w w2) := Ext.trans_ HB1.out hq; clear hq)
    | (go_at_call 13; refine (memOf_walk b o M S _ (HM.out.ext HB2.out) HF.out).mono ?_; rintro e w3 ⟨bx, Sx, rfl, hq1, hq2⟩; have HX := Lib.hid hq1; have HB3 : Hid (Ext w w3) := Ext.trans_ HB2.out hq2; have HE23 := Lib.hid hq2; clear hq1 hq2)
    | (go_at_call 34; refine (major_walk w2.heap.size bx M Sx E _ HX.out (H.out.ext HB3.out) HFULL.out HE23.out.size).mono ?_; rintro e w4 ⟨rfl, S4, hq1, hq2, hq3⟩; rw [← HNN.out] at hq1; have HX4 := Lib.hid hq1; have HB4 : Hid (Ext w w4) := Ext.keep HB3.out hq2 (fun i hi => Nat.le_trans HB2.out.size (HX.out.own_size hi).1); have HZ4 := Lib.hid hq2.size; clear hq1 hq2 hq3)
    | (go_at_call 16; refine (memBack_walk bx 0 NN S4 _ (HX4.out.mem HOKN.out) HFN.out).mono ?_; rintro e w5 ⟨B5, b5, S5, rfl, hq1, hq2, hq3⟩; have H5O := Lib.hid hq1; have HZ5 := Lib.hid hq2; have H5 := Lib.hid (hq1.mem HOKN.out); have HB5 : Hid (Ext w w5) := Ext.trans_ HB4.out hq3; have HE45 := Lib.hid hq3; clear hq1 hq2 hq3))
  have H5N : Hid (∀ {w6 : World}, Keep (OwnA bx S4) w5 w6 → RMem w6 b5 0 NN S5) := fun hk => (OMem.keptA H5O.out (fun k hlt hO => hk.block k hlt (fun hL => by have h1 := (H5O.out.own_size hO).1; have h2 := (HX4.out.own_size hL).2; have h3 := HZ5.out; omega))).mem HOKN.out
  go_upto_region 10 with (first
    | (go_at_call 34; refine (major_walk w2.heap.size bx NN S4 E _ (OM.ext HX4.out HE45.out) (H.out.ext HB5.out) HFUN.out (Nat.le_trans HE23.out.size (Nat.le_trans HZ4.out HE45.out.size))).mono ?_; rintro e w6 ⟨rfl, S6, hq1, hq2, hq3⟩; rw [HTW.out] at hq1; have HX6 := Lib.hid hq1; have H56 := Lib.hid (H5N.out hq2); have HB6 : Hid (Ext w w6) := Ext.keep HB5.out hq2 (fun i hi => Nat.le_trans HB2.out.size (HX4.out.own_size hi).1); clear hq1 hq2 hq3)
    | (go_at_call 16; refine (memBack_walk bx 0 NN S6 _ (HX6.out.mem HOKN.out) HFN.out).mono ?_; rintro e w7 ⟨B7, b7, S7, rfl, hq1, hq2, hq3⟩; have H7 := Lib.hid (hq1.mem HOKN.out); have HB7 : Hid (Ext w w7) := Ext.trans_ HB6.out hq3; have HE67 := Lib.hid hq3; clear hq1 hq2 hq3)
    | (go_at_call 15; refine (sameMemory_yes b7 0 b5 0 NN S7 S5 _ H7.out (H56.out.ext HE67.out)).mono ?_; rintro e w8 ⟨rfl, hq⟩; have HB8 : Hid (Ext w w8) := Ext.trans_ HB7.out hq; have HE58 := Lib.hid ((HE67.out).trans_ hq); clear hq))
  go_wp2_with (first
    | (go_at_call 13; refine (memOf_walk b o M S _ (HM.out.ext HB8.out) HF.out).mono ?_; rintro e w9 ⟨by_, Sy, rfl, hq1, hq2⟩; have HY := Lib.hid hq1; have HB9 : Hid (Ext w w9) := Ext.trans_ HB8.out hq2; have HE89 := Lib.hid hq2; clear hq1 hq2)
    | (go_at_call 26; refine (collect_full by_ 0 M Sy E ten _ (HY.out.mem HOK.out) (H.out.ext HB9.out) HCK.out t0 t1 HFU.out).mono ?_; rintro e w10 ⟨he, hq⟩; rw [HE6.out] at he; subst he; have HB10 : Hid (Ext w w10) := Ext.trans_ HB9.out hq; clear hq))
  go_ret
  exact ⟨rfl, HB10.out⟩
set_option maxRecDepth 100000 in
set_option maxHeartbeats 8000000 in
theorem majorTwice_main (b o : Nat) (M : Mem) (S : Sls) (ten : Int) (hn : Near M) (w : World) (hM : RMem w b o M S) (E : Nat → Addr) (h : G4 E w) (hc : chk M = 0) (hroom : (liveM M : Int) ≤ M.old) (t0 : 0 ≤ ten) (t1 : ten ≤ 15) (hfu : ¬ M.old - M.oldTop < M.top) :
    Calls Tryd.prog 10 #[.pointer (some ⟨b, o, none⟩), .int .i64 ten] w fun e w' => e = .returned (.bool true) ∧ Ext w w' := by
  have hf : Full M := ⟨hM.ok, hc, hroom⟩
  have hokN := hf.okN
  have hfewN := hf.few hn.few
  have hgN := (chk_zero hf.chkN).1
  have hgb : 0 < w.heap.size ∧ 1 < w.heap.size := ⟨cell_lt h.bound, cell_lt h.shape⟩
  have HFULL := Lib.hid hf
  have HCK := Lib.hid hc
  have HF := Lib.hid hn.few
  have HOK := Lib.hid hM.ok
  have H := Lib.hid h
  have HM := Lib.hid hM
  have HN := Lib.hid hn
  have HGM := Lib.hid (chk_zero hc).1
  have HGB := Lib.hid hgb
  have htw := hf.twice
  have hfN := hf.again
  have hr : Ready M ten := ⟨hM.ok, hc, ⟨t0, t1⟩, by omega⟩
  obtain ⟨hfY, hgrY, holY⟩ := hf.minor hr
  have hfewY := collectC_few hr hn.few
  have hokC := hfY.ok
  have hgrM : graphS (majM M) = graphS (majM M) := rfl
  obtain ⟨YC, hYC⟩ : ∃ YC, YC = collectC M ten := ⟨_, rfl⟩
  rw [← hYC] at hfY hgrY holY hfewY hokC
  have hokY := hfY.okN
  have hfewYY := hfY.few hfewY
  have hgY := (chk_zero hfY.chkN).1
  obtain ⟨YY, hYY⟩ : ∃ YY, YY = majM YC := ⟨_, rfl⟩
  rw [← hYY] at hgrY holY hokY hfewYY hgY
  have HR := Lib.hid hr
  have HYC := Lib.hid hYC
  have HYY := Lib.hid hYY
  have HFY := Lib.hid hfY
  have HFEWY := Lib.hid hfewYY
  have HOKY := Lib.hid hokY
  have HGY := Lib.hid hgY
  clear hr hYC hYY hfY hfewY hokC hokY hfewYY hgY hgrM
  obtain ⟨NN, hNN⟩ : ∃ NN, NN = majM M := ⟨_, rfl⟩
  rw [← hNN] at hokN hfewN hgN hfN hgrY holY
  rw [← hNN] at htw
  have HNN := Lib.hid hNN
  have HOKN := Lib.hid hokN
  have HFN := Lib.hid hfewN
  have HGN := Lib.hid hgN
  have HFUN := Lib.hid hfN
  have HTW := Lib.hid htw
  clear h hM hn hc hroom hf hokN hfewN hgN hgb hNN htw hfN hfu
  go_enter Tryd.func10, Tryd.ntmps10
  go_upto_region 8 with (first
    | (go_at_call 25; refine (still_any _ E H.out).mono ?_; rintro e w1 ⟨rfl, hq⟩; have HB1 := Lib.hid hq; clear hq)
    | (go_at_call 12; refine (near_yes b o M S HN.out _ (HM.out.ext HB1.out)).mono ?_; rintro e w' ⟨rfl, hw9⟩; have hw9 := hw9.symm; subst hw9)
    | (go_at_call 18; refine (kCheck_any b o M S _ (HM.out.ext HB1.out)).mono ?_; rintro e w2 ⟨he, hq⟩; rw [HCK.out] at he; subst he; have HB2 : Hid (Ext w w2) := Ext.trans_ HB1.out hq; clear hq)
    | (go_at_call 13; refine (memOf_walk b o M S _ (HM.out.ext HB2.out) HF.out).mono ?_; rintro e w3 ⟨bx, Sx, rfl, hq1, hq2⟩; have HX := Lib.hid hq1; have HB3 : Hid (Ext w w3) := Ext.trans_ HB2.out hq2; have HE23 := Lib.hid hq2; clear hq1 hq2)
    | (go_at_call 34; refine (major_walk w2.heap.size bx M Sx E _ HX.out (H.out.ext HB3.out) HFULL.out HE23.out.size).mono ?_; rintro e w4 ⟨rfl, S4, hq1, hq2, hq3⟩; rw [← HNN.out] at hq1; have HX4 := Lib.hid hq1; have HB4 : Hid (Ext w w4) := Ext.keep HB3.out hq2 (fun i hi => Nat.le_trans HB2.out.size (HX.out.own_size hi).1); have HZ4 := Lib.hid hq2.size; clear hq1 hq2 hq3)
    | (go_at_call 16; refine (memBack_walk bx 0 NN S4 _ (HX4.out.mem HOKN.out) HFN.out).mono ?_; rintro e w5 ⟨B5, b5, S5, rfl, hq1, hq2, hq3⟩; have H5O := Lib.hid hq1; have HZ5 := Lib.hid hq2; have H5 := Lib.hid (hq1.mem HOKN.out); have HB5 : Hid (Ext w w5) := Ext.trans_ HB4.out hq3; have HE45 := Lib.hid hq3; clear hq1 hq2 hq3))
  have H5N : Hid (∀ {w6 : World}, Keep (OwnA bx S4) w5 w6 → RMem w6 b5 0 NN S5) := fun hk => (OMem.keptA H5O.out (fun k hlt hO => hk.block k hlt (fun hL => by have h1 := (H5O.out.own_size hO).1; have h2 := (HX4.out.own_size hL).2; have h3 := HZ5.out; omega))).mem HOKN.out
  go_upto_region 10 with (first
    | (go_at_call 34; refine (major_walk w2.heap.size bx NN S4 E _ (OM.ext HX4.out HE45.out) (H.out.ext HB5.out) HFUN.out (Nat.le_trans HE23.out.size (Nat.le_trans HZ4.out HE45.out.size))).mono ?_; rintro e w6 ⟨rfl, S6, hq1, hq2, hq3⟩; rw [HTW.out] at hq1; have HX6 := Lib.hid hq1; have H56 := Lib.hid (H5N.out hq2); have HB6 : Hid (Ext w w6) := Ext.keep HB5.out hq2 (fun i hi => Nat.le_trans HB2.out.size (HX4.out.own_size hi).1); clear hq1 hq2 hq3)
    | (go_at_call 16; refine (memBack_walk bx 0 NN S6 _ (HX6.out.mem HOKN.out) HFN.out).mono ?_; rintro e w7 ⟨B7, b7, S7, rfl, hq1, hq2, hq3⟩; have H7 := Lib.hid (hq1.mem HOKN.out); have HB7 : Hid (Ext w w7) := Ext.trans_ HB6.out hq3; have HE67 := Lib.hid hq3; clear hq1 hq2 hq3)
    | (go_at_call 15; refine (sameMemory_yes b7 0 b5 0 NN S7 S5 _ H7.out (H56.out.ext HE67.out)).mono ?_; rintro e w8 ⟨rfl, hq⟩; have HB8 : Hid (Ext w w8) := Ext.trans_ HB7.out hq; have HE58 := Lib.hid ((HE67.out).trans_ hq); clear hq))
  have HGR := Lib.hid hgrY
  have HOL := Lib.hid holY
  clear hgrY holY
  go_upto_region 13 with (first
    | (go_at_call 13; refine (memOf_walk b o M S _ (HM.out.ext HB8.out) HF.out).mono ?_; rintro e w9 ⟨by_, Sy, rfl, hq1, hq2⟩; have HY := Lib.hid hq1; have HB9 : Hid (Ext w w9) := Ext.trans_ HB8.out hq2; have HE89 := Lib.hid hq2; clear hq1 hq2)
    | (go_at_call 26; refine (collect_walk w8.heap.size by_ M Sy E ten _ HY.out (H.out.ext HB9.out).toG3 HR.out HE89.out.size ⟨Nat.lt_of_lt_of_le HGB.out.1 HB8.out.size, Nat.lt_of_lt_of_le HGB.out.2 HB8.out.size⟩).mono ?_; rintro e w10 ⟨rfl, S10, hq1, hq2, hq3⟩; rw [← HYC.out] at hq1; have HX10 := Lib.hid hq1; have HB10 : Hid (Ext w w10) := Ext.keep HB9.out hq2 (fun i hi => Nat.le_trans HB8.out.size (HY.out.own_size hi).1); have HE810 : Hid (Ext w8 w10) := Ext.keep HE89.out hq2 (fun i hi => (HY.out.own_size hi).1); clear hq1 hq2 hq3))
  go_upto_region 17 with (first
    | (go_at_call 34; refine (major_walk w8.heap.size by_ YC S10 E _ HX10.out (H.out.ext HB10.out) HFY.out HE810.out.size).mono ?_; rintro e w11 ⟨rfl, S11, hq1, hq2, hq3⟩; rw [← HYY.out] at hq1; have HX11 := Lib.hid hq1; have HB11 : Hid (Ext w w11) := Ext.keep HB10.out hq2 (fun i hi => Nat.le_trans HB8.out.size (HX10.out.own_size hi).1); have HE811 : Hid (Ext w8 w11) := Ext.keep HE810.out hq2 (fun i hi => (HX10.out.own_size hi).1); clear hq1 hq2 hq3)
    | (go_at_call 16; refine (memBack_walk by_ 0 YY S11 _ (HX11.out.mem HOKY.out) HFEWY.out).mono ?_; rintro e w12 ⟨B12, b12, S12, rfl, hq1, hq2, hq3⟩; have H12 := Lib.hid (hq1.mem HOKY.out); have HB12 : Hid (Ext w w12) := Ext.trans_ HB11.out hq3; have HE612 : Hid (Ext w6 w12) := (HE58.out.trans_ HE811.out).trans_ hq3; clear hq1 hq2 hq3)
    | (go_at_call 28; refine (graph_walk b5 0 NN S5 _ (H56.out.ext HE612.out) HGN.out HFN.out).mono ?_; rintro e w13 ⟨rfl, hq⟩; have HB13 : Hid (Ext w w13) := Ext.trans_ HB12.out hq; have HE613 : Hid (Ext w6 w13) := HE612.out.trans_ hq; have HE1213 := Lib.hid hq; clear hq))
  go_upto_region 18 with (first
    | (go_at_call 28; refine (graph_walk b12 0 YY S12 _ (H12.out.ext HE1213.out) HGY.out HFEWY.out).mono ?_; rintro e w14 ⟨he, hq⟩; rw [HGR.out] at he; subst he; have dt7 := ((H12.out.ext HE1213.out).ext hq).oldTop; rw [HOL.out] at dt7; have dt8 := ((H56.out.ext HE613.out).ext hq).oldTop; have hb7 := ((H12.out.ext HE1213.out).ext hq).lt; have hb8 := ((H56.out.ext HE613.out).ext hq).lt; have HB14 : Hid (Ext w w14) := Ext.trans_ HB13.out hq; clear hq))
  go_quiet (fail)
  go_wp2
  go_ret
  exact ⟨rfl, HB14.out.drewN_ _⟩
theorem majorTwice_any (b o : Nat) (M : Mem) (S : Sls) (ten : Int) (w : World) (hM : RMem w b o M S) (E : Nat → Addr) (h : G4 E w) :
    Calls Tryd.prog 10 #[.pointer (some ⟨b, o, none⟩), .int .i64 ten] w fun e w' => e = .returned (.bool true) ∧ Ext w w' := by
  by_cases hn : Near M
  · by_cases hc : chk M = 0
    · by_cases hr : (liveM M : Int) ≤ M.old
      · by_cases t0 : ten < 0
        · exact majorTwice_bound b o M S ten hn w hM E h hc hr (Or.inl t0)
        · by_cases t1 : 15 < ten
          · exact majorTwice_bound b o M S ten hn w hM E h hc hr (Or.inr ⟨t0, t1⟩)
          · by_cases hfu : M.old - M.oldTop < M.top
            · exact majorTwice_more b o M S ten hn w hM E h hc hr (by omega) (by omega) hfu
            · exact majorTwice_main b o M S ten hn w hM E h hc hr (by omega) (by omega) hfu
      · exact majorTwice_full b o M S ten hn w hM E h hc (by omega)
    · exact majorTwice_out b o M S ten w hM E h (Or.inr ⟨hn, by
        unfold chk at hc ⊢
        split at hc <;> (try split at hc) <;> simp_all⟩)
  · exact majorTwice_out b o M S ten w hM E h (Or.inl hn)
end Go.Proofs.YtecbbbaafcoliaaDoor
/- The law MajorTwice: its contract: whatever it is given it answers true, and leaves what was there. -/
namespace Go.Proofs.YtecbbbaafcoliaaDoor.MajorTwice
open Go.ChangeShapes Go.WideShapes Go.ChangeAt Go.RowKit
open Go.ChangeMaps (open_string)
set_option linter.unusedVariables false
set_option linter.unusedSimpArgs false

set_option maxRecDepth 100000 in
theorem contract (H : Type) (enc : TypeId × Value → H) (W : World) (base : Nat) (args : Array Value) (ds gs : List (DataW H)) (before : List MemPlace)
    (hval : ∀ (j : Nat) t v, Tryd.f10.params[j]? = some t → args[j]? = some v → Value.okWide Tryd.prog W .any base t v)
    (hW : DataW.Whole enc Tryd.prog Tryd.f10.params.toList Rows.majorTwiceSpec.vars false W args.toList ds gs before)
    (hsz : (DataW.weightsEach Tryd.prog (Tryd.f10.params.toList ++ (OpenSpec.ofChange Rows.majorTwiceSpec).bare.plain.varTypes Tryd.prog) (ds ++ gs)).all (· ≤ reachBytes) = true) (hL : laidMetH Tryd.prog Rows.majorTwiceRow.laid W) :
    Calls Tryd.prog 10 args W fun e W' => ∃ v, e = .returned v ∧ Rows.majorTwiceSpec.post enc Tryd.prog Tryd.f10 false true false false W args v W' := by
  have hW' := hW
  obtain ⟨p, q, hA0, hV, rfl, hfz, hnd⟩ := hW
  have hA : DataW.TrodAll enc Tryd.prog W 0 (fun _ => true) true Tryd.f10.params.toList args.toList ds p := hA0
  rw [Tryd.params10] at hA hval
  obtain ⟨v0, vs0, d0, ds0, p0, q0, hargs, rfl, rfl, h0, r0⟩ := trodAll_cons hA
  obtain ⟨v1, vs1, d1, ds1, p1, q1, rfl, rfl, rfl, h1, r1⟩ := trodAll_cons r0
  obtain ⟨rfl, rfl, rfl⟩ := trodAll_nil r1
  obtain rfl : args = #[v0, v1] := by cases args; simp_all
  obtain ⟨rfl, rfl⟩ := trodVars_none hV
  obtain ⟨x1, rfl, rfl, rfl, w1⟩ := open_int Tryd.underlying3 (hval 1 3 v1 rfl rfl) h1
  obtain ⟨E, hE⟩ := g4_of_laid (W := W) (hL.filter fun x => laid4.any (·.1 == x.1))
  clear hA0
  obtain ⟨fuel0, hh0⟩ := id h0
  obtain ⟨pa0, rfl⟩ := okWide_pointer Tryd.underlying22 (hval 0 22 v0 rfl rfl)
  rcases read_mem hh0 with e0 | ⟨b0, o0, M0, S0, e0, hM0⟩
  · obtain rfl := Value.pointer.inj (List.singleton_inj.1 e0)
    refine (majorTwice_nil x1 W  E hE ).mono fun e W' ⟨he, hg⟩ => ?_
    subst he
    exact ⟨_, rfl, law_post rfl rfl hW' (by simp [Rows.majorTwiceSpec]) (by decide +kernel) hg⟩
  · obtain rfl := Value.pointer.inj (List.singleton_inj.1 e0)
    refine (majorTwice_any b0 o0 M0 S0 x1 W  hM0 E hE ).mono fun e W' ⟨he, hg⟩ => ?_
    subst he
    exact ⟨_, rfl, law_post rfl rfl hW' (by simp [Rows.majorTwiceSpec]) (by decide +kernel) hg⟩
end Go.Proofs.YtecbbbaafcoliaaDoor.MajorTwice
/- The law MajorTwice: its row's step, out of the contract; an input that fits. -/
namespace Go.Proofs.YtecbbbaafcoliaaDoor.MajorTwice
open Go.ChangeShapes Go.WideShapes Go.ChangeAt Go.RowKit

theorem laid_met (os : Os) : laidMetH Tryd.prog Rows.majorTwiceRow.laid ((World.doorLaid Tryd.prog 200 os).forCall (fun _ _ => 0) ⟨#[], #[.pointer none, .int .i64 0], []⟩).memory :=
  laidMetH_of_parts3 (fuel := 8) (laidMet_of_run' 8 (by kernel_rfl) (by kernel_rfl)) (by kernel_rfl) (by kernel_rfl)
theorem reads (os : Os) {H : Type} (enc : TypeId × Value → H) : ∃ places, DataW.whole enc Tryd.prog ((World.doorLaid Tryd.prog 200 os).forCall (fun _ _ => 0) ⟨#[], #[.pointer none, .int .i64 0], []⟩).memory Tryd.f10.params.toList Rows.majorTwiceSpec.vars false #[.pointer none, .int .i64 0].toList 8 = some ([.nil, .lit (.int .i64 0)], [], places) :=
  ⟨[], by kernel_rfl⟩

set_option maxRecDepth 100000 in
theorem lifted (os : Os) (started : os.Started) (H : Type) (enc : TypeId × Value → H) (F : Stop.Interp) :
    ReturnsInHanded {} Tryd.checked os 10 .any ((OpenSpec.ofChange Rows.majorTwiceSpec).preRow enc Tryd.prog Tryd.f10 Rows.majorTwiceRow.domain false Rows.majorTwiceRow.laid) (((OpenSpec.ofChange Rows.majorTwiceSpec).at F).post enc Tryd.prog Tryd.f10 false true false false) := by
  obtain ⟨places, hx⟩ := reads os enc
  refine returnsInHanded_of_row (C := Tryd.checked) (s := OpenSpec.ofChange Rows.majorTwiceSpec) own started (by kernel_rfl) Tryd.func10
    (witness_row_atRef (enc := enc) (C := Tryd.checked) false (World.doorLaid Tryd.prog 200 os) #[.pointer none, .int .i64 0] rfl (by kernel_rfl) (by kernel_rfl) (by kernel_rfl)
      (OpenSpec.preRow_of_cond 8 hx (by kernel_rfl) (fun k hk => by cases hk) (by kernel_rfl) (laid_met os))) ?_
  intro W base args ds gs before hval hW _ _ hsz hL _ _
  exact contract H enc W base args ds gs before hval hW hsz hL
end Go.Proofs.YtecbbbaafcoliaaDoor.MajorTwice
/- The law MajorTwice: the closed facts of its row, each by itself. -/
namespace Go.Proofs.YtecbbbaafcoliaaDoor.MajorTwice
open Go.ChangeShapes Go.WideShapes Go.ChangeAt Go.RowKit

set_option maxHeartbeats 40000000 in
theorem closed : joinedFacts Tryd.prog 10 Tryd.f10 (OpenSpec.ofChange Rows.majorTwiceSpec).bare Rows.majorTwiceRow = true := by
  unfold joinedFacts
  repeat' (with_reducible refine Bool.and_eq_true_iff.2 ⟨?_, ?_⟩)
  all_goals as_aux_lemma => kernel_rfl
end Go.Proofs.YtecbbbaafcoliaaDoor.MajorTwice
/- The law MajorTwice: the statement, closed. -/
namespace Go.Proofs.YtecbbbaafcoliaaDoor.MajorTwice
open Go.ChangeShapes Go.WideShapes Go.ChangeAt Go.RowKit

set_option maxRecDepth 100000 in
theorem said : Rows.MajorTwiceSaid :=
  OpenClaim.holds_of_cond 10 Tryd.f10 rfl rfl rfl rfl rfl rfl rfl ⟨rfl, rfl, rfl, rfl, rfl⟩ rfl rfl rfl rfl rfl (by kernel_rfl) Tryd.func10 closed
    (of_decide_eq_true (by kernel_rfl)) (by unfold Func.isWrapper; first | (rw [if_pos (by decide +kernel)]; kernel_rfl) | (rw [if_neg (by decide +kernel)]; exact ⟨rfl, rfl⟩))
    (fun os started H enc _ F => by rw [OpenClaim.pre_eq_preRow]; exact lifted os started H enc F)

theorem looks0 : true = Tryd.pinned.checked.prog.looks [] := by kernel_rfl
/-- No parameter wants a stand-in; the looks are the program's own. -/
theorem plain (f : FuncId) (fn : Func) (hf : Tryd.pinned.checked.prog.funcNamed "nurserypy/nurserypylaw3.MajorTwice" = some f) (hfn : Tryd.pinned.checked.prog.funcs[f]? = some fn) :
    true = Tryd.pinned.checked.prog.looks [] ∧ ∀ (j : Nat) t, fn.params[j]? = some t → Tryd.pinned.checked.prog.wantsStandIn t = false := by
  obtain rfl : f = 10 := Option.some.inj ((show Tryd.prog.funcNamed "nurserypy/nurserypylaw3.MajorTwice" = some 10 by kernel_rfl).symm.trans hf) |>.symm
  obtain rfl : fn = Tryd.f10 := (Option.some.inj (Tryd.func10.symm.trans hfn)).symm
  refine ⟨looks0, fun j t ht => ?_⟩
  rw [Tryd.params10] at ht
  have hm := Array.mem_of_getElem? ht
  simp only [List.mem_toArray, List.mem_cons, List.not_mem_nil, or_false] at hm
  rcases hm with rfl | rfl
  · exact (show Tryd.prog.wantsStandIn 22 = false by kernel_rfl)
  · exact (show Tryd.prog.wantsStandIn 3 = false by kernel_rfl)
theorem wfT : Rows.majorTwiceRow.wfByText (OpenSpec.ofChange Rows.majorTwiceSpec) = true := by kernel_rfl
theorem goesB : false = Rows.majorTwiceRow.goesBy Tryd.pinned.checked.prog := by kernel_rfl
theorem mainI : Tryd.pinned.checked.prog.mainIs = some (Rows.majorTwiceCard.stood.harness.1, Rows.majorTwiceCard.stood.harness.2.toList) := by kernel_rfl

/-- THE STATEMENT. -/
theorem majorTwice_holds : Rows.MajorTwiceCardSaid :=
  Claim7.holds_tied_plain_at .later [] _ _ _ _ said (fun _ h => by cases h) wfT (fun _ h => by cases h) majorTwice_row_tie rfl ⟨rfl, rfl⟩ mainI rfl plain goesB
end Go.Proofs.YtecbbbaafcoliaaDoor.MajorTwice
