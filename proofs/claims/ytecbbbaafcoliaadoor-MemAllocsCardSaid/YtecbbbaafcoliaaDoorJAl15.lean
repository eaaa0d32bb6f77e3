/- The law MemAllocs: its walk where no object is given. -/
import Derived.Test.YtecbbbaafcoliaaDoorJAl12
import Derived.Test.YtecbbbaafcoliaaDoorJAl13
import Derived.Test.YtecbbbaafcoliaaDoorJAl14
import Derived.Deep.RegionHeld3
import Derived.Test.YtecbbbaafcoliaaDoorJAl05
import Derived.ProofKit
import Derived.Deep.Fields
import Derived.Deep.SlicePairs
import Derived.OpenShut
import Derived.Test.YtecbbbaafcoliaaDoorCards
import Derived.Test.YtecbbbaafcoliaaDoorTie
import Derived.Test.YtecbbbaafcoliaaDoorJAl01
import Derived.LaidLaws
import Derived.LaidSub
import Derived.LaidMore
import Derived.Deep.DeepHandedRow
import Derived.Deep.DeepWitnessRowRef
namespace Go.Proofs.YtecbbbaafcoliaaDoor
open Go.RowKit
set_option linter.unusedVariables false
set_option linter.unusedSimpArgs false

set_option maxRecDepth 100000 in
set_option maxHeartbeats 4000000 in
theorem memAllocs_nil0 (w : World) (E : Nat → Addr) (h : ErrEnv E w) (kind : Int) (fa : Option Addr) (fc : Nat) (fs : List Int) (hR : RSl w fa (wcells fs)) (hfc : fs.length ≤ fc) (hfn : fa = none → fc = 0) (hfb : ∀ x ∈ fs, 0 ≤ x ∧ x ≤ 18446744073709551615) :
    Calls Tryd.prog 7 #[.pointer none, .int .i64 kind, .slice fa fs.length fc] w fun e w' => e = .returned (.bool true) ∧ Ext w w' := by
  obtain ⟨i0, hi, hz0, hz1, hz2⟩ := info_parts infoF0
  have H := Lib.hid h
  have HFR := Lib.hid hR
  have HFN := Lib.hid hfn
  clear h hR hfn hfb
  by_cases hl : 200 < fs.length
  · have hlz : (200 : Int) < (fs.length : Int) := by omega
    go_enter Tryd.func7, Tryd.ntmps7
    go_wp2_with (first
      | (go_at_call 11; refine (fresh_any _ E H.out.g3).mono ?_; rintro e w1 ⟨rfl, hq⟩; have HB1 := Lib.hid hq; clear hq)
      | (go_at_call 12; refine (near_nil _).mono ?_; rintro e w' ⟨rfl, hw9⟩; have hw9 := hw9.symm; subst hw9))
    go_ret
    exact ⟨rfl, HB1.out⟩
  · have hlz : ¬ (200 : Int) < (fs.length : Int) := by omega
    go_enter Tryd.func7, Tryd.ntmps7
    go_wp2_with (first
      | (go_at_call 11; refine (fresh_any _ E H.out.g3).mono ?_; rintro e w1 ⟨rfl, hq⟩; have HB1 := Lib.hid hq; clear hq)
      | (go_at_call 12; refine (near_nil _).mono ?_; rintro e w' ⟨rfl, hw9⟩; have hw9 := hw9.symm; subst hw9)
      | (go_at_call 18; refine (kCheck_nil _).mono ?_; rintro e w3 ⟨rfl, hq⟩; have HB3 : Hid (Ext w w3) := Ext.trans_ HB1.out hq; clear hq)
      | (go_at_call 13; refine (memOf_nil _).mono ?_; rintro e w' ⟨rfl, hw9⟩; have hw9 := hw9.symm; subst hw9)
      | (at_builtin; refine wpList_append_src rfl _ _ 35 rfl w3.heap.size 30 i0 (.int .u64 0) 1 8 und0 hi hz0 hz1 hz2 rfl (by decide) _ 0 [] rfl (World.ownsRow_nil _ _ _ _) fa fs.length fc (wcells fs) rfl HFN.out hfc (wcells_len fs) (HFR.out.ext HB3.out) (wcells_one _) (by unfold maxLen; omega) (by omega) (Nat.le_refl _) ?_))
    intro a2 c2 w5 hown hgrow hat
    have hE35 : Ext w3 w5 := Below.grown (Ext.refl w3) hgrow (Nat.le_refl _) (fun g hg => by cases hg)
    have HB5 : Hid (Ext w w5) := Ext.trans_ HB3.out hE35
    clear hown hgrow hat hE35
    try simp only [Nat.zero_add]
    go_wp2_with (first
      | (go_at_call 17; refine (alloc_nil kind a2 _ c2 E _ (H.out.ext HB5.out).g3).mono ?_; rintro e w6 ⟨rfl, hq⟩; have HB6 : Hid (Ext w w6) := Ext.trans_ HB5.out hq; clear hq))
    go_quiet (fail)
    go_wp2_with (first
      | (go_at_call 30; refine (coded_c (H.out.ext (by (repeat (first | exact HB6.out | (refine Ext.drew_ ?_) | (refine Ext.drewN_ ?_ _))))) 3 (by decide) (by decide)).mono ?_; rintro e w7 ⟨rfl, hq⟩; have HB7 : Hid (Ext w w7) := Ext.trans_ (by (repeat (first | exact HB6.out | (refine Ext.drew_ ?_) | (refine Ext.drewN_ ?_ _)))) hq; clear hq))
    go_ret
    exact ⟨rfl, HB7.out⟩
set_option maxRecDepth 100000 in
set_option maxHeartbeats 4000000 in
theorem memAllocs_far (b o : Nat) (M : Mem) (S : Sls) (w : World) (hM : RMem w b o M S) (E : Nat → Addr) (h : ErrEnv E w) (kind : Int) (fa : Option Addr) (fc : Nat) (fs : List Int) (hf : ¬ Near M ∨ (Near M ∧ (200 : Int) < (fs.length : Int))) :
    Calls Tryd.prog 7 #[.pointer (some ⟨b, o, none⟩), .int .i64 kind, .slice fa fs.length fc] w fun e w' => e = .returned (.bool true) ∧ Ext w w' := by
  have H := Lib.hid h
  have HM := Lib.hid hM
  clear h hM
  rcases hf with hn | ⟨hn, hl⟩
  · have HN := Lib.hid hn
    clear hn
    go_enter Tryd.func7, Tryd.ntmps7
    go_wp2_with (first
      | (go_at_call 11; refine (fresh_any _ E H.out.g3).mono ?_; rintro e w1 ⟨rfl, hq⟩; have HB1 := Lib.hid hq; clear hq)
      | (go_at_call 12; refine (near_no b o M S HN.out _ (HM.out.ext HB1.out)).mono ?_; rintro e w' ⟨rfl, hw9⟩; have hw9 := hw9.symm; subst hw9))
    go_ret
    exact ⟨rfl, HB1.out⟩
  · have HN := Lib.hid hn
    clear hn
    go_enter Tryd.func7, Tryd.ntmps7
    go_wp2_with (first
      | (go_at_call 11; refine (fresh_any _ E H.out.g3).mono ?_; rintro e w1 ⟨rfl, hq⟩; have HB1 := Lib.hid hq; clear hq)
      | (go_at_call 12; refine (near_yes b o M S HN.out _ (HM.out.ext HB1.out)).mono ?_; rintro e w' ⟨rfl, hw9⟩; have hw9 := hw9.symm; subst hw9))
    go_ret
    exact ⟨rfl, HB1.out⟩
set_option maxRecDepth 100000 in
set_option maxHeartbeats 8000000 in
theorem memAllocs_chk (b o : Nat) (M : Mem) (S : Sls) (hn : Near M) (w : World) (hM : RMem w b o M S) (E : Nat → Addr) (h : ErrEnv E w) (kind : Int) (fa : Option Addr) (fc : Nat) (fs : List Int) (hR : RSl w fa (wcells fs)) (hfc : fs.length ≤ fc) (hfn : fa = none → fc = 0) (hfb : ∀ x ∈ fs, 0 ≤ x ∧ x ≤ 18446744073709551615) (hl : fs.length ≤ 200) (hc : 0 < chk M) :
    Calls Tryd.prog 7 #[.pointer (some ⟨b, o, none⟩), .int .i64 kind, .slice fa fs.length fc] w fun e w' => e = .returned (.bool true) ∧ Ext w w' := by
  obtain ⟨i0, hi, hz0, hz1, hz2⟩ := info_parts infoF0
  obtain ⟨c, hcc⟩ : ∃ c, chk M = c := ⟨_, rfl⟩
  rw [hcc] at hc
  have HCK := Lib.hid hcc
  have HAC : Hid (allocC M kind fs = c) := by unfold Hid allocC; rw [if_pos (by omega), hcc]
  have HC0 : Hid (c ≠ 0) := by unfold Hid; omega
  have HC1 : Hid (1 ≤ c) := by unfold Hid; omega
  have HC2 : Hid (c ≤ 7) := by rw [Hid, ← hcc]; unfold chk; split <;> (try split) <;> omega
  have hc0 : (c == 0) = false := by simp; omega
  have hlz : ¬ (200 : Int) < (fs.length : Int) := by omega
  clear hcc
  have HF := Lib.hid hn.few
  have HOK := Lib.hid hM.ok
  have H := Lib.hid h
  have HM := Lib.hid hM
  have HN := Lib.hid hn
  have HFR := Lib.hid hR
  have HFN := Lib.hid hfn
  have HFB := Lib.hid hfb
  have HFL : Hid (fs.length ≤ 9223372036854775807) := by unfold Hid; omega
  have hltb := hM.lt
  clear h hM hn hR hfn hfb
  go_enter Tryd.func7, Tryd.ntmps7
  go_wp2_with (first
    | (go_at_call 11; refine (fresh_any _ E H.out.g3).mono ?_; rintro e w1 ⟨rfl, hq⟩; have HB1 := Lib.hid hq; clear hq)
    | (go_at_call 12; refine (near_yes b o M S HN.out _ (HM.out.ext HB1.out)).mono ?_; rintro e w' ⟨rfl, hw9⟩; have hw9 := hw9.symm; subst hw9)
    | (go_at_call 18; refine (kCheck_any b o M S _ (HM.out.ext HB1.out)).mono ?_; rintro e w2 ⟨he, hq⟩; rw [HCK.out] at he; subst he; have HB2 : Hid (Ext w w2) := Ext.trans_ HB1.out hq; clear hq)
    | (go_at_call 13; refine (memOf_walk b o M S _ (HM.out.ext HB2.out) HF.out).mono ?_; rintro e w3 ⟨bx, Sx, rfl, hq1, hq2⟩; have HX := Lib.hid hq1; have HB3 : Hid (Ext w w3) := Ext.trans_ HB2.out hq2; clear hq1 hq2)
    | (at_builtin; refine wpList_append_src rfl _ _ 35 rfl w3.heap.size 30 i0 (.int .u64 0) 1 8 und0 hi hz0 hz1 hz2 rfl (by decide) _ 0 [] rfl (World.ownsRow_nil _ _ _ _) fa fs.length fc (wcells fs) rfl HFN.out hfc (wcells_len fs) (HFR.out.ext HB3.out) (wcells_one _) (by unfold maxLen; omega) (by omega) (Nat.le_refl _) ?_))
  intro a2 c2 w5 hown hgrow hat
  try simp only [Nat.zero_add, List.nil_append] at hown
  have hE35 : Ext w3 w5 := Below.grown (Ext.refl w3) hgrow (Nat.le_refl _) (fun g hg => by cases hg)
  have HE35 := Lib.hid hE35
  have HB5 : Hid (Ext w w5) := Ext.trans_ HB3.out hE35
  have HX5 : Hid (OMem w5 w2.heap.size bx 72 M Sx) := OM.ext HX.out hE35
  have HRO := Lib.hid (row_rsl hown).1
  have HNO := Lib.hid (not_ownW HX.out hown)
  clear hown hgrow hat hE35
  try simp only [Nat.zero_add]
  go_wp2_with (first
    | (go_at_call 17; refine (alloc_bad w2.heap.size bx M Sx E kind a2 fs c2 _ HX5.out HOK.out (H.out.ext HB5.out).g4 HFL.out HRO.out HFB.out HNO.out c HAC.out HC0.out).mono ?_; rintro e w6 ⟨rfl, hq⟩; have HB6 : Hid (Ext w w6) := Ext.trans_ HB5.out hq; have HX6 : Hid (OMem w6 w2.heap.size bx 72 M Sx) := OM.ext HX5.out hq; clear hq))
  go_quiet (fail)
  go_wp2_with (first
    | (go_at_call 30; refine (coded_c (H.out.ext (by (repeat (first | exact HB6.out | (refine Ext.drew_ ?_) | (refine Ext.drewN_ ?_ _))))) c HC1.out HC2.out).mono ?_; rintro e w7 ⟨rfl, hq⟩; have HB7 : Hid (Ext w w7) := Ext.trans_ (by (repeat (first | exact HB6.out | (refine Ext.drew_ ?_) | (refine Ext.drewN_ ?_ _)))) hq; have HX7 : Hid (OMem w7 w2.heap.size bx 72 M Sx) := OM.ext HX6.out (Ext.trans_ (by (repeat (first | exact Ext.refl _ | (refine Ext.drew_ ?_) | (refine Ext.drewN_ ?_ _)))) hq); clear hq)
    | (go_at_call 16; refine (memBack_walk bx 0 M Sx _ (HX7.out.mem HOK.out) HF.out).mono ?_; rintro e w8 ⟨B8, b8, S8, rfl, hq1, hq2, hq3⟩; have H8 := Lib.hid (hq1.mem HOK.out); have HB8 : Hid (Ext w w8) := Ext.trans_ HB7.out hq3; clear hq1 hq2 hq3)
    | (go_at_call 15; refine (sameMemory_yes b8 0 b o M S8 S _ H8.out (HM.out.ext HB8.out)).mono ?_; rintro e w9 ⟨rfl, hq⟩; have HB9 : Hid (Ext w w9) := Ext.trans_ HB8.out hq; clear hq))
  go_ret
  exact ⟨rfl, HB9.out⟩
set_option maxRecDepth 100000 in
set_option maxHeartbeats 8000000 in
theorem memAllocs_bound (b o : Nat) (M : Mem) (S : Sls) (hn : Near M) (w : World) (hM : RMem w b o M S) (E : Nat → Addr) (h : ErrEnv E w) (kind : Int) (fa : Option Addr) (fc : Nat) (fs : List Int) (hR : RSl w fa (wcells fs)) (hfc : fs.length ≤ fc) (hfn : fa = none → fc = 0) (hfb : ∀ x ∈ fs, 0 ≤ x ∧ x ≤ 18446744073709551615) (hl : fs.length ≤ 200) (hc : chk M = 0) (hk : kind < 0 ∨ (¬ kind < 0 ∧ 255 < kind)) :
    Calls Tryd.prog 7 #[.pointer (some ⟨b, o, none⟩), .int .i64 kind, .slice fa fs.length fc] w fun e w' => e = .returned (.bool true) ∧ Ext w w' := by
  obtain ⟨i0, hi, hz0, hz1, hz2⟩ := info_parts infoF0
  have HCK := Lib.hid hc
  have HAC : Hid (allocC M kind fs = 2) := by unfold Hid allocC; rw [if_neg (by omega), if_pos (by omega)]
  have HC0 : Hid ((2 : Int) ≠ 0) := by unfold Hid; omega
  have HC1 : Hid ((1 : Int) ≤ 2) := by unfold Hid; omega
  have HC2 : Hid ((2 : Int) ≤ 7) := by unfold Hid; omega
  have hlz : ¬ (200 : Int) < (fs.length : Int) := by omega
  clear hc
  have HF := Lib.hid hn.few
  have HOK := Lib.hid hM.ok
  have H := Lib.hid h
  have HM := Lib.hid hM
  have HN := Lib.hid hn
  have HFR := Lib.hid hR
  have HFN := Lib.hid hfn
  have HFB := Lib.hid hfb
  have HFL : Hid (fs.length ≤ 9223372036854775807) := by unfold Hid; omega
  have hltb := hM.lt
  clear h hM hn hR hfn hfb
  rcases hk with hk | ⟨hk1, hk2⟩
  all_goals
    go_enter Tryd.func7, Tryd.ntmps7
    go_wp2_with (first
      | (go_at_call 11; refine (fresh_any _ E H.out.g3).mono ?_; rintro e w1 ⟨rfl, hq⟩; have HB1 := Lib.hid hq; clear hq)
      | (go_at_call 12; refine (near_yes b o M S HN.out _ (HM.out.ext HB1.out)).mono ?_; rintro e w' ⟨rfl, hw9⟩; have hw9 := hw9.symm; subst hw9)
      | (go_at_call 18; refine (kCheck_any b o M S _ (HM.out.ext HB1.out)).mono ?_; rintro e w2 ⟨he, hq⟩; rw [HCK.out] at he; subst he; have HB2 : Hid (Ext w w2) := Ext.trans_ HB1.out hq; clear hq)
      | (go_at_call 13; refine (memOf_walk b o M S _ (HM.out.ext HB2.out) HF.out).mono ?_; rintro e w3 ⟨bx, Sx, rfl, hq1, hq2⟩; have HX := Lib.hid hq1; have HB3 : Hid (Ext w w3) := Ext.trans_ HB2.out hq2; clear hq1 hq2)
      | (at_builtin; refine wpList_append_src rfl _ _ 35 rfl w3.heap.size 30 i0 (.int .u64 0) 1 8 und0 hi hz0 hz1 hz2 rfl (by decide) _ 0 [] rfl (World.ownsRow_nil _ _ _ _) fa fs.length fc (wcells fs) rfl HFN.out hfc (wcells_len fs) (HFR.out.ext HB3.out) (wcells_one _) (by unfold maxLen; omega) (by omega) (Nat.le_refl _) ?_))
    intro a2 c2 w5 hown hgrow hat
    try simp only [Nat.zero_add, List.nil_append] at hown
    have hE35 : Ext w3 w5 := Below.grown (Ext.refl w3) hgrow (Nat.le_refl _) (fun g hg => by cases hg)
    have HE35 := Lib.hid hE35
    have HB5 : Hid (Ext w w5) := Ext.trans_ HB3.out hE35
    have HX5 : Hid (OMem w5 w2.heap.size bx 72 M Sx) := OM.ext HX.out hE35
    have HRO := Lib.hid (row_rsl hown).1
    have HNO := Lib.hid (not_ownW HX.out hown)
    clear hown hgrow hat hE35
    try simp only [Nat.zero_add]
    go_wp2_with (first
      | (go_at_call 17; refine (alloc_bad w2.heap.size bx M Sx E kind a2 fs c2 _ HX5.out HOK.out (H.out.ext HB5.out).g4 HFL.out HRO.out HFB.out HNO.out 2 HAC.out HC0.out).mono ?_; rintro e w6 ⟨rfl, hq⟩; have HB6 : Hid (Ext w w6) := Ext.trans_ HB5.out hq; have HX6 : Hid (OMem w6 w2.heap.size bx 72 M Sx) := OM.ext HX5.out hq; clear hq))
    go_quiet (fail)
    go_wp2_with (first
      | (go_at_call 30; refine (coded_c (H.out.ext (by (repeat (first | exact HB6.out | (refine Ext.drew_ ?_) | (refine Ext.drewN_ ?_ _))))) 2 HC1.out HC2.out).mono ?_; rintro e w7 ⟨rfl, hq⟩; have HB7 : Hid (Ext w w7) := Ext.trans_ (by (repeat (first | exact HB6.out | (refine Ext.drew_ ?_) | (refine Ext.drewN_ ?_ _)))) hq; have HX7 : Hid (OMem w7 w2.heap.size bx 72 M Sx) := OM.ext HX6.out (Ext.trans_ (by (repeat (first | exact Ext.refl _ | (refine Ext.drew_ ?_) | (refine Ext.drewN_ ?_ _)))) hq); clear hq)
      | (go_at_call 16; refine (memBack_walk bx 0 M Sx _ (HX7.out.mem HOK.out) HF.out).mono ?_; rintro e w8 ⟨B8, b8, S8, rfl, hq1, hq2, hq3⟩; have H8 := Lib.hid (hq1.mem HOK.out); have HB8 : Hid (Ext w w8) := Ext.trans_ HB7.out hq3; clear hq1 hq2 hq3)
      | (go_at_call 15; refine (sameMemory_yes b8 0 b o M S8 S _ H8.out (HM.out.ext HB8.out)).mono ?_; rintro e w9 ⟨rfl, hq⟩; have HB9 : Hid (Ext w w9) := Ext.trans_ HB8.out hq; clear hq))
    go_ret
    exact ⟨rfl, HB9.out⟩
set_option maxRecDepth 100000 in
set_option maxHeartbeats 8000000 in
theorem memAllocs_shape (b o : Nat) (M : Mem) (S : Sls) (hn : Near M) (w : World) (hM : RMem w b o M S) (E : Nat → Addr) (h : ErrEnv E w) (kind : Int) (fa : Option Addr) (fc : Nat) (fs : List Int) (hR : RSl w fa (wcells fs)) (hfc : fs.length ≤ fc) (hfn : fa = none → fc = 0) (hfb : ∀ x ∈ fs, 0 ≤ x ∧ x ≤ 18446744073709551615) (hl : fs.length ≤ 200) (hc : chk M = 0) (hk1 : ¬ kind < 0) (hk2 : ¬ 255 < kind) (hr : rawB kind = false) (hf : fieldsB (startsM M) fs = false) :
    Calls Tryd.prog 7 #[.pointer (some ⟨b, o, none⟩), .int .i64 kind, .slice fa fs.length fc] w fun e w' => e = .returned (.bool true) ∧ Ext w w' := by
  obtain ⟨i0, hi, hz0, hz1, hz2⟩ := info_parts infoF0
  have HCK := Lib.hid hc
  have HGD := Lib.hid (chk_zero hc).1
  have HFO := Lib.hid hf
  have HAC : Hid (allocC M kind fs = 3) := by unfold Hid allocC; rw [if_neg (by omega), if_neg (by omega), if_pos ⟨hr, hf⟩]
  have HC0 : Hid ((3 : Int) ≠ 0) := by unfold Hid; omega
  have HC1 : Hid ((1 : Int) ≤ 3) := by unfold Hid; omega
  have HC2 : Hid ((3 : Int) ≤ 7) := by unfold Hid; omega
  have hlz : ¬ (200 : Int) < (fs.length : Int) := by omega
  have hk7 : 7 < kind := by have := of_decide_eq_false hr; omega
  clear hc hr hf
  have HF := Lib.hid hn.few
  have HOK := Lib.hid hM.ok
  have H := Lib.hid h
  have HM := Lib.hid hM
  have HN := Lib.hid hn
  have HFR := Lib.hid hR
  have HFN := Lib.hid hfn
  have HFB := Lib.hid hfb
  have HFL : Hid (fs.length ≤ 9223372036854775807) := by unfold Hid; omega
  have hltb := hM.lt
  clear h hM hn hR hfn hfb
  go_enter Tryd.func7, Tryd.ntmps7
  go_wp2_with (first
    | (go_at_call 11; refine (fresh_any _ E H.out.g3).mono ?_; rintro e w1 ⟨rfl, hq⟩; have HB1 := Lib.hid hq; clear hq)
    | (go_at_call 12; refine (near_yes b o M S HN.out _ (HM.out.ext HB1.out)).mono ?_; rintro e w' ⟨rfl, hw9⟩; have hw9 := hw9.symm; subst hw9)
    | (go_at_call 18; refine (kCheck_any b o M S _ (HM.out.ext HB1.out)).mono ?_; rintro e w2 ⟨he, hq⟩; rw [HCK.out] at he; subst he; have HB2 : Hid (Ext w w2) := Ext.trans_ HB1.out hq; clear hq)
    | (go_at_call 13; refine (memOf_walk b o M S _ (HM.out.ext HB2.out) HF.out).mono ?_; rintro e w3 ⟨bx, Sx, rfl, hq1, hq2⟩; have HX := Lib.hid hq1; have HB3 : Hid (Ext w w3) := Ext.trans_ HB2.out hq2; clear hq1 hq2)
    | (at_builtin; refine wpList_append_src rfl _ _ 35 rfl w3.heap.size 30 i0 (.int .u64 0) 1 8 und0 hi hz0 hz1 hz2 rfl (by decide) _ 0 [] rfl (World.ownsRow_nil _ _ _ _) fa fs.length fc (wcells fs) rfl HFN.out hfc (wcells_len fs) (HFR.out.ext HB3.out) (wcells_one _) (by unfold maxLen; omega) (by omega) (Nat.le_refl _) ?_))
  intro a2 c2 w5 hown hgrow hat
  try simp only [Nat.zero_add, List.nil_append] at hown
  have hE35 : Ext w3 w5 := Below.grown (Ext.refl w3) hgrow (Nat.le_refl _) (fun g hg => by cases hg)
  have HE35 := Lib.hid hE35
  have HB5 : Hid (Ext w w5) := Ext.trans_ HB3.out hE35
  have HX5 : Hid (OMem w5 w2.heap.size bx 72 M Sx) := OM.ext HX.out hE35
  have HRO := Lib.hid (row_rsl hown).1
  have HNO := Lib.hid (not_ownW HX.out hown)
  clear hown hgrow hat hE35
  try simp only [Nat.zero_add]
  go_wp2_with (first
    | (go_at_call 17; refine (alloc_bad w2.heap.size bx M Sx E kind a2 fs c2 _ HX5.out HOK.out (H.out.ext HB5.out).g4 HFL.out HRO.out HFB.out HNO.out 3 HAC.out HC0.out).mono ?_; rintro e w6 ⟨rfl, hq⟩; have HB6 : Hid (Ext w w6) := Ext.trans_ HB5.out hq; have HX6 : Hid (OMem w6 w2.heap.size bx 72 M Sx) := OM.ext HX5.out hq; clear hq)
    | (go_at_call 29; refine (kFieldsOK_any b o M S HGD.out fa fc fs HFL.out HFB.out _ (HM.out.ext HB6.out) (HFR.out.ext HB6.out)).mono ?_; rintro e w7 ⟨he, hq⟩; rw [HFO.out] at he; subst he; have HB7 : Hid (Ext w w7) := Ext.trans_ HB6.out hq; have HX7 : Hid (OMem w7 w2.heap.size bx 72 M Sx) := OM.ext HX6.out hq; clear hq))
  go_quiet (fail)
  go_wp2_with (first
    | (go_at_call 30; refine (coded_c (H.out.ext (by (repeat (first | exact HB7.out | (refine Ext.drew_ ?_) | (refine Ext.drewN_ ?_ _))))) 3 HC1.out HC2.out).mono ?_; rintro e w17 ⟨rfl, hq⟩; have HB17 : Hid (Ext w w17) := Ext.trans_ (by (repeat (first | exact HB7.out | (refine Ext.drew_ ?_) | (refine Ext.drewN_ ?_ _)))) hq; have HX17 : Hid (OMem w17 w2.heap.size bx 72 M Sx) := OM.ext HX7.out (Ext.trans_ (by (repeat (first | exact Ext.refl _ | (refine Ext.drew_ ?_) | (refine Ext.drewN_ ?_ _)))) hq); clear hq)
    | (go_at_call 16; refine (memBack_walk bx 0 M Sx _ (HX17.out.mem HOK.out) HF.out).mono ?_; rintro e w8 ⟨B8, b8, S8, rfl, hq1, hq2, hq3⟩; have H8 := Lib.hid (hq1.mem HOK.out); have HB8 : Hid (Ext w w8) := Ext.trans_ HB17.out hq3; clear hq1 hq2 hq3)
    | (go_at_call 15; refine (sameMemory_yes b8 0 b o M S8 S _ H8.out (HM.out.ext HB8.out)).mono ?_; rintro e w9 ⟨rfl, hq⟩; have HB9 : Hid (Ext w w9) := Ext.trans_ HB8.out hq; clear hq))
  go_ret
  exact ⟨rfl, HB9.out⟩
set_option maxRecDepth 100000 in
set_option maxHeartbeats 8000000 in
theorem memAllocs_full1 (b o : Nat) (M : Mem) (S : Sls) (hn : Near M) (w : World) (hM : RMem w b o M S) (E : Nat → Addr) (h : ErrEnv E w) (kind : Int) (fa : Option Addr) (fc : Nat) (fs : List Int) (hR : RSl w fa (wcells fs)) (hfc : fs.length ≤ fc) (hfn : fa = none → fc = 0) (hfb : ∀ x ∈ fs, 0 ≤ x ∧ x ≤ 18446744073709551615) (hl : fs.length ≤ 200) (hc : chk M = 0) (hk1 : ¬ kind < 0) (hk2 : ¬ 255 < kind) (hr : rawB kind = true) (hfull : M.half < M.top + 1 + (fs.length : Int)) :
    Calls Tryd.prog 7 #[.pointer (some ⟨b, o, none⟩), .int .i64 kind, .slice fa fs.length fc] w fun e w' => e = .returned (.bool true) ∧ Ext w w' := by
  obtain ⟨i0, hi, hz0, hz1, hz2⟩ := info_parts infoF0
  obtain ⟨hs, -⟩ := good_parts (chk_zero hc).1
  have s3 := hs.t1
  have s4 := hs.t2
  have s2 := hs.h2
  have e1 : IntKind.i64.wrap (M.top + 1) = M.top + 1 := IntWalk.i64_in _ (by omega)
  have e2 : IntKind.i64.wrap (M.top + 1 + (fs.length : Int)) = M.top + 1 + (fs.length : Int) := IntWalk.i64_in _ (by omega)
  have HCK := Lib.hid hc
  have HGD := Lib.hid (chk_zero hc).1
  have HC0 : Hid ((6 : Int) ≠ 0) := by unfold Hid; omega
  have HC1 : Hid ((1 : Int) ≤ 6) := by unfold Hid; omega
  have HC2 : Hid ((6 : Int) ≤ 7) := by unfold Hid; omega
  have hlz : ¬ (200 : Int) < (fs.length : Int) := by omega
  have HAC : Hid (allocC M kind fs = 6) := by unfold Hid allocC; rw [if_neg (by omega), if_neg (by omega), if_neg (by rw [hr]; simp), if_pos hfull]
  have hk7 : ¬ 7 < kind := by have := of_decide_eq_true hr; omega
  clear hc hr hs
  have HF := Lib.hid hn.few
  have HOK := Lib.hid hM.ok
  have H := Lib.hid h
  have HM := Lib.hid hM
  have HN := Lib.hid hn
  have HFR := Lib.hid hR
  have HFN := Lib.hid hfn
  have HFB := Lib.hid hfb
  have HFL : Hid (fs.length ≤ 9223372036854775807) := by unfold Hid; omega
  have hltb := hM.lt
  clear h hM hn hR hfn hfb
  go_enter Tryd.func7, Tryd.ntmps7
  go_wp2_with (first
    | (go_at_call 11; refine (fresh_any _ E H.out.g3).mono ?_; rintro e w1 ⟨rfl, hq⟩; have HB1 := Lib.hid hq; clear hq)
    | (go_at_call 12; refine (near_yes b o M S HN.out _ (HM.out.ext HB1.out)).mono ?_; rintro e w' ⟨rfl, hw9⟩; have hw9 := hw9.symm; subst hw9)
    | (go_at_call 18; refine (kCheck_any b o M S _ (HM.out.ext HB1.out)).mono ?_; rintro e w2 ⟨he, hq⟩; rw [HCK.out] at he; subst he; have HB2 : Hid (Ext w w2) := Ext.trans_ HB1.out hq; clear hq)
    | (go_at_call 13; refine (memOf_walk b o M S _ (HM.out.ext HB2.out) HF.out).mono ?_; rintro e w3 ⟨bx, Sx, rfl, hq1, hq2⟩; have HX := Lib.hid hq1; have HB3 : Hid (Ext w w3) := Ext.trans_ HB2.out hq2; clear hq1 hq2)
    | (at_builtin; refine wpList_append_src rfl _ _ 35 rfl w3.heap.size 30 i0 (.int .u64 0) 1 8 und0 hi hz0 hz1 hz2 rfl (by decide) _ 0 [] rfl (World.ownsRow_nil _ _ _ _) fa fs.length fc (wcells fs) rfl HFN.out hfc (wcells_len fs) (HFR.out.ext HB3.out) (wcells_one _) (by unfold maxLen; omega) (by omega) (Nat.le_refl _) ?_))
  intro a2 c2 w5 hown hgrow hat
  try simp only [Nat.zero_add, List.nil_append] at hown
  have hE35 : Ext w3 w5 := Below.grown (Ext.refl w3) hgrow (Nat.le_refl _) (fun g hg => by cases hg)
  have HE35 := Lib.hid hE35
  have HB5 : Hid (Ext w w5) := Ext.trans_ HB3.out hE35
  have HX5 : Hid (OMem w5 w2.heap.size bx 72 M Sx) := OM.ext HX.out hE35
  have HRO := Lib.hid (row_rsl hown).1
  have HNO := Lib.hid (not_ownW HX.out hown)
  clear hown hgrow hat hE35
  try simp only [Nat.zero_add]
  go_wp2_with (first
    | (go_at_call 17; refine (alloc_bad w2.heap.size bx M Sx E kind a2 fs c2 _ HX5.out HOK.out (H.out.ext HB5.out).g4 HFL.out HRO.out HFB.out HNO.out 6 HAC.out HC0.out).mono ?_; rintro e w6 ⟨rfl, hq⟩; have HB6 : Hid (Ext w w6) := Ext.trans_ HB5.out hq; have HX6 : Hid (OMem w6 w2.heap.size bx 72 M Sx) := OM.ext HX5.out hq; clear hq))
  have n0 := (HM.out.ext HB6.out).half
  have n5 := (HM.out.ext HB6.out).top
  go_quiet (fail)
  go_wp2_with (first
    | (go_at_call 30; refine (coded_c (H.out.ext (by (repeat (first | exact HB6.out | (refine Ext.drew_ ?_) | (refine Ext.drewN_ ?_ _))))) 6 HC1.out HC2.out).mono ?_; rintro e w7 ⟨rfl, hq⟩; have HB7 : Hid (Ext w w7) := Ext.trans_ (by (repeat (first | exact HB6.out | (refine Ext.drew_ ?_) | (refine Ext.drewN_ ?_ _)))) hq; have HX7 : Hid (OMem w7 w2.heap.size bx 72 M Sx) := OM.ext HX6.out (Ext.trans_ (by (repeat (first | exact Ext.refl _ | (refine Ext.drew_ ?_) | (refine Ext.drewN_ ?_ _)))) hq); clear hq)
    | (go_at_call 16; refine (memBack_walk bx 0 M Sx _ (HX7.out.mem HOK.out) HF.out).mono ?_; rintro e w8 ⟨B8, b8, S8, rfl, hq1, hq2, hq3⟩; have H8 := Lib.hid (hq1.mem HOK.out); have HB8 : Hid (Ext w w8) := Ext.trans_ HB7.out hq3; clear hq1 hq2 hq3)
    | (go_at_call 15; refine (sameMemory_yes b8 0 b o M S8 S _ H8.out (HM.out.ext HB8.out)).mono ?_; rintro e w9 ⟨rfl, hq⟩; have HB9 : Hid (Ext w w9) := Ext.trans_ HB8.out hq; clear hq))
  go_ret
  exact ⟨rfl, HB9.out⟩
set_option maxRecDepth 100000 in
set_option maxHeartbeats 8000000 in
theorem memAllocs_full2 (b o : Nat) (M : Mem) (S : Sls) (hn : Near M) (w : World) (hM : RMem w b o M S) (E : Nat → Addr) (h : ErrEnv E w) (kind : Int) (fa : Option Addr) (fc : Nat) (fs : List Int) (hR : RSl w fa (wcells fs)) (hfc : fs.length ≤ fc) (hfn : fa = none → fc = 0) (hfb : ∀ x ∈ fs, 0 ≤ x ∧ x ≤ 18446744073709551615) (hl : fs.length ≤ 200) (hc : chk M = 0) (hk1 : ¬ kind < 0) (hk2 : ¬ 255 < kind) (hr : rawB kind = false) (hf : fieldsB (startsM M) fs = true) (hfull : M.half < M.top + 1 + (fs.length : Int)) :
    Calls Tryd.prog 7 #[.pointer (some ⟨b, o, none⟩), .int .i64 kind, .slice fa fs.length fc] w fun e w' => e = .returned (.bool true) ∧ Ext w w' := by
  obtain ⟨i0, hi, hz0, hz1, hz2⟩ := info_parts infoF0
  obtain ⟨hs, -⟩ := good_parts (chk_zero hc).1
  have s3 := hs.t1
  have s4 := hs.t2
  have s2 := hs.h2
  have e1 : IntKind.i64.wrap (M.top + 1) = M.top + 1 := IntWalk.i64_in _ (by omega)
  have e2 : IntKind.i64.wrap (M.top + 1 + (fs.length : Int)) = M.top + 1 + (fs.length : Int) := IntWalk.i64_in _ (by omega)
  have HCK := Lib.hid hc
  have HGD := Lib.hid (chk_zero hc).1
  have HC0 : Hid ((6 : Int) ≠ 0) := by unfold Hid; omega
  have HC1 : Hid ((1 : Int) ≤ 6) := by unfold Hid; omega
  have HC2 : Hid ((6 : Int) ≤ 7) := by unfold Hid; omega
  have hlz : ¬ (200 : Int) < (fs.length : Int) := by omega
  have HAC : Hid (allocC M kind fs = 6) := by unfold Hid allocC; rw [if_neg (by omega), if_neg (by omega), if_neg (by rw [hf]; simp), if_pos hfull]
  have HFO := Lib.hid hf
  have hk7 : 7 < kind := by have := of_decide_eq_false hr; omega
  clear hc hr hs hf
  have HF := Lib.hid hn.few
  have HOK := Lib.hid hM.ok
  have H := Lib.hid h
  have HM := Lib.hid hM
  have HN := Lib.hid hn
  have HFR := Lib.hid hR
  have HFN := Lib.hid hfn
  have HFB := Lib.hid hfb
  have HFL : Hid (fs.length ≤ 9223372036854775807) := by unfold Hid; omega
  have hltb := hM.lt
  clear h hM hn hR hfn hfb
  go_enter Tryd.func7, Tryd.ntmps7
  go_wp2_with (first
    | (go_at_call 11; refine (fresh_any _ E H.out.g3).mono ?_; rintro e w1 ⟨rfl, hq⟩; have HB1 := Lib.hid hq; clear hq)
    | (go_at_call 12; refine (near_yes b o M S HN.out _ (HM.out.ext HB1.out)).mono ?_; rintro e w' ⟨rfl, hw9⟩; have hw9 := hw9.symm; subst hw9)
    | (go_at_call 18; refine (kCheck_any b o M S _ (HM.out.ext HB1.out)).mono ?_; rintro e w2 ⟨he, hq⟩; rw [HCK.out] at he; subst he; have HB2 : Hid (Ext w w2) := Ext.trans_ HB1.out hq; clear hq)
    | (go_at_call 13; refine (memOf_walk b o M S _ (HM.out.ext HB2.out) HF.out).mono ?_; rintro e w3 ⟨bx, Sx, rfl, hq1, hq2⟩; have HX := Lib.hid hq1; have HB3 : Hid (Ext w w3) := Ext.trans_ HB2.out hq2; clear hq1 hq2)
    | (at_builtin; refine wpList_append_src rfl _ _ 35 rfl w3.heap.size 30 i0 (.int .u64 0) 1 8 und0 hi hz0 hz1 hz2 rfl (by decide) _ 0 [] rfl (World.ownsRow_nil _ _ _ _) fa fs.length fc (wcells fs) rfl HFN.out hfc (wcells_len fs) (HFR.out.ext HB3.out) (wcells_one _) (by unfold maxLen; omega) (by omega) (Nat.le_refl _) ?_))
  intro a2 c2 w5 hown hgrow hat
  try simp only [Nat.zero_add, List.nil_append] at hown
  have hE35 : Ext w3 w5 := Below.grown (Ext.refl w3) hgrow (Nat.le_refl _) (fun g hg => by cases hg)
  have HE35 := Lib.hid hE35
  have HB5 : Hid (Ext w w5) := Ext.trans_ HB3.out hE35
  have HX5 : Hid (OMem w5 w2.heap.size bx 72 M Sx) := OM.ext HX.out hE35
  have HRO := Lib.hid (row_rsl hown).1
  have HNO := Lib.hid (not_ownW HX.out hown)
  clear hown hgrow hat hE35
  try simp only [Nat.zero_add]
  go_wp2_with (first
    | (go_at_call 17; refine (alloc_bad w2.heap.size bx M Sx E kind a2 fs c2 _ HX5.out HOK.out (H.out.ext HB5.out).g4 HFL.out HRO.out HFB.out HNO.out 6 HAC.out HC0.out).mono ?_; rintro e w6 ⟨rfl, hq⟩; have HB6 : Hid (Ext w w6) := Ext.trans_ HB5.out hq; have HX6 : Hid (OMem w6 w2.heap.size bx 72 M Sx) := OM.ext HX5.out hq; clear hq)
    | (go_at_call 29; refine (kFieldsOK_any b o M S HGD.out fa fc fs HFL.out HFB.out _ (HM.out.ext HB6.out) (HFR.out.ext HB6.out)).mono ?_; rintro e w7 ⟨he, hq⟩; rw [HFO.out] at he; subst he; have HB7 : Hid (Ext w w7) := Ext.trans_ HB6.out hq; have HX7 : Hid (OMem w7 w2.heap.size bx 72 M Sx) := OM.ext HX6.out hq; clear hq))
  have n0 := (HM.out.ext HB7.out).half
  have n5 := (HM.out.ext HB7.out).top
  go_quiet (fail)
  go_wp2_with (first
    | (go_at_call 30; refine (coded_c (H.out.ext (by (repeat (first | exact HB7.out | (refine Ext.drew_ ?_) | (refine Ext.drewN_ ?_ _))))) 6 HC1.out HC2.out).mono ?_; rintro e w17 ⟨rfl, hq⟩; have HB17 : Hid (Ext w w17) := Ext.trans_ (by (repeat (first | exact HB7.out | (refine Ext.drew_ ?_) | (refine Ext.drewN_ ?_ _)))) hq; have HX17 : Hid (OMem w17 w2.heap.size bx 72 M Sx) := OM.ext HX7.out (Ext.trans_ (by (repeat (first | exact Ext.refl _ | (refine Ext.drew_ ?_) | (refine Ext.drewN_ ?_ _)))) hq); clear hq)
    | (go_at_call 16; refine (memBack_walk bx 0 M Sx _ (HX17.out.mem HOK.out) HF.out).mono ?_; rintro e w8 ⟨B8, b8, S8, rfl, hq1, hq2, hq3⟩; have H8 := Lib.hid (hq1.mem HOK.out); have HB8 : Hid (Ext w w8) := Ext.trans_ HB17.out hq3; clear hq1 hq2 hq3)
    | (go_at_call 15; refine (sameMemory_yes b8 0 b o M S8 S _ H8.out (HM.out.ext HB8.out)).mono ?_; rintro e w9 ⟨rfl, hq⟩; have HB9 : Hid (Ext w w9) := Ext.trans_ HB8.out hq; clear hq))
  go_ret
  exact ⟨rfl, HB9.out⟩
end Go.Proofs.YtecbbbaafcoliaaDoor
/- The law MemAllocs: its walk where an object is given; whatever it is given. -/
namespace Go.Proofs.YtecbbbaafcoliaaDoor
open Go.RowKit
set_option linter.unusedVariables false
set_option linter.unusedSimpArgs false

theorem splice_take (L : List Int) (off : Nat) (fs : List Int) (k : Nat) (hk : k < fs.length) (ho : off + fs.length ≤ L.length) : splice L off (fs.take (k + 1)) = (splice L off (fs.take k)).set (off + k) (fs.getD k 0) := by
  unfold splice
  apply List.ext_getElem?
  intro i
  have e1 : (fs.take (k + 1)).length = k + 1 := by simp; omega
  have e2 : (fs.take k).length = k := by simp; omega
  have e3 : (L.take off).length = off := by simp; omega
  rw [List.getElem?_set]
  simp only [List.getElem?_append, e1, e2, e3, List.length_append, List.length_drop]
  by_cases h1 : i < off
  · rw [if_pos h1, if_pos h1, if_neg (by omega)]
  · rw [if_neg h1]
    by_cases h2 : i = off + k
    · subst h2
      rw [if_pos (by omega), if_pos rfl, if_pos (by omega), List.getElem?_take, if_pos (by omega)]
      rw [List.getD_eq_getElem?_getD, show off + k - off = k by omega, List.getElem?_eq_getElem hk]
      rfl
    · rw [if_neg (show ¬ off + k = i by omega), if_neg h1]
      by_cases h3 : i - off < k
      · rw [if_pos (by omega), if_pos h3, List.getElem?_take, List.getElem?_take, if_pos (by omega), if_pos h3]
      · rw [if_neg (by omega), if_neg h3, List.getElem?_drop, List.getElem?_drop]
        congr 1
        omega
theorem splice_zero (L : List Int) (off : Nat) (fs : List Int) : splice L off (fs.take 0) = L := by simp [splice]
def partM (M : Mem) (kind : Int) (fs : List Int) (k : Nat) : Mem := { M with W := splice (M.W.set (M.base + M.top.toNat) (headW kind 0 0 fs.length)) (M.base + M.top.toNat + 1) (fs.take k) }
theorem partM_len (M : Mem) (kind : Int) (fs : List Int) (k : Nat) (h : M.base + M.top.toNat + 1 + fs.length ≤ M.W.length) : (partM M kind fs k).W.length = M.W.length := by
  unfold partM
  simp only
  rw [length_splice _ _ _ (by simp; omega)]; simp
theorem partM_next (M : Mem) (kind : Int) (fs : List Int) (k : Nat) (hk : k < fs.length) (h : M.base + M.top.toNat + 1 + fs.length ≤ M.W.length) :
    partM M kind fs (k + 1) = { partM M kind fs k with W := (partM M kind fs k).W.set (M.base + M.top.toNat + 1 + k) (fs.getD k 0) } := by
  unfold partM
  simp only
  rw [splice_take _ _ _ _ hk (by simp; omega)]
theorem named_calls {P : Program} {f : FuncId} {a : Array Value} {Q : Ending → World → Prop} {W : World} (h : ∀ W9, W9 = W → Calls P f a W9 Q) : Calls P f a W Q := h W rfl
theorem partM_step {W : World} {B bw : Nat} {tI : TypeId} {M : Mem} {kind : Int} {fs : List Int} {k p at_ : Nat} {v : Int} {Sw : Sls} (hp : p = at_ + 1 + k) (hv : v = fs.getD k 0) (hat : at_ = M.base + M.top.toNat) (hk : k < fs.length)
    (hfit : at_ + 1 + fs.length ≤ M.W.length) (h : OMem W B bw tI { partM M kind fs k with W := (partM M kind fs k).W.set p v } Sw) : OMem W B bw tI (partM M kind fs (k + 1)) Sw := by
  rw [partM_next M kind fs k hk (by omega), ← hat, ← hp, ← hv]
  exact h
theorem allocs_x {w wr : World} {B bx bw : Nat} {tI : TypeId} {M : Mem} {S : Sls} {v : Value} (h : OMem w B bx tI M S) (hE : Ext w wr) (hb : w.heap.size ≤ bw) : OMem (wr.setCell ⟨bw, 5, none⟩ v) B bx tI M S := OM.ext h (Ext.set_ hE hb _)
theorem allocs_w {wr : World} {B bw at_ : Nat} {tI : TypeId} {M : Mem} {kind : Int} {fs : List Int} {Sw : Sls} (h : OMem wr B bw tI (partM M kind fs fs.length) Sw) (hat : at_ = M.base + M.top.toNat) :
    OMem (wr.setCell ⟨bw, 5, none⟩ (.int .i64 (M.top + 1 + (fs.length : Int)))) B bw tI (allocM M kind fs) Sw := by
  have := OMem.setTop h (M.top + 1 + (fs.length : Int))
  unfold partM at this
  rw [List.take_length] at this
  exact this
theorem splice_mem {L : List Int} {off : Nat} {cs : List Int} {x : Int} (h : x ∈ splice L off cs) : x ∈ L ∨ x ∈ cs := by
  unfold splice at h
  rcases List.mem_append.1 h with h | h
  · exact Or.inl (List.mem_of_mem_take h)
  · rcases List.mem_append.1 h with h | h
    · exact Or.inr h
    · exact Or.inl (List.mem_of_mem_drop h)
theorem allocM_ok {M : Mem} (h : M.Ok) {kind : Int} {fs : List Int} (hfb : ∀ x ∈ fs, 0 ≤ x ∧ x ≤ 18446744073709551615) (hk0 : 0 ≤ kind) (hk1 : kind ≤ 255) (hl : fs.length ≤ 200) (ht : -9223372036854775808 ≤ M.top + 1 + (fs.length : Int) ∧ M.top + 1 + (fs.length : Int) ≤ 9223372036854775807)
    (hfit : M.base + M.top.toNat + 1 + fs.length ≤ M.W.length) : (allocM M kind fs).Ok :=
  ⟨h.half, h.old, h.card, h.used, ht, h.oldTop, fun x hx => by
    rcases splice_mem hx with q | q
    · rcases List.mem_or_eq_of_mem_set q with q | q
      · exact h.W x q
      · subst q; exact headW_in kind 0 0 (fs.length : Int) ⟨hk0, hk1⟩ (by omega) (by omega) ⟨by omega, by omega⟩
    · exact hfb x q, h.roots, h.weak, h.ids, by unfold allocM; simp only; rw [length_splice _ _ _ (by simp; omega)]; simp; exact h.lenW, h.lenR, h.lenK, h.lenI, h.lenC⟩
theorem allocM_few {M : Mem} (h : Few M) {kind : Int} {fs : List Int} (hfit : M.base + M.top.toNat + 1 + fs.length ≤ M.W.length) : Few (allocM M kind fs) :=
  ⟨by unfold allocM; simp only; rw [length_splice _ _ _ (by simp; omega)]; simp; exact h.W, h.R, h.K, h.I, h.C⟩
set_option maxRecDepth 100000 in
set_option maxHeartbeats 8000000 in
theorem memAllocs_yes (b o : Nat) (M : Mem) (S : Sls) (hn : Near M) (w : World) (hM : RMem w b o M S) (E : Nat → Addr) (h : ErrEnv E w) (kind : Int) (fa : Option Addr) (fc : Nat) (fs : List Int) (hR : RSl w fa (wcells fs)) (hfc : fs.length ≤ fc) (hfn : fa = none → fc = 0) (hfb : ∀ x ∈ fs, 0 ≤ x ∧ x ≤ 18446744073709551615) (hl : fs.length ≤ 200) (hc : chk M = 0) (hk1 : ¬ kind < 0) (hk2 : ¬ 255 < kind) (hf : rawB kind = true ∨ fieldsB (startsM M) fs = true) (hfull : ¬ M.half < M.top + 1 + (fs.length : Int)) :
    Calls Tryd.prog 7 #[.pointer (some ⟨b, o, none⟩), .int .i64 kind, .slice fa fs.length fc] w fun e w' => e = .returned (.bool true) ∧ Ext w w' := by
  obtain ⟨i0, hi, hz0, hz1, hz2⟩ := info_parts infoF0
  obtain ⟨hs, -⟩ := good_parts (chk_zero hc).1
  have s3 := hs.t1
  have s4 := hs.t2
  have s2 := hs.h2
  have s1 := hs.h1
  have s7 := hs.o1
  have s9 := hs.w
  obtain ⟨hb, b0, b1⟩ := hs.base
  have hwl := len_small hs
  have e1 : IntKind.i64.wrap (M.top + 1) = M.top + 1 := IntWalk.i64_in _ (by omega)
  have e2 : IntKind.i64.wrap (M.top + 1 + (fs.length : Int)) = M.top + 1 + (fs.length : Int) := IntWalk.i64_in _ (by omega)
  obtain ⟨at_, hat⟩ : ∃ a : Nat, a = M.base + M.top.toNat := ⟨_, rfl⟩
  have hfit : at_ + 1 + fs.length ≤ M.W.length := by omega
  have e5 : IntKind.i64.wrap (M.used * M.half) = M.used * M.half := IntWalk.i64_in _ (by omega)
  have e6 : IntKind.i64.wrap (M.used * M.half + M.top) = (at_ : Int) := by rw [IntWalk.i64_in _ (by omega)]; omega
  have E5 := Lib.hid e5
  have E6 := Lib.hid e6
  have HAN : Hid (((M.base + M.top.toNat : Nat) : Int) = (at_ : Int)) := by unfold Hid; rw [hat]
  have HAT := Lib.hid hat
  have HFITN := Lib.hid hfit
  have HCK := Lib.hid hc
  have HC := Lib.hid hc
  have HGD := Lib.hid (chk_zero hc).1
  have HK1 := Lib.hid hk1
  have HK2 := Lib.hid hk2
  have HK3 : Hid (¬ (4096 : Int) < (fs.length : Int)) := by unfold Hid; omega
  have HFD := Lib.hid hf
  have HFU := Lib.hid hfull
  have hlz : ¬ (200 : Int) < (fs.length : Int) := by omega
  have HFO : Hid (rawB kind = false → fieldsB (startsM M) fs = true) := fun h => by rcases hf with g | g; (rw [h] at g; cases g); exact g
  clear hs hb hat e5 e6 hc hf s9
  have HF := Lib.hid hn.few
  have HOK := Lib.hid hM.ok
  have HU := Lib.hid hM.used
  have H := Lib.hid h
  have HM := Lib.hid hM
  have HN := Lib.hid hn
  have HFR := Lib.hid hR
  have HFN := Lib.hid hfn
  have HFB := Lib.hid hfb
  have HFL : Hid (fs.length ≤ 9223372036854775807) := by unfold Hid; omega
  have hltb := hM.lt
  clear h hM hn hR hfn hfb
  have w3r := HM.out.rW
  cases hr : rawB kind with
  | true =>
    have hk7 : ¬ 7 < kind := by have := of_decide_eq_true hr; omega
    have HRW := Lib.hid hr
    clear hr w3r
    go_enter Tryd.func7, Tryd.ntmps7
    go_wp2_with (first
      | (go_at_call 11; refine (fresh_any _ E H.out.g3).mono ?_; rintro e w1 ⟨rfl, hq⟩; have HB1 := Lib.hid hq; clear hq)
      | (go_at_call 12; refine (near_yes b o M S HN.out _ (HM.out.ext HB1.out)).mono ?_; rintro e w' ⟨rfl, hw9⟩; have hw9 := hw9.symm; subst hw9)
      | (go_at_call 18; refine (kCheck_any b o M S _ (HM.out.ext HB1.out)).mono ?_; rintro e w2 ⟨he, hq⟩; rw [HCK.out] at he; subst he; have HB2 : Hid (Ext w w2) := Ext.trans_ HB1.out hq; clear hq)
      | (go_at_call 13; refine (memOf_walk b o M S _ (HM.out.ext HB2.out) HF.out).mono ?_; rintro e w3 ⟨bx, Sx, rfl, hq1, hq2⟩; have HX := Lib.hid hq1; have HB3 : Hid (Ext w w3) := Ext.trans_ HB2.out hq2; clear hq1 hq2)
      | (at_builtin; refine wpList_append_src rfl _ _ 35 rfl w3.heap.size 30 i0 (.int .u64 0) 1 8 und0 hi hz0 hz1 hz2 rfl (by decide) _ 0 [] rfl (World.ownsRow_nil _ _ _ _) fa fs.length fc (wcells fs) rfl HFN.out hfc (wcells_len fs) (HFR.out.ext HB3.out) (wcells_one _) (by unfold maxLen; omega) (by omega) (Nat.le_refl _) ?_))
    intro a2 c2 w5 hown hgrow hat
    try simp only [Nat.zero_add, List.nil_append] at hown
    have hE35 : Ext w3 w5 := Below.grown (Ext.refl w3) hgrow (Nat.le_refl _) (fun g hg => by cases hg)
    have HE35 := Lib.hid hE35
    have HB5 : Hid (Ext w w5) := Ext.trans_ HB3.out hE35
    have HX5 : Hid (OMem w5 w2.heap.size bx 72 M Sx) := OM.ext HX.out hE35
    have HRO := Lib.hid (row_rsl hown).1
    have HNO := Lib.hid (not_ownW HX.out hown)
    clear hown hgrow hat hE35
    try simp only [Nat.zero_add]
    go_wp2_with fail
    refine (alloc_yes w2.heap.size bx M Sx E kind a2 fs c2 _ HX5.out HOK.out (H.out.ext HB5.out).g4 HC.out (by have := HK1.out; omega) (by have := HK2.out; omega) (by have := HK3.out; omega) HFD.out HRO.out HFB.out HNO.out (by have := HFU.out; omega)).mono ?_
    rintro e w6 ⟨he, hq1, hq2⟩
    rw [HAN.out] at he
    subst he
    have HX6 := Lib.hid hq1
    have HB6 : Hid (Ext w w6) := Below.trans HB5.out (Below.mono (Keep.belowO hq2 HX5.out HX5.out.hbs) HB2.out.size)
    clear hq1 hq2
    go_wp2_with fail
    have HB7 : Hid (Ext w w6) := HB6
    have HX7 := HX6
    have n0 := (HM.out.ext HB7.out).half
    have n5 := (HM.out.ext HB7.out).top
    go_quiet (fail)
    clear n0 n5
    go_wp2_with fail
    refine named_calls (fun W7 hW7 => ?_)
    have hB7 : Ext w W7 := by rw [hW7]; repeat (first | exact HB7.out | (refine Ext.drew_ ?_) | (refine Ext.drewN_ ?_ _))
    have hX7 : OMem W7 w2.heap.size bx 72 (allocM M kind fs) Sx := by rw [hW7]; exact OM.ext HX7.out (by (repeat (first | exact Ext.refl _ | (refine Ext.drew_ ?_) | (refine Ext.drewN_ ?_ _))))
    have HBW := Lib.hid hB7
    have HXW := Lib.hid hX7
    clear hW7 hB7 hX7
    refine (own_walk b o M S W7 (HM.out.ext HBW.out) HF.out).mono ?_
    rintro e w8 ⟨bw, Sw, rfl, hq1, hq2⟩
    have HWO := Lib.hid hq1
    have HB8 : Hid (Ext w w8) := Ext.trans_ HBW.out hq2
    have HE78 : Hid (Ext W7 w8) := hq2
    clear hq1 hq2
    go_wp2_with fail
    have n0 := (HM.out.ext HB8.out).half
    have n5 := (HM.out.ext HB8.out).top
    have n4 := (HM.out.ext HB8.out).used
    have e5 := E5.out
    have e6 := E6.out
    go_quiet (fail)
    clear e5 e6 n0 n5 n4
    go_wp2
    refine named_world' (fun W9 hW9 => ?_)
    have hE89 : Ext w8 W9 := by rw [hW9]; repeat (first | exact Ext.refl _ | (refine Ext.drew_ ?_) | (refine Ext.drewN_ ?_ _))
    have HE89 := Lib.hid hE89
    have hWO9 : OMem W9 W7.heap.size bw 71 M Sw := OM.ext HWO.out hE89
    have hlen0 : at_ < M.W.length := by omega
    obtain ⟨g, hg, hgB, hgl, hgf, hgc, -⟩ := own_block hWO9.fW (by omega)
    have c3 := (hWO9.mem HOK.out).W
    simp only [Nat.zero_add] at c3
    rw [hg] at c3
    have hcell : W9.cell? ⟨g, at_, none⟩ = some (.int .u64 (M.W.getD at_ 0)) := by
      have := (hWO9.mem HOK.out).rW
      rw [hg] at this
      simpa using this.at_ (wcells_at M.W at_ hlen0)
    have hfg := hgf at_
    have hgb := hWO9.notW hg
    have hatz : (at_ : Int) < (M.W.length : Int) := by omega
    have HG := Lib.hid hg
    have HWO9 := Lib.hid hWO9
    have kk0 : 0 ≤ kind := by have := HK1.out; omega
    have kk1 : kind ≤ 255 := by have := HK2.out; omega
    clear hW9 hE89 hWO9 hgf hg
    refine wp_region_held_drew (S := fun W => W.cell? ⟨bw, 3, none⟩ = some (.slice (some ⟨g, 0, none⟩) M.W.length Sw.W.2)) (by kernel_rfl) ?_ (fun hHeld => ?_)
    · exact c3
    refine wpAnyH_take (i := 0) (oi := ⟨some 118, _, _, _, _, _⟩) (v := ?_) rfl (by kernel_rfl) (by kernel_rfl) (by kernel_rfl) (fun _ _ _ h => h) (Or.inl ⟨by rfl, ?_⟩) (by assumption) ?_
    rotate_left
    · (intro w hSw; (try dsimp only at hSw); go_simp; try with_reducible rfl)
    try simp only [Act.put, List.setIfInBounds_toArray, List.set_cons_zero, List.set_cons_succ]
    refine wpAnyH_take (i := 1) (oi := ⟨some 119, _, _, _, _, _⟩) (v := ?_) rfl (by kernel_rfl) (by kernel_rfl) (by kernel_rfl) (fun _ _ _ h => h) (Or.inl ⟨by rfl, ?_⟩) (by assumption) ?_
    rotate_left
    · (intro w hSw; (try dsimp only at hSw); go_simp; try with_reducible rfl)
    try simp only [Act.put, List.setIfInBounds_toArray, List.set_cons_zero, List.set_cons_succ]
    refine wpAnyH_take (i := 2) (oi := ⟨some 120, _, _, _, _, _⟩) (v := ?_) rfl (by kernel_rfl) (by kernel_rfl) (by kernel_rfl) (fun _ _ _ h => h) (Or.inl ⟨by rfl, ?_⟩) (by assumption) ?_
    rotate_left
    · (intro w hSw; (try dsimp only at hSw); go_simp; try with_reducible rfl)
    try simp only [Act.put, List.setIfInBounds_toArray, List.set_cons_zero, List.set_cons_succ]
    refine wpAnyH_take (i := 3) (oi := ⟨some 121, _, _, _, _, _⟩) (v := ?_) rfl (by kernel_rfl) (by kernel_rfl) (by kernel_rfl) (fun _ _ _ h => h) (Or.inl ⟨by rfl, ?_⟩) (by assumption) ?_
    rotate_left
    · (intro w hSw; (try dsimp only at hSw); go_simp; try with_reducible rfl)
    try simp only [Act.put, List.setIfInBounds_toArray, List.set_cons_zero, List.set_cons_succ]
    refine wpAnyH_take (i := 4) (oi := ⟨some 122, _, _, _, _, _⟩) (v := ?_) rfl (by kernel_rfl) (by kernel_rfl) (by kernel_rfl) (fun _ _ _ h => h) (Or.inl ⟨by rfl, ?_⟩) (by assumption) ?_
    rotate_left
    · (intro w hSw; (try dsimp only at hSw); go_simp; try with_reducible rfl)
    try simp only [Act.put, List.setIfInBounds_toArray, List.set_cons_zero, List.set_cons_succ]
    refine wpAnyH_take (i := 5) (oi := ⟨some 123, _, _, _, _, _⟩) (v := ?_) rfl (by kernel_rfl) (by kernel_rfl) (by kernel_rfl) (fun _ _ _ h => h) (Or.inl ⟨by rfl, ?_⟩) (by assumption) ?_
    rotate_left
    · (intro w hSw; (try dsimp only at hSw); go_simp; try with_reducible rfl)
    try simp only [Act.put, List.setIfInBounds_toArray, List.set_cons_zero, List.set_cons_succ]
    refine wpAnyH_take (i := 6) (oi := ⟨some 124, _, _, _, _, _⟩) (v := ?_) rfl (by kernel_rfl) (by kernel_rfl) (by kernel_rfl) (fun _ _ _ h => h) (Or.inl ⟨by rfl, ?_⟩) (by assumption) ?_
    rotate_left
    · (intro w hSw; (try dsimp only at hSw); go_simp; try with_reducible rfl)
    try simp only [Act.put, List.setIfInBounds_toArray, List.set_cons_zero, List.set_cons_succ]
    refine wpAnyH_take (i := 7) (oi := ⟨some 125, _, _, _, _, _⟩) (v := ?_) rfl (by kernel_rfl) (by kernel_rfl) (by kernel_rfl) (fun _ _ _ h => h) (Or.inl ⟨by rfl, ?_⟩) (by assumption) ?_
    rotate_left
    · (intro w hSw; (try dsimp only at hSw); go_simp; try with_reducible rfl)
    try simp only [Act.put, List.setIfInBounds_toArray, List.set_cons_zero, List.set_cons_succ]
    refine wpAnyH_ready (rs := [8]) (by kernel_rfl) (by simp) ?_
    refine AllReadyH.cons (o := ⟨some 126, _, _, _, _, _⟩) rfl (fun K hK => ?_) AllReadyH.nil
    go_simp
    refine (kHeadWord_any kind 0 0 (fs.length : Int) ⟨kk0, kk1⟩ (by omega) (by omega) ⟨by omega, by omega⟩ _).mono ?_
    rintro e w' ⟨rfl, hw9⟩
    have hw9 := hw9.symm
    subst hw9
    refine hK.out _ _ ?_ (fun hHeld => ?_)
    · (try dsimp only); exact c3
    clear hK K
    try simp only [Act.put, List.setIfInBounds_toArray, List.set_cons_zero, List.set_cons_succ]
    refine wpAnyH_take (i := 9) (oi := ⟨some 127, _, _, _, _, _⟩) (v := ?_) rfl (by kernel_rfl) (by kernel_rfl) (by kernel_rfl) (fun _ _ _ h => h) (Or.inl ⟨by rfl, ?_⟩) (by assumption) ?_
    rotate_left
    · (intro w hSw; (try dsimp only at hSw); go_simp; try with_reducible rfl)
    try simp only [Act.put, List.setIfInBounds_toArray, List.set_cons_zero, List.set_cons_succ]
    refine wpAnyH_ready (rs := [10]) (by kernel_rfl) (by simp) ?_
    refine AllReadyH.cons (o := ⟨none, _, _, _, _, _⟩) rfl (fun K hK => ?_) AllReadyH.nil
    go_simp
    skip
    refine hK.out _ _ ?_ (fun hHeld => ?_)
    · (try dsimp only); show (W9.setCell ⟨g, at_, none⟩ (Value.int .u64 (headW kind 0 0 (fs.length : Int)))).cell? ⟨bw, 3, none⟩ = _; rw [World.cell?_setCell_far _ _ _ _ (by simp; omega)]; exact c3
    clear hK K
    try simp only [Act.put, List.setIfInBounds_toArray, List.set_cons_zero, List.set_cons_succ]
    refine wpAnyH_done (by kernel_rfl) ?_ _
    clear hHeld
    generalize hWA : (W9.setCell ⟨g, at_, none⟩ (Value.int .u64 (headW kind 0 0 (fs.length : Int)))).drew = WA
    have hWB : Below W7.heap.size w8 WA := by rw [← hWA]; exact Below.drew (Below.setCell (p := ⟨g, at_, none⟩) (Below.mono HE89.out HWO.out.hbs) hgB _)
    have hOA : OMem WA W7.heap.size bw 71 (partM M kind fs 0) Sw := by
      rw [← hWA]
      have := OM.ext (OMem.setW HWO9.out HG.out at_ hlen0 (headW kind 0 0 (fs.length : Int))) (Ext.refl _).drew_
      unfold partM
      rw [splice_zero, ← HAT.out]
      exact this
    have HOA := Lib.hid hOA
    have HEA : Hid (Ext W7 WA) := Below.trans HE78.out hWB
    clear hWA hWB hOA hcell hfg c3
    go_wp2
    go_loopw [15] (fun i wr => ∃ k : Nat, k ≤ fs.length ∧ i = .int .i64 (k : Int) ∧ Hid (OMem wr W7.heap.size bw 71 (partM M kind fs k) Sw) ∧ Hid (Ext W7 wr)) (fun i _ => fs.length - (intOf i).toNat)
    case atStart => exact ⟨0, Nat.zero_le _, rfl, HOA.out, HEA.out⟩
    case round =>
      obtain ⟨k, hk, rfl, hO, hE⟩ := hrel
      by_cases hlt : k < fs.length
      · have HPL := Lib.hid (partM_len M kind fs k (by have h1 := HAT.out; have h2 := HFITN.out; omega))
        have hltz : (k : Int) < (fs.length : Int) := by omega
        obtain ⟨g, hg, hgB, hgl, hgf, hgc, -⟩ := own_block hO.out.fW (by rw [HPL.out]; omega)
        have c3 : wr.cell? ⟨bw, 3, none⟩ = some (.slice Sw.W.1 M.W.length Sw.W.2) := by
          have := (hO.out.fld ⟨3, 30, 1, Sw.W.1, (partM M kind fs k).W.length, Sw.W.2, wcells (partM M kind fs k).W⟩ (by simp [memFlds])).1
          simp only [Fld.val, HPL.out] at this
          exact this
        rw [hg] at c3
        obtain ⟨p, hp⟩ : ∃ p : Nat, p = at_ + 1 + k := ⟨_, rfl⟩
        have hpl : p < M.W.length := by omega
        have hpz : (p : Int) < (M.W.length : Int) := by omega
        have hcell : wr.cell? ⟨g, p, none⟩ = some (.int .u64 ((partM M kind fs k).W.getD p 0)) := by
          have := (row_rsl hO.out.fW).1
          rw [hg] at this
          simpa using this.at_ (wcells_at (partM M kind fs k).W p (by rw [HPL.out]; exact hpl))
        have hfg := hgf p
        have hgb := hO.out.notW hg
        have hwr : Ext w wr := Ext.trans_ HBW.out hE.out
        obtain ⟨fb, fo, hfa, hfcell⟩ := HFR.out k _ (wcells_at fs k hlt)
        replace hfcell := hwr.cell_ hfcell
        have hfbz : fb < wr.heap.size := cell_lt hfcell
        have HV : Hid (∃ v, v = fs.getD k 0) := ⟨_, rfl⟩
        obtain ⟨v, hv⟩ := HV.out
        rw [← hv] at hfcell
        have HVE := Lib.hid hv
        have HPE := Lib.hid hp
        have HG := Lib.hid hg
        have HWR := Lib.hid hwr
        have HLT := Lib.hid hlt
        have e7 : IntKind.i64.wrap ((at_ : Int) + 1) = (at_ : Int) + 1 := IntWalk.i64_in _ (by omega)
        have e8 : IntKind.i64.wrap ((at_ : Int) + 1 + (k : Int)) = (p : Int) := by rw [IntWalk.i64_in _ (by omega)]; omega
        subst hfa
        clear hp hv hg hgf hwr HV
        go_wp2
        go_region
        clear e7 e8
        go_wp2
        go_roundw
        case rel => exact ⟨k + 1, by omega, by go_num, partM_step HPE.out HVE.out HAT.out HLT.out HFITN.out (OM.ext (OMem.setW hO.out HG.out p (by rw [HPL.out]; exact hpl) v) (by (repeat (first | exact Ext.refl _ | (refine Ext.drew_ ?_) | (refine Ext.drewN_ ?_ _))))), Below.drew (Below.setCell (p := ⟨g, p, none⟩) hE.out (Nat.le_trans (Nat.le_refl _) hgB) _)⟩
        case measure => simp [intOf]; omega
      · have hltz : ¬ (k : Int) < (fs.length : Int) := by omega
        obtain rfl : k = fs.length := by omega
        have hwr : Ext w wr := Ext.trans_ HBW.out hE.out
        have n5 := (HM.out.ext hwr).top
        have q5 : wr.cell? ⟨bw, 5, none⟩ = some (.int .i64 M.top) := hO.out.num (5, M.top) (by simp [memNums, partM])
        have f5 := hO.out.frozen 5
        have l5 := OM.lt hO.out
        have lb5 : b < wr.heap.size := by have := hwr.size; omega
        have HWR := Lib.hid hwr
        clear hwr hlt
        have HOKA : Hid (allocM M kind fs).Ok := (allocM_ok HOK.out HFB.out (by have := HK1.out; omega) (by have := HK2.out; omega) hl ⟨by omega, by omega⟩ (by have h1 := HAT.out; have h2 := HFITN.out; omega))
        have HFEW : Hid (Few (allocM M kind fs)) := allocM_few HF.out (by have h1 := HAT.out; have h2 := HFITN.out; omega)
        have HXF : Hid (OMem (wr.setCell ⟨bw, 5, none⟩ (.int .i64 (M.top + 1 + (fs.length : Int)))) w2.heap.size bx 72 (allocM M kind fs) Sx) := allocs_x HXW.out hE.out hO.out.hb
        have HWF : Hid (OMem (wr.setCell ⟨bw, 5, none⟩ (.int .i64 (M.top + 1 + (fs.length : Int)))) W7.heap.size bw 71 (allocM M kind fs) Sw) := allocs_w hO.out HAT.out
        have HEF : Hid (Ext w (wr.setCell ⟨bw, 5, none⟩ (.int .i64 (M.top + 1 + (fs.length : Int))))) := Ext.set_ HWR.out (by have := hO.out.hb; have := HBW.out.size; simp; omega) _
        go_wp2_with (go_at_call 21; refine (kAddrWord_any _ _).mono ?_; rintro e w' ⟨rfl, hw9⟩; have hw9 := hw9.symm; subst hw9)
        refine (memBack_walk bx 0 (allocM M kind fs) Sx _ (HXF.out.mem HOKA.out) HFEW.out).mono ?_
        rintro e w10 ⟨B10, b10, S10, rfl, hq1, hq2, hq3⟩
        have HQ := Lib.hid hq1
        have HE10 := Lib.hid hq3
        clear hq1 hq2 hq3
        go_wp2_with fail
        refine (sameMemory_yes b10 0 bw 0 (allocM M kind fs) S10 Sw _ (HQ.out.mem HOKA.out) (OMem.mem (OM.ext HWF.out HE10.out) HOKA.out)).mono ?_
        rintro e w11 ⟨rfl, hq⟩
        have HE11 : Hid (Ext w w11) := Ext.trans_ (Ext.trans_ HEF.out HE10.out) hq
        clear hq
        go_wp2
        go_ret
        exact ⟨rfl, HE11.out⟩
  | false =>
    have hk7 : 7 < kind := by have := of_decide_eq_false hr; omega
    have HFO := Lib.hid (HFO.out hr)
    have HRW := Lib.hid hr
    clear hr w3r
    go_enter Tryd.func7, Tryd.ntmps7
    go_wp2_with (first
      | (go_at_call 11; refine (fresh_any _ E H.out.g3).mono ?_; rintro e w1 ⟨rfl, hq⟩; have HB1 := Lib.hid hq; clear hq)
      | (go_at_call 12; refine (near_yes b o M S HN.out _ (HM.out.ext HB1.out)).mono ?_; rintro e w' ⟨rfl, hw9⟩; have hw9 := hw9.symm; subst hw9)
      | (go_at_call 18; refine (kCheck_any b o M S _ (HM.out.ext HB1.out)).mono ?_; rintro e w2 ⟨he, hq⟩; rw [HCK.out] at he; subst he; have HB2 : Hid (Ext w w2) := Ext.trans_ HB1.out hq; clear hq)
      | (go_at_call 13; refine (memOf_walk b o M S _ (HM.out.ext HB2.out) HF.out).mono ?_; rintro e w3 ⟨bx, Sx, rfl, hq1, hq2⟩; have HX := Lib.hid hq1; have HB3 : Hid (Ext w w3) := Ext.trans_ HB2.out hq2; clear hq1 hq2)
      | (at_builtin; refine wpList_append_src rfl _ _ 35 rfl w3.heap.size 30 i0 (.int .u64 0) 1 8 und0 hi hz0 hz1 hz2 rfl (by decide) _ 0 [] rfl (World.ownsRow_nil _ _ _ _) fa fs.length fc (wcells fs) rfl HFN.out hfc (wcells_len fs) (HFR.out.ext HB3.out) (wcells_one _) (by unfold maxLen; omega) (by omega) (Nat.le_refl _) ?_))
    intro a2 c2 w5 hown hgrow hat
    try simp only [Nat.zero_add, List.nil_append] at hown
    have hE35 : Ext w3 w5 := Below.grown (Ext.refl w3) hgrow (Nat.le_refl _) (fun g hg => by cases hg)
    have HE35 := Lib.hid hE35
    have HB5 : Hid (Ext w w5) := Ext.trans_ HB3.out hE35
    have HX5 : Hid (OMem w5 w2.heap.size bx 72 M Sx) := OM.ext HX.out hE35
    have HRO := Lib.hid (row_rsl hown).1
    have HNO := Lib.hid (not_ownW HX.out hown)
    clear hown hgrow hat hE35
    try simp only [Nat.zero_add]
    go_wp2_with fail
    refine (alloc_yes w2.heap.size bx M Sx E kind a2 fs c2 _ HX5.out HOK.out (H.out.ext HB5.out).g4 HC.out (by have := HK1.out; omega) (by have := HK2.out; omega) (by have := HK3.out; omega) HFD.out HRO.out HFB.out HNO.out (by have := HFU.out; omega)).mono ?_
    rintro e w6 ⟨he, hq1, hq2⟩
    rw [HAN.out] at he
    subst he
    have HX6 := Lib.hid hq1
    have HB6 : Hid (Ext w w6) := Below.trans HB5.out (Below.mono (Keep.belowO hq2 HX5.out HX5.out.hbs) HB2.out.size)
    clear hq1 hq2
    go_wp2_with fail
    go_wp2_with (go_at_call 29; refine (kFieldsOK_any b o M S HGD.out fa fc fs HFL.out HFB.out _ (HM.out.ext HB6.out) (HFR.out.ext HB6.out)).mono ?_; rintro e w7 ⟨he, hq⟩; rw [HFO.out] at he; subst he; have HB7 : Hid (Ext w w7) := Ext.trans_ HB6.out hq; have HX7 : Hid (OMem w7 w2.heap.size bx 72 (allocM M kind fs) Sx) := OM.ext HX6.out hq; clear hq)
    have n0 := (HM.out.ext HB7.out).half
    have n5 := (HM.out.ext HB7.out).top
    go_quiet (fail)
    clear n0 n5
    go_wp2_with fail
    refine named_calls (fun W7 hW7 => ?_)
    have hB7 : Ext w W7 := by rw [hW7]; repeat (first | exact HB7.out | (refine Ext.drew_ ?_) | (refine Ext.drewN_ ?_ _))
    have hX7 : OMem W7 w2.heap.size bx 72 (allocM M kind fs) Sx := by rw [hW7]; exact OM.ext HX7.out (by (repeat (first | exact Ext.refl _ | (refine Ext.drew_ ?_) | (refine Ext.drewN_ ?_ _))))
    have HBW := Lib.hid hB7
    have HXW := Lib.hid hX7
    clear hW7 hB7 hX7
    refine (own_walk b o M S W7 (HM.out.ext HBW.out) HF.out).mono ?_
    rintro e w8 ⟨bw, Sw, rfl, hq1, hq2⟩
    have HWO := Lib.hid hq1
    have HB8 : Hid (Ext w w8) := Ext.trans_ HBW.out hq2
    have HE78 : Hid (Ext W7 w8) := hq2
    clear hq1 hq2
    go_wp2_with fail
    have n0 := (HM.out.ext HB8.out).half
    have n5 := (HM.out.ext HB8.out).top
    have n4 := (HM.out.ext HB8.out).used
    have e5 := E5.out
    have e6 := E6.out
    go_quiet (fail)
    clear e5 e6 n0 n5 n4
    go_wp2
    refine named_world' (fun W9 hW9 => ?_)
    have hE89 : Ext w8 W9 := by rw [hW9]; repeat (first | exact Ext.refl _ | (refine Ext.drew_ ?_) | (refine Ext.drewN_ ?_ _))
    have HE89 := Lib.hid hE89
    have hWO9 : OMem W9 W7.heap.size bw 71 M Sw := OM.ext HWO.out hE89
    have hlen0 : at_ < M.W.length := by omega
    obtain ⟨g, hg, hgB, hgl, hgf, hgc, -⟩ := own_block hWO9.fW (by omega)
    have c3 := (hWO9.mem HOK.out).W
    simp only [Nat.zero_add] at c3
    rw [hg] at c3
    have hcell : W9.cell? ⟨g, at_, none⟩ = some (.int .u64 (M.W.getD at_ 0)) := by
      have := (hWO9.mem HOK.out).rW
      rw [hg] at this
      simpa using this.at_ (wcells_at M.W at_ hlen0)
    have hfg := hgf at_
    have hgb := hWO9.notW hg
    have hatz : (at_ : Int) < (M.W.length : Int) := by omega
    have HG := Lib.hid hg
    have HWO9 := Lib.hid hWO9
    have kk0 : 0 ≤ kind := by have := HK1.out; omega
    have kk1 : kind ≤ 255 := by have := HK2.out; omega
    clear hW9 hE89 hWO9 hgf hg
    refine wp_region_held_drew (S := fun W => W.cell? ⟨bw, 3, none⟩ = some (.slice (some ⟨g, 0, none⟩) M.W.length Sw.W.2)) (by kernel_rfl) ?_ (fun hHeld => ?_)
    · exact c3
    refine wpAnyH_take (i := 0) (oi := ⟨some 118, _, _, _, _, _⟩) (v := ?_) rfl (by kernel_rfl) (by kernel_rfl) (by kernel_rfl) (fun _ _ _ h => h) (Or.inl ⟨by rfl, ?_⟩) (by assumption) ?_
    rotate_left
    · (intro w hSw; (try dsimp only at hSw); go_simp; try with_reducible rfl)
    try simp only [Act.put, List.setIfInBounds_toArray, List.set_cons_zero, List.set_cons_succ]
    refine wpAnyH_take (i := 1) (oi := ⟨some 119, _, _, _, _, _⟩) (v := ?_) rfl (by kernel_rfl) (by kernel_rfl) (by kernel_rfl) (fun _ _ _ h => h) (Or.inl ⟨by rfl, ?_⟩) (by assumption) ?_
    rotate_left
    · (intro w hSw; (try dsimp only at hSw); go_simp; try with_reducible rfl)
    try simp only [Act.put, List.setIfInBounds_toArray, List.set_cons_zero, List.set_cons_succ]
    refine wpAnyH_take (i := 2) (oi := ⟨some 120, _, _, _, _, _⟩) (v := ?_) rfl (by kernel_rfl) (by kernel_rfl) (by kernel_rfl) (fun _ _ _ h => h) (Or.inl ⟨by rfl, ?_⟩) (by assumption) ?_
    rotate_left
    · (intro w hSw; (try dsimp only at hSw); go_simp; try with_reducible rfl)
    try simp only [Act.put, List.setIfInBounds_toArray, List.set_cons_zero, List.set_cons_succ]
    refine wpAnyH_take (i := 3) (oi := ⟨some 121, _, _, _, _, _⟩) (v := ?_) rfl (by kernel_rfl) (by kernel_rfl) (by kernel_rfl) (fun _ _ _ h => h) (Or.inl ⟨by rfl, ?_⟩) (by assumption) ?_
    rotate_left
    · (intro w hSw; (try dsimp only at hSw); go_simp; try with_reducible rfl)
    try simp only [Act.put, List.setIfInBounds_toArray, List.set_cons_zero, List.set_cons_succ]
    refine wpAnyH_take (i := 4) (oi := ⟨some 122, _, _, _, _, _⟩) (v := ?_) rfl (by kernel_rfl) (by kernel_rfl) (by kernel_rfl) (fun _ _ _ h => h) (Or.inl ⟨by rfl, ?_⟩) (by assumption) ?_
    rotate_left
    · (intro w hSw; (try dsimp only at hSw); go_simp; try with_reducible rfl)
    try simp only [Act.put, List.setIfInBounds_toArray, List.set_cons_zero, List.set_cons_succ]
    refine wpAnyH_take (i := 5) (oi := ⟨some 123, _, _, _, _, _⟩) (v := ?_) rfl (by kernel_rfl) (by kernel_rfl) (by kernel_rfl) (fun _ _ _ h => h) (Or.inl ⟨by rfl, ?_⟩) (by assumption) ?_
    rotate_left
    · (intro w hSw; (try dsimp only at hSw); go_simp; try with_reducible rfl)
    try simp only [Act.put, List.setIfInBounds_toArray, List.set_cons_zero, List.set_cons_succ]
    refine wpAnyH_take (i := 6) (oi := ⟨some 124, _, _, _, _, _⟩) (v := ?_) rfl (by kernel_rfl) (by kernel_rfl) (by kernel_rfl) (fun _ _ _ h => h) (Or.inl ⟨by rfl, ?_⟩) (by assumption) ?_
    rotate_left
    · (intro w hSw; (try dsimp only at hSw); go_simp; try with_reducible rfl)
    try simp only [Act.put, List.setIfInBounds_toArray, List.set_cons_zero, List.set_cons_succ]
    refine wpAnyH_take (i := 7) (oi := ⟨some 125, _, _, _, _, _⟩) (v := ?_) rfl (by kernel_rfl) (by kernel_rfl) (by kernel_rfl) (fun _ _ _ h => h) (Or.inl ⟨by rfl, ?_⟩) (by assumption) ?_
    rotate_left
    · (intro w hSw; (try dsimp only at hSw); go_simp; try with_reducible rfl)
    try simp only [Act.put, List.setIfInBounds_toArray, List.set_cons_zero, List.set_cons_succ]
    refine wpAnyH_ready (rs := [8]) (by kernel_rfl) (by simp) ?_
    refine AllReadyH.cons (o := ⟨some 126, _, _, _, _, _⟩) rfl (fun K hK => ?_) AllReadyH.nil
    go_simp
    refine (kHeadWord_any kind 0 0 (fs.length : Int) ⟨kk0, kk1⟩ (by omega) (by omega) ⟨by omega, by omega⟩ _).mono ?_
    rintro e w' ⟨rfl, hw9⟩
    have hw9 := hw9.symm
    subst hw9
    refine hK.out _ _ ?_ (fun hHeld => ?_)
    · (try dsimp only); exact c3
    clear hK K
    try simp only [Act.put, List.setIfInBounds_toArray, List.set_cons_zero, List.set_cons_succ]
    refine wpAnyH_take (i := 9) (oi := ⟨some 127, _, _, _, _, _⟩) (v := ?_) rfl (by kernel_rfl) (by kernel_rfl) (by kernel_rfl) (fun _ _ _ h => h) (Or.inl ⟨by rfl, ?_⟩) (by assumption) ?_
    rotate_left
    · (intro w hSw; (try dsimp only at hSw); go_simp; try with_reducible rfl)
    try simp only [Act.put, List.setIfInBounds_toArray, List.set_cons_zero, List.set_cons_succ]
    refine wpAnyH_ready (rs := [10]) (by kernel_rfl) (by simp) ?_
    refine AllReadyH.cons (o := ⟨none, _, _, _, _, _⟩) rfl (fun K hK => ?_) AllReadyH.nil
    go_simp
    skip
    refine hK.out _ _ ?_ (fun hHeld => ?_)
    · (try dsimp only); show (W9.setCell ⟨g, at_, none⟩ (Value.int .u64 (headW kind 0 0 (fs.length : Int)))).cell? ⟨bw, 3, none⟩ = _; rw [World.cell?_setCell_far _ _ _ _ (by simp; omega)]; exact c3
    clear hK K
    try simp only [Act.put, List.setIfInBounds_toArray, List.set_cons_zero, List.set_cons_succ]
    refine wpAnyH_done (by kernel_rfl) ?_ _
    clear hHeld
    generalize hWA : (W9.setCell ⟨g, at_, none⟩ (Value.int .u64 (headW kind 0 0 (fs.length : Int)))).drew = WA
    have hWB : Below W7.heap.size w8 WA := by rw [← hWA]; exact Below.drew (Below.setCell (p := ⟨g, at_, none⟩) (Below.mono HE89.out HWO.out.hbs) hgB _)
    have hOA : OMem WA W7.heap.size bw 71 (partM M kind fs 0) Sw := by
      rw [← hWA]
      have := OM.ext (OMem.setW HWO9.out HG.out at_ hlen0 (headW kind 0 0 (fs.length : Int))) (Ext.refl _).drew_
      unfold partM
      rw [splice_zero, ← HAT.out]
      exact this
    have HOA := Lib.hid hOA
    have HEA : Hid (Ext W7 WA) := Below.trans HE78.out hWB
    clear hWA hWB hOA hcell hfg c3
    go_wp2
    go_loopw [15] (fun i wr => ∃ k : Nat, k ≤ fs.length ∧ i = .int .i64 (k : Int) ∧ Hid (OMem wr W7.heap.size bw 71 (partM M kind fs k) Sw) ∧ Hid (Ext W7 wr)) (fun i _ => fs.length - (intOf i).toNat)
    case atStart => exact ⟨0, Nat.zero_le _, rfl, HOA.out, HEA.out⟩
    case round =>
      obtain ⟨k, hk, rfl, hO, hE⟩ := hrel
      by_cases hlt : k < fs.length
      · have HPL := Lib.hid (partM_len M kind fs k (by have h1 := HAT.out; have h2 := HFITN.out; omega))
        have hltz : (k : Int) < (fs.length : Int) := by omega
        obtain ⟨g, hg, hgB, hgl, hgf, hgc, -⟩ := own_block hO.out.fW (by rw [HPL.out]; omega)
        have c3 : wr.cell? ⟨bw, 3, none⟩ = some (.slice Sw.W.1 M.W.length Sw.W.2) := by
          have := (hO.out.fld ⟨3, 30, 1, Sw.W.1, (partM M kind fs k).W.length, Sw.W.2, wcells (partM M kind fs k).W⟩ (by simp [memFlds])).1
          simp only [Fld.val, HPL.out] at this
          exact this
        rw [hg] at c3
        obtain ⟨p, hp⟩ : ∃ p : Nat, p = at_ + 1 + k := ⟨_, rfl⟩
        have hpl : p < M.W.length := by omega
        have hpz : (p : Int) < (M.W.length : Int) := by omega
        have hcell : wr.cell? ⟨g, p, none⟩ = some (.int .u64 ((partM M kind fs k).W.getD p 0)) := by
          have := (row_rsl hO.out.fW).1
          rw [hg] at this
          simpa using this.at_ (wcells_at (partM M kind fs k).W p (by rw [HPL.out]; exact hpl))
        have hfg := hgf p
        have hgb := hO.out.notW hg
        have hwr : Ext w wr := Ext.trans_ HBW.out hE.out
        obtain ⟨fb, fo, hfa, hfcell⟩ := HFR.out k _ (wcells_at fs k hlt)
        replace hfcell := hwr.cell_ hfcell
        have hfbz : fb < wr.heap.size := cell_lt hfcell
        have HV : Hid (∃ v, v = fs.getD k 0) := ⟨_, rfl⟩
        obtain ⟨v, hv⟩ := HV.out
        rw [← hv] at hfcell
        have HVE := Lib.hid hv
        have HPE := Lib.hid hp
        have HG := Lib.hid hg
        have HWR := Lib.hid hwr
        have HLT := Lib.hid hlt
        have e7 : IntKind.i64.wrap ((at_ : Int) + 1) = (at_ : Int) + 1 := IntWalk.i64_in _ (by omega)
        have e8 : IntKind.i64.wrap ((at_ : Int) + 1 + (k : Int)) = (p : Int) := by rw [IntWalk.i64_in _ (by omega)]; omega
        subst hfa
        clear hp hv hg hgf hwr HV
        go_wp2
        go_region
        clear e7 e8
        go_wp2
        go_roundw
        case rel => exact ⟨k + 1, by omega, by go_num, partM_step HPE.out HVE.out HAT.out HLT.out HFITN.out (OM.ext (OMem.setW hO.out HG.out p (by rw [HPL.out]; exact hpl) v) (by (repeat (first | exact Ext.refl _ | (refine Ext.drew_ ?_) | (refine Ext.drewN_ ?_ _))))), Below.drew (Below.setCell (p := ⟨g, p, none⟩) hE.out (Nat.le_trans (Nat.le_refl _) hgB) _)⟩
        case measure => simp [intOf]; omega
      · have hltz : ¬ (k : Int) < (fs.length : Int) := by omega
        obtain rfl : k = fs.length := by omega
        have hwr : Ext w wr := Ext.trans_ HBW.out hE.out
        have n5 := (HM.out.ext hwr).top
        have q5 : wr.cell? ⟨bw, 5, none⟩ = some (.int .i64 M.top) := hO.out.num (5, M.top) (by simp [memNums, partM])
        have f5 := hO.out.frozen 5
        have l5 := OM.lt hO.out
        have lb5 : b < wr.heap.size := by have := hwr.size; omega
        have HWR := Lib.hid hwr
        clear hwr hlt
        have HOKA : Hid (allocM M kind fs).Ok := (allocM_ok HOK.out HFB.out (by have := HK1.out; omega) (by have := HK2.out; omega) hl ⟨by omega, by omega⟩ (by have h1 := HAT.out; have h2 := HFITN.out; omega))
        have HFEW : Hid (Few (allocM M kind fs)) := allocM_few HF.out (by have h1 := HAT.out; have h2 := HFITN.out; omega)
        have HXF : Hid (OMem (wr.setCell ⟨bw, 5, none⟩ (.int .i64 (M.top + 1 + (fs.length : Int)))) w2.heap.size bx 72 (allocM M kind fs) Sx) := allocs_x HXW.out hE.out hO.out.hb
        have HWF : Hid (OMem (wr.setCell ⟨bw, 5, none⟩ (.int .i64 (M.top + 1 + (fs.length : Int)))) W7.heap.size bw 71 (allocM M kind fs) Sw) := allocs_w hO.out HAT.out
        have HEF : Hid (Ext w (wr.setCell ⟨bw, 5, none⟩ (.int .i64 (M.top + 1 + (fs.length : Int))))) := Ext.set_ HWR.out (by have := hO.out.hb; have := HBW.out.size; simp; omega) _
        go_wp2_with (go_at_call 21; refine (kAddrWord_any _ _).mono ?_; rintro e w' ⟨rfl, hw9⟩; have hw9 := hw9.symm; subst hw9)
        refine (memBack_walk bx 0 (allocM M kind fs) Sx _ (HXF.out.mem HOKA.out) HFEW.out).mono ?_
        rintro e w10 ⟨B10, b10, S10, rfl, hq1, hq2, hq3⟩
        have HQ := Lib.hid hq1
        have HE10 := Lib.hid hq3
        clear hq1 hq2 hq3
        go_wp2_with fail
        refine (sameMemory_yes b10 0 bw 0 (allocM M kind fs) S10 Sw _ (HQ.out.mem HOKA.out) (OMem.mem (OM.ext HWF.out HE10.out) HOKA.out)).mono ?_
        rintro e w11 ⟨rfl, hq⟩
        have HE11 : Hid (Ext w w11) := Ext.trans_ (Ext.trans_ HEF.out HE10.out) hq
        clear hq
        go_wp2
        go_ret
        exact ⟨rfl, HE11.out⟩
theorem memAllocs_any (b o : Nat) (M : Mem) (S : Sls) (kind : Int) (fa : Option Addr) (fc : Nat) (fs : List Int) (w : World) (hR : RSl w fa (wcells fs)) (hfc : fs.length ≤ fc) (hfn : fa = none → fc = 0) (hfb : ∀ x ∈ fs, 0 ≤ x ∧ x ≤ 18446744073709551615) (hM : RMem w b o M S) (E : Nat → Addr) (h : ErrEnv E w) :
    Calls Tryd.prog 7 #[.pointer (some ⟨b, o, none⟩), .int .i64 kind, .slice fa fs.length fc] w fun e w' => e = .returned (.bool true) ∧ Ext w w' := by
  by_cases hn : Near M
  · by_cases hl : fs.length ≤ 200
    · by_cases hc : chk M = 0
      · by_cases hk1 : kind < 0
        · exact memAllocs_bound b o M S hn w hM E h kind fa fc fs hR hfc hfn hfb hl hc (Or.inl hk1)
        · by_cases hk2 : 255 < kind
          · exact memAllocs_bound b o M S hn w hM E h kind fa fc fs hR hfc hfn hfb hl hc (Or.inr ⟨hk1, hk2⟩)
          · cases hr : rawB kind with
            | true =>
              by_cases hfull : M.half < M.top + 1 + (fs.length : Int)
              · exact memAllocs_full1 b o M S hn w hM E h kind fa fc fs hR hfc hfn hfb hl hc hk1 hk2 hr hfull
              · exact memAllocs_yes b o M S hn w hM E h kind fa fc fs hR hfc hfn hfb hl hc hk1 hk2 (Or.inl hr) hfull
            | false =>
              cases hf : fieldsB (startsM M) fs with
              | false => exact memAllocs_shape b o M S hn w hM E h kind fa fc fs hR hfc hfn hfb hl hc hk1 hk2 hr hf
              | true =>
                by_cases hfull : M.half < M.top + 1 + (fs.length : Int)
                · exact memAllocs_full2 b o M S hn w hM E h kind fa fc fs hR hfc hfn hfb hl hc hk1 hk2 hr hf hfull
                · exact memAllocs_yes b o M S hn w hM E h kind fa fc fs hR hfc hfn hfb hl hc hk1 hk2 (Or.inr hf) hfull
      · exact memAllocs_chk b o M S hn w hM E h kind fa fc fs hR hfc hfn hfb hl (by unfold chk at hc ⊢; split <;> (try split) <;> simp_all)
    · exact memAllocs_far b o M S w hM E h kind fa fc fs (Or.inr ⟨hn, by omega⟩)
  · exact memAllocs_far b o M S w hM E h kind fa fc fs (Or.inl hn)
theorem memAllocs_nil (kind : Int) (fa : Option Addr) (fc : Nat) (fs : List Int) (w : World) (hR : RSl w fa (wcells fs)) (hfc : fs.length ≤ fc) (hfn : fa = none → fc = 0) (hfb : ∀ x ∈ fs, 0 ≤ x ∧ x ≤ 18446744073709551615) (E : Nat → Addr) (h : ErrEnv E w) :
    Calls Tryd.prog 7 #[.pointer none, .int .i64 kind, .slice fa fs.length fc] w fun e w' => e = .returned (.bool true) ∧ Ext w w' := memAllocs_nil0 w E h kind fa fc fs hR hfc hfn hfb
end Go.Proofs.YtecbbbaafcoliaaDoor
/- A memory among the arguments: what its reading tells of the world. -/
namespace Go.Proofs.YtecbbbaafcoliaaDoor
open Go.ChangeShapes Go.WideShapes Go.RowKit Go.Deep
set_option linter.unusedVariables false
set_option linter.unusedSimpArgs false

section
variable {H : Type} {enc : TypeId × Value → H} {w : World} {base : Nat} {spare : Nat → Bool} {held : Bool}

theorem rsl_of (a : Addr) (cs : List Value) (h : ∀ i v, cs[i]? = some v → w.cell? (a.add i) = some v) : RSl w (some a) cs := fun j u hu => by
  obtain ⟨b, off, spot⟩ := a
  obtain ⟨hj, _⟩ := List.getElem?_eq_some_iff.1 hu
  have h0 := h 0 (cs[0]'(by omega)) (by simp)
  have hs : spot = none := by simpa [Addr.add] using World.cell?_spot h0
  subst hs
  have hj0 := h j u hu
  refine ⟨b, off, rfl, ?_⟩
  by_cases e : j = 0
  · subst e; simpa [Addr.add] using hj0
  · simpa [Addr.add, e] using hj0
theorem read_u64s {fuel : Nat} {v : Value} {x : DataW H × List MemPlace} (h : DataW.trod enc Tryd.prog w base spare held fuel 35 [v] = some x) :
    ∃ a c l, v = .slice a l.length c ∧ RSl w a (wcells l) ∧ l.length ≤ c ∧ (a = none → c = 0) ∧ c ≤ 9223372036854775807 ∧ ∀ z ∈ l, 0 ≤ z ∧ z ≤ 18446744073709551615 := by
  rcases open_ints (e := 30) (k := .u64) (by kernel_rfl) (by kernel_rfl) (by kernel_rfl) h with ⟨hcs, _⟩ | ⟨a, len, cap, zs, hcs, _, hl, hm, hz, _, hcell, hwf⟩
  · obtain rfl := List.singleton_inj.1 hcs
    exact ⟨none, 0, [], rfl, RSl.nil _ _, Nat.le_refl _, fun _ => rfl, by omega, by simp⟩
  · obtain rfl := List.singleton_inj.1 hcs
    have hle : len ≤ zs.length := by rw [hz]; split <;> omega
    have hln : (zs.take len).length = len := by simp; omega
    refine ⟨some a, cap, zs.take len, by rw [hln], rsl_of a _ fun i v hi => ?_, by rw [hln]; exact hl, (fun e => by cases e), by unfold maxLen at hm; omega, fun z hz' => ?_⟩
    · obtain ⟨hi', hv⟩ := List.getElem?_eq_some_iff.1 hi
      simp only [wcells, List.length_map, hln] at hi'
      rw [hcell i (by omega), ← hv]
      simp [wcells, List.getD_eq_getElem?_getD, show i < zs.length by omega]
    · exact wf_u64 (hwf z (List.mem_of_mem_take hz'))
theorem read_bools {fuel : Nat} {v : Value} {x : DataW H × List MemPlace} (h : DataW.trod enc Tryd.prog w base spare held fuel 37 [v] = some x) :
    ∃ a c l, v = .slice a l.length c ∧ RSl w a (bcells l) ∧ l.length ≤ c ∧ (a = none → c = 0) ∧ c ≤ 9223372036854775807 := by
  rcases open_slice1 (e := 4) (by kernel_rfl) (by kernel_rfl) h with ⟨hcs, _⟩ | ⟨a, len, cap, m, n, V, D, Pl, hcs, _, hl, hm, hmm, _, hx⟩
  · obtain rfl := List.singleton_inj.1 hcs
    exact ⟨none, 0, [], rfl, RSl.nil _ _, Nat.le_refl _, fun _ => rfl, by omega⟩
  · obtain rfl := List.singleton_inj.1 hcs
    have hle : len ≤ m := by rw [hmm]; split <;> omega
    have hb : ∀ i, i < m → ∃ q : Bool, V i = .bool q := fun i hi => by
      obtain ⟨q, hq, _⟩ := DataW.trod_bool (by kernel_rfl) (hx i hi).2
      exact ⟨q, List.singleton_inj.1 hq⟩
    obtain ⟨B, hB⟩ := choose_lt (α := Bool) (p := fun i q => V i = .bool q) hb
    have hln : ((List.range len).map B).length = len := by simp
    refine ⟨some a, cap, (List.range len).map B, by rw [hln], rsl_of a _ fun i v hi => ?_, by rw [hln]; exact hl, (fun e => by cases e), by unfold maxLen at hm; omega⟩
    obtain ⟨hi', hv⟩ := List.getElem?_eq_some_iff.1 hi
    simp only [bcells, List.length_map, List.length_range] at hi'
    rw [(hx i (by omega)).1, hB i (by omega), ← hv]
    simp [bcells]
theorem rsl_ids (a : Addr) (l : List (Int × Int)) (h : ∀ (i : Nat) (hi : i < l.length), w.cell? (a.add (i * 2)) = some (.int .u64 l[i].1) ∧ w.cell? (a.add (i * 2 + 1)) = some (.int .i64 l[i].2)) : RSl w (some a) (icells l) :=
  rsl_of a _ fun i v hv => by
    obtain ⟨hi, _⟩ := List.getElem?_eq_some_iff.1 hv
    rw [icells_len] at hi
    obtain ⟨h1, h2⟩ := icells_at l (i / 2) (by omega)
    obtain ⟨h3, h4⟩ := h (i / 2) (by omega)
    rcases Nat.mod_two_eq_zero_or_one i with e | e
    · have e2 : i / 2 * 2 = i := by omega
      rw [e2] at h1 h3
      rw [hv] at h1; rw [h3, h1]
    · have e2 : i / 2 * 2 + 1 = i := by omega
      rw [e2] at h2 h4
      rw [hv] at h2; rw [h4, h2]
theorem read_ids {fuel : Nat} {v : Value} {x : DataW H × List MemPlace} (h : DataW.trod enc Tryd.prog w base spare held fuel 49 [v] = some x) :
    ∃ a c l, v = .slice a l.length c ∧ RSl w a (icells l) ∧ l.length ≤ c ∧ (a = none → c = 0) ∧ c ≤ 9223372036854775807 ∧ ∀ z ∈ l, (0 ≤ z.1 ∧ z.1 ≤ 18446744073709551615) ∧ (-9223372036854775808 ≤ z.2 ∧ z.2 ≤ 9223372036854775807) := by
  rcases open_slice_pairs (e := 71) (by kernel_rfl) (Tryd.underlying71) (by kernel_rfl) rfl rfl (by kernel_rfl) (by kernel_rfl) h with ⟨hcs, _⟩ | ⟨a, len, cap, m, n, V0, V1, D0, D1, P0, P1, hcs, _, hl, hm, hmm, _, hx⟩
  · obtain rfl := List.singleton_inj.1 hcs
    exact ⟨none, 0, [], rfl, RSl.nil _ _, Nat.le_refl _, fun _ => rfl, by omega, by simp⟩
  · obtain rfl := List.singleton_inj.1 hcs
    have hle : len ≤ m := by rw [hmm]; split <;> omega
    have hb : ∀ i, i < m → ∃ q : Int × Int, (V0 i = .int .u64 q.1 ∧ V1 i = .int .i64 q.2) ∧ (0 ≤ q.1 ∧ q.1 ≤ 18446744073709551615) ∧ (-9223372036854775808 ≤ q.2 ∧ q.2 ≤ 9223372036854775807) := fun i hi => by
      obtain ⟨_, _, h3, h4⟩ := hx i hi
      obtain ⟨q0, e0, _, w0⟩ := DataW.trod_int (k := .u64) (by kernel_rfl) h3
      obtain ⟨q1, e1, _, w1⟩ := DataW.trod_int (k := .i64) (by kernel_rfl) h4
      exact ⟨(q0, q1), ⟨List.singleton_inj.1 e0, List.singleton_inj.1 e1⟩, wf_u64 w0, wf_i64 w1⟩
    obtain ⟨B, hB⟩ := choose_lt (p := fun i (q : Int × Int) => (V0 i = .int .u64 q.1 ∧ V1 i = .int .i64 q.2) ∧ (0 ≤ q.1 ∧ q.1 ≤ 18446744073709551615) ∧ (-9223372036854775808 ≤ q.2 ∧ q.2 ≤ 9223372036854775807)) hb
    have hln : ((List.range len).map B).length = len := by simp
    refine ⟨some a, cap, (List.range len).map B, by rw [hln], rsl_ids a _ fun i hi => ?_, by rw [hln]; exact hl, (fun e => by cases e), by unfold maxLen at hm; omega, fun z hz => ?_⟩
    · simp only [List.length_map, List.length_range] at hi
      obtain ⟨g1, g2, _, _⟩ := hx i (by omega)
      obtain ⟨⟨g3, g4⟩, _⟩ := hB i (by omega)
      rw [g1, g2, g3, g4]
      simp
    · obtain ⟨i, hi, rfl⟩ := List.mem_map.1 hz
      exact (hB i (by have := List.mem_range.1 hi; omega)).2
/-- THE ARGUMENT: nil, or a memory that lies there. -/
theorem read_mem {fuel : Nat} {cs : List Value} {x : DataW H × List MemPlace} (h : DataW.trod enc Tryd.prog w base spare held fuel 22 cs = some x) :
    cs = [.pointer none] ∨ ∃ b o M S, cs = [.pointer (some ⟨b, o, none⟩)] ∧ RMem w b o M S := by
  rcases open_ptr_fields (tp := 22) (ts := 51) (by kernel_rfl) (Tryd.underlying51) (hone_of (by kernel_rfl)) (by kernel_rfl) (by decide) h with ⟨h0, _⟩ | ⟨b, o, n, V, Y, rfl, hb, rfl, hf⟩
  · exact Or.inl h0
  right
  obtain ⟨k0, t0⟩ := hf 0 _ rfl
  obtain ⟨k1, t1⟩ := hf 1 _ rfl
  obtain ⟨k2, t2⟩ := hf 2 _ rfl
  obtain ⟨k3, t3⟩ := hf 3 _ rfl
  obtain ⟨k4, t4⟩ := hf 4 _ rfl
  obtain ⟨k5, t5⟩ := hf 5 _ rfl
  obtain ⟨k6, t6⟩ := hf 6 _ rfl
  obtain ⟨k7, t7⟩ := hf 7 _ rfl
  obtain ⟨k8, t8⟩ := hf 8 _ rfl
  obtain ⟨k9, t9⟩ := hf 9 _ rfl
  obtain ⟨k10, t10⟩ := hf 10 _ rfl
  obtain ⟨half, e0, _, w0⟩ := DataW.trod_int (k := .i64) (by kernel_rfl) t0
  obtain ⟨old, e1, _, w1⟩ := DataW.trod_int (k := .i64) (by kernel_rfl) t1
  obtain ⟨card, e2, _, w2⟩ := DataW.trod_int (k := .i64) (by kernel_rfl) t2
  obtain ⟨a3, c3, W, e3, r3, l3, n3, m3, b3⟩ := read_u64s t3
  obtain ⟨used, e4, _, w4⟩ := DataW.trod_int (k := .i64) (by kernel_rfl) t4
  obtain ⟨top, e5, _, w5⟩ := DataW.trod_int (k := .i64) (by kernel_rfl) t5
  obtain ⟨oldTop, e6, _, w6⟩ := DataW.trod_int (k := .i64) (by kernel_rfl) t6
  obtain ⟨a7, c7, R, e7, r7, l7, n7, m7, b7⟩ := read_u64s t7
  obtain ⟨a8, c8, K, e8, r8, l8, n8, m8, b8⟩ := read_u64s t8
  obtain ⟨a9, c9, I, e9, r9, l9, n9, m9, b9⟩ := read_ids t9
  obtain ⟨a10, c10, C, e10, r10, l10, n10, m10⟩ := read_bools t10
  have e0 := List.singleton_inj.1 e0
  have e1 := List.singleton_inj.1 e1
  have e2 := List.singleton_inj.1 e2
  have e4 := List.singleton_inj.1 e4
  have e5 := List.singleton_inj.1 e5
  have e6 := List.singleton_inj.1 e6
  rw [e0] at k0; rw [e1] at k1; rw [e2] at k2; rw [e3] at k3; rw [e4] at k4; rw [e5] at k5; rw [e6] at k6; rw [e7] at k7; rw [e8] at k8; rw [e9] at k9; rw [e10] at k10
  exact ⟨b, o, ⟨half, old, card, W, used, top, oldTop, R, K, I, C⟩, ⟨(a3, c3), (a7, c7), (a8, c8), (a9, c9), (a10, c10)⟩, rfl,
    ⟨k0, k1, k2, k3, k4, k5, k6, k7, k8, k9, k10, r3, r7, r8, r9, r10, l3, l7, l8, l9, l10, n3, n7, n8, n9, n10,
      ⟨wf_i64 w0, wf_i64 w1, wf_i64 w2, wf_i64 w4, wf_i64 w5, wf_i64 w6, b3, b7, b8, b9, Nat.le_trans l3 m3, Nat.le_trans l7 m7, Nat.le_trans l8 m8, Nat.le_trans l9 m9, Nat.le_trans l10 m10⟩⟩⟩
end
end Go.Proofs.YtecbbbaafcoliaaDoor
/- What the rows' listed package-level errors give a walk: each variable's cell holds an error of its own. -/
namespace Go.Proofs.YtecbbbaafcoliaaDoor
open Go.ChangeShapes Go.WideShapes Go.ChangeAt Go.RowKit
set_option linter.unusedVariables false
set_option linter.unusedSimpArgs false

theorem own : ownKnob Tryd.prog.godebug = none := by kernel_rfl
theorem esName : Tryd.prog.typeName? 3 189 = some "*errors.errorString" := by kernel_rfl
theorem esStar : "*" ++ "errors.errorString" = "*errors.errorString" := by decide
theorem esRow (u : TypeId) (h : Tryd.prog.typeName? 3 u = some "*errors.errorString") : u = 189 :=
  typeName_ptr_named (nm := "errors.errorString") (by rw [esStar]; kernel_rfl) (by kernel_rfl) (by decide) u (by rw [esStar]; exact h)
theorem esCells : Tryd.prog.cellsOf 209 = 1 := by kernel_rfl
theorem strCells : Tryd.prog.cellsOf 9 = 1 := by kernel_rfl

/-- An error as errors.New makes it, as a datum. -/
abbrev errD (text : List UInt8) : DataW Unit := .iface "*errors.errorString" (.ptr (.agg [.lit (.string text)]))

set_option maxRecDepth 100000 in
/-- One listed error. -/
theorem one_of_laid {W : World} {n : String} {text : List UInt8} {g : Nat} (hg : Tryd.prog.globalNamed n = some g) (ht : (Tryd.prog.globals[g]?).map (·.type) = some 32)
    (h : laidMet Tryd.prog [(n, errD text)] W) : ∃ a s, W.cell? ⟨g, 0, none⟩ = some (errV a) ∧ W.cell? a = some (.string s) ∧ s.data.toList = text := by
  obtain ⟨ps, ⟨g0, t0, cs0, f0, p0, q0, hg0, ht0, hv0, hd0, _, e0⟩, hnd, hrows⟩ := h
  obtain rfl := Option.some.inj (hg.symm.trans hg0)
  obtain rfl := Option.some.inj (ht.symm.trans ht0)
  subst e0
  obtain ⟨l0⟩ := cs0
  have ok0 : ∀ u v, l0 = [.iface u v] → Value.okWide Tryd.prog W .any 0 u v := fun u v e => by
    subst e
    exact (hrows g 0 (by simp [MemPlace.row])).2 u v (by simpa using World.var?_cell hg0 hv0 0)
  obtain ⟨a0, s0, rfl, hc0, hs0, hz0, rfl⟩ := errorString_of_trod Tryd.underlying32 esRow Tryd.underlying189 Tryd.underlying209 rfl rfl Tryd.underlying9 esCells strCells hd0 ok0
  exact ⟨a0, s0, by simpa using World.var?_cell hg0 hv0 0, hc0, hs0⟩

set_option maxRecDepth 100000 in
/-- The block of a listed error. -/
theorem blk_of_laid {W : World} {n : String} {text : List UInt8} {g : Nat} (hg : Tryd.prog.globalNamed n = some g) (ht : (Tryd.prog.globals[g]?).map (·.type) = some 32)
    (h : laidMet Tryd.prog [(n, errD text)] W) {a : Addr} (ha : W.cell? ⟨g, 0, none⟩ = some (errV a)) : ∃ c t, W.heap[a.block]? = some (.cells c t (0, 0)) := by
  obtain ⟨ps, ⟨g0, t0, cs0, f0, p0, q0, hg0, ht0, hv0, hd0, _, e0⟩, hnd, hrows⟩ := h
  obtain rfl := Option.some.inj (hg.symm.trans hg0)
  obtain rfl := Option.some.inj (ht.symm.trans ht0)
  subst e0
  obtain ⟨l0⟩ := cs0
  have ok0 : ∀ u v, l0 = [.iface u v] → Value.okWide Tryd.prog W .any 0 u v := fun u v e => by
    subst e
    exact (hrows g 0 (by simp [MemPlace.row])).2 u v (by simpa using World.var?_cell hg0 hv0 0)
  obtain ⟨a0, s0, rfl, hc0, hs0, hz0, rfl⟩ := errorString_of_trod Tryd.underlying32 esRow Tryd.underlying189 Tryd.underlying209 rfl rfl Tryd.underlying9 esCells strCells hd0 ok0
  have e0 : W.cell? ⟨g, 0, none⟩ = some (errV a0) := by simpa using World.var?_cell hg0 hv0 0
  rw [e0] at ha
  have ea : a0 = a := by injection ha with ha; injection ha with _ ha; injection ha with ha; injection ha
  subst ea
  exact (hrows a0.block a0.off (by simp [MemPlace.row])).1

set_option maxRecDepth 100000 in
/-- Two listed errors are two. -/
theorem two_of_laid {W : World} {n m : String} {tn tm : List UInt8} {g k : Nat} (hg : Tryd.prog.globalNamed n = some g) (ht : (Tryd.prog.globals[g]?).map (·.type) = some 32)
    (hk : Tryd.prog.globalNamed m = some k) (hkt : (Tryd.prog.globals[k]?).map (·.type) = some 32)
    (h : laidMet Tryd.prog [(n, errD tn), (m, errD tm)] W) {a b : Addr} (ha : W.cell? ⟨g, 0, none⟩ = some (errV a)) (hb : W.cell? ⟨k, 0, none⟩ = some (errV b)) : a ≠ b := by
  obtain ⟨ps, ⟨g0, t0, cs0, f0, p0, q0, hg0, ht0, hv0, hd0, ⟨g1, t1, cs1, f1, p1, q1, hg1, ht1, hv1, hd1, hq1, e1⟩, e0⟩, hnd, hrows⟩ := h
  obtain rfl := Option.some.inj (hg.symm.trans hg0)
  obtain rfl := Option.some.inj (hk.symm.trans hg1)
  obtain rfl := Option.some.inj (ht.symm.trans ht0)
  obtain rfl := Option.some.inj (hkt.symm.trans ht1)
  have hq1' : q1 = [] := hq1
  subst hq1'
  subst e1
  subst e0
  obtain ⟨l0⟩ := cs0
  obtain ⟨l1⟩ := cs1
  have ok0 : ∀ u v, l0 = [.iface u v] → Value.okWide Tryd.prog W .any 0 u v := fun u v e => by
    subst e
    exact (hrows g 0 (by simp [MemPlace.row])).2 u v (by simpa using World.var?_cell hg0 hv0 0)
  have ok1 : ∀ u v, l1 = [.iface u v] → Value.okWide Tryd.prog W .any 0 u v := fun u v e => by
    subst e
    exact (hrows k 0 (by simp [MemPlace.row])).2 u v (by simpa using World.var?_cell hg1 hv1 0)
  obtain ⟨a0, s0, rfl, hc0, hs0, hz0, rfl⟩ := errorString_of_trod Tryd.underlying32 esRow Tryd.underlying189 Tryd.underlying209 rfl rfl Tryd.underlying9 esCells strCells hd0 ok0
  obtain ⟨a1, s1, rfl, hc1, hs1, hz1, rfl⟩ := errorString_of_trod Tryd.underlying32 esRow Tryd.underlying189 Tryd.underlying209 rfl rfl Tryd.underlying9 esCells strCells hd1 ok1
  have e0 : W.cell? ⟨g, 0, none⟩ = some (errV a0) := by simpa using World.var?_cell hg0 hv0 0
  have e1 : W.cell? ⟨k, 0, none⟩ = some (errV a1) := by simpa using World.var?_cell hg1 hv1 0
  rw [e0] at ha; rw [e1] at hb
  have ea : a0 = a := by injection ha with ha; injection ha with _ ha; injection ha with ha; injection ha
  have eb : a1 = b := by injection hb with hb; injection hb with _ hb; injection hb with hb; injection hb
  subst ea eb
  rintro rfl
  simp [MemPlace.row] at hnd

theorem gB : Tryd.prog.globalNamed "nurserypy/api.ErrBound" = some 0 := by kernel_rfl
theorem gBt : (Tryd.prog.globals[0]?).map (·.type) = some 32 := by kernel_rfl
theorem gS : Tryd.prog.globalNamed "nurserypy/api.ErrShape" = some 1 := by kernel_rfl
theorem gSt : (Tryd.prog.globals[1]?).map (·.type) = some 32 := by kernel_rfl
theorem gP : Tryd.prog.globalNamed "nurserypy/api.ErrPlace" = some 3 := by kernel_rfl
theorem gPt : (Tryd.prog.globals[3]?).map (·.type) = some 32 := by kernel_rfl
theorem gF : Tryd.prog.globalNamed "nurserypy/api.ErrFull" = some 2 := by kernel_rfl
theorem gFt : (Tryd.prog.globals[2]?).map (·.type) = some 32 := by kernel_rfl

theorem laidOut : laidOutB Tryd.prog = true := by kernel_rfl

/-- The arguments read behind the call as they did before. -/
theorem trodAll_stays {H : Type} {enc : TypeId × Value → H} {W W' : World} (hb : Ext W W') : ∀ {ts : List TypeId} {vs : List Value} {ds : List (DataW H)} {ps : List MemPlace},
    (∀ t ∈ ts, Tryd.prog.readableRec t = true ∧ t < Tryd.prog.types.size) → (∀ x ∈ ps, x.block < W.heap.size) →
    DataW.TrodAll enc Tryd.prog W 0 (fun _ => true) true ts vs ds ps → DataW.TrodAll enc Tryd.prog W' 0 (fun b => decide (b < W.heap.size)) true ts vs ds ps := by
  intro ts
  induction ts with
  | nil =>
    intro vs ds ps _ _ h
    obtain ⟨rfl, rfl, rfl⟩ := trodAll_nil h
    exact trodAll_mk0
  | cons t ts ih =>
    intro vs ds ps hr hlt h
    obtain ⟨v, vs', d, ds', p, q, rfl, rfl, rfl, h0, r0⟩ := trodAll_cons h
    have ht := hr t (by simp)
    exact trodAll_cons_mk (Below.trod laidOut ht.1 ht.2 h0 hb (fun x hx => hlt x (by simp [hx]))) (ih (fun t h => hr t (by simp [h])) (fun x hx => hlt x (by simp [hx])) r0)

/-- A law that answers true and leaves what was there. -/
theorem law_post {H : Type} {enc : TypeId × Value → H} {f : Func} {s : ChangeSpec} {W W' : World} {args : Array Value} {ds gs : List (DataW H)} {before : List MemPlace}
    (hrt : f.resultTypes = #[4]) (hsv : s.vars = []) (hW : DataW.Whole enc Tryd.prog f.params.toList s.vars false W args.toList ds gs before)
    (hfn : s.fn H (ds ++ gs) = { results := [.lit (.bool true)], args := ds }) (hr : ∀ t ∈ f.params.toList, Tryd.prog.readableRec t = true ∧ t < Tryd.prog.types.size) (hb : Ext W W') :
    s.post enc Tryd.prog f false true false false W args (.bool true) W' := by
  have hlt := fun x hx => hW.lt x hx
  obtain ⟨p, q, hA, hV, hpq, hfz, hnd⟩ := id hW
  rw [hsv] at hV
  obtain ⟨rfl, rfl⟩ := trodVars_none hV
  subst hpq
  refine ⟨ds, [], _, [], p, [], hW, ?_, ?_, ?_, ?_, fun h => by cases h⟩
  · rw [hfn, hrt]; exact trodAll_mk1 (shut_bool Tryd.underlying4 true)
  · rw [hfn]; exact trodAll_stays hb hr (fun x hx => by simpa using hlt x (by simp [hx])) hA
  · rw [hfn, hsv]; rfl
  · exact hb.frame _
end Go.Proofs.YtecbbbaafcoliaaDoor
