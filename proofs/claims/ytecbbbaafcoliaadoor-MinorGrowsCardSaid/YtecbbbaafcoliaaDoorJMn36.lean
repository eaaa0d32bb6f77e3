/- The law MemAllocs: its walk where no object is given. -/
import Derived.Test.YtecbbbaafcoliaaDoorJMn33
import Derived.Test.YtecbbbaafcoliaaDoorJMn34
import Derived.Test.YtecbbbaafcoliaaDoorJMn35
namespace Go.Proofs.YtecbbbaafcoliaaDoor
open Go.RowKit
set_option linter.unusedVariables false
set_option linter.unusedSimpArgs false

set_option maxRecDepth 100000 in
set_option maxHeartbeats 4000000 in
theorem memAllocs_nil0 (w : World) (E : Nat → Addr) (h : ErrEnv E w) (kind : Int) (fa : Option Addr) (fc : Nat) (fs : List Int) (hR : RSl w fa (wcells fs)) (hfc : fs.length ≤ fc) (hfn : fa = none → fc = 0) (hfb : ∀ x ∈ fs, 0 ≤ x ∧ x ≤ 18446744073709551615) :
    Calls Tryd.prog 7 #[.pointer none, .int .i64 kind, .slice fa fs.length fc] w fun e w' => e = .returned (.bool true) ∧ Ext w w' := by
  obtain ⟨i0, hi, hz0, hz1, hz2⟩ := info_parts infoF0
  have H := Lib.hid h
  have HFR := Lib.hid hR
  have HFN := Lib.hid hfn
  clear h hR hfn hfb
  by_cases hl : 200 < fs.length
  · have hlz : (200 : Int) < (fs.length : Int) := by omega
    go_enter Tryd.func7, Tryd.ntmps7
    go_wp2_with (first
      | (go_at_call 11; refine (fresh_any _ E H.out.g3).mono ?_; rintro e w1 ⟨rfl, hq⟩; have HB1 := Lib.hid hq; clear hq)
      | (go_at_call 12; refine (near_nil _).mono ?_; rintro e w' ⟨rfl, hw9⟩; have hw9 := hw9.symm; subst hw9))
    go_ret
    exact ⟨rfl, HB1.out⟩
  · have hlz : ¬ (200 : Int) < (fs.length : Int) := by omega
    go_enter Tryd.func7, Tryd.ntmps7
    go_wp2_with (first
      | (go_at_call 11; refine (fresh_any _ E H.out.g3).mono ?_; rintro e w1 ⟨rfl, hq⟩; have HB1 := Lib.hid hq; clear hq)
      | (go_at_call 12; refine (near_nil _).mono ?_; rintro e w' ⟨rfl, hw9⟩; have hw9 := hw9.symm; subst hw9)
      | (go_at_call 18; refine (kCheck_nil _).mono ?_; rintro e w3 ⟨rfl, hq⟩; have HB3 : Hid (Ext w w3) := Ext.trans_ HB1.out hq; clear hq)
      | (go_at_call 13; refine (memOf_nil _).mono ?_; rintro e w' ⟨rfl, hw9⟩; have hw9 := hw9.symm; subst hw9)
      | (at_builtin; refine wpList_append_src rfl _ _ 35 rfl w3.heap.size 30 i0 (.int .u64 0) 1 8 und0 hi hz0 hz1 hz2 rfl (by decide) _ 0 [] rfl (World.ownsRow_nil _ _ _ _) fa fs.length fc (wcells fs) rfl HFN.out hfc (wcells_len fs) (HFR.out.ext HB3.out) (wcells_one _) (by unfold maxLen; omega) (by omega) (Nat.le_refl _) ?_))
    intro a2 c2 w5 hown hgrow hat
    have hE35 : Ext w3 w5 := Below.grown (Ext.refl w3) hgrow (Nat.le_refl _) (fun g hg => by cases hg)
    have HB5 : Hid (Ext w w5) := Ext.trans_ HB3.out hE35
    clear hown hgrow hat hE35
    try simp only [Nat.zero_add]
    go_wp2_with (first
      | (go_at_call 17; refine (alloc_nil kind a2 _ c2 E _ (H.out.ext HB5.out).g3).mono ?_; rintro e w6 ⟨rfl, hq⟩; have HB6 : Hid (Ext w w6) := Ext.trans_ HB5.out hq; clear hq))
    go_quiet (fail)
    go_wp2_with (first
      | (go_at_call 30; refine (coded_c (H.out.ext (by (repeat (first | exact HB6.out | (refine Ext.drew_ ?_) | (refine Ext.drewN_ ?_ _))))) 3 (by decide) (by decide)).mono ?_; rintro e w7 ⟨rfl, hq⟩; have HB7 : Hid (Ext w w7) := Ext.trans_ (by (repeat (first | exact HB6.out | (refine Ext.drew_ ?_) | (refine Ext.drewN_ ?_ _)))) hq; clear hq))
    go_ret
    exact ⟨rfl, HB7.out⟩
set_option maxRecDepth 100000 in
set_option maxHeartbeats 4000000 in
theorem memAllocs_far (b o : Nat) (M : Mem) (S : Sls) (w : World) (hM : RMem w b o M S) (E : Nat → Addr) (h : ErrEnv E w) (kind : Int) (fa : Option Addr) (fc : Nat) (fs : List Int) (hf : ¬ Near M ∨ (Near M ∧ (200 : Int) < (fs.length : Int))) :
    Calls Tryd.prog 7 #[.pointer (some ⟨b, o, none⟩), .int .i64 kind, .slice fa fs.length fc] w fun e w' => e = .returned (.bool true) ∧ Ext w w' := by
  have H := Lib.hid h
  have HM := Lib.hid hM
  clear h hM
  rcases hf with hn | ⟨hn, hl⟩
  · have HN := Lib.hid hn
    clear hn
    go_enter Tryd.func7, Tryd.ntmps7
    go_wp2_with (first
      | (go_at_call 11; refine (fresh_any _ E H.out.g3).mono ?_; rintro e w1 ⟨rfl, hq⟩; have HB1 := Lib.hid hq; clear hq)
      | (go_at_call 12; refine (near_no b o M S HN.out _ (HM.out.ext HB1.out)).mono ?_; rintro e w' ⟨rfl, hw9⟩; have hw9 := hw9.symm; subst hw9))
    go_ret
    exact ⟨rfl, HB1.out⟩
  · have HN := Lib.hid hn
    clear hn
    go_enter Tryd.func7, Tryd.ntmps7
    go_wp2_with (first
      | (go_at_call 11; refine (fresh_any _ E H.out.g3).mono ?_; rintro e w1 ⟨rfl, hq⟩; have HB1 := Lib.hid hq; clear hq)
      | (go_at_call 12; refine (near_yes b o M S HN.out _ (HM.out.ext HB1.out)).mono ?_; rintro e w' ⟨rfl, hw9⟩; have hw9 := hw9.symm; subst hw9))
    go_ret
    exact ⟨rfl, HB1.out⟩
set_option maxRecDepth 100000 in
set_option maxHeartbeats 8000000 in
theorem memAllocs_chk (b o : Nat) (M : Mem) (S : Sls) (hn : Near M) (w : World) (hM : RMem w b o M S) (E : Nat → Addr) (h : ErrEnv E w) (kind : Int) (fa : Option Addr) (fc : Nat) (fs : List Int) (hR : RSl w fa (wcells fs)) (hfc : fs.length ≤ fc) (hfn : fa = none → fc = 0) (hfb : ∀ x ∈ fs, 0 ≤ x ∧ x ≤ 18446744073709551615) (hl : fs.length ≤ 200) (hc : 0 < chk M) :
    Calls Tryd.prog 7 #[.pointer (some ⟨b, o, none⟩), .int .i64 kind, .slice fa fs.length fc] w fun e w' => e = .returned (.bool true) ∧ Ext w w' := by
  obtain ⟨i0, hi, hz0, hz1, hz2⟩ := info_parts infoF0
  obtain ⟨c, hcc⟩ : ∃ c, chk M = c := ⟨_, rfl⟩
  rw [hcc] at hc
  have HCK := Lib.hid hcc
  have HAC : Hid (allocC M kind fs = c) := by unfold Hid allocC; rw [if_pos (by omega), hcc]
  have HC0 : Hid (c ≠ 0) := by unfold Hid; omega
  have HC1 : Hid (1 ≤ c) := by unfold Hid; omega
  have HC2 : Hid (c ≤ 7) := by rw [Hid, ← hcc]; unfold chk; split <;> (try split) <;> omega
  have hc0 : (c == 0) = false := by simp; omega
  have hlz : ¬ (200 : Int) < (fs.length : Int) := by omega
  clear hcc
  have HF := Lib.hid hn.few
  have HOK := Lib.hid hM.ok
  have H := Lib.hid h
  have HM := Lib.hid hM
  have HN := Lib.hid hn
  have HFR := Lib.hid hR
  have HFN := Lib.hid hfn
  have HFB := Lib.hid hfb
  have HFL : Hid (fs.length ≤ 9223372036854775807) := by unfold Hid; omega
  have hltb := hM.lt
  clear h hM hn hR hfn hfb
  go_enter Tryd.func7, Tryd.ntmps7
  go_wp2_with (first
    | (go_at_call 11; refine (fresh_any _ E H.out.g3).mono ?_; rintro e w1 ⟨rfl, hq⟩; have HB1 := Lib.hid hq; clear hq)
    | (go_at_call 12; refine (near_yes b o M S HN.out _ (HM.out.ext HB1.out)).mono ?_; rintro e w' ⟨rfl, hw9⟩; have hw9 := hw9.symm; subst hw9)
    | (go_at_call 18; refine (kCheck_any b o M S _ (HM.out.ext HB1.out)).mono ?_; rintro e w2 ⟨he, hq⟩; rw [HCK.out] at he; subst he; have HB2 : Hid (Ext w w2) := Ext.trans_ HB1.out hq; clear hq)
    | (go_at_call 13; refine (memOf_walk b o M S _ (HM.out.ext HB2.out) HF.out).mono ?_; rintro e w3 ⟨bx, Sx, rfl, hq1, hq2⟩; have HX := Lib.hid hq1; have HB3 : Hid (Ext w w3) := Ext.trans_ HB2.out hq2; clear hq1 hq2)
    | (at_builtin; refine wpList_append_src rfl _ _ 35 rfl w3.heap.size 30 i0 (.int .u64 0) 1 8 und0 hi hz0 hz1 hz2 rfl (by decide) _ 0 [] rfl (World.ownsRow_nil _ _ _ _) fa fs.length fc (wcells fs) rfl HFN.out hfc (wcells_len fs) (HFR.out.ext HB3.out) (wcells_one _) (by unfold maxLen; omega) (by omega) (Nat.le_refl _) ?_))
  intro a2 c2 w5 hown hgrow hat
  try simp only [Nat.zero_add, List.nil_append] at hown
  have hE35 : Ext w3 w5 := Below.grown (Ext.refl w3) hgrow (Nat.le_refl _) (fun g hg => by cases hg)
  have HE35 := Lib.hid hE35
  have HB5 : Hid (Ext w w5) := Ext.trans_ HB3.out hE35
  have HX5 : Hid (OMem w5 w2.heap.size bx 72 M Sx) := OM.ext HX.out hE35
  have HRO := Lib.hid (row_rsl hown).1
  have HNO := Lib.hid (not_ownW HX.out hown)
  clear hown hgrow hat hE35
  try simp only [Nat.zero_add]
  go_wp2_with (first
    | (go_at_call 17; refine (alloc_bad w2.heap.size bx M Sx E kind a2 fs c2 _ HX5.out HOK.out (H.out.ext HB5.out).g4 HFL.out HRO.out HFB.out HNO.out c HAC.out HC0.out).mono ?_; rintro e w6 ⟨rfl, hq⟩; have HB6 : Hid (Ext w w6) := Ext.trans_ HB5.out hq; have HX6 : Hid (OMem w6 w2.heap.size bx 72 M Sx) := OM.ext HX5.out hq; clear hq))
  go_quiet (fail)
  go_wp2_with (first
    | (go_at_call 30; refine (coded_c (H.out.ext (by (repeat (first | exact HB6.out | (refine Ext.drew_ ?_) | (refine Ext.drewN_ ?_ _))))) c HC1.out HC2.out).mono ?_; rintro e w7 ⟨rfl, hq⟩; have HB7 : Hid (Ext w w7) := Ext.trans_ (by (repeat (first | exact HB6.out | (refine Ext.drew_ ?_) | (refine Ext.drewN_ ?_ _)))) hq; have HX7 : Hid (OMem w7 w2.heap.size bx 72 M Sx) := OM.ext HX6.out (Ext.trans_ (by (repeat (first | exact Ext.refl _ | (refine Ext.drew_ ?_) | (refine Ext.drewN_ ?_ _)))) hq); clear hq)
    | (go_at_call 16; refine (memBack_walk bx 0 M Sx _ (HX7.out.mem HOK.out) HF.out).mono ?_; rintro e w8 ⟨B8, b8, S8, rfl, hq1, hq2, hq3⟩; have H8 := Lib.hid (hq1.mem HOK.out); have HB8 : Hid (Ext w w8) := Ext.trans_ HB7.out hq3; clear hq1 hq2 hq3)
    | (go_at_call 15; refine (sameMemory_yes b8 0 b o M S8 S _ H8.out (HM.out.ext HB8.out)).mono ?_; rintro e w9 ⟨rfl, hq⟩; have HB9 : Hid (Ext w w9) := Ext.trans_ HB8.out hq; clear hq))
  go_ret
  exact ⟨rfl, HB9.out⟩
set_option maxRecDepth 100000 in
set_option maxHeartbeats 8000000 in
theorem memAllocs_bound (b o : Nat) (M : Mem) (S : Sls) (hn : Near M) (w : World) (hM : RMem w b o M S) (E : Nat → Addr) (h : ErrEnv E w) (kind : Int) (fa : Option Addr) (fc : Nat) (fs : List Int) (hR : RSl w fa (wcells fs)) (hfc : fs.length ≤ fc) (hfn : fa = none → fc = 0) (hfb : ∀ x ∈ fs, 0 ≤ x ∧ x ≤ 18446744073709551615) (hl : fs.length ≤ 200) (hc : chk M = 0) (hk : kind < 0 ∨ (¬ kind < 0 ∧ 255 < kind)) :
    Calls Tryd.prog 7 #[.pointer (some ⟨b, o, none⟩), .int .i64 kind, .slice fa fs.length fc] w fun e w' => e = .returned (.bool true) ∧ Ext w w' := by
  obtain ⟨i0, hi, hz0, hz1, hz2⟩ := info_parts infoF0
  have HCK := Lib.hid hc
  have HAC : Hid (allocC M kind fs = 2) := by unfold Hid allocC; rw [if_neg (by omega), if_pos (by omega)]
  have HC0 : Hid ((2 : Int) ≠ 0) := by unfold Hid; omega
  have HC1 : Hid ((1 : Int) ≤ 2) := by unfold Hid; omega
  have HC2 : Hid ((2 : Int) ≤ 7) := by unfold Hid; omega
  have hlz : ¬ (200 : Int) < (fs.length : Int) := by omega
  clear hc
  have HF := Lib.hid hn.few
  have HOK := Lib.hid hM.ok
  have H := Lib.hid h
  have HM := Lib.hid hM
  have HN := Lib.hid hn
  have HFR := Lib.hid hR
  have HFN := Lib.hid hfn
  have HFB := Lib.hid hfb
  have HFL : Hid (fs.length ≤ 9223372036854775807) := by unfold Hid; omega
  have hltb := hM.lt
  clear h hM hn hR hfn hfb
  rcases hk with hk | ⟨hk1, hk2⟩
  all_goals
    go_enter Tryd.func7, Tryd.ntmps7
    go_wp2_with (first
      | (go_at_call 11; refine (fresh_any _ E H.out.g3).mono ?_; rintro e w1 ⟨rfl, hq⟩; have HB1 := Lib.hid hq; clear hq)
      | (go_at_call 12; refine (near_yes b o M S HN.out _ (HM.out.ext HB1.out)).mono ?_; rintro e w' ⟨rfl, hw9⟩; have hw9 := hw9.symm; subst hw9)
      | (go_at_call 18; refine (kCheck_any b o M S _ (HM.out.ext HB1.out)).mono ?_; rintro e w2 ⟨he, hq⟩; rw [HCK.out] at he; subst he; have HB2 : Hid (Ext w w2) := Ext.trans_ HB1.out hq; clear hq)
      | (go_at_call 13; refine (memOf_walk b o M S _ (HM.out.ext HB2.out) HF.out).mono ?_; rintro e w3 ⟨bx, Sx, rfl, hq1, hq2⟩; have HX := Lib.hid hq1; have HB3 : Hid (Ext w w3) := Ext.trans_ HB2.out hq2; clear hq1 hq2)
      | (at_builtin; refine wpList_append_src rfl _ _ 35 rfl w3.heap.size 30 i0 (.int .u64 0) 1 8 und0 hi hz0 hz1 hz2 rfl (by decide) _ 0 [] rfl (World.ownsRow_nil _ _ _ _) fa fs.length fc (wcells fs) rfl HFN.out hfc (wcells_len fs) (HFR.out.ext HB3.out) (wcells_one _) (by unfold maxLen; omega) (by omega) (Nat.le_refl _) ?_))
    intro a2 c2 w5 hown hgrow hat
    try simp only [Nat.zero_add, List.nil_append] at hown
    have hE35 : Ext w3 w5 := Below.grown (Ext.refl w3) hgrow (Nat.le_refl _) (fun g hg => by cases hg)
    have HE35 := Lib.hid hE35
    have HB5 : Hid (Ext w w5) := Ext.trans_ HB3.out hE35
    have HX5 : Hid (OMem w5 w2.heap.size bx 72 M Sx) := OM.ext HX.out hE35
    have HRO := Lib.hid (row_rsl hown).1
    have HNO := Lib.hid (not_ownW HX.out hown)
    clear hown hgrow hat hE35
    try simp only [Nat.zero_add]
    go_wp2_with (first
      | (go_at_call 17; refine (alloc_bad w2.heap.size bx M Sx E kind a2 fs c2 _ HX5.out HOK.out (H.out.ext HB5.out).g4 HFL.out HRO.out HFB.out HNO.out 2 HAC.out HC0.out).mono ?_; rintro e w6 ⟨rfl, hq⟩; have HB6 : Hid (Ext w w6) := Ext.trans_ HB5.out hq; have HX6 : Hid (OMem w6 w2.heap.size bx 72 M Sx) := OM.ext HX5.out hq; clear hq))
    go_quiet (fail)
    go_wp2_with (first
      | (go_at_call 30; refine (coded_c (H.out.ext (by (repeat (first | exact HB6.out | (refine Ext.drew_ ?_) | (refine Ext.drewN_ ?_ _))))) 2 HC1.out HC2.out).mono ?_; rintro e w7 ⟨rfl, hq⟩; have HB7 : Hid (Ext w w7) := Ext.trans_ (by (repeat (first | exact HB6.out | (refine Ext.drew_ ?_) | (refine Ext.drewN_ ?_ _)))) hq; have HX7 : Hid (OMem w7 w2.heap.size bx 72 M Sx) := OM.ext HX6.out (Ext.trans_ (by (repeat (first | exact Ext.refl _ | (refine Ext.drew_ ?_) | (refine Ext.drewN_ ?_ _)))) hq); clear hq)
      | (go_at_call 16; refine (memBack_walk bx 0 M Sx _ (HX7.out.mem HOK.out) HF.out).mono ?_; rintro e w8 ⟨B8, b8, S8, rfl, hq1, hq2, hq3⟩; have H8 := Lib.hid (hq1.mem HOK.out); have HB8 : Hid (Ext w w8) := Ext.trans_ HB7.out hq3; clear hq1 hq2 hq3)
      | (go_at_call 15; refine (sameMemory_yes b8 0 b o M S8 S _ H8.out (HM.out.ext HB8.out)).mono ?_; rintro e w9 ⟨rfl, hq⟩; have HB9 : Hid (Ext w w9) := Ext.trans_ HB8.out hq; clear hq))
    go_ret
    exact ⟨rfl, HB9.out⟩
set_option maxRecDepth 100000 in
set_option maxHeartbeats 8000000 in
theorem memAllocs_shape (b o : Nat) (M : Mem) (S : Sls) (hn : Near M) (w : World) (hM : RMem w b o M S) (E : Nat → Addr) (h : ErrEnv E w) (kind : Int) (fa : Option Addr) (fc : Nat) (fs : List Int) (hR : RSl w fa (wcells fs)) (hfc : fs.length ≤ fc) (hfn : fa = none → fc = 0) (hfb : ∀ x ∈ fs, 0 ≤ x ∧ x ≤ 18446744073709551615) (hl : fs.length ≤ 200) (hc : chk M = 0) (hk1 : ¬ kind < 0) (hk2 : ¬ 255 < kind) (hr : rawB kind = false) (hf : fieldsB (startsM M) fs = false) :
    Calls Tryd.prog 7 #[.pointer (some ⟨b, o, none⟩), .int .i64 kind, .slice fa fs.length fc] w fun e w' => e = .returned (.bool true) ∧ Ext w w' := by
  obtain ⟨i0, hi, hz0, hz1, hz2⟩ := info_parts infoF0
  have HCK := Lib.hid hc
  have HGD := Lib.hid (chk_zero hc).1
  have HFO := Lib.hid hf
  have HAC : Hid (allocC M kind fs = 3) := by unfold Hid allocC; rw [if_neg (by omega), if_neg (by omega), if_pos ⟨hr, hf⟩]
  have HC0 : Hid ((3 : Int) ≠ 0) := by unfold Hid; omega
  have HC1 : Hid ((1 : Int) ≤ 3) := by unfold Hid; omega
  have HC2 : Hid ((3 : Int) ≤ 7) := by unfold Hid; omega
  have hlz : ¬ (200 : Int) < (fs.length : Int) := by omega
  have hk7 : 7 < kind := by have := of_decide_eq_false hr; omega
  clear hc hr hf
  have HF := Lib.hid hn.few
  have HOK := Lib.hid hM.ok
  have H := Lib.hid h
  have HM := Lib.hid hM
  have HN := Lib.hid hn
  have HFR := Lib.hid hR
  have HFN := Lib.hid hfn
  have HFB := Lib.hid hfb
  have HFL : Hid (fs.length ≤ 9223372036854775807) := by unfold Hid; omega
  have hltb := hM.lt
  clear h hM hn hR hfn hfb
  go_enter Tryd.func7, Tryd.ntmps7
  go_wp2_with (first
    | (go_at_call 11; refine (fresh_any _ E H.out.g3).mono ?_; rintro e w1 ⟨rfl, hq⟩; have HB1 := Lib.hid hq; clear hq)
    | (go_at_call 12; refine (near_yes b o M S HN.out _ (HM.out.ext HB1.out)).mono ?_; rintro e w' ⟨rfl, hw9⟩; have hw9 := hw9.symm; subst hw9)
    | (go_at_call 18; refine (kCheck_any b o M S _ (HM.out.ext HB1.out)).mono ?_; rintro e w2 ⟨he, hq⟩; rw [HCK.out] at he; subst he; have HB2 : Hid (Ext w w2) := Ext.trans_ HB1.out hq; clear hq)
    | (go_at_call 13; refine (memOf_walk b o M S _ (HM.out.ext HB2.out) HF.out).mono ?_; rintro e w3 ⟨bx, Sx, rfl, hq1, hq2⟩; have HX := Lib.hid hq1; have HB3 : Hid (Ext w w3) := Ext.trans_ HB2.out hq2; clear hq1 hq2)
    | (at_builtin; refine wpList_append_src rfl _ _ 35 rfl w3.heap.size 30 i0 (.int .u64 0) 1 8 und0 hi hz0 hz1 hz2 rfl (by decide) _ 0 [] rfl (World.ownsRow_nil _ _ _ _) fa fs.length fc (wcells fs) rfl HFN.out hfc (wcells_len fs) (HFR.out.ext HB3.out) (wcells_one _) (by unfold maxLen; omega) (by omega) (Nat.le_refl _) ?_))
  intro a2 c2 w5 hown hgrow hat
  try simp only [Nat.zero_add, List.nil_append] at hown
  have hE35 : Ext w3 w5 := Below.grown (Ext.refl w3) hgrow (Nat.le_refl _) (fun g hg => by cases hg)
  have HE35 := Lib.hid hE35
  have HB5 : Hid (Ext w w5) := Ext.trans_ HB3.out hE35
  have HX5 : Hid (OMem w5 w2.heap.size bx 72 M Sx) := OM.ext HX.out hE35
  have HRO := Lib.hid (row_rsl hown).1
  have HNO := Lib.hid (not_ownW HX.out hown)
  clear hown hgrow hat hE35
  try simp only [Nat.zero_add]
  go_wp2_with (first
    | (go_at_call 17; refine (alloc_bad w2.heap.size bx M Sx E kind a2 fs c2 _ HX5.out HOK.out (H.out.ext HB5.out).g4 HFL.out HRO.out HFB.out HNO.out 3 HAC.out HC0.out).mono ?_; rintro e w6 ⟨rfl, hq⟩; have HB6 : Hid (Ext w w6) := Ext.trans_ HB5.out hq; have HX6 : Hid (OMem w6 w2.heap.size bx 72 M Sx) := OM.ext HX5.out hq; clear hq)
    | (go_at_call 29; refine (kFieldsOK_any b o M S HGD.out fa fc fs HFL.out HFB.out _ (HM.out.ext HB6.out) (HFR.out.ext HB6.out)).mono ?_; rintro e w7 ⟨he, hq⟩; rw [HFO.out] at he; subst he; have HB7 : Hid (Ext w w7) := Ext.trans_ HB6.out hq; have HX7 : Hid (OMem w7 w2.heap.size bx 72 M Sx) := OM.ext HX6.out hq; clear hq))
  go_quiet (fail)
  go_wp2_with (first
    | (go_at_call 30; refine (coded_c (H.out.ext (by (repeat (first | exact HB7.out | (refine Ext.drew_ ?_) | (refine Ext.drewN_ ?_ _))))) 3 HC1.out HC2.out).mono ?_; rintro e w17 ⟨rfl, hq⟩; have HB17 : Hid (Ext w w17) := Ext.trans_ (by (repeat (first | exact HB7.out | (refine Ext.drew_ ?_) | (refine Ext.drewN_ ?_ _)))) hq; have HX17 : Hid (OMem w17 w2.heap.size bx 72 M Sx) := OM.ext HX7.out (Ext.trans_ (by (repeat (first | exact Ext.refl _ | (refine Ext.drew_ ?_) | (refine Ext.drewN_ ?_ _)))) hq); clear hq)
    | (go_at_call 16; refine (memBack_walk bx 0 M Sx _ (HX17.out.mem HOK.out) HF.out).mono ?_; rintro e w8 ⟨B8, b8, S8, rfl, hq1, hq2, hq3⟩; have H8 := Lib.hid (hq1.mem HOK.out); have HB8 : Hid (Ext w w8) := Ext.trans_ HB17.out hq3; clear hq1 hq2 hq3)
    | (go_at_call 15; refine (sameMemory_yes b8 0 b o M S8 S _ H8.out (HM.out.ext HB8.out)).mono ?_; rintro e w9 ⟨rfl, hq⟩; have HB9 : Hid (Ext w w9) := Ext.trans_ HB8.out hq; clear hq))
  go_ret
  exact ⟨rfl, HB9.out⟩
set_option maxRecDepth 100000 in
set_option maxHeartbeats 8000000 in
theorem memAllocs_full1 (b o : Nat) (M : Mem) (S : Sls) (hn : Near M) (w : World) (hM : RMem w b o M S) (E : Nat → Addr) (h : ErrEnv E w) (kind : Int) (fa : Option Addr) (fc : Nat) (fs : List Int) (hR : RSl w fa (wcells fs)) (hfc : fs.length ≤ fc) (hfn : fa = none → fc = 0) (hfb : ∀ x ∈ fs, 0 ≤ x ∧ x ≤ 18446744073709551615) (hl : fs.length ≤ 200) (hc : chk M = 0) (hk1 : ¬ kind < 0) (hk2 : ¬ 255 < kind) (hr : rawB kind = true) (hfull : M.half < M.top + 1 + (fs.length : Int)) :
    Calls Tryd.prog 7 #[.pointer (some ⟨b, o, none⟩), .int .i64 kind, .slice fa fs.length fc] w fun e w' => e = .returned (.bool true) ∧ Ext w w' := by
  obtain ⟨i0, hi, hz0, hz1, hz2⟩ := info_parts infoF0
  obtain ⟨hs, -⟩ := good_parts (chk_zero hc).1
  have s3 := hs.t1
  have s4 := hs.t2
  have s2 := hs.h2
  have e1 : IntKind.i64.wrap (M.top + 1) = M.top + 1 := IntWalk.i64_in _ (by omega)
  have e2 : IntKind.i64.wrap (M.top + 1 + (fs.length : Int)) = M.top + 1 + (fs.length : Int) := IntWalk.i64_in _ (by omega)
  have HCK := Lib.hid hc
  have HGD := Lib.hid (chk_zero hc).1
  have HC0 : Hid ((6 : Int) ≠ 0) := by unfold Hid; omega
  have HC1 : Hid ((1 : Int) ≤ 6) := by unfold Hid; omega
  have HC2 : Hid ((6 : Int) ≤ 7) := by unfold Hid; omega
  have hlz : ¬ (200 : Int) < (fs.length : Int) := by omega
  have HAC : Hid (allocC M kind fs = 6) := by unfold Hid allocC; rw [if_neg (by omega), if_neg (by omega), if_neg (by rw [hr]; simp), if_pos hfull]
  have hk7 : ¬ 7 < kind := by have := of_decide_eq_true hr; omega
  clear hc hr hs
  have HF := Lib.hid hn.few
  have HOK := Lib.hid hM.ok
  have H := Lib.hid h
  have HM := Lib.hid hM
  have HN := Lib.hid hn
  have HFR := Lib.hid hR
  have HFN := Lib.hid hfn
  have HFB := Lib.hid hfb
  have HFL : Hid (fs.length ≤ 9223372036854775807) := by unfold Hid; omega
  have hltb := hM.lt
  clear h hM hn hR hfn hfb
  go_enter Tryd.func7, Tryd.ntmps7
  go_wp2_with (first
    | (go_at_call 11; refine (fresh_any _ E H.out.g3).mono ?_; rintro e w1 ⟨rfl, hq⟩; have HB1 := Lib.hid hq; clear hq)
    | (go_at_call 12; refine (near_yes b o M S HN.out _ (HM.out.ext HB1.out)).mono ?_; rintro e w' ⟨rfl, hw9⟩; have hw9 := hw9.symm; subst hw9)
    | (go_at_call 18; refine (kCheck_any b o M S _ (HM.out.ext HB1.out)).mono ?_; rintro e w2 ⟨he, hq⟩; rw [HCK.out] at he; subst he; have HB2 : Hid (Ext w w2) := Ext.trans_ HB1.out hq; clear hq)
    | (go_at_call 13; refine (memOf_walk b o M S _ (HM.out.ext HB2.out) HF.out).mono ?_; rintro e w3 ⟨bx, Sx, rfl, hq1, hq2⟩; have HX := Lib.hid hq1; have HB3 : Hid (Ext w w3) := Ext.trans_ HB2.out hq2; clear hq1 hq2)
    | (at_builtin; refine wpList_append_src rfl _ _ 35 rfl w3.heap.size 30 i0 (.int .u64 0) 1 8 und0 hi hz0 hz1 hz2 rfl (by decide) _ 0 [] rfl (World.ownsRow_nil _ _ _ _) fa fs.length fc (wcells fs) rfl HFN.out hfc (wcells_len fs) (HFR.out.ext HB3.out) (wcells_one _) (by unfold maxLen; omega) (by omega) (Nat.le_refl _) ?_))
  intro a2 c2 w5 hown hgrow hat
  try simp only [Nat.zero_add, List.nil_append] at hown
  have hE35 : Ext w3 w5 := Below.grown (Ext.refl w3) hgrow (Nat.le_refl _) (fun g hg => by cases hg)
  have HE35 := Lib.hid hE35
  have HB5 : Hid (Ext w w5) := Ext.trans_ HB3.out hE35
  have HX5 : Hid (OMem w5 w2.heap.size bx 72 M Sx) := OM.ext HX.out hE35
  have HRO := Lib.hid (row_rsl hown).1
  have HNO := Lib.hid (not_ownW HX.out hown)
  clear hown hgrow hat hE35
  try simp only [Nat.zero_add]
  go_wp2_with (first
    | (go_at_call 17; refine (alloc_bad w2.heap.size bx M Sx E kind a2 fs c2 _ HX5.out HOK.out (H.out.ext HB5.out).g4 HFL.out HRO.out HFB.out HNO.out 6 HAC.out HC0.out).mono ?_; rintro e w6 ⟨rfl, hq⟩; have HB6 : Hid (Ext w w6) := Ext.trans_ HB5.out hq; have HX6 : Hid (OMem w6 w2.heap.size bx 72 M Sx) := OM.ext HX5.out hq; clear hq))
  have n0 := (HM.out.ext HB6.out).half
  have n5 := (HM.out.ext HB6.out).top
  go_quiet (fail)
  go_wp2_with (first
    | (go_at_call 30; refine (coded_c (H.out.ext (by (repeat (first | exact HB6.out | (refine Ext.drew_ ?_) | (refine Ext.drewN_ ?_ _))))) 6 HC1.out HC2.out).mono ?_; rintro e w7 ⟨rfl, hq⟩; have HB7 : Hid (Ext w w7) := Ext.trans_ (by (repeat (first | exact HB6.out | (refine Ext.drew_ ?_) | (refine Ext.drewN_ ?_ _)))) hq; have HX7 : Hid (OMem w7 w2.heap.size bx 72 M Sx) := OM.ext HX6.out (Ext.trans_ (by (repeat (first | exact Ext.refl _ | (refine Ext.drew_ ?_) | (refine Ext.drewN_ ?_ _)))) hq); clear hq)
    | (go_at_call 16; refine (memBack_walk bx 0 M Sx _ (HX7.out.mem HOK.out) HF.out).mono ?_; rintro e w8 ⟨B8, b8, S8, rfl, hq1, hq2, hq3⟩; have H8 := Lib.hid (hq1.mem HOK.out); have HB8 : Hid (Ext w w8) := Ext.trans_ HB7.out hq3; clear hq1 hq2 hq3)
    | (go_at_call 15; refine (sameMemory_yes b8 0 b o M S8 S _ H8.out (HM.out.ext HB8.out)).mono ?_; rintro e w9 ⟨rfl, hq⟩; have HB9 : Hid (Ext w w9) := Ext.trans_ HB8.out hq; clear hq))
  go_ret
  exact ⟨rfl, HB9.out⟩
set_option maxRecDepth 100000 in
set_option maxHeartbeats 8000000 in
theorem memAllocs_full2 (b o : Nat) (M : Mem) (S : Sls) (hn : Near M) (w : World) (hM : RMem w b o M S) (E : Nat → Addr) (h : ErrEnv E w) (kind : Int) (fa : Option Addr) (fc : Nat) (fs : List Int) (hR : RSl w fa (wcells fs)) (hfc : fs.length ≤ fc) (hfn : fa = none → fc = 0) (hfb : ∀ x ∈ fs, 0 ≤ x ∧ x ≤ 18446744073709551615) (hl : fs.length ≤ 200) (hc : chk M = 0) (hk1 : ¬ kind < 0) (hk2 : ¬ 255 < kind) (hr : rawB kind = false) (hf : fieldsB (startsM M) fs = true) (hfull : M.half < M.top + 1 + (fs.length : Int)) :
    Calls Tryd.prog 7 #[.pointer (some ⟨b, o, none⟩), .int .i64 kind, .slice fa fs.length fc] w fun e w' => e = .returned (.bool true) ∧ Ext w w' := by
  obtain ⟨i0, hi, hz0, hz1, hz2⟩ := info_parts infoF0
  obtain ⟨hs, -⟩ := good_parts (chk_zero hc).1
  have s3 := hs.t1
  have s4 := hs.t2
  have s2 := hs.h2
  have e1 : IntKind.i64.wrap (M.top + 1) = M.top + 1 := IntWalk.i64_in _ (by omega)
  have e2 : IntKind.i64.wrap (M.top + 1 + (fs.length : Int)) = M.top + 1 + (fs.length : Int) := IntWalk.i64_in _ (by omega)
  have HCK := Lib.hid hc
  have HGD := Lib.hid (chk_zero hc).1
  have HC0 : Hid ((6 : Int) ≠ 0) := by unfold Hid; omega
  have HC1 : Hid ((1 : Int) ≤ 6) := by unfold Hid; omega
  have HC2 : Hid ((6 : Int) ≤ 7) := by unfold Hid; omega
  have hlz : ¬ (200 : Int) < (fs.length : Int) := by omega
  have HAC : Hid (allocC M kind fs = 6) := by unfold Hid allocC; rw [if_neg (by omega), if_neg (by omega), if_neg (by rw [hf]; simp), if_pos hfull]
  have HFO := Lib.hid hf
  have hk7 : 7 < kind := by have := of_decide_eq_false hr; omega
  clear hc hr hs hf
  have HF := Lib.hid hn.few
  have HOK := Lib.hid hM.ok
  have H := Lib.hid h
  have HM := Lib.hid hM
  have HN := Lib.hid hn
  have HFR := Lib.hid hR
  have HFN := Lib.hid hfn
  have HFB := Lib.hid hfb
  have HFL : Hid (fs.length ≤ 9223372036854775807) := by unfold Hid; omega
  have hltb := hM.lt
  clear h hM hn hR hfn hfb
  go_enter Tryd.func7, Tryd.ntmps7
  go_wp2_with (first
    | (go_at_call 11; refine (fresh_any _ E H.out.g3).mono ?_; rintro e w1 ⟨rfl, hq⟩; have HB1 := Lib.hid hq; clear hq)
    | (go_at_call 12; refine (near_yes b o M S HN.out _ (HM.out.ext HB1.out)).mono ?_; rintro e w' ⟨rfl, hw9⟩; have hw9 := hw9.symm; subst hw9)
    | (go_at_call 18; refine (kCheck_any b o M S _ (HM.out.ext HB1.out)).mono ?_; rintro e w2 ⟨he, hq⟩; rw [HCK.out] at he; subst he; have HB2 : Hid (Ext w w2) := Ext.trans_ HB1.out hq; clear hq)
    | (go_at_call 13; refine (memOf_walk b o M S _ (HM.out.ext HB2.out) HF.out).mono ?_; rintro e w3 ⟨bx, Sx, rfl, hq1, hq2⟩; have HX := Lib.hid hq1; have HB3 : Hid (Ext w w3) := Ext.trans_ HB2.out hq2; clear hq1 hq2)
    | (at_builtin; refine wpList_append_src rfl _ _ 35 rfl w3.heap.size 30 i0 (.int .u64 0) 1 8 und0 hi hz0 hz1 hz2 rfl (by decide) _ 0 [] rfl (World.ownsRow_nil _ _ _ _) fa fs.length fc (wcells fs) rfl HFN.out hfc (wcells_len fs) (HFR.out.ext HB3.out) (wcells_one _) (by unfold maxLen; omega) (by omega) (Nat.le_refl _) ?_))
  intro a2 c2 w5 hown hgrow hat
  try simp only [Nat.zero_add, List.nil_append] at hown
  have hE35 : Ext w3 w5 := Below.grown (Ext.refl w3) hgrow (Nat.le_refl _) (fun g hg => by cases hg)
  have HE35 := Lib.hid hE35
  have HB5 : Hid (Ext w w5) := Ext.trans_ HB3.out hE35
  have HX5 : Hid (OMem w5 w2.heap.size bx 72 M Sx) := OM.ext HX.out hE35
  have HRO := Lib.hid (row_rsl hown).1
  have HNO := Lib.hid (not_ownW HX.out hown)
  clear hown hgrow hat hE35
  try simp only [Nat.zero_add]
  go_wp2_with (first
    | (go_at_call 17; refine (alloc_bad w2.heap.size bx M Sx E kind a2 fs c2 _ HX5.out HOK.out (H.out.ext HB5.out).g4 HFL.out HRO.out HFB.out HNO.out 6 HAC.out HC0.out).mono ?_; rintro e w6 ⟨rfl, hq⟩; have HB6 : Hid (Ext w w6) := Ext.trans_ HB5.out hq; have HX6 : Hid (OMem w6 w2.heap.size bx 72 M Sx) := OM.ext HX5.out hq; clear hq)
    | (go_at_call 29; refine (kFieldsOK_any b o M S HGD.out fa fc fs HFL.out HFB.out _ (HM.out.ext HB6.out) (HFR.out.ext HB6.out)).mono ?_; rintro e w7 ⟨he, hq⟩; rw [HFO.out] at he; subst he; have HB7 : Hid (Ext w w7) := Ext.trans_ HB6.out hq; have HX7 : Hid (OMem w7 w2.heap.size bx 72 M Sx) := OM.ext HX6.out hq; clear hq))
  have n0 := (HM.out.ext HB7.out).half
  have n5 := (HM.out.ext HB7.out).top
  go_quiet (fail)
  go_wp2_with (first
    | (go_at_call 30; refine (coded_c (H.out.ext (by (repeat (first | exact HB7.out | (refine Ext.drew_ ?_) | (refine Ext.drewN_ ?_ _))))) 6 HC1.out HC2.out).mono ?_; rintro e w17 ⟨rfl, hq⟩; have HB17 : Hid (Ext w w17) := Ext.trans_ (by (repeat (first | exact HB7.out | (refine Ext.drew_ ?_) | (refine Ext.drewN_ ?_ _)))) hq; have HX17 : Hid (OMem w17 w2.heap.size bx 72 M Sx) := OM.ext HX7.out (Ext.trans_ (by (repeat (first | exact Ext.refl _ | (refine Ext.drew_ ?_) | (refine Ext.drewN_ ?_ _)))) hq); clear hq)
    | (go_at_call 16; refine (memBack_walk bx 0 M Sx _ (HX17.out.mem HOK.out) HF.out).mono ?_; rintro e w8 ⟨B8, b8, S8, rfl, hq1, hq2, hq3⟩; have H8 := Lib.hid (hq1.mem HOK.out); have HB8 : Hid (Ext w w8) := Ext.trans_ HB17.out hq3; clear hq1 hq2 hq3)
    | (go_at_call 15; refine (sameMemory_yes b8 0 b o M S8 S _ H8.out (HM.out.ext HB8.out)).mono ?_; rintro e w9 ⟨rfl, hq⟩; have HB9 : Hid (Ext w w9) := Ext.trans_ HB8.out hq; clear hq))
  go_ret
  exact ⟨rfl, HB9.out⟩
end Go.Proofs.YtecbbbaafcoliaaDoor
