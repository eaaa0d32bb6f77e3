/- The law MinorKeeps: its walk. -/
import Derived.Test.YtecbbbaafcoliaaGreatDoorJZw03
import Derived.Test.YtecbbbaafcoliaaGreatDoorJZn38
import Derived.Test.YtecbbbaafcoliaaGreatDoorJZn31
import Derived.Test.YtecbbbaafcoliaaGreatDoorJZn33
import Derived.Test.YtecbbbaafcoliaaGreatDoorJZn34
import Derived.Test.YtecbbbaafcoliaaGreatDoorJZn36
import Derived.Deep.Cut
import Derived.Test.YtecbbbaafcoliaaGreatDoorJZn35
import Derived.Test.YtecbbbaafcoliaaGreatDoorJZn32
namespace Go.Proofs.YtecbbbaafcoliaaGreatDoor
open Go.RowKit
set_option linter.unusedVariables false
set_option linter.unusedSimpArgs false

section
variable {M : Mem} {ten : Int}
theorem collectC_nums (hr : Ready M ten) : (collectC M ten).half = M.half ∧ (collectC M ten).old = M.old ∧ (collectC M ten).card = M.card ∧ (collectC M ten).used = 1 - M.used ∧ M.oldTop ≤ (collectC M ten).oldTop ∧ (collectC M ten).roots.length = M.roots.length := by
  obtain ⟨_, _, _, _, _, _, D, h1, h2, h3, h4⟩ := collect_inv hr
  exact ⟨h1.like.half, h1.like.old, h1.like.card, rfl, h1.oldT, h3⟩
theorem collectC_zero (hr : Ready M ten) (h : ten = 0) : (collectC M ten).top = 0 := by
  obtain ⟨hs, hob, -⟩ := good_parts (chk_zero (collectC_chk hr)).1
  refine partN_empty hs hob fun y hy => ?_
  obtain ⟨x, hx, h1, h2⟩ := collectC_young hr y hy
  have hw := (part_in (show x ∈ (part M.W M.base (M.base + M.top.toNat)).1 from hx)).w
  have := (hd_in x.w (by rw [hw]; exact (wat_in hr.ok _).1)).2.2.1
  omega
end
set_option maxRecDepth 100000 in
set_option maxHeartbeats 4000000 in
theorem collect_nil (E : Nat → Addr) (ten : Int) (w : World) (hE : G3 E w) : Calls Tryz.prog 10 #[.pointer none, .int .i64 ten] w (CNo w E 3) := by
  have HE := Lib.hid hE
  clear hE
  go_enter Tryz.func10, Tryz.ntmps10
  go_wp2_with (go_at_call 20; refine (check_nil _ (E 2) HE.out.shape).mono ?_; rintro e w1 ⟨rfl, hq⟩; have HX1 := Lib.hid hq; clear hq)
  go_ret
  exact ⟨rfl, HX1.out⟩
set_option maxRecDepth 100000 in
set_option maxHeartbeats 4000000 in
theorem minorKeeps_nil (ten : Int) (w : World) (E : Nat → Addr) (h : ErrEnv E w) :
    Calls Tryz.prog 3 #[.pointer none, .int .i64 ten] w fun e w' => e = .returned (.bool true) ∧ Ext w w' := by
  have H := Lib.hid h
  have hc1 : (1 : Int) ≤ 3 := by decide
  have hc2 : (3 : Int) ≤ 7 := by decide
  clear h
  go_enter Tryz.func3, Tryz.ntmps3
  go_upto_region 7 with (first
    | (go_at_call 6; refine (still_any _ E H.out.g4).mono ?_; rintro e w1 ⟨rfl, hq⟩; have HB1 := Lib.hid hq; clear hq)
    | (go_at_call 7; refine (near_nil _).mono ?_; rintro e w' ⟨rfl, hw9⟩; have hw9 := hw9.symm; subst hw9)
    | (go_at_call 8; refine (kCheck_nil _).mono ?_; rintro e w2 ⟨rfl, hq⟩; have HB2 : Hid (Ext w w2) := Ext.trans_ HB1.out hq; clear hq))
  go_quiet (fail)
  go_wp2_with (first
    | (go_at_call 9; refine (memOf_nil _).mono ?_; rintro e w' ⟨rfl, hw9⟩; have hw9 := hw9.symm; subst hw9)
    | (go_at_call 10; refine (collect_nil E ten _ (H.out.ext (HB2.out.trans_ (by repeat (first | exact Ext.refl _ | (refine Ext.drew_ ?_) | (refine Ext.drewN_ ?_ _))))).g3).mono ?_; rintro e w4 ⟨rfl, hq⟩; have HB4 : Hid (Ext w w4) := Ext.trans_ (HB2.out.trans_ (by repeat (first | exact Ext.refl _ | (refine Ext.drew_ ?_) | (refine Ext.drewN_ ?_ _)))) hq; clear hq)
    | (go_at_call 11; refine (coded_c (H.out.ext HB4.out) 3 hc1 hc2).mono ?_; rintro e w5 ⟨rfl, hq⟩; have HE45 := Lib.hid hq; clear hq))
  go_ret
  exact ⟨rfl, HB4.out.trans_ HE45.out⟩
set_option maxRecDepth 100000 in
set_option maxHeartbeats 4000000 in
theorem minorKeeps_far (b o : Nat) (M : Mem) (S : Sls) (ten : Int) (w : World) (hM : RMem w b o M S) (E : Nat → Addr) (h : ErrEnv E w) (hn : ¬ Near M) :
    Calls Tryz.prog 3 #[.pointer (some ⟨b, o, none⟩), .int .i64 ten] w fun e w' => e = .returned (.bool true) ∧ Ext w w' := by
  have H := Lib.hid h
  have HM := Lib.hid hM
  have HN := Lib.hid hn
  clear h hM hn
  go_enter Tryz.func3, Tryz.ntmps3
  go_wp2_with (first
    | (go_at_call 6; refine (still_any _ E H.out.g4).mono ?_; rintro e w1 ⟨rfl, hq⟩; have HB1 := Lib.hid hq; clear hq)
    | (go_at_call 7; refine (near_no b o M S HN.out _ (HM.out.ext HB1.out)).mono ?_; rintro e w' ⟨rfl, hw9⟩; have hw9 := hw9.symm; subst hw9))
  go_ret
  exact ⟨rfl, HB1.out⟩
set_option maxRecDepth 100000 in
set_option maxHeartbeats 8000000 in
theorem minorKeeps_chk (b o : Nat) (M : Mem) (S : Sls) (ten : Int) (hn : Near M) (w : World) (hM : RMem w b o M S) (E : Nat → Addr) (h : ErrEnv E w) (c : Int) (hc : chk M = c) (hc0 : c ≠ 0) (hc1 : 1 ≤ c) (hc2 : c ≤ 7) :
    Calls Tryz.prog 3 #[.pointer (some ⟨b, o, none⟩), .int .i64 ten] w fun e w' => e = .returned (.bool true) ∧ Ext w w' := by
  have HF := Lib.hid hn.few
  have HOK := Lib.hid hM.ok
  have H := Lib.hid h
  have HM := Lib.hid hM
  have HN := Lib.hid hn
  have HCK := Lib.hid hc
  have k0 : (c == 0) = false := by simpa using hc0
  have k1 : 0 < c := by omega
  clear h hM hn hc
  go_enter Tryz.func3, Tryz.ntmps3
  go_upto_region 7 with (first
    | (go_at_call 6; refine (still_any _ E H.out.g4).mono ?_; rintro e w1 ⟨rfl, hq⟩; have HB1 := Lib.hid hq; clear hq)
    | (go_at_call 7; refine (near_yes b o M S HN.out _ (HM.out.ext HB1.out)).mono ?_; rintro e w' ⟨rfl, hw9⟩; have hw9 := hw9.symm; subst hw9)
    | (go_at_call 8; refine (kCheck_any b o M S _ (HM.out.ext HB1.out)).mono ?_; rintro e w2 ⟨he, hq⟩; rw [HCK.out] at he; subst he; have HB2 : Hid (Ext w w2) := Ext.trans_ HB1.out hq; have d1 := (HM.out.ext (Ext.trans_ HB1.out hq)).old; have d5 := (HM.out.ext (Ext.trans_ HB1.out hq)).top; have d6 := (HM.out.ext (Ext.trans_ HB1.out hq)).oldTop; have hb2 := (HM.out.ext (Ext.trans_ HB1.out hq)).lt; clear hq))
  go_quiet (fail)
  go_wp2_with (first
    | (go_at_call 9; refine (memOf_walk b o M S _ (HM.out.ext (HB2.out.trans_ (by repeat (first | exact Ext.refl _ | (refine Ext.drew_ ?_) | (refine Ext.drewN_ ?_ _))))) HF.out).mono ?_; rintro e w3 ⟨bx, Sx, rfl, hq1, hq2⟩; have HX := Lib.hid hq1; have HB3 : Hid (Ext w w3) := Ext.trans_ (HB2.out.trans_ (by repeat (first | exact Ext.refl _ | (refine Ext.drew_ ?_) | (refine Ext.drewN_ ?_ _)))) hq2; have HE23 := Lib.hid hq2; clear hq1 hq2)
    | (go_at_call 10; refine (collect_chk bx 0 M Sx E ten _ (HX.out.mem HOK.out) (H.out.ext HB3.out).g3 (by rw [HCK.out]; exact hc0)).mono ?_; rintro e w4 ⟨he, hq⟩; rw [HCK.out] at he; subst he; have HE34 := Lib.hid hq; have HB4 : Hid (Ext w w4) := Ext.trans_ HB3.out hq; clear hq)
    | (go_at_call 11; refine (coded_c (H.out.ext HB4.out) c hc1 hc2).mono ?_; rintro e w5 ⟨rfl, hq⟩; have HE45 := Lib.hid hq; clear hq)
    | (go_at_call 13; refine (memBack_walk bx 0 M Sx _ ((HX.out.mem HOK.out).ext (HE34.out.trans_ HE45.out)) HF.out).mono ?_; rintro e w6 ⟨B6, b6, S6, rfl, hq1, hq2, hq3⟩; have H6 := Lib.hid (hq1.mem HOK.out); have HB6 : Hid (Ext w w6) := Ext.trans_ (HB4.out.trans_ HE45.out) hq3; clear hq1 hq2 hq3)
    | (go_at_call 12; refine (sameMemory_yes b6 0 b o M S6 S _ H6.out (HM.out.ext HB6.out)).mono ?_; rintro e w7 ⟨rfl, hq⟩; have HB7 : Hid (Ext w w7) := Ext.trans_ HB6.out hq; clear hq))
  go_ret
  exact ⟨rfl, HB7.out⟩
set_option maxRecDepth 100000 in
set_option maxHeartbeats 8000000 in
theorem minorKeeps_low (b o : Nat) (M : Mem) (S : Sls) (ten : Int) (hn : Near M) (w : World) (hM : RMem w b o M S) (E : Nat → Addr) (h : ErrEnv E w) (hc : chk M = 0) (ht : ten < 0) :
    Calls Tryz.prog 3 #[.pointer (some ⟨b, o, none⟩), .int .i64 ten] w fun e w' => e = .returned (.bool true) ∧ Ext w w' := by
  have HF := Lib.hid hn.few
  have HOK := Lib.hid hM.ok
  have H := Lib.hid h
  have HM := Lib.hid hM
  have HN := Lib.hid hn
  have HCK := Lib.hid hc
  have hc1 : (1 : Int) ≤ 2 := by decide
  have hc2 : (2 : Int) ≤ 7 := by decide
  clear h hM hn hc
  go_enter Tryz.func3, Tryz.ntmps3
  go_upto_region 7 with (first
    | (go_at_call 6; refine (still_any _ E H.out.g4).mono ?_; rintro e w1 ⟨rfl, hq⟩; have HB1 := Lib.hid hq; clear hq)
    | (go_at_call 7; refine (near_yes b o M S HN.out _ (HM.out.ext HB1.out)).mono ?_; rintro e w' ⟨rfl, hw9⟩; have hw9 := hw9.symm; subst hw9)
    | (go_at_call 8; refine (kCheck_any b o M S _ (HM.out.ext HB1.out)).mono ?_; rintro e w2 ⟨he, hq⟩; rw [HCK.out] at he; subst he; have HB2 : Hid (Ext w w2) := Ext.trans_ HB1.out hq; have d1 := (HM.out.ext (Ext.trans_ HB1.out hq)).old; have d5 := (HM.out.ext (Ext.trans_ HB1.out hq)).top; have d6 := (HM.out.ext (Ext.trans_ HB1.out hq)).oldTop; have hb2 := (HM.out.ext (Ext.trans_ HB1.out hq)).lt; clear hq))
  go_quiet (fail)
  go_wp2_with (first
    | (go_at_call 9; refine (memOf_walk b o M S _ (HM.out.ext (HB2.out.trans_ (by repeat (first | exact Ext.refl _ | (refine Ext.drew_ ?_) | (refine Ext.drewN_ ?_ _))))) HF.out).mono ?_; rintro e w3 ⟨bx, Sx, rfl, hq1, hq2⟩; have HX := Lib.hid hq1; have HB3 : Hid (Ext w w3) := Ext.trans_ (HB2.out.trans_ (by repeat (first | exact Ext.refl _ | (refine Ext.drew_ ?_) | (refine Ext.drewN_ ?_ _)))) hq2; have HE23 := Lib.hid hq2; clear hq1 hq2)
    | (go_at_call 10; refine (collect_bound bx 0 M Sx E ten _ (HX.out.mem HOK.out) (H.out.ext HB3.out).g3 HCK.out (Or.inl (by omega))).mono ?_; rintro e w4 ⟨rfl, hq⟩; have HE34 := Lib.hid hq; have HB4 : Hid (Ext w w4) := Ext.trans_ HB3.out hq; clear hq)
    | (go_at_call 11; refine (coded_c (H.out.ext HB4.out) 2 hc1 hc2).mono ?_; rintro e w5 ⟨rfl, hq⟩; have HE45 := Lib.hid hq; clear hq)
    | (go_at_call 13; refine (memBack_walk bx 0 M Sx _ ((HX.out.mem HOK.out).ext (HE34.out.trans_ HE45.out)) HF.out).mono ?_; rintro e w6 ⟨B6, b6, S6, rfl, hq1, hq2, hq3⟩; have H6 := Lib.hid (hq1.mem HOK.out); have HB6 : Hid (Ext w w6) := Ext.trans_ (HB4.out.trans_ HE45.out) hq3; clear hq1 hq2 hq3)
    | (go_at_call 12; refine (sameMemory_yes b6 0 b o M S6 S _ H6.out (HM.out.ext HB6.out)).mono ?_; rintro e w7 ⟨rfl, hq⟩; have HB7 : Hid (Ext w w7) := Ext.trans_ HB6.out hq; clear hq))
  go_ret
  exact ⟨rfl, HB7.out⟩
set_option maxRecDepth 100000 in
set_option maxHeartbeats 8000000 in
theorem minorKeeps_high (b o : Nat) (M : Mem) (S : Sls) (ten : Int) (hn : Near M) (w : World) (hM : RMem w b o M S) (E : Nat → Addr) (h : ErrEnv E w) (hc : chk M = 0) (ht0 : ¬ ten < 0) (ht : 15 < ten) :
    Calls Tryz.prog 3 #[.pointer (some ⟨b, o, none⟩), .int .i64 ten] w fun e w' => e = .returned (.bool true) ∧ Ext w w' := by
  have HF := Lib.hid hn.few
  have HOK := Lib.hid hM.ok
  have H := Lib.hid h
  have HM := Lib.hid hM
  have HN := Lib.hid hn
  have HCK := Lib.hid hc
  have hc1 : (1 : Int) ≤ 2 := by decide
  have hc2 : (2 : Int) ≤ 7 := by decide
  clear h hM hn hc
  go_enter Tryz.func3, Tryz.ntmps3
  go_upto_region 7 with (first
    | (go_at_call 6; refine (still_any _ E H.out.g4).mono ?_; rintro e w1 ⟨rfl, hq⟩; have HB1 := Lib.hid hq; clear hq)
    | (go_at_call 7; refine (near_yes b o M S HN.out _ (HM.out.ext HB1.out)).mono ?_; rintro e w' ⟨rfl, hw9⟩; have hw9 := hw9.symm; subst hw9)
    | (go_at_call 8; refine (kCheck_any b o M S _ (HM.out.ext HB1.out)).mono ?_; rintro e w2 ⟨he, hq⟩; rw [HCK.out] at he; subst he; have HB2 : Hid (Ext w w2) := Ext.trans_ HB1.out hq; have d1 := (HM.out.ext (Ext.trans_ HB1.out hq)).old; have d5 := (HM.out.ext (Ext.trans_ HB1.out hq)).top; have d6 := (HM.out.ext (Ext.trans_ HB1.out hq)).oldTop; have hb2 := (HM.out.ext (Ext.trans_ HB1.out hq)).lt; clear hq))
  go_quiet (fail)
  go_wp2_with (first
    | (go_at_call 9; refine (memOf_walk b o M S _ (HM.out.ext (HB2.out.trans_ (by repeat (first | exact Ext.refl _ | (refine Ext.drew_ ?_) | (refine Ext.drewN_ ?_ _))))) HF.out).mono ?_; rintro e w3 ⟨bx, Sx, rfl, hq1, hq2⟩; have HX := Lib.hid hq1; have HB3 : Hid (Ext w w3) := Ext.trans_ (HB2.out.trans_ (by repeat (first | exact Ext.refl _ | (refine Ext.drew_ ?_) | (refine Ext.drewN_ ?_ _)))) hq2; have HE23 := Lib.hid hq2; clear hq1 hq2)
    | (go_at_call 10; refine (collect_bound bx 0 M Sx E ten _ (HX.out.mem HOK.out) (H.out.ext HB3.out).g3 HCK.out (Or.inr ⟨by omega, by omega⟩)).mono ?_; rintro e w4 ⟨rfl, hq⟩; have HE34 := Lib.hid hq; have HB4 : Hid (Ext w w4) := Ext.trans_ HB3.out hq; clear hq)
    | (go_at_call 11; refine (coded_c (H.out.ext HB4.out) 2 hc1 hc2).mono ?_; rintro e w5 ⟨rfl, hq⟩; have HE45 := Lib.hid hq; clear hq)
    | (go_at_call 13; refine (memBack_walk bx 0 M Sx _ ((HX.out.mem HOK.out).ext (HE34.out.trans_ HE45.out)) HF.out).mono ?_; rintro e w6 ⟨B6, b6, S6, rfl, hq1, hq2, hq3⟩; have H6 := Lib.hid (hq1.mem HOK.out); have HB6 : Hid (Ext w w6) := Ext.trans_ (HB4.out.trans_ HE45.out) hq3; clear hq1 hq2 hq3)
    | (go_at_call 12; refine (sameMemory_yes b6 0 b o M S6 S _ H6.out (HM.out.ext HB6.out)).mono ?_; rintro e w7 ⟨rfl, hq⟩; have HB7 : Hid (Ext w w7) := Ext.trans_ HB6.out hq; clear hq))
  go_ret
  exact ⟨rfl, HB7.out⟩
set_option maxRecDepth 100000 in
set_option maxHeartbeats 8000000 in
theorem minorKeeps_full (b o : Nat) (M : Mem) (S : Sls) (ten : Int) (hn : Near M) (w : World) (hM : RMem w b o M S) (E : Nat → Addr) (h : ErrEnv E w) (hc : chk M = 0) (t0 : ¬ ten < 0) (t1 : ¬ 15 < ten) (hfu : M.old - M.oldTop < M.top) :
    Calls Tryz.prog 3 #[.pointer (some ⟨b, o, none⟩), .int .i64 ten] w fun e w' => e = .returned (.bool true) ∧ Ext w w' := by
  have HF := Lib.hid hn.few
  have HOK := Lib.hid hM.ok
  have H := Lib.hid h
  have HM := Lib.hid hM
  have HN := Lib.hid hn
  have hsx := (good_parts (chk_zero hc).1).1
  have i7 : IntKind.i64.wrap (M.old - M.oldTop) = M.old - M.oldTop := IntWalk.i64_in _ (by have := hsx.o1; have := hsx.o2; have := hsx.p1; have := hsx.p2; omega)
  have HCK := Lib.hid hc
  have hc1 : (1 : Int) ≤ 6 := by decide
  have hc2 : (6 : Int) ≤ 7 := by decide
  have HFU := Lib.hid hfu
  clear h hM hn hc hsx
  go_enter Tryz.func3, Tryz.ntmps3
  go_upto_region 7 with (first
    | (go_at_call 6; refine (still_any _ E H.out.g4).mono ?_; rintro e w1 ⟨rfl, hq⟩; have HB1 := Lib.hid hq; clear hq)
    | (go_at_call 7; refine (near_yes b o M S HN.out _ (HM.out.ext HB1.out)).mono ?_; rintro e w' ⟨rfl, hw9⟩; have hw9 := hw9.symm; subst hw9)
    | (go_at_call 8; refine (kCheck_any b o M S _ (HM.out.ext HB1.out)).mono ?_; rintro e w2 ⟨he, hq⟩; rw [HCK.out] at he; subst he; have HB2 : Hid (Ext w w2) := Ext.trans_ HB1.out hq; have d1 := (HM.out.ext (Ext.trans_ HB1.out hq)).old; have d5 := (HM.out.ext (Ext.trans_ HB1.out hq)).top; have d6 := (HM.out.ext (Ext.trans_ HB1.out hq)).oldTop; have hb2 := (HM.out.ext (Ext.trans_ HB1.out hq)).lt; clear hq))
  go_quiet (fail)
  go_wp2_with (first
    | (go_at_call 9; refine (memOf_walk b o M S _ (HM.out.ext (HB2.out.trans_ (by repeat (first | exact Ext.refl _ | (refine Ext.drew_ ?_) | (refine Ext.drewN_ ?_ _))))) HF.out).mono ?_; rintro e w3 ⟨bx, Sx, rfl, hq1, hq2⟩; have HX := Lib.hid hq1; have HB3 : Hid (Ext w w3) := Ext.trans_ (HB2.out.trans_ (by repeat (first | exact Ext.refl _ | (refine Ext.drew_ ?_) | (refine Ext.drewN_ ?_ _)))) hq2; have HE23 := Lib.hid hq2; clear hq1 hq2)
    | (go_at_call 10; refine (collect_full bx 0 M Sx E ten _ (HX.out.mem HOK.out) (H.out.ext HB3.out).g4 HCK.out (by omega) (by omega) HFU.out).mono ?_; rintro e w4 ⟨rfl, hq⟩; have HE34 := Lib.hid hq; have HB4 : Hid (Ext w w4) := Ext.trans_ HB3.out hq; clear hq)
    | (go_at_call 11; refine (coded_c (H.out.ext HB4.out) 6 hc1 hc2).mono ?_; rintro e w5 ⟨rfl, hq⟩; have HE45 := Lib.hid hq; clear hq)
    | (go_at_call 13; refine (memBack_walk bx 0 M Sx _ ((HX.out.mem HOK.out).ext (HE34.out.trans_ HE45.out)) HF.out).mono ?_; rintro e w6 ⟨B6, b6, S6, rfl, hq1, hq2, hq3⟩; have H6 := Lib.hid (hq1.mem HOK.out); have HB6 : Hid (Ext w w6) := Ext.trans_ (HB4.out.trans_ HE45.out) hq3; clear hq1 hq2 hq3)
    | (go_at_call 12; refine (sameMemory_yes b6 0 b o M S6 S _ H6.out (HM.out.ext HB6.out)).mono ?_; rintro e w7 ⟨rfl, hq⟩; have HB7 : Hid (Ext w w7) := Ext.trans_ HB6.out hq; clear hq))
  go_ret
  exact ⟨rfl, HB7.out⟩
set_option maxRecDepth 100000 in
set_option maxHeartbeats 8000000 in
theorem minorKeeps_main (b o : Nat) (M : Mem) (S : Sls) (ten : Int) (hn : Near M) (w : World) (hM : RMem w b o M S) (E : Nat → Addr) (h : ErrEnv E w) (hc : chk M = 0) (t0 : ¬ ten < 0) (t1 : ¬ 15 < ten) (hfu : ¬ M.old - M.oldTop < M.top) :
    Calls Tryz.prog 3 #[.pointer (some ⟨b, o, none⟩), .int .i64 ten] w fun e w' => e = .returned (.bool true) ∧ Ext w w' := by
  have hr : Ready M ten := ⟨hM.ok, hc, ⟨by omega, by omega⟩, by omega⟩
  have hgb : 0 < w.heap.size ∧ 2 < w.heap.size := ⟨cell_lt h.g4.bound, cell_lt h.g4.shape⟩
  have hsx := (good_parts (chk_zero hc).1).1
  have i7 : IntKind.i64.wrap (M.old - M.oldTop) = M.old - M.oldTop := IntWalk.i64_in _ (by have := hsx.o1; have := hsx.o2; have := hsx.p1; have := hsx.p2; omega)
  have i8 : IntKind.i64.wrap (1 - M.used) = 1 - M.used := IntWalk.i64_in _ (by have := hsx.u1; have := hsx.u2; omega)
  obtain ⟨q1, q2, q3, q4, q5, q6⟩ := collectC_nums hr
  have hkp := minor_kept hr
  have HWO := Lib.hid hkp.weakOK
  have HIO := Lib.hid hkp.idsOK
  have hz := collectC_zero hr
  have hgr := collectC_graph hr
  have hcn := collectC_chk hr
  have hfn := collectC_few hr hn.few
  have hokn := collectC_ok hr
  have hgn := (chk_zero hcn).1
  have HGM := Lib.hid (chk_zero hc).1
  have HF := Lib.hid hn.few
  have HOK := Lib.hid hM.ok
  have H := Lib.hid h
  have HM := Lib.hid hM
  have HN := Lib.hid hn
  have HR := Lib.hid hr
  have HGB := Lib.hid hgb
  have HCK := Lib.hid hc
  obtain ⟨NN, hNN⟩ : ∃ NN, NN = collectC M ten := ⟨_, rfl⟩
  rw [← hNN] at q1 q2 q3 q4 q5 q6 HWO HIO hz hgr hcn hfn hokn hgn
  have HNN := Lib.hid hNN
  have HQ1 := Lib.hid q1
  have HQ2 := Lib.hid q2
  have HQ3 := Lib.hid q3
  have HQ4 := Lib.hid q4
  have HQ6 := Lib.hid q6
  have HZ := Lib.hid hz
  have HGR := Lib.hid hgr
  have HCN := Lib.hid hcn
  have HFN := Lib.hid hfn
  have HOKN := Lib.hid hokn
  have HGN := Lib.hid hgn
  have hole : ¬ NN.oldTop < M.oldTop := by omega
  have hnR := hn.R
  have hnK := hn.K
  have hnI := hn.I
  clear h hM hn hc hr hsx q1 q2 q3 q4 q5 q6 hz hgr hcn hfn hokn hgn hNN hgb hkp
  go_enter Tryz.func3, Tryz.ntmps3
  go_upto_region 7 with (first
    | (go_at_call 6; refine (still_any _ E H.out.g4).mono ?_; rintro e w1 ⟨rfl, hq⟩; have HB1 := Lib.hid hq; clear hq)
    | (go_at_call 7; refine (near_yes b o M S HN.out _ (HM.out.ext HB1.out)).mono ?_; rintro e w' ⟨rfl, hw9⟩; have hw9 := hw9.symm; subst hw9)
    | (go_at_call 8; refine (kCheck_any b o M S _ (HM.out.ext HB1.out)).mono ?_; rintro e w2 ⟨he, hq⟩; rw [HCK.out] at he; subst he; have HB2 : Hid (Ext w w2) := Ext.trans_ HB1.out hq; have d1 := (HM.out.ext (Ext.trans_ HB1.out hq)).old; have d5 := (HM.out.ext (Ext.trans_ HB1.out hq)).top; have d6 := (HM.out.ext (Ext.trans_ HB1.out hq)).oldTop; have hb2 := (HM.out.ext (Ext.trans_ HB1.out hq)).lt; clear hq))
  go_quiet (fail)
  go_upto_region 14 with (first
    | (go_at_call 9; refine (memOf_walk b o M S _ (HM.out.ext (HB2.out.trans_ (by repeat (first | exact Ext.refl _ | (refine Ext.drew_ ?_) | (refine Ext.drewN_ ?_ _))))) HF.out).mono ?_; rintro e w3 ⟨bx, Sx, rfl, hq1, hq2⟩; have HX := Lib.hid hq1; have HB3 : Hid (Ext w w3) := Ext.trans_ (HB2.out.trans_ (by repeat (first | exact Ext.refl _ | (refine Ext.drew_ ?_) | (refine Ext.drewN_ ?_ _)))) hq2; have HE23 := Lib.hid hq2; clear hq1 hq2)
    | (go_at_call 10; refine (collect_walk w2.heap.size bx M Sx E ten _ HX.out (H.out.ext HB3.out).g3 HR.out HE23.out.size ⟨Nat.lt_of_lt_of_le HGB.out.1 HB2.out.size, Nat.lt_of_lt_of_le HGB.out.2 HB2.out.size⟩).mono ?_; rintro e w4 ⟨rfl, S4, hq1, hq2, hq3⟩; rw [← HNN.out] at hq1; have HX4 := Lib.hid hq1; have HB4 : Hid (Ext w w4) := Ext.keep HB3.out hq2 (fun i hi => Nat.le_trans HB2.out.size (HX.out.own_size hi).1); clear hq1 hq2 hq3)
    | (go_at_call 13; refine (memBack_walk bx 0 NN S4 _ (HX4.out.mem HOKN.out) HFN.out).mono ?_; rintro e w5 ⟨B5, b5, S5, rfl, hq1, hq2, hq3⟩; have H5 := Lib.hid (hq1.mem HOKN.out); have HB5 : Hid (Ext w w5) := Ext.trans_ HB4.out hq3; clear hq1 hq2 hq3))
  have n0 := H5.out.half
  have n1 := H5.out.old
  have n2 := H5.out.card
  have n4 := H5.out.used
  rw [HQ1.out] at n0
  rw [HQ2.out] at n1
  rw [HQ3.out] at n2
  rw [HQ4.out] at n4
  simp only [Nat.zero_add] at n0 n1 n2 n4
  have m0 := (HM.out.ext HB5.out).half
  have m1 := (HM.out.ext HB5.out).old
  have m2 := (HM.out.ext HB5.out).card
  have m4 := (HM.out.ext HB5.out).used
  clear d1 d5 d6 hb2
  refine wp_region_held_drew (S := fun W => W.cell? ⟨b5, 0, none⟩ = some (.int .i64 M.half) ∧ W.cell? ⟨b5, 1, none⟩ = some (.int .i64 M.old) ∧ W.cell? ⟨b5, 2, none⟩ = some (.int .i64 M.card) ∧ W.cell? ⟨b5, 4, none⟩ = some (.int .i64 (1 - M.used)) ∧ W.cell? ⟨b, o, none⟩ = some (.int .i64 M.half) ∧ W.cell? ⟨b, o + 1, none⟩ = some (.int .i64 M.old) ∧ W.cell? ⟨b, o + 2, none⟩ = some (.int .i64 M.card) ∧ W.cell? ⟨b, o + 4, none⟩ = some (.int .i64 M.used)) (by kernel_rfl) ?_ (fun hHeld => ?_)
  · exact ⟨n0, n1, n2, n4, m0, m1, m2, m4⟩
  refine wpAnyH_take (i := 0) (oi := ⟨some 75, _, _, _, _, _⟩) (v := ?_) rfl (by kernel_rfl) (by kernel_rfl) (by kernel_rfl) (fun _ _ _ h => h) (Or.inl ⟨by rfl, ?_⟩) (by assumption) ?_
  rotate_left
  · (intro w hSw; (try dsimp only at hSw); go_simp; try with_reducible rfl)
  try simp only [Act.put, List.setIfInBounds_toArray, List.set_cons_zero, List.set_cons_succ]
  refine wpAnyH_take (i := 1) (oi := ⟨some 76, _, _, _, _, _⟩) (v := ?_) rfl (by kernel_rfl) (by kernel_rfl) (by kernel_rfl) (fun _ _ _ h => h) (Or.inl ⟨by rfl, ?_⟩) (by assumption) ?_
  rotate_left
  · (intro w hSw; (try dsimp only at hSw); go_simp; try with_reducible rfl)
  try simp only [Act.put, List.setIfInBounds_toArray, List.set_cons_zero, List.set_cons_succ]
  refine wpAnyH_take (i := 2) (oi := ⟨some 77, _, _, _, _, _⟩) (v := ?_) rfl (by kernel_rfl) (by kernel_rfl) (by kernel_rfl) (fun _ _ _ h => h) (Or.inl ⟨by rfl, ?_⟩) (by assumption) ?_
  rotate_left
  · (intro w hSw; (try dsimp only at hSw); go_simp; try with_reducible rfl)
  try simp only [Act.put, List.setIfInBounds_toArray, List.set_cons_zero, List.set_cons_succ]
  refine wpAnyH_take (i := 3) (oi := ⟨some 78, _, _, _, _, _⟩) (v := ?_) rfl (by kernel_rfl) (by kernel_rfl) (by kernel_rfl) (fun _ _ _ h => h) (Or.inl ⟨by rfl, ?_⟩) (by assumption) ?_
  rotate_left
  · (intro w hSw; (try dsimp only at hSw); go_simp; try with_reducible rfl)
  try simp only [Act.put, List.setIfInBounds_toArray, List.set_cons_zero, List.set_cons_succ]
  refine wpAnyH_ready (rs := [4]) (by kernel_rfl) (by simp) ?_
  refine AllReadyH.cons (o := ⟨some 79, _, _, _, _, _⟩) rfl (fun K hK => ?_) AllReadyH.nil
  go_simp
  refine (kCheck_any b5 0 NN S5 _ (H5.out.ext (by repeat (first | exact Ext.refl _ | (refine Ext.drew_ ?_) | (refine Ext.drewN_ ?_ _))))).mono ?_
  rintro e w6 ⟨he, hq⟩
  rw [HCN.out] at he
  subst he
  have g0 := hq.cell_ hHeld.1
  have g1 := hq.cell_ hHeld.2.1
  have g2 := hq.cell_ hHeld.2.2.1
  have g3 := hq.cell_ hHeld.2.2.2.1
  have g4 := hq.cell_ hHeld.2.2.2.2.1
  have g5 := hq.cell_ hHeld.2.2.2.2.2.1
  have g6 := hq.cell_ hHeld.2.2.2.2.2.2.1
  have g7 := hq.cell_ hHeld.2.2.2.2.2.2.2
  have HE56 := Lib.hid hq
  clear hq
  refine hK.out _ _ ?_ (fun hHeld => ?_)
  · (try dsimp only); exact ⟨g0, g1, g2, g3, g4, g5, g6, g7⟩
  clear hK K
  try simp only [Act.put, List.setIfInBounds_toArray, List.set_cons_zero, List.set_cons_succ]
  refine wpAnyH_take (i := 5) (oi := ⟨some 80, _, _, _, _, _⟩) (v := ?_) rfl (by kernel_rfl) (by kernel_rfl) (by kernel_rfl) (fun _ _ _ h => h) (Or.inl ⟨by rfl, ?_⟩) (by assumption) ?_
  rotate_left
  · (intro w hSw; (try dsimp only at hSw); go_simp; try with_reducible rfl)
  try simp only [Act.put, List.setIfInBounds_toArray, List.set_cons_zero, List.set_cons_succ]
  refine wpAnyH_take (i := 6) (oi := ⟨some 81, _, _, _, _, _⟩) (v := ?_) rfl (by kernel_rfl) (by kernel_rfl) (by kernel_rfl) (fun _ _ _ h => h) (Or.inl ⟨by rfl, ?_⟩) (by assumption) ?_
  rotate_left
  · (intro w hSw; (try dsimp only at hSw); go_simp; try with_reducible rfl)
  try simp only [Act.put, List.setIfInBounds_toArray, List.set_cons_zero, List.set_cons_succ]
  refine wpAnyH_take (i := 7) (oi := ⟨some 82, _, _, _, _, _⟩) (v := ?_) rfl (by kernel_rfl) (by kernel_rfl) (by kernel_rfl) (fun _ _ _ h => h) (Or.inl ⟨by rfl, ?_⟩) (by assumption) ?_
  rotate_left
  · (intro w hSw; (try dsimp only at hSw); go_simp; try with_reducible rfl)
  try simp only [Act.put, List.setIfInBounds_toArray, List.set_cons_zero, List.set_cons_succ]
  refine wpAnyH_take (i := 8) (oi := ⟨some 83, _, _, _, _, _⟩) (v := ?_) rfl (by kernel_rfl) (by kernel_rfl) (by kernel_rfl) (fun _ _ _ h => h) (Or.inl ⟨by rfl, ?_⟩) (by assumption) ?_
  rotate_left
  · (intro w hSw; (try dsimp only at hSw); go_simp; try with_reducible rfl)
  try simp only [Act.put, List.setIfInBounds_toArray, List.set_cons_zero, List.set_cons_succ]
  refine wpAnyH_take (i := 9) (oi := ⟨some 84, _, _, _, _, _⟩) (v := ?_) rfl (by kernel_rfl) (by kernel_rfl) (by kernel_rfl) (fun _ _ _ h => h) (Or.inl ⟨by rfl, ?_⟩) (by assumption) ?_
  rotate_left
  · (intro w hSw; (try dsimp only at hSw); go_simp; try with_reducible rfl)
  try simp only [Act.put, List.setIfInBounds_toArray, List.set_cons_zero, List.set_cons_succ]
  refine wpAnyH_take (i := 10) (oi := ⟨some 85, _, _, _, _, _⟩) (v := ?_) rfl (by kernel_rfl) (by kernel_rfl) (by kernel_rfl) (fun _ _ _ h => h) (Or.inl ⟨by rfl, ?_⟩) (by assumption) ?_
  rotate_left
  · (intro w hSw; (try dsimp only at hSw); go_simp; try with_reducible rfl)
  try simp only [Act.put, List.setIfInBounds_toArray, List.set_cons_zero, List.set_cons_succ]
  refine wpAnyH_take (i := 11) (oi := ⟨some 86, _, _, _, _, _⟩) (v := ?_) rfl (by kernel_rfl) (by kernel_rfl) (by kernel_rfl) (fun _ _ _ h => h) (Or.inl ⟨by rfl, ?_⟩) (by assumption) ?_
  rotate_left
  · (intro w hSw; (try dsimp only at hSw); go_simp; try with_reducible rfl)
  try simp only [Act.put, List.setIfInBounds_toArray, List.set_cons_zero, List.set_cons_succ]
  refine wpAnyH_take (i := 12) (oi := ⟨some 87, _, _, _, _, _⟩) (v := ?_) rfl (by kernel_rfl) (by kernel_rfl) (by kernel_rfl) (fun _ _ _ h => h) (Or.inl ⟨by rfl, ?_⟩) (by assumption) ?_
  rotate_left
  · (intro w hSw; (try dsimp only at hSw); go_simp; try with_reducible rfl)
  try simp only [Act.put, List.setIfInBounds_toArray, List.set_cons_zero, List.set_cons_succ]
  refine wpAnyH_take (i := 13) (oi := ⟨some 88, _, _, _, _, _⟩) (v := ?_) rfl (by kernel_rfl) (by kernel_rfl) (by kernel_rfl) (fun _ _ _ h => h) (Or.inl ⟨by rfl, ?_⟩) (by assumption) ?_
  rotate_left
  · (intro w hSw; (try dsimp only at hSw); go_simp; try with_reducible rfl)
  try simp only [Act.put, List.setIfInBounds_toArray, List.set_cons_zero, List.set_cons_succ]
  refine wpAnyH_take (i := 14) (oi := ⟨some 89, _, _, _, _, _⟩) (v := ?_) rfl (by kernel_rfl) (by kernel_rfl) (by kernel_rfl) (fun _ _ _ h => h) (Or.inl ⟨by rfl, ?_⟩) (by assumption) ?_
  rotate_left
  · (intro w hSw; (try dsimp only at hSw); go_simp; try with_reducible rfl)
  try simp only [Act.put, List.setIfInBounds_toArray, List.set_cons_zero, List.set_cons_succ]
  refine wpAnyH_take (i := 15) (oi := ⟨some 90, _, _, _, _, _⟩) (v := ?_) rfl (by kernel_rfl) (by kernel_rfl) (by kernel_rfl) (fun _ _ _ h => h) (Or.inl ⟨by rfl, ?_⟩) (by assumption) ?_
  rotate_left
  · (intro w hSw; (try dsimp only at hSw); go_simp; try with_reducible rfl)
  try simp only [Act.put, List.setIfInBounds_toArray, List.set_cons_zero, List.set_cons_succ]
  refine wpAnyH_take (i := 16) (oi := ⟨some 91, _, _, _, _, _⟩) (v := ?_) rfl (by kernel_rfl) (by kernel_rfl) (by kernel_rfl) (fun _ _ _ h => h) (Or.inl ⟨by rfl, ?_⟩) (by assumption) ?_
  rotate_left
  · (intro w hSw; (try dsimp only at hSw); go_simp; try with_reducible rfl)
  try simp only [Act.put, List.setIfInBounds_toArray, List.set_cons_zero, List.set_cons_succ]
  refine wpAnyH_take (i := 17) (oi := ⟨some 92, _, _, _, _, _⟩) (v := ?_) rfl (by kernel_rfl) (by kernel_rfl) (by kernel_rfl) (fun _ _ _ h => h) (Or.inl ⟨by rfl, ?_⟩) (by assumption) ?_
  rotate_left
  · (intro w hSw; (try dsimp only at hSw); go_simp; try with_reducible rfl)
  try simp only [Act.put, List.setIfInBounds_toArray, List.set_cons_zero, List.set_cons_succ]
  refine wpAnyH_take (i := 18) (oi := ⟨some 93, _, _, _, _, _⟩) (v := ?_) rfl (by kernel_rfl) (by kernel_rfl) (by kernel_rfl) (fun _ _ _ h => h) (Or.inl ⟨by rfl, ?_⟩) (by assumption) ?_
  rotate_left
  · (intro w hSw; (try dsimp only at hSw); go_simp; try with_reducible rfl)
  try simp only [Act.put, List.setIfInBounds_toArray, List.set_cons_zero, List.set_cons_succ]
  refine wpAnyH_take (i := 19) (oi := ⟨some 94, _, _, _, _, _⟩) (v := ?_) rfl (by kernel_rfl) (by kernel_rfl) (by kernel_rfl) (fun _ _ _ h => h) (Or.inl ⟨by rfl, ?_⟩) (by assumption) ?_
  rotate_left
  · (intro w hSw; (try dsimp only at hSw); go_simp; try with_reducible rfl)
  try simp only [Act.put, List.setIfInBounds_toArray, List.set_cons_zero, List.set_cons_succ]
  refine wpAnyH_take (i := 20) (oi := ⟨some 95, _, _, _, _, _⟩) (v := ?_) rfl (by kernel_rfl) (by kernel_rfl) (by kernel_rfl) (fun _ _ _ h => h) (Or.inl ⟨by rfl, ?_⟩) (by assumption) ?_
  rotate_left
  · (intro w hSw; (try dsimp only at hSw); go_simp; try with_reducible rfl)
  try simp only [Act.put, List.setIfInBounds_toArray, List.set_cons_zero, List.set_cons_succ]
  refine wpAnyH_take (i := 21) (oi := ⟨some 96, _, _, _, _, _⟩) (v := ?_) rfl (by kernel_rfl) (by kernel_rfl) (by kernel_rfl) (fun _ _ _ h => h) (Or.inl ⟨by rfl, ?_⟩) (by assumption) ?_
  rotate_left
  · (intro w hSw; (try dsimp only at hSw); go_simp; try with_reducible rfl)
  try simp only [Act.put, List.setIfInBounds_toArray, List.set_cons_zero, List.set_cons_succ]
  refine wpAnyH_take (i := 22) (oi := ⟨some 97, _, _, _, _, _⟩) (v := ?_) rfl (by kernel_rfl) (by kernel_rfl) (by kernel_rfl) (fun _ _ _ h => h) (Or.inl ⟨by rfl, ?_⟩) (by assumption) ?_
  rotate_left
  · (intro w hSw; (try dsimp only at hSw); go_simp; try with_reducible rfl)
  try simp only [Act.put, List.setIfInBounds_toArray, List.set_cons_zero, List.set_cons_succ]
  refine wpAnyH_take (i := 23) (oi := ⟨some 98, _, _, _, _, _⟩) (v := ?_) rfl (by kernel_rfl) (by kernel_rfl) (by kernel_rfl) (fun _ _ _ h => h) (Or.inl ⟨by rfl, ?_⟩) (by assumption) ?_
  rotate_left
  · (intro w hSw; (try dsimp only at hSw); go_simp; try with_reducible rfl)
  try simp only [Act.put, List.setIfInBounds_toArray, List.set_cons_zero, List.set_cons_succ]
  refine wpAnyH_take (i := 24) (oi := ⟨some 99, _, _, _, _, _⟩) (v := ?_) rfl (by kernel_rfl) (by kernel_rfl) (by kernel_rfl) (fun _ _ _ h => h) (Or.inl ⟨by rfl, ?_⟩) (by assumption) ?_
  rotate_left
  · (intro w hSw; (try dsimp only at hSw); go_simp; try with_reducible rfl)
  try simp only [Act.put, List.setIfInBounds_toArray, List.set_cons_zero, List.set_cons_succ]
  refine wpAnyH_take (i := 25) (oi := ⟨some 100, _, _, _, _, _⟩) (v := ?_) rfl (by kernel_rfl) (by kernel_rfl) (by kernel_rfl) (fun _ _ _ h => h) (Or.inl ⟨by rfl, ?_⟩) (by assumption) ?_
  rotate_left
  · (intro w hSw; (try dsimp only at hSw); go_simp; try with_reducible rfl)
  try simp only [Act.put, List.setIfInBounds_toArray, List.set_cons_zero, List.set_cons_succ]
  refine wpAnyH_take (i := 26) (oi := ⟨some 101, _, _, _, _, _⟩) (v := ?_) rfl (by kernel_rfl) (by kernel_rfl) (by kernel_rfl) (fun _ _ _ h => h) (Or.inl ⟨by rfl, ?_⟩) (by assumption) ?_
  rotate_left
  · (intro w hSw; (try dsimp only at hSw); go_simp; try with_reducible rfl)
  try simp only [Act.put, List.setIfInBounds_toArray, List.set_cons_zero, List.set_cons_succ]
  refine wpAnyH_take (i := 27) (oi := ⟨some 102, _, _, _, _, _⟩) (v := ?_) rfl (by kernel_rfl) (by kernel_rfl) (by kernel_rfl) (fun _ _ _ h => h) (Or.inl ⟨by rfl, ?_⟩) (by assumption) ?_
  rotate_left
  · (intro w hSw; (try dsimp only at hSw); go_simp; try with_reducible rfl)
  try simp only [Act.put, List.setIfInBounds_toArray, List.set_cons_zero, List.set_cons_succ]
  refine wpAnyH_take (i := 28) (oi := ⟨some 103, _, _, _, _, _⟩) (v := ?_) rfl (by kernel_rfl) (by kernel_rfl) (by kernel_rfl) (fun _ _ _ h => h) (Or.inl ⟨by rfl, ?_⟩) (by assumption) ?_
  rotate_left
  · (intro w hSw; (try dsimp only at hSw); go_simp; try with_reducible rfl)
  try simp only [Act.put, List.setIfInBounds_toArray, List.set_cons_zero, List.set_cons_succ]
  refine wpAnyH_take (i := 29) (oi := ⟨some 104, _, _, _, _, _⟩) (v := ?_) rfl (by kernel_rfl) (by kernel_rfl) (by kernel_rfl) (fun _ _ _ h => h) (Or.inl ⟨by rfl, ?_⟩) (by assumption) ?_
  rotate_left
  · (intro w hSw; (try dsimp only at hSw); go_simp; try with_reducible rfl)
  try simp only [Act.put, List.setIfInBounds_toArray, List.set_cons_zero, List.set_cons_succ]
  refine wpAnyH_take (i := 30) (oi := ⟨some 105, _, _, _, _, _⟩) (v := ?_) rfl (by kernel_rfl) (by kernel_rfl) (by kernel_rfl) (fun _ _ _ h => h) (Or.inl ⟨by rfl, ?_⟩) (by assumption) ?_
  rotate_left
  · (intro w hSw; (try dsimp only at hSw); go_simp; try with_reducible rfl)
  try simp only [Act.put, List.setIfInBounds_toArray, List.set_cons_zero, List.set_cons_succ]
  refine wpAnyH_take (i := 31) (oi := ⟨some 106, _, _, _, _, _⟩) (v := ?_) rfl (by kernel_rfl) (by kernel_rfl) (by kernel_rfl) (fun _ _ _ h => h) (Or.inl ⟨by rfl, ?_⟩) (by assumption) ?_
  rotate_left
  · (intro w hSw; (try dsimp only at hSw); go_simp; try with_reducible rfl)
  try simp only [Act.put, List.setIfInBounds_toArray, List.set_cons_zero, List.set_cons_succ]
  refine wpAnyH_take (i := 32) (oi := ⟨some 107, _, _, _, _, _⟩) (v := ?_) rfl (by kernel_rfl) (by kernel_rfl) (by kernel_rfl) (fun _ _ _ h => h) (Or.inl ⟨by rfl, ?_⟩) (by assumption) ?_
  rotate_left
  · (intro w hSw; (try dsimp only at hSw); go_simp; try with_reducible rfl)
  try simp only [Act.put, List.setIfInBounds_toArray, List.set_cons_zero, List.set_cons_succ]
  refine wpAnyH_take (i := 33) (oi := ⟨some 108, _, _, _, _, _⟩) (v := ?_) rfl (by kernel_rfl) (by kernel_rfl) (by kernel_rfl) (fun _ _ _ h => h) (Or.inl ⟨by rfl, ?_⟩) (by assumption) ?_
  rotate_left
  · (intro w hSw; (try dsimp only at hSw); go_simp; try with_reducible rfl)
  try simp only [Act.put, List.setIfInBounds_toArray, List.set_cons_zero, List.set_cons_succ]
  refine wpAnyH_take (i := 34) (oi := ⟨some 109, _, _, _, _, _⟩) (v := ?_) rfl (by kernel_rfl) (by kernel_rfl) (by kernel_rfl) (fun _ _ _ h => h) (Or.inl ⟨by rfl, ?_⟩) (by assumption) ?_
  rotate_left
  · (intro w hSw; (try dsimp only at hSw); go_simp; try with_reducible rfl)
  try simp only [Act.put, List.setIfInBounds_toArray, List.set_cons_zero, List.set_cons_succ]
  refine wpAnyH_take (i := 35) (oi := ⟨some 110, _, _, _, _, _⟩) (v := ?_) rfl (by kernel_rfl) (by kernel_rfl) (by kernel_rfl) (fun _ _ _ h => h) (Or.inl ⟨by rfl, ?_⟩) (by assumption) ?_
  rotate_left
  · (intro w hSw; (try dsimp only at hSw); go_simp; try with_reducible rfl)
  try simp only [Act.put, List.setIfInBounds_toArray, List.set_cons_zero, List.set_cons_succ]
  refine wpAnyH_take (i := 36) (oi := ⟨some 111, _, _, _, _, _⟩) (v := ?_) rfl (by kernel_rfl) (by kernel_rfl) (by kernel_rfl) (fun _ _ _ h => h) (Or.inl ⟨by rfl, ?_⟩) (by assumption) ?_
  rotate_left
  · (intro w hSw; (try dsimp only at hSw); go_simp; try with_reducible rfl)
  try simp only [Act.put, List.setIfInBounds_toArray, List.set_cons_zero, List.set_cons_succ]
  refine wpAnyH_take (i := 37) (oi := ⟨some 112, _, _, _, _, _⟩) (v := ?_) rfl (by kernel_rfl) (by kernel_rfl) (by kernel_rfl) (fun _ _ _ h => h) (Or.inl ⟨by rfl, ?_⟩) (by assumption) ?_
  rotate_left
  · (intro w hSw; (try dsimp only at hSw); go_simp; try with_reducible rfl)
  try simp only [Act.put, List.setIfInBounds_toArray, List.set_cons_zero, List.set_cons_succ]
  refine wpAnyH_take (i := 38) (oi := ⟨some 113, _, _, _, _, _⟩) (v := ?_) rfl (by kernel_rfl) (by kernel_rfl) (by kernel_rfl) (fun _ _ _ h => h) (Or.inl ⟨by rfl, ?_⟩) (by assumption) ?_
  rotate_left
  · (intro w hSw; (try dsimp only at hSw); go_simp; try with_reducible rfl)
  try simp only [Act.put, List.setIfInBounds_toArray, List.set_cons_zero, List.set_cons_succ]
  refine wpAnyH_take (i := 39) (oi := ⟨some 114, _, _, _, _, _⟩) (v := ?_) rfl (by kernel_rfl) (by kernel_rfl) (by kernel_rfl) (fun _ _ _ h => h) (Or.inl ⟨by rfl, ?_⟩) (by assumption) ?_
  rotate_left
  · (intro w hSw; (try dsimp only at hSw); go_simp; try with_reducible rfl)
  try simp only [Act.put, List.setIfInBounds_toArray, List.set_cons_zero, List.set_cons_succ]
  refine wpAnyH_take (i := 40) (oi := ⟨some 115, _, _, _, _, _⟩) (v := ?_) rfl (by kernel_rfl) (by kernel_rfl) (by kernel_rfl) (fun _ _ _ h => h) (Or.inl ⟨by rfl, ?_⟩) (by assumption) ?_
  rotate_left
  · (intro w hSw; (try dsimp only at hSw); go_simp; try with_reducible rfl)
  try simp only [Act.put, List.setIfInBounds_toArray, List.set_cons_zero, List.set_cons_succ]
  refine wpAnyH_take (i := 41) (oi := ⟨some 116, _, _, _, _, _⟩) (v := ?_) rfl (by kernel_rfl) (by kernel_rfl) (by kernel_rfl) (fun _ _ _ h => h) (Or.inl ⟨by rfl, ?_⟩) (by assumption) ?_
  rotate_left
  · (intro w hSw; (try dsimp only at hSw); go_simp; try with_reducible rfl)
  try simp only [Act.put, List.setIfInBounds_toArray, List.set_cons_zero, List.set_cons_succ]
  refine wpAnyH_take (i := 42) (oi := ⟨some 117, _, _, _, _, _⟩) (v := ?_) rfl (by kernel_rfl) (by kernel_rfl) (by kernel_rfl) (fun _ _ _ h => h) (Or.inl ⟨by rfl, ?_⟩) (by assumption) ?_
  rotate_left
  · (intro w hSw; (try dsimp only at hSw); go_simp; try with_reducible rfl)
  try simp only [Act.put, List.setIfInBounds_toArray, List.set_cons_zero, List.set_cons_succ]
  refine wpAnyH_take (i := 43) (oi := ⟨some 118, _, _, _, _, _⟩) (v := ?_) rfl (by kernel_rfl) (by kernel_rfl) (by kernel_rfl) (fun _ _ _ h => h) (Or.inl ⟨by rfl, ?_⟩) (by assumption) ?_
  rotate_left
  · (intro w hSw; (try dsimp only at hSw); go_simp; try with_reducible rfl)
  try simp only [Act.put, List.setIfInBounds_toArray, List.set_cons_zero, List.set_cons_succ]
  refine wpAnyH_take (i := 44) (oi := ⟨some 119, _, _, _, _, _⟩) (v := ?_) rfl (by kernel_rfl) (by kernel_rfl) (by kernel_rfl) (fun _ _ _ h => h) (Or.inl ⟨by rfl, ?_⟩) (by assumption) ?_
  rotate_left
  · (intro w hSw; (try dsimp only at hSw); go_simp; try with_reducible rfl)
  try simp only [Act.put, List.setIfInBounds_toArray, List.set_cons_zero, List.set_cons_succ]
  refine wpAnyH_take (i := 45) (oi := ⟨some 120, _, _, _, _, _⟩) (v := ?_) rfl (by kernel_rfl) (by kernel_rfl) (by kernel_rfl) (fun _ _ _ h => h) (Or.inl ⟨by rfl, ?_⟩) (by assumption) ?_
  rotate_left
  · (intro w hSw; (try dsimp only at hSw); go_simp; try with_reducible rfl)
  try simp only [Act.put, List.setIfInBounds_toArray, List.set_cons_zero, List.set_cons_succ]
  refine wpAnyH_take (i := 46) (oi := ⟨some 121, _, _, _, _, _⟩) (v := ?_) rfl (by kernel_rfl) (by kernel_rfl) (by kernel_rfl) (fun _ _ _ h => h) (Or.inl ⟨by rfl, ?_⟩) (by assumption) ?_
  rotate_left
  · (intro w hSw; (try dsimp only at hSw); go_simp; try with_reducible rfl)
  try simp only [Act.put, List.setIfInBounds_toArray, List.set_cons_zero, List.set_cons_succ]
  refine wpAnyH_take (i := 47) (oi := ⟨some 122, _, _, _, _, _⟩) (v := ?_) rfl (by kernel_rfl) (by kernel_rfl) (by kernel_rfl) (fun _ _ _ h => h) (Or.inl ⟨by rfl, ?_⟩) (by assumption) ?_
  rotate_left
  · (intro w hSw; (try dsimp only at hSw); go_simp; try with_reducible rfl)
  try simp only [Act.put, List.setIfInBounds_toArray, List.set_cons_zero, List.set_cons_succ]
  refine wpAnyH_take (i := 48) (oi := ⟨some 123, _, _, _, _, _⟩) (v := ?_) rfl (by kernel_rfl) (by kernel_rfl) (by kernel_rfl) (fun _ _ _ h => h) (Or.inl ⟨by rfl, ?_⟩) (by assumption) ?_
  rotate_left
  · (intro w hSw; (try dsimp only at hSw); go_simp; try with_reducible rfl)
  try simp only [Act.put, List.setIfInBounds_toArray, List.set_cons_zero, List.set_cons_succ]
  refine wpAnyH_take (i := 49) (oi := ⟨some 124, _, _, _, _, _⟩) (v := ?_) rfl (by kernel_rfl) (by kernel_rfl) (by kernel_rfl) (fun _ _ _ h => h) (Or.inl ⟨by rfl, ?_⟩) (by assumption) ?_
  rotate_left
  · (intro w hSw; (try dsimp only at hSw); go_simp; try with_reducible rfl)
  try simp only [Act.put, List.setIfInBounds_toArray, List.set_cons_zero, List.set_cons_succ]
  refine wpAnyH_take (i := 50) (oi := ⟨some 125, _, _, _, _, _⟩) (v := ?_) rfl (by kernel_rfl) (by kernel_rfl) (by kernel_rfl) (fun _ _ _ h => h) (Or.inl ⟨by rfl, ?_⟩) (by assumption) ?_
  rotate_left
  · (intro w hSw; (try dsimp only at hSw); go_simp; try with_reducible rfl)
  try simp only [Act.put, List.setIfInBounds_toArray, List.set_cons_zero, List.set_cons_succ]
  refine wpAnyH_take (i := 51) (oi := ⟨some 126, _, _, _, _, _⟩) (v := ?_) rfl (by kernel_rfl) (by kernel_rfl) (by kernel_rfl) (fun _ _ _ h => h) (Or.inl ⟨by rfl, ?_⟩) (by assumption) ?_
  rotate_left
  · (intro w hSw; (try dsimp only at hSw); go_simp; try with_reducible rfl)
  try simp only [Act.put, List.setIfInBounds_toArray, List.set_cons_zero, List.set_cons_succ]
  refine wpAnyH_done (by kernel_rfl) ?_ _
  clear g0 g1 g2 g3 g4 g5 g6 g7 n0 n1 n2 n4 m0 m1 m2 m4 hHeld
  have hE56 : Ext w5 w6 := Ext.trans_ (by repeat (first | exact Ext.refl _ | (refine Ext.drew_ ?_) | (refine Ext.drewN_ ?_ _))) HE56.out
  have HE6 := Lib.hid hE56
  have HB6 : Hid (Ext w w6) := HB5.out.trans_ hE56
  clear hE56
  go_upto_region 17 with (go_at_call 14; refine (graph_walk b o M S _ (HM.out.ext HB6.out) HGM.out HF.out).mono ?_; rintro e w7 ⟨rfl, hq⟩; have HE7 : Hid (Ext w5 w7) := HE6.out.trans_ hq; have HB7 : Hid (Ext w w7) := HB6.out.trans_ hq; clear hq)
  go_upto_region 18 with (go_at_call 14; refine (graph_walk b5 0 NN S5 _ (H5.out.ext HE7.out) HGN.out HFN.out).mono ?_; rintro e w8 ⟨he, hq⟩; rw [HGR.out] at he; subst he; have HE8 : Hid (Ext w5 w8) := HE7.out.trans_ hq; have HB8 : Hid (Ext w w8) := HB7.out.trans_ hq; clear hq)
  have u5 := (H5.out.ext HE8.out).top
  have u6 := (H5.out.ext HE8.out).oldTop
  have v6 := (HM.out.ext HB8.out).oldTop
  have l5 := (H5.out.ext HE8.out).lt
  have l6 := (HM.out.ext HB8.out).lt
  simp only [Nat.zero_add] at u5 u6
  by_cases hz : ten = 0
  · rw [HZ.out hz] at u5
    subst hz
    go_quiet (fail)
    go_wp2_with (first
      | (go_at_call 15; refine (weakOK_walk b o b5 0 M NN S S5 false _ (HM.out.ext (HB8.out.trans_ (by repeat (first | exact Ext.refl _ | (refine Ext.drew_ ?_) | (refine Ext.drewN_ ?_ _))))) (H5.out.ext (HE8.out.trans_ (by repeat (first | exact Ext.refl _ | (refine Ext.drew_ ?_) | (refine Ext.drewN_ ?_ _))))) HWO.out HGM.out HF.out HFN.out hnR (by rw [HQ6.out]; exact hnR) hnK).mono ?_; rintro e w9 ⟨rfl, hq⟩; have HE9 : Hid (Ext w5 w9) := Ext.trans_ (HE8.out.trans_ (by repeat (first | exact Ext.refl _ | (refine Ext.drew_ ?_) | (refine Ext.drewN_ ?_ _)))) hq; have HB9 : Hid (Ext w w9) := Ext.trans_ (HB8.out.trans_ (by repeat (first | exact Ext.refl _ | (refine Ext.drew_ ?_) | (refine Ext.drewN_ ?_ _)))) hq; clear hq)
      | (go_at_call 16; refine (idsOK_walk b o b5 0 M NN S S5 _ (HM.out.ext HB9.out) (H5.out.ext HE9.out) HIO.out HGM.out HF.out HFN.out hnR (by rw [HQ6.out]; exact hnR) hnI).mono ?_; rintro e w10 ⟨rfl, hq⟩; have HB10 : Hid (Ext w w10) := HB9.out.trans_ hq; clear hq))
    go_ret
    exact ⟨rfl, HB10.out⟩
  · have kz : (ten == 0) = false := by simpa using hz
    go_quiet (fail)
    go_wp2_with (first
      | (go_at_call 15; refine (weakOK_walk b o b5 0 M NN S S5 false _ (HM.out.ext (HB8.out.trans_ (by repeat (first | exact Ext.refl _ | (refine Ext.drew_ ?_) | (refine Ext.drewN_ ?_ _))))) (H5.out.ext (HE8.out.trans_ (by repeat (first | exact Ext.refl _ | (refine Ext.drew_ ?_) | (refine Ext.drewN_ ?_ _))))) HWO.out HGM.out HF.out HFN.out hnR (by rw [HQ6.out]; exact hnR) hnK).mono ?_; rintro e w9 ⟨rfl, hq⟩; have HE9 : Hid (Ext w5 w9) := Ext.trans_ (HE8.out.trans_ (by repeat (first | exact Ext.refl _ | (refine Ext.drew_ ?_) | (refine Ext.drewN_ ?_ _)))) hq; have HB9 : Hid (Ext w w9) := Ext.trans_ (HB8.out.trans_ (by repeat (first | exact Ext.refl _ | (refine Ext.drew_ ?_) | (refine Ext.drewN_ ?_ _)))) hq; clear hq)
      | (go_at_call 16; refine (idsOK_walk b o b5 0 M NN S S5 _ (HM.out.ext HB9.out) (H5.out.ext HE9.out) HIO.out HGM.out HF.out HFN.out hnR (by rw [HQ6.out]; exact hnR) hnI).mono ?_; rintro e w10 ⟨rfl, hq⟩; have HB10 : Hid (Ext w w10) := HB9.out.trans_ hq; clear hq))
    go_ret
    exact ⟨rfl, HB10.out⟩
theorem minorKeeps_any (b o : Nat) (M : Mem) (S : Sls) (ten : Int) (w : World) (hM : RMem w b o M S) (E : Nat → Addr) (h : ErrEnv E w) :
    Calls Tryz.prog 3 #[.pointer (some ⟨b, o, none⟩), .int .i64 ten] w fun e w' => e = .returned (.bool true) ∧ Ext w w' := by
  by_cases hn : Near M
  · by_cases hc : chk M = 0
    · by_cases t0 : ten < 0
      · exact minorKeeps_low b o M S ten hn w hM E h hc t0
      · by_cases t1 : 15 < ten
        · exact minorKeeps_high b o M S ten hn w hM E h hc t0 t1
        · by_cases hf : M.old - M.oldTop < M.top
          · exact minorKeeps_full b o M S ten hn w hM E h hc t0 t1 hf
          · exact minorKeeps_main b o M S ten hn w hM E h hc t0 t1 hf
    · refine minorKeeps_chk b o M S ten hn w hM E h _ rfl hc ?_ ?_
      · unfold chk at hc ⊢
        split <;> (try split) <;> simp_all
      · unfold chk
        split <;> (try split) <;> decide
  · exact minorKeeps_far b o M S ten w hM E h hn
end Go.Proofs.YtecbbbaafcoliaaGreatDoor
/- From the rows' lists to the seven errors and errors.errorType. -/
namespace Go.Proofs.YtecbbbaafcoliaaGreatDoor
open Go.ChangeShapes Go.WideShapes Go.ChangeAt Go.RowKit
set_option linter.unusedVariables false
set_option linter.unusedSimpArgs false

/-- The list that every law over error numbers bears. -/
def laid8 : List (String × DataW Unit) := [("errors.errorType", Rows.laid_errors_errorType), ("nurserypy/api.ErrText", Rows.laid_nurserypy_api_ErrText), ("nurserypy/api.ErrBound", Rows.laid_nurserypy_api_ErrBound), ("nurserypy/api.ErrShape", Rows.laid_nurserypy_api_ErrShape), ("nurserypy/api.ErrName", Rows.laid_nurserypy_api_ErrName), ("nurserypy/api.ErrPlace", Rows.laid_nurserypy_api_ErrPlace), ("nurserypy/api.ErrFull", Rows.laid_nurserypy_api_ErrFull), ("nurserypy/api.ErrNone", Rows.laid_nurserypy_api_ErrNone)]
theorem etypeG : Tryz.prog.globalNamed "errors.errorType" = some 7 := by kernel_rfl
theorem etypeR : (Tryz.prog.cutTypes.find? (·.1 == "internal/reflectlite.rtype")).map (·.2) = some 194 := by kernel_rfl
theorem typesSize : Tryz.prog.types.size = 258 := by kernel_rfl
theorem etypeRow : ((List.range 258).filter fun t => Tryz.prog.rowNamed t [101, 114, 114, 111, 114]) = [34] := by kernel_rfl
theorem etype_of_laid {W : World} (h : laidMetH Tryz.prog [("errors.errorType", Rows.laid_errors_errorType)] W) : GEType W := by
  have h' : laidMet Tryz.prog [] W ∧ handlesMet Tryz.prog [("errors.errorType", Rows.laid_errors_errorType)] W := h
  obtain ⟨name, u, ty, e1, e2, e3, e4, e5⟩ := h'.2 _ (List.mem_singleton.2 rfl)
  have en : name = [101, 114, 114, 111, 114] := (Option.some.inj e1).symm
  subst en
  obtain rfl := Option.some.inj (etypeR.symm.trans e2)
  have hm : ty ∈ (List.range 258).filter fun t => Tryz.prog.rowNamed t [101, 114, 114, 111, 114] := List.mem_filter.2 ⟨List.mem_range.2 (by rw [← typesSize]; exact e3), e4⟩
  rw [etypeRow] at hm
  obtain rfl := List.mem_singleton.1 hm
  have hh : typeHandle Tryz.prog 34 = .pointer (some ⟨12, 34, none⟩) := by kernel_rfl
  rw [hh] at e5
  simpa using World.var?_cell etypeG e5 0

theorem gText_ : Tryz.prog.globalNamed "nurserypy/api.ErrText" = some 4 := by kernel_rfl
theorem gTextt_ : (Tryz.prog.globals[4]?).map (·.type) = some 34 := by kernel_rfl
theorem gName_ : Tryz.prog.globalNamed "nurserypy/api.ErrName" = some 5 := by kernel_rfl
theorem gNamet_ : (Tryz.prog.globals[5]?).map (·.type) = some 34 := by kernel_rfl
theorem gNone_ : Tryz.prog.globalNamed "nurserypy/api.ErrNone" = some 6 := by kernel_rfl
theorem gNonet_ : (Tryz.prog.globals[6]?).map (·.type) = some 34 := by kernel_rfl
set_option maxRecDepth 100000 in
theorem env_of_laid {W : World} (h : laidMetH Tryz.prog laid8 W) : ∃ E, ErrEnv E W := by
  obtain ⟨a0, _, c0, _⟩ := one_of_laid (W := W) (n := "nurserypy/api.ErrText") (text := _) gText_ gTextt_ (h.filter fun x => x.1 == "nurserypy/api.ErrText")
  obtain ⟨a1, _, c1, _⟩ := one_of_laid (W := W) (n := "nurserypy/api.ErrBound") (text := _) gB gBt (h.filter fun x => x.1 == "nurserypy/api.ErrBound")
  obtain ⟨a2, _, c2, _⟩ := one_of_laid (W := W) (n := "nurserypy/api.ErrShape") (text := _) gS gSt (h.filter fun x => x.1 == "nurserypy/api.ErrShape")
  obtain ⟨a3, _, c3, _⟩ := one_of_laid (W := W) (n := "nurserypy/api.ErrName") (text := _) gName_ gNamet_ (h.filter fun x => x.1 == "nurserypy/api.ErrName")
  obtain ⟨a4, _, c4, _⟩ := one_of_laid (W := W) (n := "nurserypy/api.ErrPlace") (text := _) gP gPt (h.filter fun x => x.1 == "nurserypy/api.ErrPlace")
  obtain ⟨a5, _, c5, _⟩ := one_of_laid (W := W) (n := "nurserypy/api.ErrFull") (text := _) gF gFt (h.filter fun x => x.1 == "nurserypy/api.ErrFull")
  obtain ⟨a6, _, c6, _⟩ := one_of_laid (W := W) (n := "nurserypy/api.ErrNone") (text := _) gNone_ gNonet_ (h.filter fun x => x.1 == "nurserypy/api.ErrNone")
  have n01 : a0 ≠ a1 := two_of_laid (n := "nurserypy/api.ErrText") (m := "nurserypy/api.ErrBound") (tn := _) (tm := _) gText_ gTextt_ gB gBt (h.filter fun x => x.1 == "nurserypy/api.ErrText" || x.1 == "nurserypy/api.ErrBound") c0 c1
  have n02 : a0 ≠ a2 := two_of_laid (n := "nurserypy/api.ErrText") (m := "nurserypy/api.ErrShape") (tn := _) (tm := _) gText_ gTextt_ gS gSt (h.filter fun x => x.1 == "nurserypy/api.ErrText" || x.1 == "nurserypy/api.ErrShape") c0 c2
  have n03 : a0 ≠ a3 := two_of_laid (n := "nurserypy/api.ErrText") (m := "nurserypy/api.ErrName") (tn := _) (tm := _) gText_ gTextt_ gName_ gNamet_ (h.filter fun x => x.1 == "nurserypy/api.ErrText" || x.1 == "nurserypy/api.ErrName") c0 c3
  have n04 : a0 ≠ a4 := two_of_laid (n := "nurserypy/api.ErrText") (m := "nurserypy/api.ErrPlace") (tn := _) (tm := _) gText_ gTextt_ gP gPt (h.filter fun x => x.1 == "nurserypy/api.ErrText" || x.1 == "nurserypy/api.ErrPlace") c0 c4
  have n05 : a0 ≠ a5 := two_of_laid (n := "nurserypy/api.ErrText") (m := "nurserypy/api.ErrFull") (tn := _) (tm := _) gText_ gTextt_ gF gFt (h.filter fun x => x.1 == "nurserypy/api.ErrText" || x.1 == "nurserypy/api.ErrFull") c0 c5
  have n06 : a0 ≠ a6 := two_of_laid (n := "nurserypy/api.ErrText") (m := "nurserypy/api.ErrNone") (tn := _) (tm := _) gText_ gTextt_ gNone_ gNonet_ (h.filter fun x => x.1 == "nurserypy/api.ErrText" || x.1 == "nurserypy/api.ErrNone") c0 c6
  have n12 : a1 ≠ a2 := two_of_laid (n := "nurserypy/api.ErrBound") (m := "nurserypy/api.ErrShape") (tn := _) (tm := _) gB gBt gS gSt (h.filter fun x => x.1 == "nurserypy/api.ErrBound" || x.1 == "nurserypy/api.ErrShape") c1 c2
  have n13 : a1 ≠ a3 := two_of_laid (n := "nurserypy/api.ErrBound") (m := "nurserypy/api.ErrName") (tn := _) (tm := _) gB gBt gName_ gNamet_ (h.filter fun x => x.1 == "nurserypy/api.ErrBound" || x.1 == "nurserypy/api.ErrName") c1 c3
  have n14 : a1 ≠ a4 := two_of_laid (n := "nurserypy/api.ErrBound") (m := "nurserypy/api.ErrPlace") (tn := _) (tm := _) gB gBt gP gPt (h.filter fun x => x.1 == "nurserypy/api.ErrBound" || x.1 == "nurserypy/api.ErrPlace") c1 c4
  have n15 : a1 ≠ a5 := two_of_laid (n := "nurserypy/api.ErrBound") (m := "nurserypy/api.ErrFull") (tn := _) (tm := _) gB gBt gF gFt (h.filter fun x => x.1 == "nurserypy/api.ErrBound" || x.1 == "nurserypy/api.ErrFull") c1 c5
  have n16 : a1 ≠ a6 := two_of_laid (n := "nurserypy/api.ErrBound") (m := "nurserypy/api.ErrNone") (tn := _) (tm := _) gB gBt gNone_ gNonet_ (h.filter fun x => x.1 == "nurserypy/api.ErrBound" || x.1 == "nurserypy/api.ErrNone") c1 c6
  have n23 : a2 ≠ a3 := two_of_laid (n := "nurserypy/api.ErrShape") (m := "nurserypy/api.ErrName") (tn := _) (tm := _) gS gSt gName_ gNamet_ (h.filter fun x => x.1 == "nurserypy/api.ErrShape" || x.1 == "nurserypy/api.ErrName") c2 c3
  have n24 : a2 ≠ a4 := two_of_laid (n := "nurserypy/api.ErrShape") (m := "nurserypy/api.ErrPlace") (tn := _) (tm := _) gS gSt gP gPt (h.filter fun x => x.1 == "nurserypy/api.ErrShape" || x.1 == "nurserypy/api.ErrPlace") c2 c4
  have n25 : a2 ≠ a5 := two_of_laid (n := "nurserypy/api.ErrShape") (m := "nurserypy/api.ErrFull") (tn := _) (tm := _) gS gSt gF gFt (h.filter fun x => x.1 == "nurserypy/api.ErrShape" || x.1 == "nurserypy/api.ErrFull") c2 c5
  have n26 : a2 ≠ a6 := two_of_laid (n := "nurserypy/api.ErrShape") (m := "nurserypy/api.ErrNone") (tn := _) (tm := _) gS gSt gNone_ gNonet_ (h.filter fun x => x.1 == "nurserypy/api.ErrShape" || x.1 == "nurserypy/api.ErrNone") c2 c6
  have n34 : a3 ≠ a4 := two_of_laid (n := "nurserypy/api.ErrName") (m := "nurserypy/api.ErrPlace") (tn := _) (tm := _) gName_ gNamet_ gP gPt (h.filter fun x => x.1 == "nurserypy/api.ErrName" || x.1 == "nurserypy/api.ErrPlace") c3 c4
  have n35 : a3 ≠ a5 := two_of_laid (n := "nurserypy/api.ErrName") (m := "nurserypy/api.ErrFull") (tn := _) (tm := _) gName_ gNamet_ gF gFt (h.filter fun x => x.1 == "nurserypy/api.ErrName" || x.1 == "nurserypy/api.ErrFull") c3 c5
  have n36 : a3 ≠ a6 := two_of_laid (n := "nurserypy/api.ErrName") (m := "nurserypy/api.ErrNone") (tn := _) (tm := _) gName_ gNamet_ gNone_ gNonet_ (h.filter fun x => x.1 == "nurserypy/api.ErrName" || x.1 == "nurserypy/api.ErrNone") c3 c6
  have n45 : a4 ≠ a5 := two_of_laid (n := "nurserypy/api.ErrPlace") (m := "nurserypy/api.ErrFull") (tn := _) (tm := _) gP gPt gF gFt (h.filter fun x => x.1 == "nurserypy/api.ErrPlace" || x.1 == "nurserypy/api.ErrFull") c4 c5
  have n46 : a4 ≠ a6 := two_of_laid (n := "nurserypy/api.ErrPlace") (m := "nurserypy/api.ErrNone") (tn := _) (tm := _) gP gPt gNone_ gNonet_ (h.filter fun x => x.1 == "nurserypy/api.ErrPlace" || x.1 == "nurserypy/api.ErrNone") c4 c6
  have n56 : a5 ≠ a6 := two_of_laid (n := "nurserypy/api.ErrFull") (m := "nurserypy/api.ErrNone") (tn := _) (tm := _) gF gFt gNone_ gNonet_ (h.filter fun x => x.1 == "nurserypy/api.ErrFull" || x.1 == "nurserypy/api.ErrNone") c5 c6
  have b0 := blk_of_laid (W := W) (n := "nurserypy/api.ErrText") (text := _) gText_ gTextt_ (h.filter fun x => x.1 == "nurserypy/api.ErrText") c0
  have b1 := blk_of_laid (W := W) (n := "nurserypy/api.ErrBound") (text := _) gB gBt (h.filter fun x => x.1 == "nurserypy/api.ErrBound") c1
  have b2 := blk_of_laid (W := W) (n := "nurserypy/api.ErrShape") (text := _) gS gSt (h.filter fun x => x.1 == "nurserypy/api.ErrShape") c2
  have b3 := blk_of_laid (W := W) (n := "nurserypy/api.ErrName") (text := _) gName_ gNamet_ (h.filter fun x => x.1 == "nurserypy/api.ErrName") c3
  have b4 := blk_of_laid (W := W) (n := "nurserypy/api.ErrPlace") (text := _) gP gPt (h.filter fun x => x.1 == "nurserypy/api.ErrPlace") c4
  have b5 := blk_of_laid (W := W) (n := "nurserypy/api.ErrFull") (text := _) gF gFt (h.filter fun x => x.1 == "nurserypy/api.ErrFull") c5
  have b6 := blk_of_laid (W := W) (n := "nurserypy/api.ErrNone") (text := _) gNone_ gNonet_ (h.filter fun x => x.1 == "nurserypy/api.ErrNone") c6
  refine ⟨fun i => match i with | 0 => a0 | 1 => a1 | 2 => a2 | 3 => a3 | 4 => a4 | 5 => a5 | _ => a6, c0, c1, c2, c3, c4, c5, c6, etype_of_laid (h.filter fun x => x.1 == "errors.errorType"), ?_, ?_⟩
  · intro i hi
    match i, hi with
    | 0, _ => exact b0
    | 1, _ => exact b1
    | 2, _ => exact b2
    | 3, _ => exact b3
    | 4, _ => exact b4
    | 5, _ => exact b5
    | 6, _ => exact b6
  · intro i j hi hj hij
    match i, hi, j, hj, hij with
    | 0, _, 1, _, _ => exact n01
    | 0, _, 2, _, _ => exact n02
    | 0, _, 3, _, _ => exact n03
    | 0, _, 4, _, _ => exact n04
    | 0, _, 5, _, _ => exact n05
    | 0, _, 6, _, _ => exact n06
    | 1, _, 0, _, _ => exact n01.symm
    | 1, _, 2, _, _ => exact n12
    | 1, _, 3, _, _ => exact n13
    | 1, _, 4, _, _ => exact n14
    | 1, _, 5, _, _ => exact n15
    | 1, _, 6, _, _ => exact n16
    | 2, _, 0, _, _ => exact n02.symm
    | 2, _, 1, _, _ => exact n12.symm
    | 2, _, 3, _, _ => exact n23
    | 2, _, 4, _, _ => exact n24
    | 2, _, 5, _, _ => exact n25
    | 2, _, 6, _, _ => exact n26
    | 3, _, 0, _, _ => exact n03.symm
    | 3, _, 1, _, _ => exact n13.symm
    | 3, _, 2, _, _ => exact n23.symm
    | 3, _, 4, _, _ => exact n34
    | 3, _, 5, _, _ => exact n35
    | 3, _, 6, _, _ => exact n36
    | 4, _, 0, _, _ => exact n04.symm
    | 4, _, 1, _, _ => exact n14.symm
    | 4, _, 2, _, _ => exact n24.symm
    | 4, _, 3, _, _ => exact n34.symm
    | 4, _, 5, _, _ => exact n45
    | 4, _, 6, _, _ => exact n46
    | 5, _, 0, _, _ => exact n05.symm
    | 5, _, 1, _, _ => exact n15.symm
    | 5, _, 2, _, _ => exact n25.symm
    | 5, _, 3, _, _ => exact n35.symm
    | 5, _, 4, _, _ => exact n45.symm
    | 5, _, 6, _, _ => exact n56
    | 6, _, 0, _, _ => exact n06.symm
    | 6, _, 1, _, _ => exact n16.symm
    | 6, _, 2, _, _ => exact n26.symm
    | 6, _, 3, _, _ => exact n36.symm
    | 6, _, 4, _, _ => exact n46.symm
    | 6, _, 5, _, _ => exact n56.symm
    | 0, _, 0, _, hij => exact absurd rfl hij
    | 1, _, 1, _, hij => exact absurd rfl hij
    | 2, _, 2, _, hij => exact absurd rfl hij
    | 3, _, 3, _, hij => exact absurd rfl hij
    | 4, _, 4, _, hij => exact absurd rfl hij
    | 5, _, 5, _, hij => exact absurd rfl hij
    | 6, _, 6, _, hij => exact absurd rfl hij
end Go.Proofs.YtecbbbaafcoliaaGreatDoor
/- The law MinorKeeps: its contract: whatever it is given it answers true, and leaves what was there. -/
namespace Go.Proofs.YtecbbbaafcoliaaGreatDoor.MinorKeeps
open Go.ChangeShapes Go.WideShapes Go.ChangeAt Go.RowKit
open Go.ChangeMaps (open_string)
set_option linter.unusedVariables false
set_option linter.unusedSimpArgs false

set_option maxRecDepth 100000 in
theorem contract (H : Type) (enc : TypeId × Value → H) (W : World) (base : Nat) (args : Array Value) (ds gs : List (DataW H)) (before : List MemPlace)
    (hval : ∀ (j : Nat) t v, Tryz.f3.params[j]? = some t → args[j]? = some v → Value.okWide Tryz.prog W .any base t v)
    (hW : DataW.Whole enc Tryz.prog Tryz.f3.params.toList Rows.minorKeepsSpec.vars false W args.toList ds gs before)
    (hsz : (DataW.weightsEach Tryz.prog (Tryz.f3.params.toList ++ (OpenSpec.ofChange Rows.minorKeepsSpec).bare.plain.varTypes Tryz.prog) (ds ++ gs)).all (· ≤ reachBytes) = true) (hL : laidMetH Tryz.prog Rows.minorKeepsRow.laid W) :
    Calls Tryz.prog 3 args W fun e W' => ∃ v, e = .returned v ∧ Rows.minorKeepsSpec.post enc Tryz.prog Tryz.f3 false true false false W args v W' := by
  have hW' := hW
  obtain ⟨p, q, hA0, hV, rfl, hfz, hnd⟩ := hW
  have hA : DataW.TrodAll enc Tryz.prog W 0 (fun _ => true) true Tryz.f3.params.toList args.toList ds p := hA0
  rw [Tryz.params3] at hA hval
  obtain ⟨v0, vs0, d0, ds0, p0, q0, hargs, rfl, rfl, h0, r0⟩ := trodAll_cons hA
  obtain ⟨v1, vs1, d1, ds1, p1, q1, rfl, rfl, rfl, h1, r1⟩ := trodAll_cons r0
  obtain ⟨rfl, rfl, rfl⟩ := trodAll_nil r1
  obtain rfl : args = #[v0, v1] := by cases args; simp_all
  obtain ⟨rfl, rfl⟩ := trodVars_none hV
  obtain ⟨x1, rfl, rfl, rfl, w1⟩ := open_int Tryz.underlying3 (hval 1 3 v1 rfl rfl) h1
  obtain ⟨E, hE⟩ := env_of_laid (W := W) (hL.filter fun x => laid8.any (·.1 == x.1))
  clear hA0
  obtain ⟨fuel0, hh0⟩ := id h0
  obtain ⟨pa0, rfl⟩ := okWide_pointer Tryz.underlying22 (hval 0 22 v0 rfl rfl)
  rcases read_mem hh0 with e0 | ⟨b0, o0, M0, S0, e0, hM0⟩
  · obtain rfl := Value.pointer.inj (List.singleton_inj.1 e0)
    refine (minorKeeps_nil x1 W  E hE ).mono fun e W' ⟨he, hg⟩ => ?_
    subst he
    exact ⟨_, rfl, law_post rfl rfl hW' (by simp [Rows.minorKeepsSpec]) (by decide +kernel) hg⟩
  · obtain rfl := Value.pointer.inj (List.singleton_inj.1 e0)
    refine (minorKeeps_any b0 o0 M0 S0 x1 W  hM0 E hE ).mono fun e W' ⟨he, hg⟩ => ?_
    subst he
    exact ⟨_, rfl, law_post rfl rfl hW' (by simp [Rows.minorKeepsSpec]) (by decide +kernel) hg⟩
end Go.Proofs.YtecbbbaafcoliaaGreatDoor.MinorKeeps
