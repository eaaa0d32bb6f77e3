/- The law WordAddrs: its walks. -/
import Derived.Test.YtpbfhkkecbnieaaDoorRefWordB
import Derived.Test.YtpbfhkkecbnieaaDoorWord4
import Derived.Test.YtpbfhkkecbnieaaDoorLaidEnv
namespace Go.Proofs.YtpbfhkkecbnieaaDoor
open Go.ChangeShapes Go.WideShapes Go.ChangeAt Go.RowKit
set_option linter.unusedVariables false
set_option linter.unusedSimpArgs false


set_option maxHeartbeats 4000000 in
set_option maxRecDepth 100000 in
theorem addrs_nk (n a : Int) (w : World) (E : Nat → Addr) (h : ErrEnv E w) (h0 : 0 ≤ a) (h1 : a ≤ 18446744073709551615) (c1 : n < 0) (d1 : (a % 4 != 0) = true) :
    Calls Tryd.prog 9 #[.int .i64 n, .int .u64 a] w fun e w' => e = .returned (.bool true) ∧ Ext w w' := by
  have F1 := Lib.hid (show ¬ (0 ≤ n ∧ n ≤ 1099511627776) by omega)
  have F2 := Lib.hid (show ¬ (0 ≤ n ∧ n ≤ 2) by omega)
  have F3 := Lib.hid (show ¬ (kindW a = 0 ∧ 0 < a ∧ a / 4 ≤ 1099511627777) by simp [kindW] at *; omega)
  have H := Lib.hid h
  clear h
  have hb := Ext.refl w
  go_enter Tryd.func9, Tryd.ntmps9
  go_wp2_with (first
    | (go_at_call 20; refine (five_any _).mono ?_; rintro e w' ⟨rfl, rfl⟩)
    | (go_at_call 22; refine (ofAddr_no _ F1.out _ _ (H.out.ext hb).bound).mono ?_; rintro e wn ⟨rfl, hq⟩; replace hb := hb.trans_ hq; clear hq; (try clear hc hf hz); obtain ⟨hc, hf, hz⟩ := hb.three)
    | (go_at_call 50; refine (ofConst_no _ F2.out _ _ (H.out.ext hb).bound).mono ?_; rintro e wn ⟨rfl, hq⟩; replace hb := hb.trans_ hq; clear hq; (try clear hc hf hz); obtain ⟨hc, hf, hz⟩ := hb.three)
    | (go_at_call 25; refine (toAddr_no _ (by omega) (by omega) F3.out _ _ (H.out.ext hb).shape).mono ?_; rintro e wn ⟨rfl, hq⟩; replace hb := hb.trans_ hq; clear hq; (try clear hc hf hz); obtain ⟨hc, hf, hz⟩ := hb.three)
    | (go_at_call 37; refine (kAddrWord_any _ _).mono ?_; rintro e w' ⟨rfl, rfl⟩)
    | (go_at_call 51; refine (kConstWord_any _ _).mono ?_; rintro e w' ⟨rfl, rfl⟩)
    | (go_at_call 43; refine (coded_env (H.out.ext hb) _ (by omega) _).mono ?_; rintro e wn ⟨rfl, hq⟩; replace hb := hb.trans_ hq; clear hq; (try clear hc hf hz); obtain ⟨hc, hf, hz⟩ := hb.three))
  go_ret
  exact ⟨rfl, hb⟩

set_option maxHeartbeats 4000000 in
set_option maxRecDepth 100000 in
theorem addrs_nz (n : Int) (w : World) (E : Nat → Addr) (h : ErrEnv E w) (c1 : n < 0)  :
    Calls Tryd.prog 9 #[.int .i64 n, .int .u64 0] w fun e w' => e = .returned (.bool true) ∧ Ext w w' := by
  have F1 := Lib.hid (show ¬ (0 ≤ n ∧ n ≤ 1099511627776) by omega)
  have F2 := Lib.hid (show ¬ (0 ≤ n ∧ n ≤ 2) by omega)
  have F3 := Lib.hid (show ¬ (kindW 0 = 0 ∧ (0 : Int) < 0 ∧ (0 : Int) / 4 ≤ 1099511627777) by simp)
  have H := Lib.hid h
  clear h
  have hb := Ext.refl w
  go_enter Tryd.func9, Tryd.ntmps9
  go_wp2_with (first
    | (go_at_call 20; refine (five_any _).mono ?_; rintro e w' ⟨rfl, rfl⟩)
    | (go_at_call 22; refine (ofAddr_no _ F1.out _ _ (H.out.ext hb).bound).mono ?_; rintro e wn ⟨rfl, hq⟩; replace hb := hb.trans_ hq; clear hq; (try clear hc hf hz); obtain ⟨hc, hf, hz⟩ := hb.three)
    | (go_at_call 50; refine (ofConst_no _ F2.out _ _ (H.out.ext hb).bound).mono ?_; rintro e wn ⟨rfl, hq⟩; replace hb := hb.trans_ hq; clear hq; (try clear hc hf hz); obtain ⟨hc, hf, hz⟩ := hb.three)
    | (go_at_call 25; refine (toAddr_no _ (by omega) (by omega) F3.out _ _ (H.out.ext hb).shape).mono ?_; rintro e wn ⟨rfl, hq⟩; replace hb := hb.trans_ hq; clear hq; (try clear hc hf hz); obtain ⟨hc, hf, hz⟩ := hb.three)
    | (go_at_call 37; refine (kAddrWord_any _ _).mono ?_; rintro e w' ⟨rfl, rfl⟩)
    | (go_at_call 51; refine (kConstWord_any _ _).mono ?_; rintro e w' ⟨rfl, rfl⟩)
    | (go_at_call 43; refine (coded_env (H.out.ext hb) _ (by omega) _).mono ?_; rintro e wn ⟨rfl, hq⟩; replace hb := hb.trans_ hq; clear hq; (try clear hc hf hz); obtain ⟨hc, hf, hz⟩ := hb.three))
  go_ret
  exact ⟨rfl, hb⟩

set_option maxHeartbeats 4000000 in
set_option maxRecDepth 100000 in
theorem addrs_ny (n a : Int) (w : World) (E : Nat → Addr) (h : ErrEnv E w) (h0 : 0 ≤ a) (h1 : a ≤ 18446744073709551615) (c1 : n < 0) (d1 : (a % 4 != 0) = false) (d2 : 0 < a) (d3 : a / 4 ≤ 1099511627777) :
    Calls Tryd.prog 9 #[.int .i64 n, .int .u64 a] w fun e w' => e = .returned (.bool true) ∧ Ext w w' := by
  have F1 := Lib.hid (show ¬ (0 ≤ n ∧ n ≤ 1099511627776) by omega)
  have F2 := Lib.hid (show ¬ (0 ≤ n ∧ n ≤ 2) by omega)
  have F3 := Lib.hid (show kindW a = 0 by simpa [kindW] using d1)
  have d4 : (a == 0) = false := by rw [beq_eq_false_iff_ne]; omega
  have d6 : 1 ≤ a / 4 := by have := bne_eq_false_iff_eq.1 d1; omega
  have d5 : (placeW a == a / 4 - 1) = true := by simp [placeW]
  have H := Lib.hid h
  clear h
  have hb := Ext.refl w
  go_enter Tryd.func9, Tryd.ntmps9
  go_wp2_with (first
    | (go_at_call 20; refine (five_any _).mono ?_; rintro e w' ⟨rfl, rfl⟩)
    | (go_at_call 22; refine (ofAddr_no _ F1.out _ _ (H.out.ext hb).bound).mono ?_; rintro e wn ⟨rfl, hq⟩; replace hb := hb.trans_ hq; clear hq; (try clear hc hf hz); obtain ⟨hc, hf, hz⟩ := hb.three)
    | (go_at_call 50; refine (ofConst_no _ F2.out _ _ (H.out.ext hb).bound).mono ?_; rintro e wn ⟨rfl, hq⟩; replace hb := hb.trans_ hq; clear hq; (try clear hc hf hz); obtain ⟨hc, hf, hz⟩ := hb.three)
    | (go_at_call 25; refine (toAddr_yes _ h0 h1 F3.out d2 d3 _).mono ?_; rintro e w' ⟨rfl, rfl⟩)
    | (go_at_call 37; refine (kAddrWord_any _ _).mono ?_; rintro e w' ⟨rfl, rfl⟩)
    | (go_at_call 51; refine (kConstWord_any _ _).mono ?_; rintro e w' ⟨rfl, rfl⟩)
    | (go_at_call 43; refine (coded_env (H.out.ext hb) _ (by omega) _).mono ?_; rintro e wn ⟨rfl, hq⟩; replace hb := hb.trans_ hq; clear hq; (try clear hc hf hz); obtain ⟨hc, hf, hz⟩ := hb.three))
  go_ret
  exact ⟨rfl, hb⟩

set_option maxHeartbeats 4000000 in
set_option maxRecDepth 100000 in
theorem addrs_ng (n a : Int) (w : World) (E : Nat → Addr) (h : ErrEnv E w) (h0 : 0 ≤ a) (h1 : a ≤ 18446744073709551615) (c1 : n < 0) (d1 : (a % 4 != 0) = false) (d2 : 0 < a) (d3 : 1099511627777 < a / 4) :
    Calls Tryd.prog 9 #[.int .i64 n, .int .u64 a] w fun e w' => e = .returned (.bool true) ∧ Ext w w' := by
  have F1 := Lib.hid (show ¬ (0 ≤ n ∧ n ≤ 1099511627776) by omega)
  have F2 := Lib.hid (show ¬ (0 ≤ n ∧ n ≤ 2) by omega)
  have F3 := Lib.hid (show ¬ (kindW a = 0 ∧ 0 < a ∧ a / 4 ≤ 1099511627777) by omega)
  have d4 : (a == 0) = false := by rw [beq_eq_false_iff_ne]; omega
  have d6 : 1 ≤ a / 4 := by have := bne_eq_false_iff_eq.1 d1; omega
  have H := Lib.hid h
  clear h
  have hb := Ext.refl w
  go_enter Tryd.func9, Tryd.ntmps9
  go_wp2_with (first
    | (go_at_call 20; refine (five_any _).mono ?_; rintro e w' ⟨rfl, rfl⟩)
    | (go_at_call 22; refine (ofAddr_no _ F1.out _ _ (H.out.ext hb).bound).mono ?_; rintro e wn ⟨rfl, hq⟩; replace hb := hb.trans_ hq; clear hq; (try clear hc hf hz); obtain ⟨hc, hf, hz⟩ := hb.three)
    | (go_at_call 50; refine (ofConst_no _ F2.out _ _ (H.out.ext hb).bound).mono ?_; rintro e wn ⟨rfl, hq⟩; replace hb := hb.trans_ hq; clear hq; (try clear hc hf hz); obtain ⟨hc, hf, hz⟩ := hb.three)
    | (go_at_call 25; refine (toAddr_no _ (by omega) (by omega) F3.out _ _ (H.out.ext hb).shape).mono ?_; rintro e wn ⟨rfl, hq⟩; replace hb := hb.trans_ hq; clear hq; (try clear hc hf hz); obtain ⟨hc, hf, hz⟩ := hb.three)
    | (go_at_call 37; refine (kAddrWord_any _ _).mono ?_; rintro e w' ⟨rfl, rfl⟩)
    | (go_at_call 51; refine (kConstWord_any _ _).mono ?_; rintro e w' ⟨rfl, rfl⟩)
    | (go_at_call 43; refine (coded_env (H.out.ext hb) _ (by omega) _).mono ?_; rintro e wn ⟨rfl, hq⟩; replace hb := hb.trans_ hq; clear hq; (try clear hc hf hz); obtain ⟨hc, hf, hz⟩ := hb.three))
  go_ret
  exact ⟨rfl, hb⟩

set_option maxHeartbeats 4000000 in
set_option maxRecDepth 100000 in
theorem addrs_ck (n a : Int) (w : World) (E : Nat → Addr) (h : ErrEnv E w) (h0 : 0 ≤ a) (h1 : a ≤ 18446744073709551615) (c1 : 0 ≤ n) (c2 : n ≤ 2) (d1 : (a % 4 != 0) = true) :
    Calls Tryd.prog 9 #[.int .i64 n, .int .u64 a] w fun e w' => e = .returned (.bool true) ∧ Ext w w' := by
  have F3 := Lib.hid (show ¬ (kindW a = 0 ∧ 0 < a ∧ a / 4 ≤ 1099511627777) by simp [kindW] at *; omega)
  have H := Lib.hid h
  clear h
  have hb := Ext.refl w
  go_enter Tryd.func9, Tryd.ntmps9
  go_wp2_with (first
    | (go_at_call 20; refine (five_any _).mono ?_; rintro e w' ⟨rfl, rfl⟩)
    | (go_at_call 22; refine (ofAddr_yes _ (by omega) _).mono ?_; rintro e w' ⟨rfl, rfl⟩)
    | (go_at_call 50; refine (ofConst_yes _ (by omega) _).mono ?_; rintro e w' ⟨rfl, rfl⟩)
    | (go_at_call 25; refine (toAddr_no _ (by omega) (by omega) F3.out _ _ (H.out.ext hb).shape).mono ?_; rintro e wn ⟨rfl, hq⟩; replace hb := hb.trans_ hq; clear hq; (try clear hc hf hz); obtain ⟨hc, hf, hz⟩ := hb.three)
    | (go_at_call 37; refine (kAddrWord_any _ _).mono ?_; rintro e w' ⟨rfl, rfl⟩)
    | (go_at_call 51; refine (kConstWord_any _ _).mono ?_; rintro e w' ⟨rfl, rfl⟩)
    | (go_at_call 43; refine (coded_env (H.out.ext hb) _ (by omega) _).mono ?_; rintro e wn ⟨rfl, hq⟩; replace hb := hb.trans_ hq; clear hq; (try clear hc hf hz); obtain ⟨hc, hf, hz⟩ := hb.three))
  go_ret
  exact ⟨rfl, hb⟩

set_option maxHeartbeats 4000000 in
set_option maxRecDepth 100000 in
theorem addrs_cz (n : Int) (w : World) (E : Nat → Addr) (h : ErrEnv E w) (c1 : 0 ≤ n) (c2 : n ≤ 2)  :
    Calls Tryd.prog 9 #[.int .i64 n, .int .u64 0] w fun e w' => e = .returned (.bool true) ∧ Ext w w' := by
  have F3 := Lib.hid (show ¬ (kindW 0 = 0 ∧ (0 : Int) < 0 ∧ (0 : Int) / 4 ≤ 1099511627777) by simp)
  have H := Lib.hid h
  clear h
  have hb := Ext.refl w
  go_enter Tryd.func9, Tryd.ntmps9
  go_wp2_with (first
    | (go_at_call 20; refine (five_any _).mono ?_; rintro e w' ⟨rfl, rfl⟩)
    | (go_at_call 22; refine (ofAddr_yes _ (by omega) _).mono ?_; rintro e w' ⟨rfl, rfl⟩)
    | (go_at_call 50; refine (ofConst_yes _ (by omega) _).mono ?_; rintro e w' ⟨rfl, rfl⟩)
    | (go_at_call 25; refine (toAddr_no _ (by omega) (by omega) F3.out _ _ (H.out.ext hb).shape).mono ?_; rintro e wn ⟨rfl, hq⟩; replace hb := hb.trans_ hq; clear hq; (try clear hc hf hz); obtain ⟨hc, hf, hz⟩ := hb.three)
    | (go_at_call 37; refine (kAddrWord_any _ _).mono ?_; rintro e w' ⟨rfl, rfl⟩)
    | (go_at_call 51; refine (kConstWord_any _ _).mono ?_; rintro e w' ⟨rfl, rfl⟩)
    | (go_at_call 43; refine (coded_env (H.out.ext hb) _ (by omega) _).mono ?_; rintro e wn ⟨rfl, hq⟩; replace hb := hb.trans_ hq; clear hq; (try clear hc hf hz); obtain ⟨hc, hf, hz⟩ := hb.three))
  go_ret
  exact ⟨rfl, hb⟩

set_option maxHeartbeats 4000000 in
set_option maxRecDepth 100000 in
theorem addrs_cy (n a : Int) (w : World) (E : Nat → Addr) (h : ErrEnv E w) (h0 : 0 ≤ a) (h1 : a ≤ 18446744073709551615) (c1 : 0 ≤ n) (c2 : n ≤ 2) (d1 : (a % 4 != 0) = false) (d2 : 0 < a) (d3 : a / 4 ≤ 1099511627777) :
    Calls Tryd.prog 9 #[.int .i64 n, .int .u64 a] w fun e w' => e = .returned (.bool true) ∧ Ext w w' := by
  have F3 := Lib.hid (show kindW a = 0 by simpa [kindW] using d1)
  have d4 : (a == 0) = false := by rw [beq_eq_false_iff_ne]; omega
  have d6 : 1 ≤ a / 4 := by have := bne_eq_false_iff_eq.1 d1; omega
  have d5 : (placeW a == a / 4 - 1) = true := by simp [placeW]
  have H := Lib.hid h
  clear h
  have hb := Ext.refl w
  go_enter Tryd.func9, Tryd.ntmps9
  go_wp2_with (first
    | (go_at_call 20; refine (five_any _).mono ?_; rintro e w' ⟨rfl, rfl⟩)
    | (go_at_call 22; refine (ofAddr_yes _ (by omega) _).mono ?_; rintro e w' ⟨rfl, rfl⟩)
    | (go_at_call 50; refine (ofConst_yes _ (by omega) _).mono ?_; rintro e w' ⟨rfl, rfl⟩)
    | (go_at_call 25; refine (toAddr_yes _ h0 h1 F3.out d2 d3 _).mono ?_; rintro e w' ⟨rfl, rfl⟩)
    | (go_at_call 37; refine (kAddrWord_any _ _).mono ?_; rintro e w' ⟨rfl, rfl⟩)
    | (go_at_call 51; refine (kConstWord_any _ _).mono ?_; rintro e w' ⟨rfl, rfl⟩)
    | (go_at_call 43; refine (coded_env (H.out.ext hb) _ (by omega) _).mono ?_; rintro e wn ⟨rfl, hq⟩; replace hb := hb.trans_ hq; clear hq; (try clear hc hf hz); obtain ⟨hc, hf, hz⟩ := hb.three))
  go_ret
  exact ⟨rfl, hb⟩

set_option maxHeartbeats 4000000 in
set_option maxRecDepth 100000 in
theorem addrs_cg (n a : Int) (w : World) (E : Nat → Addr) (h : ErrEnv E w) (h0 : 0 ≤ a) (h1 : a ≤ 18446744073709551615) (c1 : 0 ≤ n) (c2 : n ≤ 2) (d1 : (a % 4 != 0) = false) (d2 : 0 < a) (d3 : 1099511627777 < a / 4) :
    Calls Tryd.prog 9 #[.int .i64 n, .int .u64 a] w fun e w' => e = .returned (.bool true) ∧ Ext w w' := by
  have F3 := Lib.hid (show ¬ (kindW a = 0 ∧ 0 < a ∧ a / 4 ≤ 1099511627777) by omega)
  have d4 : (a == 0) = false := by rw [beq_eq_false_iff_ne]; omega
  have d6 : 1 ≤ a / 4 := by have := bne_eq_false_iff_eq.1 d1; omega
  have H := Lib.hid h
  clear h
  have hb := Ext.refl w
  go_enter Tryd.func9, Tryd.ntmps9
  go_wp2_with (first
    | (go_at_call 20; refine (five_any _).mono ?_; rintro e w' ⟨rfl, rfl⟩)
    | (go_at_call 22; refine (ofAddr_yes _ (by omega) _).mono ?_; rintro e w' ⟨rfl, rfl⟩)
    | (go_at_call 50; refine (ofConst_yes _ (by omega) _).mono ?_; rintro e w' ⟨rfl, rfl⟩)
    | (go_at_call 25; refine (toAddr_no _ (by omega) (by omega) F3.out _ _ (H.out.ext hb).shape).mono ?_; rintro e wn ⟨rfl, hq⟩; replace hb := hb.trans_ hq; clear hq; (try clear hc hf hz); obtain ⟨hc, hf, hz⟩ := hb.three)
    | (go_at_call 37; refine (kAddrWord_any _ _).mono ?_; rintro e w' ⟨rfl, rfl⟩)
    | (go_at_call 51; refine (kConstWord_any _ _).mono ?_; rintro e w' ⟨rfl, rfl⟩)
    | (go_at_call 43; refine (coded_env (H.out.ext hb) _ (by omega) _).mono ?_; rintro e wn ⟨rfl, hq⟩; replace hb := hb.trans_ hq; clear hq; (try clear hc hf hz); obtain ⟨hc, hf, hz⟩ := hb.three))
  go_ret
  exact ⟨rfl, hb⟩

set_option maxHeartbeats 4000000 in
set_option maxRecDepth 100000 in
theorem addrs_mk (n a : Int) (w : World) (E : Nat → Addr) (h : ErrEnv E w) (h0 : 0 ≤ a) (h1 : a ≤ 18446744073709551615) (c1 : 2 < n) (c2 : n ≤ 1099511627776) (d1 : (a % 4 != 0) = true) :
    Calls Tryd.prog 9 #[.int .i64 n, .int .u64 a] w fun e w' => e = .returned (.bool true) ∧ Ext w w' := by
  have F2 := Lib.hid (show ¬ (0 ≤ n ∧ n ≤ 2) by omega)
  have F3 := Lib.hid (show ¬ (kindW a = 0 ∧ 0 < a ∧ a / 4 ≤ 1099511627777) by simp [kindW] at *; omega)
  have H := Lib.hid h
  clear h
  have hb := Ext.refl w
  go_enter Tryd.func9, Tryd.ntmps9
  go_wp2_with (first
    | (go_at_call 20; refine (five_any _).mono ?_; rintro e w' ⟨rfl, rfl⟩)
    | (go_at_call 22; refine (ofAddr_yes _ (by omega) _).mono ?_; rintro e w' ⟨rfl, rfl⟩)
    | (go_at_call 50; refine (ofConst_no _ F2.out _ _ (H.out.ext hb).bound).mono ?_; rintro e wn ⟨rfl, hq⟩; replace hb := hb.trans_ hq; clear hq; (try clear hc hf hz); obtain ⟨hc, hf, hz⟩ := hb.three)
    | (go_at_call 25; refine (toAddr_no _ (by omega) (by omega) F3.out _ _ (H.out.ext hb).shape).mono ?_; rintro e wn ⟨rfl, hq⟩; replace hb := hb.trans_ hq; clear hq; (try clear hc hf hz); obtain ⟨hc, hf, hz⟩ := hb.three)
    | (go_at_call 37; refine (kAddrWord_any _ _).mono ?_; rintro e w' ⟨rfl, rfl⟩)
    | (go_at_call 51; refine (kConstWord_any _ _).mono ?_; rintro e w' ⟨rfl, rfl⟩)
    | (go_at_call 43; refine (coded_env (H.out.ext hb) _ (by omega) _).mono ?_; rintro e wn ⟨rfl, hq⟩; replace hb := hb.trans_ hq; clear hq; (try clear hc hf hz); obtain ⟨hc, hf, hz⟩ := hb.three))
  go_ret
  exact ⟨rfl, hb⟩

set_option maxHeartbeats 4000000 in
set_option maxRecDepth 100000 in
theorem addrs_mz (n : Int) (w : World) (E : Nat → Addr) (h : ErrEnv E w) (c1 : 2 < n) (c2 : n ≤ 1099511627776)  :
    Calls Tryd.prog 9 #[.int .i64 n, .int .u64 0] w fun e w' => e = .returned (.bool true) ∧ Ext w w' := by
  have F2 := Lib.hid (show ¬ (0 ≤ n ∧ n ≤ 2) by omega)
  have F3 := Lib.hid (show ¬ (kindW 0 = 0 ∧ (0 : Int) < 0 ∧ (0 : Int) / 4 ≤ 1099511627777) by simp)
  have H := Lib.hid h
  clear h
  have hb := Ext.refl w
  go_enter Tryd.func9, Tryd.ntmps9
  go_wp2_with (first
    | (go_at_call 20; refine (five_any _).mono ?_; rintro e w' ⟨rfl, rfl⟩)
    | (go_at_call 22; refine (ofAddr_yes _ (by omega) _).mono ?_; rintro e w' ⟨rfl, rfl⟩)
    | (go_at_call 50; refine (ofConst_no _ F2.out _ _ (H.out.ext hb).bound).mono ?_; rintro e wn ⟨rfl, hq⟩; replace hb := hb.trans_ hq; clear hq; (try clear hc hf hz); obtain ⟨hc, hf, hz⟩ := hb.three)
    | (go_at_call 25; refine (toAddr_no _ (by omega) (by omega) F3.out _ _ (H.out.ext hb).shape).mono ?_; rintro e wn ⟨rfl, hq⟩; replace hb := hb.trans_ hq; clear hq; (try clear hc hf hz); obtain ⟨hc, hf, hz⟩ := hb.three)
    | (go_at_call 37; refine (kAddrWord_any _ _).mono ?_; rintro e w' ⟨rfl, rfl⟩)
    | (go_at_call 51; refine (kConstWord_any _ _).mono ?_; rintro e w' ⟨rfl, rfl⟩)
    | (go_at_call 43; refine (coded_env (H.out.ext hb) _ (by omega) _).mono ?_; rintro e wn ⟨rfl, hq⟩; replace hb := hb.trans_ hq; clear hq; (try clear hc hf hz); obtain ⟨hc, hf, hz⟩ := hb.three))
  go_ret
  exact ⟨rfl, hb⟩

set_option maxHeartbeats 4000000 in
set_option maxRecDepth 100000 in
theorem addrs_my (n a : Int) (w : World) (E : Nat → Addr) (h : ErrEnv E w) (h0 : 0 ≤ a) (h1 : a ≤ 18446744073709551615) (c1 : 2 < n) (c2 : n ≤ 1099511627776) (d1 : (a % 4 != 0) = false) (d2 : 0 < a) (d3 : a / 4 ≤ 1099511627777) :
    Calls Tryd.prog 9 #[.int .i64 n, .int .u64 a] w fun e w' => e = .returned (.bool true) ∧ Ext w w' := by
  have F2 := Lib.hid (show ¬ (0 ≤ n ∧ n ≤ 2) by omega)
  have F3 := Lib.hid (show kindW a = 0 by simpa [kindW] using d1)
  have d4 : (a == 0) = false := by rw [beq_eq_false_iff_ne]; omega
  have d6 : 1 ≤ a / 4 := by have := bne_eq_false_iff_eq.1 d1; omega
  have d5 : (placeW a == a / 4 - 1) = true := by simp [placeW]
  have H := Lib.hid h
  clear h
  have hb := Ext.refl w
  go_enter Tryd.func9, Tryd.ntmps9
  go_wp2_with (first
    | (go_at_call 20; refine (five_any _).mono ?_; rintro e w' ⟨rfl, rfl⟩)
    | (go_at_call 22; refine (ofAddr_yes _ (by omega) _).mono ?_; rintro e w' ⟨rfl, rfl⟩)
    | (go_at_call 50; refine (ofConst_no _ F2.out _ _ (H.out.ext hb).bound).mono ?_; rintro e wn ⟨rfl, hq⟩; replace hb := hb.trans_ hq; clear hq; (try clear hc hf hz); obtain ⟨hc, hf, hz⟩ := hb.three)
    | (go_at_call 25; refine (toAddr_yes _ h0 h1 F3.out d2 d3 _).mono ?_; rintro e w' ⟨rfl, rfl⟩)
    | (go_at_call 37; refine (kAddrWord_any _ _).mono ?_; rintro e w' ⟨rfl, rfl⟩)
    | (go_at_call 51; refine (kConstWord_any _ _).mono ?_; rintro e w' ⟨rfl, rfl⟩)
    | (go_at_call 43; refine (coded_env (H.out.ext hb) _ (by omega) _).mono ?_; rintro e wn ⟨rfl, hq⟩; replace hb := hb.trans_ hq; clear hq; (try clear hc hf hz); obtain ⟨hc, hf, hz⟩ := hb.three))
  go_ret
  exact ⟨rfl, hb⟩

set_option maxHeartbeats 4000000 in
set_option maxRecDepth 100000 in
theorem addrs_mg (n a : Int) (w : World) (E : Nat → Addr) (h : ErrEnv E w) (h0 : 0 ≤ a) (h1 : a ≤ 18446744073709551615) (c1 : 2 < n) (c2 : n ≤ 1099511627776) (d1 : (a % 4 != 0) = false) (d2 : 0 < a) (d3 : 1099511627777 < a / 4) :
    Calls Tryd.prog 9 #[.int .i64 n, .int .u64 a] w fun e w' => e = .returned (.bool true) ∧ Ext w w' := by
  have F2 := Lib.hid (show ¬ (0 ≤ n ∧ n ≤ 2) by omega)
  have F3 := Lib.hid (show ¬ (kindW a = 0 ∧ 0 < a ∧ a / 4 ≤ 1099511627777) by omega)
  have d4 : (a == 0) = false := by rw [beq_eq_false_iff_ne]; omega
  have d6 : 1 ≤ a / 4 := by have := bne_eq_false_iff_eq.1 d1; omega
  have H := Lib.hid h
  clear h
  have hb := Ext.refl w
  go_enter Tryd.func9, Tryd.ntmps9
  go_wp2_with (first
    | (go_at_call 20; refine (five_any _).mono ?_; rintro e w' ⟨rfl, rfl⟩)
    | (go_at_call 22; refine (ofAddr_yes _ (by omega) _).mono ?_; rintro e w' ⟨rfl, rfl⟩)
    | (go_at_call 50; refine (ofConst_no _ F2.out _ _ (H.out.ext hb).bound).mono ?_; rintro e wn ⟨rfl, hq⟩; replace hb := hb.trans_ hq; clear hq; (try clear hc hf hz); obtain ⟨hc, hf, hz⟩ := hb.three)
    | (go_at_call 25; refine (toAddr_no _ (by omega) (by omega) F3.out _ _ (H.out.ext hb).shape).mono ?_; rintro e wn ⟨rfl, hq⟩; replace hb := hb.trans_ hq; clear hq; (try clear hc hf hz); obtain ⟨hc, hf, hz⟩ := hb.three)
    | (go_at_call 37; refine (kAddrWord_any _ _).mono ?_; rintro e w' ⟨rfl, rfl⟩)
    | (go_at_call 51; refine (kConstWord_any _ _).mono ?_; rintro e w' ⟨rfl, rfl⟩)
    | (go_at_call 43; refine (coded_env (H.out.ext hb) _ (by omega) _).mono ?_; rintro e wn ⟨rfl, hq⟩; replace hb := hb.trans_ hq; clear hq; (try clear hc hf hz); obtain ⟨hc, hf, hz⟩ := hb.three))
  go_ret
  exact ⟨rfl, hb⟩

set_option maxHeartbeats 4000000 in
set_option maxRecDepth 100000 in
theorem addrs_bk (n a : Int) (w : World) (E : Nat → Addr) (h : ErrEnv E w) (h0 : 0 ≤ a) (h1 : a ≤ 18446744073709551615) (c1 : 1099511627776 < n) (d1 : (a % 4 != 0) = true) :
    Calls Tryd.prog 9 #[.int .i64 n, .int .u64 a] w fun e w' => e = .returned (.bool true) ∧ Ext w w' := by
  have F1 := Lib.hid (show ¬ (0 ≤ n ∧ n ≤ 1099511627776) by omega)
  have F2 := Lib.hid (show ¬ (0 ≤ n ∧ n ≤ 2) by omega)
  have F3 := Lib.hid (show ¬ (kindW a = 0 ∧ 0 < a ∧ a / 4 ≤ 1099511627777) by simp [kindW] at *; omega)
  have H := Lib.hid h
  clear h
  have hb := Ext.refl w
  go_enter Tryd.func9, Tryd.ntmps9
  go_wp2_with (first
    | (go_at_call 20; refine (five_any _).mono ?_; rintro e w' ⟨rfl, rfl⟩)
    | (go_at_call 22; refine (ofAddr_no _ F1.out _ _ (H.out.ext hb).bound).mono ?_; rintro e wn ⟨rfl, hq⟩; replace hb := hb.trans_ hq; clear hq; (try clear hc hf hz); obtain ⟨hc, hf, hz⟩ := hb.three)
    | (go_at_call 50; refine (ofConst_no _ F2.out _ _ (H.out.ext hb).bound).mono ?_; rintro e wn ⟨rfl, hq⟩; replace hb := hb.trans_ hq; clear hq; (try clear hc hf hz); obtain ⟨hc, hf, hz⟩ := hb.three)
    | (go_at_call 25; refine (toAddr_no _ (by omega) (by omega) F3.out _ _ (H.out.ext hb).shape).mono ?_; rintro e wn ⟨rfl, hq⟩; replace hb := hb.trans_ hq; clear hq; (try clear hc hf hz); obtain ⟨hc, hf, hz⟩ := hb.three)
    | (go_at_call 37; refine (kAddrWord_any _ _).mono ?_; rintro e w' ⟨rfl, rfl⟩)
    | (go_at_call 51; refine (kConstWord_any _ _).mono ?_; rintro e w' ⟨rfl, rfl⟩)
    | (go_at_call 43; refine (coded_env (H.out.ext hb) _ (by omega) _).mono ?_; rintro e wn ⟨rfl, hq⟩; replace hb := hb.trans_ hq; clear hq; (try clear hc hf hz); obtain ⟨hc, hf, hz⟩ := hb.three))
  go_ret
  exact ⟨rfl, hb⟩

set_option maxHeartbeats 4000000 in
set_option maxRecDepth 100000 in
theorem addrs_bz (n : Int) (w : World) (E : Nat → Addr) (h : ErrEnv E w) (c1 : 1099511627776 < n)  :
    Calls Tryd.prog 9 #[.int .i64 n, .int .u64 0] w fun e w' => e = .returned (.bool true) ∧ Ext w w' := by
  have F1 := Lib.hid (show ¬ (0 ≤ n ∧ n ≤ 1099511627776) by omega)
  have F2 := Lib.hid (show ¬ (0 ≤ n ∧ n ≤ 2) by omega)
  have F3 := Lib.hid (show ¬ (kindW 0 = 0 ∧ (0 : Int) < 0 ∧ (0 : Int) / 4 ≤ 1099511627777) by simp)
  have H := Lib.hid h
  clear h
  have hb := Ext.refl w
  go_enter Tryd.func9, Tryd.ntmps9
  go_wp2_with (first
    | (go_at_call 20; refine (five_any _).mono ?_; rintro e w' ⟨rfl, rfl⟩)
    | (go_at_call 22; refine (ofAddr_no _ F1.out _ _ (H.out.ext hb).bound).mono ?_; rintro e wn ⟨rfl, hq⟩; replace hb := hb.trans_ hq; clear hq; (try clear hc hf hz); obtain ⟨hc, hf, hz⟩ := hb.three)
    | (go_at_call 50; refine (ofConst_no _ F2.out _ _ (H.out.ext hb).bound).mono ?_; rintro e wn ⟨rfl, hq⟩; replace hb := hb.trans_ hq; clear hq; (try clear hc hf hz); obtain ⟨hc, hf, hz⟩ := hb.three)
    | (go_at_call 25; refine (toAddr_no _ (by omega) (by omega) F3.out _ _ (H.out.ext hb).shape).mono ?_; rintro e wn ⟨rfl, hq⟩; replace hb := hb.trans_ hq; clear hq; (try clear hc hf hz); obtain ⟨hc, hf, hz⟩ := hb.three)
    | (go_at_call 37; refine (kAddrWord_any _ _).mono ?_; rintro e w' ⟨rfl, rfl⟩)
    | (go_at_call 51; refine (kConstWord_any _ _).mono ?_; rintro e w' ⟨rfl, rfl⟩)
    | (go_at_call 43; refine (coded_env (H.out.ext hb) _ (by omega) _).mono ?_; rintro e wn ⟨rfl, hq⟩; replace hb := hb.trans_ hq; clear hq; (try clear hc hf hz); obtain ⟨hc, hf, hz⟩ := hb.three))
  go_ret
  exact ⟨rfl, hb⟩

set_option maxHeartbeats 4000000 in
set_option maxRecDepth 100000 in
theorem addrs_by (n a : Int) (w : World) (E : Nat → Addr) (h : ErrEnv E w) (h0 : 0 ≤ a) (h1 : a ≤ 18446744073709551615) (c1 : 1099511627776 < n) (d1 : (a % 4 != 0) = false) (d2 : 0 < a) (d3 : a / 4 ≤ 1099511627777) :
    Calls Tryd.prog 9 #[.int .i64 n, .int .u64 a] w fun e w' => e = .returned (.bool true) ∧ Ext w w' := by
  have F1 := Lib.hid (show ¬ (0 ≤ n ∧ n ≤ 1099511627776) by omega)
  have F2 := Lib.hid (show ¬ (0 ≤ n ∧ n ≤ 2) by omega)
  have F3 := Lib.hid (show kindW a = 0 by simpa [kindW] using d1)
  have d4 : (a == 0) = false := by rw [beq_eq_false_iff_ne]; omega
  have d6 : 1 ≤ a / 4 := by have := bne_eq_false_iff_eq.1 d1; omega
  have d5 : (placeW a == a / 4 - 1) = true := by simp [placeW]
  have H := Lib.hid h
  clear h
  have hb := Ext.refl w
  go_enter Tryd.func9, Tryd.ntmps9
  go_wp2_with (first
    | (go_at_call 20; refine (five_any _).mono ?_; rintro e w' ⟨rfl, rfl⟩)
    | (go_at_call 22; refine (ofAddr_no _ F1.out _ _ (H.out.ext hb).bound).mono ?_; rintro e wn ⟨rfl, hq⟩; replace hb := hb.trans_ hq; clear hq; (try clear hc hf hz); obtain ⟨hc, hf, hz⟩ := hb.three)
    | (go_at_call 50; refine (ofConst_no _ F2.out _ _ (H.out.ext hb).bound).mono ?_; rintro e wn ⟨rfl, hq⟩; replace hb := hb.trans_ hq; clear hq; (try clear hc hf hz); obtain ⟨hc, hf, hz⟩ := hb.three)
    | (go_at_call 25; refine (toAddr_yes _ h0 h1 F3.out d2 d3 _).mono ?_; rintro e w' ⟨rfl, rfl⟩)
    | (go_at_call 37; refine (kAddrWord_any _ _).mono ?_; rintro e w' ⟨rfl, rfl⟩)
    | (go_at_call 51; refine (kConstWord_any _ _).mono ?_; rintro e w' ⟨rfl, rfl⟩)
    | (go_at_call 43; refine (coded_env (H.out.ext hb) _ (by omega) _).mono ?_; rintro e wn ⟨rfl, hq⟩; replace hb := hb.trans_ hq; clear hq; (try clear hc hf hz); obtain ⟨hc, hf, hz⟩ := hb.three))
  go_ret
  exact ⟨rfl, hb⟩

set_option maxHeartbeats 4000000 in
set_option maxRecDepth 100000 in
theorem addrs_bg (n a : Int) (w : World) (E : Nat → Addr) (h : ErrEnv E w) (h0 : 0 ≤ a) (h1 : a ≤ 18446744073709551615) (c1 : 1099511627776 < n) (d1 : (a % 4 != 0) = false) (d2 : 0 < a) (d3 : 1099511627777 < a / 4) :
    Calls Tryd.prog 9 #[.int .i64 n, .int .u64 a] w fun e w' => e = .returned (.bool true) ∧ Ext w w' := by
  have F1 := Lib.hid (show ¬ (0 ≤ n ∧ n ≤ 1099511627776) by omega)
  have F2 := Lib.hid (show ¬ (0 ≤ n ∧ n ≤ 2) by omega)
  have F3 := Lib.hid (show ¬ (kindW a = 0 ∧ 0 < a ∧ a / 4 ≤ 1099511627777) by omega)
  have d4 : (a == 0) = false := by rw [beq_eq_false_iff_ne]; omega
  have d6 : 1 ≤ a / 4 := by have := bne_eq_false_iff_eq.1 d1; omega
  have H := Lib.hid h
  clear h
  have hb := Ext.refl w
  go_enter Tryd.func9, Tryd.ntmps9
  go_wp2_with (first
    | (go_at_call 20; refine (five_any _).mono ?_; rintro e w' ⟨rfl, rfl⟩)
    | (go_at_call 22; refine (ofAddr_no _ F1.out _ _ (H.out.ext hb).bound).mono ?_; rintro e wn ⟨rfl, hq⟩; replace hb := hb.trans_ hq; clear hq; (try clear hc hf hz); obtain ⟨hc, hf, hz⟩ := hb.three)
    | (go_at_call 50; refine (ofConst_no _ F2.out _ _ (H.out.ext hb).bound).mono ?_; rintro e wn ⟨rfl, hq⟩; replace hb := hb.trans_ hq; clear hq; (try clear hc hf hz); obtain ⟨hc, hf, hz⟩ := hb.three)
    | (go_at_call 25; refine (toAddr_no _ (by omega) (by omega) F3.out _ _ (H.out.ext hb).shape).mono ?_; rintro e wn ⟨rfl, hq⟩; replace hb := hb.trans_ hq; clear hq; (try clear hc hf hz); obtain ⟨hc, hf, hz⟩ := hb.three)
    | (go_at_call 37; refine (kAddrWord_any _ _).mono ?_; rintro e w' ⟨rfl, rfl⟩)
    | (go_at_call 51; refine (kConstWord_any _ _).mono ?_; rintro e w' ⟨rfl, rfl⟩)
    | (go_at_call 43; refine (coded_env (H.out.ext hb) _ (by omega) _).mono ?_; rintro e wn ⟨rfl, hq⟩; replace hb := hb.trans_ hq; clear hq; (try clear hc hf hz); obtain ⟨hc, hf, hz⟩ := hb.three))
  go_ret
  exact ⟨rfl, hb⟩

theorem addrs_any (n a : Int) (w : World) (E : Nat → Addr) (h : ErrEnv E w) (h0 : 0 ≤ a) (h1 : a ≤ 18446744073709551615) :
    Calls Tryd.prog 9 #[.int .i64 n, .int .u64 a] w fun e w' => e = .returned (.bool true) ∧ Ext w w' := by
  have ha : n < 0 ∨ (0 ≤ n ∧ n ≤ 2) ∨ (2 < n ∧ n ≤ 1099511627776) ∨ 1099511627776 < n := by omega
  have hw : (a % 4 != 0) = true ∨ a = 0 ∨ ((a % 4 != 0) = false ∧ 0 < a ∧ a / 4 ≤ 1099511627777) ∨ ((a % 4 != 0) = false ∧ 0 < a ∧ 1099511627777 < a / 4) := by
    rcases Bool.eq_false_or_eq_true (a % 4 != 0) with hk | hk
    · exact .inl hk
    · right
      by_cases hz : a = 0
      · exact .inl hz
      · right
        by_cases hg : a / 4 ≤ 1099511627777
        · exact .inl ⟨hk, by omega, hg⟩
        · exact .inr ⟨hk, by omega, by omega⟩
  rcases ha with c1 | ⟨c1, c2⟩ | ⟨c1, c2⟩ | c1 <;> rcases hw with d1 | rfl | ⟨d1, d2, d3⟩ | ⟨d1, d2, d3⟩
  · exact addrs_nk n a w E h h0 h1 c1 d1
  · exact addrs_nz n w E h c1 
  · exact addrs_ny n a w E h h0 h1 c1 d1 d2 d3
  · exact addrs_ng n a w E h h0 h1 c1 d1 d2 d3
  · exact addrs_ck n a w E h h0 h1 c1 c2 d1
  · exact addrs_cz n w E h c1 c2 
  · exact addrs_cy n a w E h h0 h1 c1 c2 d1 d2 d3
  · exact addrs_cg n a w E h h0 h1 c1 c2 d1 d2 d3
  · exact addrs_mk n a w E h h0 h1 c1 c2 d1
  · exact addrs_mz n w E h c1 c2 
  · exact addrs_my n a w E h h0 h1 c1 c2 d1 d2 d3
  · exact addrs_mg n a w E h h0 h1 c1 c2 d1 d2 d3
  · exact addrs_bk n a w E h h0 h1 c1 d1
  · exact addrs_bz n w E h c1 
  · exact addrs_by n a w E h h0 h1 c1 d1 d2 d3
  · exact addrs_bg n a w E h h0 h1 c1 d1 d2 d3
end Go.Proofs.YtpbfhkkecbnieaaDoor
