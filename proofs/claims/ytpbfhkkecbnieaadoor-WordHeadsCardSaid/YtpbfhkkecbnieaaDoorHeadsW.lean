/- The law WordHeads: its walks. -/
import Derived.Test.YtpbfhkkecbnieaaDoorRefWordB
import Derived.Test.YtpbfhkkecbnieaaDoorWord4
import Derived.Test.YtpbfhkkecbnieaaDoorLaidEnv
namespace Go.Proofs.YtpbfhkkecbnieaaDoor
open Go.ChangeShapes Go.WideShapes Go.ChangeAt Go.RowKit
set_option linter.unusedVariables false
set_option linter.unusedSimpArgs false


set_option maxHeartbeats 4000000 in
set_option maxRecDepth 100000 in
theorem heads_kl1 (k g m s a : Int) (w : World) (E : Nat → Addr) (h : ErrEnv E w) (h0 : 0 ≤ a) (h1 : a ≤ 18446744073709551615)  (kb : k < 0) (hh : isHd a = true) :
    Calls Tryd.prog 7 #[.int .i64 k, .int .i64 g, .int .i64 m, .int .i64 s, .int .u64 a] w fun e w' => e = .returned (.bool true) ∧ Ext w w' := by
  have HH := Lib.hid hh
  clear hh
  have K := Lib.hid (show (inB k 255 && inB g 15 && inB m 1 && inB s 4096) = false by simp only [Bool.and_eq_false_iff, inB_false]; omega)
  have H := Lib.hid h
  clear h
  have hb := Ext.refl w
  go_enter Tryd.func7, Tryd.ntmps7
  go_wp2_with (first
    | (go_at_call 20; refine (five_any _).mono ?_; rintro e w' ⟨rfl, rfl⟩)
    | (go_at_call 23; refine (ofHead_no _ _ _ _ K.out _ _ (H.out.ext hb).bound).mono ?_; rintro e wn ⟨rfl, hq⟩; replace hb := hb.trans_ hq; clear hq; (try clear hc hf hz); obtain ⟨hc, hf, hz⟩ := hb.three)
    | (go_at_call 46; refine (kHeadWord_any _ _ _ _ ⟨by omega, by omega⟩ ⟨by omega, by omega⟩ ⟨by omega, by omega⟩ ⟨by omega, by omega⟩ _).mono ?_; rintro e w' ⟨rfl, rfl⟩)
    | (go_at_call 26; refine (toHead_yes _ h0 h1 HH.out _).mono ?_; rintro e wn ⟨rfl, hq⟩; replace hb := hb.trans_ hq; clear hq; (try clear hc hf hz); obtain ⟨hc, hf, hz⟩ := hb.three)
    | (go_at_call 47; refine (kHeadOf_yes _ h0 h1 HH.out _).mono ?_; rintro e w' ⟨rfl, rfl⟩)
    | (go_at_call 43; first | (refine (coded_env (H.out.ext hb) _ (by omega) _).mono ?_; rintro e wn ⟨rfl, hq⟩; replace hb := hb.trans_ hq; clear hq; (try clear hc hf hz); obtain ⟨hc, hf, hz⟩ := hb.three) | (refine (coded_env (H.out.ext (hb.alloc_ _)) _ (by omega) _).mono ?_; rintro e wn ⟨rfl, hq⟩; obtain ⟨hc2, hf2, _⟩ := hq.three; replace hb := (hb.alloc_ _).trans_ hq; clear hq; (try clear hc hf hz); obtain ⟨hc, hf, hz⟩ := hb.three)))
  go_ret
  refine ⟨rfl, ?_⟩
  repeat (first | exact hb | refine Ext.alloc_ ?_ _)

set_option maxHeartbeats 4000000 in
set_option maxRecDepth 100000 in
theorem heads_kl0 (k g m s a : Int) (w : World) (E : Nat → Addr) (h : ErrEnv E w) (h0 : 0 ≤ a) (h1 : a ≤ 18446744073709551615)  (kb : k < 0) (hh : isHd a = false) :
    Calls Tryd.prog 7 #[.int .i64 k, .int .i64 g, .int .i64 m, .int .i64 s, .int .u64 a] w fun e w' => e = .returned (.bool true) ∧ Ext w w' := by
  have HH := Lib.hid hh
  clear hh
  have K := Lib.hid (show (inB k 255 && inB g 15 && inB m 1 && inB s 4096) = false by simp only [Bool.and_eq_false_iff, inB_false]; omega)
  have H := Lib.hid h
  clear h
  have hb := Ext.refl w
  go_enter Tryd.func7, Tryd.ntmps7
  go_wp2_with (first
    | (go_at_call 20; refine (five_any _).mono ?_; rintro e w' ⟨rfl, rfl⟩)
    | (go_at_call 23; refine (ofHead_no _ _ _ _ K.out _ _ (H.out.ext hb).bound).mono ?_; rintro e wn ⟨rfl, hq⟩; replace hb := hb.trans_ hq; clear hq; (try clear hc hf hz); obtain ⟨hc, hf, hz⟩ := hb.three)
    | (go_at_call 46; refine (kHeadWord_any _ _ _ _ ⟨by omega, by omega⟩ ⟨by omega, by omega⟩ ⟨by omega, by omega⟩ ⟨by omega, by omega⟩ _).mono ?_; rintro e w' ⟨rfl, rfl⟩)
    | (go_at_call 26; refine (toHead_no _ h0 h1 HH.out _ _ _ (H.out.ext hb).bound (H.out.ext hb).shape).mono ?_; rintro e wn ⟨rfl, hq⟩; replace hb := hb.trans_ hq; clear hq; (try clear hc hf hz); obtain ⟨hc, hf, hz⟩ := hb.three)
    | (go_at_call 47; refine (kHeadOf_no _ h0 h1 HH.out _).mono ?_; rintro e w' ⟨rfl, rfl⟩)
    | (go_at_call 43; first | (refine (coded_env (H.out.ext hb) _ (by omega) _).mono ?_; rintro e wn ⟨rfl, hq⟩; replace hb := hb.trans_ hq; clear hq; (try clear hc hf hz); obtain ⟨hc, hf, hz⟩ := hb.three) | (refine (coded_env (H.out.ext (hb.alloc_ _)) _ (by omega) _).mono ?_; rintro e wn ⟨rfl, hq⟩; obtain ⟨hc2, hf2, _⟩ := hq.three; replace hb := (hb.alloc_ _).trans_ hq; clear hq; (try clear hc hf hz); obtain ⟨hc, hf, hz⟩ := hb.three)))
  go_ret
  refine ⟨rfl, ?_⟩
  repeat (first | exact hb | refine Ext.alloc_ ?_ _)

set_option maxHeartbeats 4000000 in
set_option maxRecDepth 100000 in
theorem heads_kh1 (k g m s a : Int) (w : World) (E : Nat → Addr) (h : ErrEnv E w) (h0 : 0 ≤ a) (h1 : a ≤ 18446744073709551615)  (kb : 255 < k) (hh : isHd a = true) :
    Calls Tryd.prog 7 #[.int .i64 k, .int .i64 g, .int .i64 m, .int .i64 s, .int .u64 a] w fun e w' => e = .returned (.bool true) ∧ Ext w w' := by
  have HH := Lib.hid hh
  clear hh
  have K := Lib.hid (show (inB k 255 && inB g 15 && inB m 1 && inB s 4096) = false by simp only [Bool.and_eq_false_iff, inB_false]; omega)
  have H := Lib.hid h
  clear h
  have hb := Ext.refl w
  go_enter Tryd.func7, Tryd.ntmps7
  go_wp2_with (first
    | (go_at_call 20; refine (five_any _).mono ?_; rintro e w' ⟨rfl, rfl⟩)
    | (go_at_call 23; refine (ofHead_no _ _ _ _ K.out _ _ (H.out.ext hb).bound).mono ?_; rintro e wn ⟨rfl, hq⟩; replace hb := hb.trans_ hq; clear hq; (try clear hc hf hz); obtain ⟨hc, hf, hz⟩ := hb.three)
    | (go_at_call 46; refine (kHeadWord_any _ _ _ _ ⟨by omega, by omega⟩ ⟨by omega, by omega⟩ ⟨by omega, by omega⟩ ⟨by omega, by omega⟩ _).mono ?_; rintro e w' ⟨rfl, rfl⟩)
    | (go_at_call 26; refine (toHead_yes _ h0 h1 HH.out _).mono ?_; rintro e wn ⟨rfl, hq⟩; replace hb := hb.trans_ hq; clear hq; (try clear hc hf hz); obtain ⟨hc, hf, hz⟩ := hb.three)
    | (go_at_call 47; refine (kHeadOf_yes _ h0 h1 HH.out _).mono ?_; rintro e w' ⟨rfl, rfl⟩)
    | (go_at_call 43; first | (refine (coded_env (H.out.ext hb) _ (by omega) _).mono ?_; rintro e wn ⟨rfl, hq⟩; replace hb := hb.trans_ hq; clear hq; (try clear hc hf hz); obtain ⟨hc, hf, hz⟩ := hb.three) | (refine (coded_env (H.out.ext (hb.alloc_ _)) _ (by omega) _).mono ?_; rintro e wn ⟨rfl, hq⟩; obtain ⟨hc2, hf2, _⟩ := hq.three; replace hb := (hb.alloc_ _).trans_ hq; clear hq; (try clear hc hf hz); obtain ⟨hc, hf, hz⟩ := hb.three)))
  go_ret
  refine ⟨rfl, ?_⟩
  repeat (first | exact hb | refine Ext.alloc_ ?_ _)

set_option maxHeartbeats 4000000 in
set_option maxRecDepth 100000 in
theorem heads_kh0 (k g m s a : Int) (w : World) (E : Nat → Addr) (h : ErrEnv E w) (h0 : 0 ≤ a) (h1 : a ≤ 18446744073709551615)  (kb : 255 < k) (hh : isHd a = false) :
    Calls Tryd.prog 7 #[.int .i64 k, .int .i64 g, .int .i64 m, .int .i64 s, .int .u64 a] w fun e w' => e = .returned (.bool true) ∧ Ext w w' := by
  have HH := Lib.hid hh
  clear hh
  have K := Lib.hid (show (inB k 255 && inB g 15 && inB m 1 && inB s 4096) = false by simp only [Bool.and_eq_false_iff, inB_false]; omega)
  have H := Lib.hid h
  clear h
  have hb := Ext.refl w
  go_enter Tryd.func7, Tryd.ntmps7
  go_wp2_with (first
    | (go_at_call 20; refine (five_any _).mono ?_; rintro e w' ⟨rfl, rfl⟩)
    | (go_at_call 23; refine (ofHead_no _ _ _ _ K.out _ _ (H.out.ext hb).bound).mono ?_; rintro e wn ⟨rfl, hq⟩; replace hb := hb.trans_ hq; clear hq; (try clear hc hf hz); obtain ⟨hc, hf, hz⟩ := hb.three)
    | (go_at_call 46; refine (kHeadWord_any _ _ _ _ ⟨by omega, by omega⟩ ⟨by omega, by omega⟩ ⟨by omega, by omega⟩ ⟨by omega, by omega⟩ _).mono ?_; rintro e w' ⟨rfl, rfl⟩)
    | (go_at_call 26; refine (toHead_no _ h0 h1 HH.out _ _ _ (H.out.ext hb).bound (H.out.ext hb).shape).mono ?_; rintro e wn ⟨rfl, hq⟩; replace hb := hb.trans_ hq; clear hq; (try clear hc hf hz); obtain ⟨hc, hf, hz⟩ := hb.three)
    | (go_at_call 47; refine (kHeadOf_no _ h0 h1 HH.out _).mono ?_; rintro e w' ⟨rfl, rfl⟩)
    | (go_at_call 43; first | (refine (coded_env (H.out.ext hb) _ (by omega) _).mono ?_; rintro e wn ⟨rfl, hq⟩; replace hb := hb.trans_ hq; clear hq; (try clear hc hf hz); obtain ⟨hc, hf, hz⟩ := hb.three) | (refine (coded_env (H.out.ext (hb.alloc_ _)) _ (by omega) _).mono ?_; rintro e wn ⟨rfl, hq⟩; obtain ⟨hc2, hf2, _⟩ := hq.three; replace hb := (hb.alloc_ _).trans_ hq; clear hq; (try clear hc hf hz); obtain ⟨hc, hf, hz⟩ := hb.three)))
  go_ret
  refine ⟨rfl, ?_⟩
  repeat (first | exact hb | refine Ext.alloc_ ?_ _)

set_option maxHeartbeats 4000000 in
set_option maxRecDepth 100000 in
theorem heads_gl1 (k g m s a : Int) (w : World) (E : Nat → Addr) (h : ErrEnv E w) (h0 : 0 ≤ a) (h1 : a ≤ 18446744073709551615) (k0 : 0 ≤ k) (k1 : k ≤ 255) (gb : g < 0) (hh : isHd a = true) :
    Calls Tryd.prog 7 #[.int .i64 k, .int .i64 g, .int .i64 m, .int .i64 s, .int .u64 a] w fun e w' => e = .returned (.bool true) ∧ Ext w w' := by
  have HH := Lib.hid hh
  clear hh
  have K := Lib.hid (show (inB k 255 && inB g 15 && inB m 1 && inB s 4096) = false by simp only [Bool.and_eq_false_iff, inB_false]; omega)
  have H := Lib.hid h
  clear h
  have hb := Ext.refl w
  go_enter Tryd.func7, Tryd.ntmps7
  go_wp2_with (first
    | (go_at_call 20; refine (five_any _).mono ?_; rintro e w' ⟨rfl, rfl⟩)
    | (go_at_call 23; refine (ofHead_no _ _ _ _ K.out _ _ (H.out.ext hb).bound).mono ?_; rintro e wn ⟨rfl, hq⟩; replace hb := hb.trans_ hq; clear hq; (try clear hc hf hz); obtain ⟨hc, hf, hz⟩ := hb.three)
    | (go_at_call 46; refine (kHeadWord_any _ _ _ _ ⟨by omega, by omega⟩ ⟨by omega, by omega⟩ ⟨by omega, by omega⟩ ⟨by omega, by omega⟩ _).mono ?_; rintro e w' ⟨rfl, rfl⟩)
    | (go_at_call 26; refine (toHead_yes _ h0 h1 HH.out _).mono ?_; rintro e wn ⟨rfl, hq⟩; replace hb := hb.trans_ hq; clear hq; (try clear hc hf hz); obtain ⟨hc, hf, hz⟩ := hb.three)
    | (go_at_call 47; refine (kHeadOf_yes _ h0 h1 HH.out _).mono ?_; rintro e w' ⟨rfl, rfl⟩)
    | (go_at_call 43; first | (refine (coded_env (H.out.ext hb) _ (by omega) _).mono ?_; rintro e wn ⟨rfl, hq⟩; replace hb := hb.trans_ hq; clear hq; (try clear hc hf hz); obtain ⟨hc, hf, hz⟩ := hb.three) | (refine (coded_env (H.out.ext (hb.alloc_ _)) _ (by omega) _).mono ?_; rintro e wn ⟨rfl, hq⟩; obtain ⟨hc2, hf2, _⟩ := hq.three; replace hb := (hb.alloc_ _).trans_ hq; clear hq; (try clear hc hf hz); obtain ⟨hc, hf, hz⟩ := hb.three)))
  go_ret
  refine ⟨rfl, ?_⟩
  repeat (first | exact hb | refine Ext.alloc_ ?_ _)

set_option maxHeartbeats 4000000 in
set_option maxRecDepth 100000 in
theorem heads_gl0 (k g m s a : Int) (w : World) (E : Nat → Addr) (h : ErrEnv E w) (h0 : 0 ≤ a) (h1 : a ≤ 18446744073709551615) (k0 : 0 ≤ k) (k1 : k ≤ 255) (gb : g < 0) (hh : isHd a = false) :
    Calls Tryd.prog 7 #[.int .i64 k, .int .i64 g, .int .i64 m, .int .i64 s, .int .u64 a] w fun e w' => e = .returned (.bool true) ∧ Ext w w' := by
  have HH := Lib.hid hh
  clear hh
  have K := Lib.hid (show (inB k 255 && inB g 15 && inB m 1 && inB s 4096) = false by simp only [Bool.and_eq_false_iff, inB_false]; omega)
  have H := Lib.hid h
  clear h
  have hb := Ext.refl w
  go_enter Tryd.func7, Tryd.ntmps7
  go_wp2_with (first
    | (go_at_call 20; refine (five_any _).mono ?_; rintro e w' ⟨rfl, rfl⟩)
    | (go_at_call 23; refine (ofHead_no _ _ _ _ K.out _ _ (H.out.ext hb).bound).mono ?_; rintro e wn ⟨rfl, hq⟩; replace hb := hb.trans_ hq; clear hq; (try clear hc hf hz); obtain ⟨hc, hf, hz⟩ := hb.three)
    | (go_at_call 46; refine (kHeadWord_any _ _ _ _ ⟨by omega, by omega⟩ ⟨by omega, by omega⟩ ⟨by omega, by omega⟩ ⟨by omega, by omega⟩ _).mono ?_; rintro e w' ⟨rfl, rfl⟩)
    | (go_at_call 26; refine (toHead_no _ h0 h1 HH.out _ _ _ (H.out.ext hb).bound (H.out.ext hb).shape).mono ?_; rintro e wn ⟨rfl, hq⟩; replace hb := hb.trans_ hq; clear hq; (try clear hc hf hz); obtain ⟨hc, hf, hz⟩ := hb.three)
    | (go_at_call 47; refine (kHeadOf_no _ h0 h1 HH.out _).mono ?_; rintro e w' ⟨rfl, rfl⟩)
    | (go_at_call 43; first | (refine (coded_env (H.out.ext hb) _ (by omega) _).mono ?_; rintro e wn ⟨rfl, hq⟩; replace hb := hb.trans_ hq; clear hq; (try clear hc hf hz); obtain ⟨hc, hf, hz⟩ := hb.three) | (refine (coded_env (H.out.ext (hb.alloc_ _)) _ (by omega) _).mono ?_; rintro e wn ⟨rfl, hq⟩; obtain ⟨hc2, hf2, _⟩ := hq.three; replace hb := (hb.alloc_ _).trans_ hq; clear hq; (try clear hc hf hz); obtain ⟨hc, hf, hz⟩ := hb.three)))
  go_ret
  refine ⟨rfl, ?_⟩
  repeat (first | exact hb | refine Ext.alloc_ ?_ _)

set_option maxHeartbeats 4000000 in
set_option maxRecDepth 100000 in
theorem heads_gh1 (k g m s a : Int) (w : World) (E : Nat → Addr) (h : ErrEnv E w) (h0 : 0 ≤ a) (h1 : a ≤ 18446744073709551615) (k0 : 0 ≤ k) (k1 : k ≤ 255) (gb : 15 < g) (hh : isHd a = true) :
    Calls Tryd.prog 7 #[.int .i64 k, .int .i64 g, .int .i64 m, .int .i64 s, .int .u64 a] w fun e w' => e = .returned (.bool true) ∧ Ext w w' := by
  have HH := Lib.hid hh
  clear hh
  have K := Lib.hid (show (inB k 255 && inB g 15 && inB m 1 && inB s 4096) = false by simp only [Bool.and_eq_false_iff, inB_false]; omega)
  have H := Lib.hid h
  clear h
  have hb := Ext.refl w
  go_enter Tryd.func7, Tryd.ntmps7
  go_wp2_with (first
    | (go_at_call 20; refine (five_any _).mono ?_; rintro e w' ⟨rfl, rfl⟩)
    | (go_at_call 23; refine (ofHead_no _ _ _ _ K.out _ _ (H.out.ext hb).bound).mono ?_; rintro e wn ⟨rfl, hq⟩; replace hb := hb.trans_ hq; clear hq; (try clear hc hf hz); obtain ⟨hc, hf, hz⟩ := hb.three)
    | (go_at_call 46; refine (kHeadWord_any _ _ _ _ ⟨by omega, by omega⟩ ⟨by omega, by omega⟩ ⟨by omega, by omega⟩ ⟨by omega, by omega⟩ _).mono ?_; rintro e w' ⟨rfl, rfl⟩)
    | (go_at_call 26; refine (toHead_yes _ h0 h1 HH.out _).mono ?_; rintro e wn ⟨rfl, hq⟩; replace hb := hb.trans_ hq; clear hq; (try clear hc hf hz); obtain ⟨hc, hf, hz⟩ := hb.three)
    | (go_at_call 47; refine (kHeadOf_yes _ h0 h1 HH.out _).mono ?_; rintro e w' ⟨rfl, rfl⟩)
    | (go_at_call 43; first | (refine (coded_env (H.out.ext hb) _ (by omega) _).mono ?_; rintro e wn ⟨rfl, hq⟩; replace hb := hb.trans_ hq; clear hq; (try clear hc hf hz); obtain ⟨hc, hf, hz⟩ := hb.three) | (refine (coded_env (H.out.ext (hb.alloc_ _)) _ (by omega) _).mono ?_; rintro e wn ⟨rfl, hq⟩; obtain ⟨hc2, hf2, _⟩ := hq.three; replace hb := (hb.alloc_ _).trans_ hq; clear hq; (try clear hc hf hz); obtain ⟨hc, hf, hz⟩ := hb.three)))
  go_ret
  refine ⟨rfl, ?_⟩
  repeat (first | exact hb | refine Ext.alloc_ ?_ _)

set_option maxHeartbeats 4000000 in
set_option maxRecDepth 100000 in
theorem heads_gh0 (k g m s a : Int) (w : World) (E : Nat → Addr) (h : ErrEnv E w) (h0 : 0 ≤ a) (h1 : a ≤ 18446744073709551615) (k0 : 0 ≤ k) (k1 : k ≤ 255) (gb : 15 < g) (hh : isHd a = false) :
    Calls Tryd.prog 7 #[.int .i64 k, .int .i64 g, .int .i64 m, .int .i64 s, .int .u64 a] w fun e w' => e = .returned (.bool true) ∧ Ext w w' := by
  have HH := Lib.hid hh
  clear hh
  have K := Lib.hid (show (inB k 255 && inB g 15 && inB m 1 && inB s 4096) = false by simp only [Bool.and_eq_false_iff, inB_false]; omega)
  have H := Lib.hid h
  clear h
  have hb := Ext.refl w
  go_enter Tryd.func7, Tryd.ntmps7
  go_wp2_with (first
    | (go_at_call 20; refine (five_any _).mono ?_; rintro e w' ⟨rfl, rfl⟩)
    | (go_at_call 23; refine (ofHead_no _ _ _ _ K.out _ _ (H.out.ext hb).bound).mono ?_; rintro e wn ⟨rfl, hq⟩; replace hb := hb.trans_ hq; clear hq; (try clear hc hf hz); obtain ⟨hc, hf, hz⟩ := hb.three)
    | (go_at_call 46; refine (kHeadWord_any _ _ _ _ ⟨by omega, by omega⟩ ⟨by omega, by omega⟩ ⟨by omega, by omega⟩ ⟨by omega, by omega⟩ _).mono ?_; rintro e w' ⟨rfl, rfl⟩)
    | (go_at_call 26; refine (toHead_no _ h0 h1 HH.out _ _ _ (H.out.ext hb).bound (H.out.ext hb).shape).mono ?_; rintro e wn ⟨rfl, hq⟩; replace hb := hb.trans_ hq; clear hq; (try clear hc hf hz); obtain ⟨hc, hf, hz⟩ := hb.three)
    | (go_at_call 47; refine (kHeadOf_no _ h0 h1 HH.out _).mono ?_; rintro e w' ⟨rfl, rfl⟩)
    | (go_at_call 43; first | (refine (coded_env (H.out.ext hb) _ (by omega) _).mono ?_; rintro e wn ⟨rfl, hq⟩; replace hb := hb.trans_ hq; clear hq; (try clear hc hf hz); obtain ⟨hc, hf, hz⟩ := hb.three) | (refine (coded_env (H.out.ext (hb.alloc_ _)) _ (by omega) _).mono ?_; rintro e wn ⟨rfl, hq⟩; obtain ⟨hc2, hf2, _⟩ := hq.three; replace hb := (hb.alloc_ _).trans_ hq; clear hq; (try clear hc hf hz); obtain ⟨hc, hf, hz⟩ := hb.three)))
  go_ret
  refine ⟨rfl, ?_⟩
  repeat (first | exact hb | refine Ext.alloc_ ?_ _)

set_option maxHeartbeats 4000000 in
set_option maxRecDepth 100000 in
theorem heads_ml1 (k g m s a : Int) (w : World) (E : Nat → Addr) (h : ErrEnv E w) (h0 : 0 ≤ a) (h1 : a ≤ 18446744073709551615) (k0 : 0 ≤ k) (k1 : k ≤ 255) (g0 : 0 ≤ g) (g1 : g ≤ 15) (mb : m < 0) (hh : isHd a = true) :
    Calls Tryd.prog 7 #[.int .i64 k, .int .i64 g, .int .i64 m, .int .i64 s, .int .u64 a] w fun e w' => e = .returned (.bool true) ∧ Ext w w' := by
  have HH := Lib.hid hh
  clear hh
  have K := Lib.hid (show (inB k 255 && inB g 15 && inB m 1 && inB s 4096) = false by simp only [Bool.and_eq_false_iff, inB_false]; omega)
  have H := Lib.hid h
  clear h
  have hb := Ext.refl w
  go_enter Tryd.func7, Tryd.ntmps7
  go_wp2_with (first
    | (go_at_call 20; refine (five_any _).mono ?_; rintro e w' ⟨rfl, rfl⟩)
    | (go_at_call 23; refine (ofHead_no _ _ _ _ K.out _ _ (H.out.ext hb).bound).mono ?_; rintro e wn ⟨rfl, hq⟩; replace hb := hb.trans_ hq; clear hq; (try clear hc hf hz); obtain ⟨hc, hf, hz⟩ := hb.three)
    | (go_at_call 46; refine (kHeadWord_any _ _ _ _ ⟨by omega, by omega⟩ ⟨by omega, by omega⟩ ⟨by omega, by omega⟩ ⟨by omega, by omega⟩ _).mono ?_; rintro e w' ⟨rfl, rfl⟩)
    | (go_at_call 26; refine (toHead_yes _ h0 h1 HH.out _).mono ?_; rintro e wn ⟨rfl, hq⟩; replace hb := hb.trans_ hq; clear hq; (try clear hc hf hz); obtain ⟨hc, hf, hz⟩ := hb.three)
    | (go_at_call 47; refine (kHeadOf_yes _ h0 h1 HH.out _).mono ?_; rintro e w' ⟨rfl, rfl⟩)
    | (go_at_call 43; first | (refine (coded_env (H.out.ext hb) _ (by omega) _).mono ?_; rintro e wn ⟨rfl, hq⟩; replace hb := hb.trans_ hq; clear hq; (try clear hc hf hz); obtain ⟨hc, hf, hz⟩ := hb.three) | (refine (coded_env (H.out.ext (hb.alloc_ _)) _ (by omega) _).mono ?_; rintro e wn ⟨rfl, hq⟩; obtain ⟨hc2, hf2, _⟩ := hq.three; replace hb := (hb.alloc_ _).trans_ hq; clear hq; (try clear hc hf hz); obtain ⟨hc, hf, hz⟩ := hb.three)))
  go_ret
  refine ⟨rfl, ?_⟩
  repeat (first | exact hb | refine Ext.alloc_ ?_ _)

set_option maxHeartbeats 4000000 in
set_option maxRecDepth 100000 in
theorem heads_ml0 (k g m s a : Int) (w : World) (E : Nat → Addr) (h : ErrEnv E w) (h0 : 0 ≤ a) (h1 : a ≤ 18446744073709551615) (k0 : 0 ≤ k) (k1 : k ≤ 255) (g0 : 0 ≤ g) (g1 : g ≤ 15) (mb : m < 0) (hh : isHd a = false) :
    Calls Tryd.prog 7 #[.int .i64 k, .int .i64 g, .int .i64 m, .int .i64 s, .int .u64 a] w fun e w' => e = .returned (.bool true) ∧ Ext w w' := by
  have HH := Lib.hid hh
  clear hh
  have K := Lib.hid (show (inB k 255 && inB g 15 && inB m 1 && inB s 4096) = false by simp only [Bool.and_eq_false_iff, inB_false]; omega)
  have H := Lib.hid h
  clear h
  have hb := Ext.refl w
  go_enter Tryd.func7, Tryd.ntmps7
  go_wp2_with (first
    | (go_at_call 20; refine (five_any _).mono ?_; rintro e w' ⟨rfl, rfl⟩)
    | (go_at_call 23; refine (ofHead_no _ _ _ _ K.out _ _ (H.out.ext hb).bound).mono ?_; rintro e wn ⟨rfl, hq⟩; replace hb := hb.trans_ hq; clear hq; (try clear hc hf hz); obtain ⟨hc, hf, hz⟩ := hb.three)
    | (go_at_call 46; refine (kHeadWord_any _ _ _ _ ⟨by omega, by omega⟩ ⟨by omega, by omega⟩ ⟨by omega, by omega⟩ ⟨by omega, by omega⟩ _).mono ?_; rintro e w' ⟨rfl, rfl⟩)
    | (go_at_call 26; refine (toHead_no _ h0 h1 HH.out _ _ _ (H.out.ext hb).bound (H.out.ext hb).shape).mono ?_; rintro e wn ⟨rfl, hq⟩; replace hb := hb.trans_ hq; clear hq; (try clear hc hf hz); obtain ⟨hc, hf, hz⟩ := hb.three)
    | (go_at_call 47; refine (kHeadOf_no _ h0 h1 HH.out _).mono ?_; rintro e w' ⟨rfl, rfl⟩)
    | (go_at_call 43; first | (refine (coded_env (H.out.ext hb) _ (by omega) _).mono ?_; rintro e wn ⟨rfl, hq⟩; replace hb := hb.trans_ hq; clear hq; (try clear hc hf hz); obtain ⟨hc, hf, hz⟩ := hb.three) | (refine (coded_env (H.out.ext (hb.alloc_ _)) _ (by omega) _).mono ?_; rintro e wn ⟨rfl, hq⟩; obtain ⟨hc2, hf2, _⟩ := hq.three; replace hb := (hb.alloc_ _).trans_ hq; clear hq; (try clear hc hf hz); obtain ⟨hc, hf, hz⟩ := hb.three)))
  go_ret
  refine ⟨rfl, ?_⟩
  repeat (first | exact hb | refine Ext.alloc_ ?_ _)

set_option maxHeartbeats 4000000 in
set_option maxRecDepth 100000 in
theorem heads_mh1 (k g m s a : Int) (w : World) (E : Nat → Addr) (h : ErrEnv E w) (h0 : 0 ≤ a) (h1 : a ≤ 18446744073709551615) (k0 : 0 ≤ k) (k1 : k ≤ 255) (g0 : 0 ≤ g) (g1 : g ≤ 15) (mb : 1 < m) (hh : isHd a = true) :
    Calls Tryd.prog 7 #[.int .i64 k, .int .i64 g, .int .i64 m, .int .i64 s, .int .u64 a] w fun e w' => e = .returned (.bool true) ∧ Ext w w' := by
  have HH := Lib.hid hh
  clear hh
  have K := Lib.hid (show (inB k 255 && inB g 15 && inB m 1 && inB s 4096) = false by simp only [Bool.and_eq_false_iff, inB_false]; omega)
  have H := Lib.hid h
  clear h
  have hb := Ext.refl w
  go_enter Tryd.func7, Tryd.ntmps7
  go_wp2_with (first
    | (go_at_call 20; refine (five_any _).mono ?_; rintro e w' ⟨rfl, rfl⟩)
    | (go_at_call 23; refine (ofHead_no _ _ _ _ K.out _ _ (H.out.ext hb).bound).mono ?_; rintro e wn ⟨rfl, hq⟩; replace hb := hb.trans_ hq; clear hq; (try clear hc hf hz); obtain ⟨hc, hf, hz⟩ := hb.three)
    | (go_at_call 46; refine (kHeadWord_any _ _ _ _ ⟨by omega, by omega⟩ ⟨by omega, by omega⟩ ⟨by omega, by omega⟩ ⟨by omega, by omega⟩ _).mono ?_; rintro e w' ⟨rfl, rfl⟩)
    | (go_at_call 26; refine (toHead_yes _ h0 h1 HH.out _).mono ?_; rintro e wn ⟨rfl, hq⟩; replace hb := hb.trans_ hq; clear hq; (try clear hc hf hz); obtain ⟨hc, hf, hz⟩ := hb.three)
    | (go_at_call 47; refine (kHeadOf_yes _ h0 h1 HH.out _).mono ?_; rintro e w' ⟨rfl, rfl⟩)
    | (go_at_call 43; first | (refine (coded_env (H.out.ext hb) _ (by omega) _).mono ?_; rintro e wn ⟨rfl, hq⟩; replace hb := hb.trans_ hq; clear hq; (try clear hc hf hz); obtain ⟨hc, hf, hz⟩ := hb.three) | (refine (coded_env (H.out.ext (hb.alloc_ _)) _ (by omega) _).mono ?_; rintro e wn ⟨rfl, hq⟩; obtain ⟨hc2, hf2, _⟩ := hq.three; replace hb := (hb.alloc_ _).trans_ hq; clear hq; (try clear hc hf hz); obtain ⟨hc, hf, hz⟩ := hb.three)))
  go_ret
  refine ⟨rfl, ?_⟩
  repeat (first | exact hb | refine Ext.alloc_ ?_ _)

set_option maxHeartbeats 4000000 in
set_option maxRecDepth 100000 in
theorem heads_mh0 (k g m s a : Int) (w : World) (E : Nat → Addr) (h : ErrEnv E w) (h0 : 0 ≤ a) (h1 : a ≤ 18446744073709551615) (k0 : 0 ≤ k) (k1 : k ≤ 255) (g0 : 0 ≤ g) (g1 : g ≤ 15) (mb : 1 < m) (hh : isHd a = false) :
    Calls Tryd.prog 7 #[.int .i64 k, .int .i64 g, .int .i64 m, .int .i64 s, .int .u64 a] w fun e w' => e = .returned (.bool true) ∧ Ext w w' := by
  have HH := Lib.hid hh
  clear hh
  have K := Lib.hid (show (inB k 255 && inB g 15 && inB m 1 && inB s 4096) = false by simp only [Bool.and_eq_false_iff, inB_false]; omega)
  have H := Lib.hid h
  clear h
  have hb := Ext.refl w
  go_enter Tryd.func7, Tryd.ntmps7
  go_wp2_with (first
    | (go_at_call 20; refine (five_any _).mono ?_; rintro e w' ⟨rfl, rfl⟩)
    | (go_at_call 23; refine (ofHead_no _ _ _ _ K.out _ _ (H.out.ext hb).bound).mono ?_; rintro e wn ⟨rfl, hq⟩; replace hb := hb.trans_ hq; clear hq; (try clear hc hf hz); obtain ⟨hc, hf, hz⟩ := hb.three)
    | (go_at_call 46; refine (kHeadWord_any _ _ _ _ ⟨by omega, by omega⟩ ⟨by omega, by omega⟩ ⟨by omega, by omega⟩ ⟨by omega, by omega⟩ _).mono ?_; rintro e w' ⟨rfl, rfl⟩)
    | (go_at_call 26; refine (toHead_no _ h0 h1 HH.out _ _ _ (H.out.ext hb).bound (H.out.ext hb).shape).mono ?_; rintro e wn ⟨rfl, hq⟩; replace hb := hb.trans_ hq; clear hq; (try clear hc hf hz); obtain ⟨hc, hf, hz⟩ := hb.three)
    | (go_at_call 47; refine (kHeadOf_no _ h0 h1 HH.out _).mono ?_; rintro e w' ⟨rfl, rfl⟩)
    | (go_at_call 43; first | (refine (coded_env (H.out.ext hb) _ (by omega) _).mono ?_; rintro e wn ⟨rfl, hq⟩; replace hb := hb.trans_ hq; clear hq; (try clear hc hf hz); obtain ⟨hc, hf, hz⟩ := hb.three) | (refine (coded_env (H.out.ext (hb.alloc_ _)) _ (by omega) _).mono ?_; rintro e wn ⟨rfl, hq⟩; obtain ⟨hc2, hf2, _⟩ := hq.three; replace hb := (hb.alloc_ _).trans_ hq; clear hq; (try clear hc hf hz); obtain ⟨hc, hf, hz⟩ := hb.three)))
  go_ret
  refine ⟨rfl, ?_⟩
  repeat (first | exact hb | refine Ext.alloc_ ?_ _)

set_option maxHeartbeats 4000000 in
set_option maxRecDepth 100000 in
theorem heads_sl1 (k g m s a : Int) (w : World) (E : Nat → Addr) (h : ErrEnv E w) (h0 : 0 ≤ a) (h1 : a ≤ 18446744073709551615) (k0 : 0 ≤ k) (k1 : k ≤ 255) (g0 : 0 ≤ g) (g1 : g ≤ 15) (m0 : 0 ≤ m) (m1 : m ≤ 1) (sb : s < 0) (hh : isHd a = true) :
    Calls Tryd.prog 7 #[.int .i64 k, .int .i64 g, .int .i64 m, .int .i64 s, .int .u64 a] w fun e w' => e = .returned (.bool true) ∧ Ext w w' := by
  have HH := Lib.hid hh
  clear hh
  have K := Lib.hid (show (inB k 255 && inB g 15 && inB m 1 && inB s 4096) = false by simp only [Bool.and_eq_false_iff, inB_false]; omega)
  have H := Lib.hid h
  clear h
  have hb := Ext.refl w
  go_enter Tryd.func7, Tryd.ntmps7
  go_wp2_with (first
    | (go_at_call 20; refine (five_any _).mono ?_; rintro e w' ⟨rfl, rfl⟩)
    | (go_at_call 23; refine (ofHead_no _ _ _ _ K.out _ _ (H.out.ext hb).bound).mono ?_; rintro e wn ⟨rfl, hq⟩; replace hb := hb.trans_ hq; clear hq; (try clear hc hf hz); obtain ⟨hc, hf, hz⟩ := hb.three)
    | (go_at_call 46; refine (kHeadWord_any _ _ _ _ ⟨by omega, by omega⟩ ⟨by omega, by omega⟩ ⟨by omega, by omega⟩ ⟨by omega, by omega⟩ _).mono ?_; rintro e w' ⟨rfl, rfl⟩)
    | (go_at_call 26; refine (toHead_yes _ h0 h1 HH.out _).mono ?_; rintro e wn ⟨rfl, hq⟩; replace hb := hb.trans_ hq; clear hq; (try clear hc hf hz); obtain ⟨hc, hf, hz⟩ := hb.three)
    | (go_at_call 47; refine (kHeadOf_yes _ h0 h1 HH.out _).mono ?_; rintro e w' ⟨rfl, rfl⟩)
    | (go_at_call 43; first | (refine (coded_env (H.out.ext hb) _ (by omega) _).mono ?_; rintro e wn ⟨rfl, hq⟩; replace hb := hb.trans_ hq; clear hq; (try clear hc hf hz); obtain ⟨hc, hf, hz⟩ := hb.three) | (refine (coded_env (H.out.ext (hb.alloc_ _)) _ (by omega) _).mono ?_; rintro e wn ⟨rfl, hq⟩; obtain ⟨hc2, hf2, _⟩ := hq.three; replace hb := (hb.alloc_ _).trans_ hq; clear hq; (try clear hc hf hz); obtain ⟨hc, hf, hz⟩ := hb.three)))
  go_ret
  refine ⟨rfl, ?_⟩
  repeat (first | exact hb | refine Ext.alloc_ ?_ _)

set_option maxHeartbeats 4000000 in
set_option maxRecDepth 100000 in
theorem heads_sl0 (k g m s a : Int) (w : World) (E : Nat → Addr) (h : ErrEnv E w) (h0 : 0 ≤ a) (h1 : a ≤ 18446744073709551615) (k0 : 0 ≤ k) (k1 : k ≤ 255) (g0 : 0 ≤ g) (g1 : g ≤ 15) (m0 : 0 ≤ m) (m1 : m ≤ 1) (sb : s < 0) (hh : isHd a = false) :
    Calls Tryd.prog 7 #[.int .i64 k, .int .i64 g, .int .i64 m, .int .i64 s, .int .u64 a] w fun e w' => e = .returned (.bool true) ∧ Ext w w' := by
  have HH := Lib.hid hh
  clear hh
  have K := Lib.hid (show (inB k 255 && inB g 15 && inB m 1 && inB s 4096) = false by simp only [Bool.and_eq_false_iff, inB_false]; omega)
  have H := Lib.hid h
  clear h
  have hb := Ext.refl w
  go_enter Tryd.func7, Tryd.ntmps7
  go_wp2_with (first
    | (go_at_call 20; refine (five_any _).mono ?_; rintro e w' ⟨rfl, rfl⟩)
    | (go_at_call 23; refine (ofHead_no _ _ _ _ K.out _ _ (H.out.ext hb).bound).mono ?_; rintro e wn ⟨rfl, hq⟩; replace hb := hb.trans_ hq; clear hq; (try clear hc hf hz); obtain ⟨hc, hf, hz⟩ := hb.three)
    | (go_at_call 46; refine (kHeadWord_any _ _ _ _ ⟨by omega, by omega⟩ ⟨by omega, by omega⟩ ⟨by omega, by omega⟩ ⟨by omega, by omega⟩ _).mono ?_; rintro e w' ⟨rfl, rfl⟩)
    | (go_at_call 26; refine (toHead_no _ h0 h1 HH.out _ _ _ (H.out.ext hb).bound (H.out.ext hb).shape).mono ?_; rintro e wn ⟨rfl, hq⟩; replace hb := hb.trans_ hq; clear hq; (try clear hc hf hz); obtain ⟨hc, hf, hz⟩ := hb.three)
    | (go_at_call 47; refine (kHeadOf_no _ h0 h1 HH.out _).mono ?_; rintro e w' ⟨rfl, rfl⟩)
    | (go_at_call 43; first | (refine (coded_env (H.out.ext hb) _ (by omega) _).mono ?_; rintro e wn ⟨rfl, hq⟩; replace hb := hb.trans_ hq; clear hq; (try clear hc hf hz); obtain ⟨hc, hf, hz⟩ := hb.three) | (refine (coded_env (H.out.ext (hb.alloc_ _)) _ (by omega) _).mono ?_; rintro e wn ⟨rfl, hq⟩; obtain ⟨hc2, hf2, _⟩ := hq.three; replace hb := (hb.alloc_ _).trans_ hq; clear hq; (try clear hc hf hz); obtain ⟨hc, hf, hz⟩ := hb.three)))
  go_ret
  refine ⟨rfl, ?_⟩
  repeat (first | exact hb | refine Ext.alloc_ ?_ _)

set_option maxHeartbeats 4000000 in
set_option maxRecDepth 100000 in
theorem heads_sh1 (k g m s a : Int) (w : World) (E : Nat → Addr) (h : ErrEnv E w) (h0 : 0 ≤ a) (h1 : a ≤ 18446744073709551615) (k0 : 0 ≤ k) (k1 : k ≤ 255) (g0 : 0 ≤ g) (g1 : g ≤ 15) (m0 : 0 ≤ m) (m1 : m ≤ 1) (sb : 4096 < s) (hh : isHd a = true) :
    Calls Tryd.prog 7 #[.int .i64 k, .int .i64 g, .int .i64 m, .int .i64 s, .int .u64 a] w fun e w' => e = .returned (.bool true) ∧ Ext w w' := by
  have HH := Lib.hid hh
  clear hh
  have K := Lib.hid (show (inB k 255 && inB g 15 && inB m 1 && inB s 4096) = false by simp only [Bool.and_eq_false_iff, inB_false]; omega)
  have H := Lib.hid h
  clear h
  have hb := Ext.refl w
  go_enter Tryd.func7, Tryd.ntmps7
  go_wp2_with (first
    | (go_at_call 20; refine (five_any _).mono ?_; rintro e w' ⟨rfl, rfl⟩)
    | (go_at_call 23; refine (ofHead_no _ _ _ _ K.out _ _ (H.out.ext hb).bound).mono ?_; rintro e wn ⟨rfl, hq⟩; replace hb := hb.trans_ hq; clear hq; (try clear hc hf hz); obtain ⟨hc, hf, hz⟩ := hb.three)
    | (go_at_call 46; refine (kHeadWord_any _ _ _ _ ⟨by omega, by omega⟩ ⟨by omega, by omega⟩ ⟨by omega, by omega⟩ ⟨by omega, by omega⟩ _).mono ?_; rintro e w' ⟨rfl, rfl⟩)
    | (go_at_call 26; refine (toHead_yes _ h0 h1 HH.out _).mono ?_; rintro e wn ⟨rfl, hq⟩; replace hb := hb.trans_ hq; clear hq; (try clear hc hf hz); obtain ⟨hc, hf, hz⟩ := hb.three)
    | (go_at_call 47; refine (kHeadOf_yes _ h0 h1 HH.out _).mono ?_; rintro e w' ⟨rfl, rfl⟩)
    | (go_at_call 43; first | (refine (coded_env (H.out.ext hb) _ (by omega) _).mono ?_; rintro e wn ⟨rfl, hq⟩; replace hb := hb.trans_ hq; clear hq; (try clear hc hf hz); obtain ⟨hc, hf, hz⟩ := hb.three) | (refine (coded_env (H.out.ext (hb.alloc_ _)) _ (by omega) _).mono ?_; rintro e wn ⟨rfl, hq⟩; obtain ⟨hc2, hf2, _⟩ := hq.three; replace hb := (hb.alloc_ _).trans_ hq; clear hq; (try clear hc hf hz); obtain ⟨hc, hf, hz⟩ := hb.three)))
  go_ret
  refine ⟨rfl, ?_⟩
  repeat (first | exact hb | refine Ext.alloc_ ?_ _)

set_option maxHeartbeats 4000000 in
set_option maxRecDepth 100000 in
theorem heads_sh0 (k g m s a : Int) (w : World) (E : Nat → Addr) (h : ErrEnv E w) (h0 : 0 ≤ a) (h1 : a ≤ 18446744073709551615) (k0 : 0 ≤ k) (k1 : k ≤ 255) (g0 : 0 ≤ g) (g1 : g ≤ 15) (m0 : 0 ≤ m) (m1 : m ≤ 1) (sb : 4096 < s) (hh : isHd a = false) :
    Calls Tryd.prog 7 #[.int .i64 k, .int .i64 g, .int .i64 m, .int .i64 s, .int .u64 a] w fun e w' => e = .returned (.bool true) ∧ Ext w w' := by
  have HH := Lib.hid hh
  clear hh
  have K := Lib.hid (show (inB k 255 && inB g 15 && inB m 1 && inB s 4096) = false by simp only [Bool.and_eq_false_iff, inB_false]; omega)
  have H := Lib.hid h
  clear h
  have hb := Ext.refl w
  go_enter Tryd.func7, Tryd.ntmps7
  go_wp2_with (first
    | (go_at_call 20; refine (five_any _).mono ?_; rintro e w' ⟨rfl, rfl⟩)
    | (go_at_call 23; refine (ofHead_no _ _ _ _ K.out _ _ (H.out.ext hb).bound).mono ?_; rintro e wn ⟨rfl, hq⟩; replace hb := hb.trans_ hq; clear hq; (try clear hc hf hz); obtain ⟨hc, hf, hz⟩ := hb.three)
    | (go_at_call 46; refine (kHeadWord_any _ _ _ _ ⟨by omega, by omega⟩ ⟨by omega, by omega⟩ ⟨by omega, by omega⟩ ⟨by omega, by omega⟩ _).mono ?_; rintro e w' ⟨rfl, rfl⟩)
    | (go_at_call 26; refine (toHead_no _ h0 h1 HH.out _ _ _ (H.out.ext hb).bound (H.out.ext hb).shape).mono ?_; rintro e wn ⟨rfl, hq⟩; replace hb := hb.trans_ hq; clear hq; (try clear hc hf hz); obtain ⟨hc, hf, hz⟩ := hb.three)
    | (go_at_call 47; refine (kHeadOf_no _ h0 h1 HH.out _).mono ?_; rintro e w' ⟨rfl, rfl⟩)
    | (go_at_call 43; first | (refine (coded_env (H.out.ext hb) _ (by omega) _).mono ?_; rintro e wn ⟨rfl, hq⟩; replace hb := hb.trans_ hq; clear hq; (try clear hc hf hz); obtain ⟨hc, hf, hz⟩ := hb.three) | (refine (coded_env (H.out.ext (hb.alloc_ _)) _ (by omega) _).mono ?_; rintro e wn ⟨rfl, hq⟩; obtain ⟨hc2, hf2, _⟩ := hq.three; replace hb := (hb.alloc_ _).trans_ hq; clear hq; (try clear hc hf hz); obtain ⟨hc, hf, hz⟩ := hb.three)))
  go_ret
  refine ⟨rfl, ?_⟩
  repeat (first | exact hb | refine Ext.alloc_ ?_ _)

set_option maxHeartbeats 4000000 in
set_option maxRecDepth 100000 in
theorem heads_ok1 (k g m s a : Int) (w : World) (E : Nat → Addr) (h : ErrEnv E w) (h0 : 0 ≤ a) (h1 : a ≤ 18446744073709551615) (k0 : 0 ≤ k) (k1 : k ≤ 255) (g0 : 0 ≤ g) (g1 : g ≤ 15) (m0 : 0 ≤ m) (m1 : m ≤ 1) (s0 : 0 ≤ s) (s1 : s ≤ 4096) (hh : isHd a = true) :
    Calls Tryd.prog 7 #[.int .i64 k, .int .i64 g, .int .i64 m, .int .i64 s, .int .u64 a] w fun e w' => e = .returned (.bool true) ∧ Ext w w' := by
  have HH := Lib.hid hh
  clear hh
  have K := Lib.hid (show inB k 255 = true ∧ inB g 15 = true ∧ inB m 1 = true ∧ inB s 4096 = true by simp only [inB_true]; omega)
  have hin := headW_in k g m s ⟨k0, k1⟩ ⟨g0, g1⟩ ⟨m0, m1⟩ ⟨s0, s1⟩
  have H := Lib.hid h
  clear h
  have hb := Ext.refl w
  go_enter Tryd.func7, Tryd.ntmps7
  go_wp2_with (first
    | (go_at_call 20; refine (five_any _).mono ?_; rintro e w' ⟨rfl, rfl⟩)
    | (go_at_call 23; refine (ofHead_yes _ _ _ _ K.out.1 K.out.2.1 K.out.2.2.1 K.out.2.2.2 _).mono ?_; rintro e wn ⟨rfl, hq⟩; replace hb := hb.trans_ hq; clear hq; (try clear hc hf hz); obtain ⟨hc, hf, hz⟩ := hb.three)
    | (go_at_call 46; refine (kHeadWord_any _ _ _ _ ⟨by omega, by omega⟩ ⟨by omega, by omega⟩ ⟨by omega, by omega⟩ ⟨by omega, by omega⟩ _).mono ?_; rintro e w' ⟨rfl, rfl⟩)
    | (go_at_call 26; refine (toHead_yes _ h0 h1 HH.out _).mono ?_; rintro e wn ⟨rfl, hq⟩; replace hb := hb.trans_ hq; clear hq; (try clear hc hf hz); obtain ⟨hc, hf, hz⟩ := hb.three)
    | (go_at_call 47; refine (kHeadOf_yes _ h0 h1 HH.out _).mono ?_; rintro e w' ⟨rfl, rfl⟩)
    | (go_at_call 43; first | (refine (coded_env (H.out.ext hb) _ (by omega) _).mono ?_; rintro e wn ⟨rfl, hq⟩; replace hb := hb.trans_ hq; clear hq; (try clear hc hf hz); obtain ⟨hc, hf, hz⟩ := hb.three) | (refine (coded_env (H.out.ext (hb.alloc_ _)) _ (by omega) _).mono ?_; rintro e wn ⟨rfl, hq⟩; obtain ⟨hc2, hf2, _⟩ := hq.three; replace hb := (hb.alloc_ _).trans_ hq; clear hq; (try clear hc hf hz); obtain ⟨hc, hf, hz⟩ := hb.three)))
  go_ret
  refine ⟨rfl, ?_⟩
  repeat (first | exact hb | refine Ext.alloc_ ?_ _)

set_option maxHeartbeats 4000000 in
set_option maxRecDepth 100000 in
theorem heads_ok0 (k g m s a : Int) (w : World) (E : Nat → Addr) (h : ErrEnv E w) (h0 : 0 ≤ a) (h1 : a ≤ 18446744073709551615) (k0 : 0 ≤ k) (k1 : k ≤ 255) (g0 : 0 ≤ g) (g1 : g ≤ 15) (m0 : 0 ≤ m) (m1 : m ≤ 1) (s0 : 0 ≤ s) (s1 : s ≤ 4096) (hh : isHd a = false) :
    Calls Tryd.prog 7 #[.int .i64 k, .int .i64 g, .int .i64 m, .int .i64 s, .int .u64 a] w fun e w' => e = .returned (.bool true) ∧ Ext w w' := by
  have HH := Lib.hid hh
  clear hh
  have K := Lib.hid (show inB k 255 = true ∧ inB g 15 = true ∧ inB m 1 = true ∧ inB s 4096 = true by simp only [inB_true]; omega)
  have hin := headW_in k g m s ⟨k0, k1⟩ ⟨g0, g1⟩ ⟨m0, m1⟩ ⟨s0, s1⟩
  have H := Lib.hid h
  clear h
  have hb := Ext.refl w
  go_enter Tryd.func7, Tryd.ntmps7
  go_wp2_with (first
    | (go_at_call 20; refine (five_any _).mono ?_; rintro e w' ⟨rfl, rfl⟩)
    | (go_at_call 23; refine (ofHead_yes _ _ _ _ K.out.1 K.out.2.1 K.out.2.2.1 K.out.2.2.2 _).mono ?_; rintro e wn ⟨rfl, hq⟩; replace hb := hb.trans_ hq; clear hq; (try clear hc hf hz); obtain ⟨hc, hf, hz⟩ := hb.three)
    | (go_at_call 46; refine (kHeadWord_any _ _ _ _ ⟨by omega, by omega⟩ ⟨by omega, by omega⟩ ⟨by omega, by omega⟩ ⟨by omega, by omega⟩ _).mono ?_; rintro e w' ⟨rfl, rfl⟩)
    | (go_at_call 26; refine (toHead_no _ h0 h1 HH.out _ _ _ (H.out.ext hb).bound (H.out.ext hb).shape).mono ?_; rintro e wn ⟨rfl, hq⟩; replace hb := hb.trans_ hq; clear hq; (try clear hc hf hz); obtain ⟨hc, hf, hz⟩ := hb.three)
    | (go_at_call 47; refine (kHeadOf_no _ h0 h1 HH.out _).mono ?_; rintro e w' ⟨rfl, rfl⟩)
    | (go_at_call 43; first | (refine (coded_env (H.out.ext hb) _ (by omega) _).mono ?_; rintro e wn ⟨rfl, hq⟩; replace hb := hb.trans_ hq; clear hq; (try clear hc hf hz); obtain ⟨hc, hf, hz⟩ := hb.three) | (refine (coded_env (H.out.ext (hb.alloc_ _)) _ (by omega) _).mono ?_; rintro e wn ⟨rfl, hq⟩; obtain ⟨hc2, hf2, _⟩ := hq.three; replace hb := (hb.alloc_ _).trans_ hq; clear hq; (try clear hc hf hz); obtain ⟨hc, hf, hz⟩ := hb.three)))
  go_ret
  refine ⟨rfl, ?_⟩
  repeat (first | exact hb | refine Ext.alloc_ ?_ _)

theorem heads_any (k g m s a : Int) (w : World) (E : Nat → Addr) (h : ErrEnv E w) (h0 : 0 ≤ a) (h1 : a ≤ 18446744073709551615) :
    Calls Tryd.prog 7 #[.int .i64 k, .int .i64 g, .int .i64 m, .int .i64 s, .int .u64 a] w fun e w' => e = .returned (.bool true) ∧ Ext w w' := by
  rcases Bool.eq_false_or_eq_true (isHd a) with hd | hd
  · by_cases kb : k < 0
    · exact heads_kl1 k g m s a w E h h0 h1 kb hd
    by_cases kb2 : 255 < k
    · exact heads_kh1 k g m s a w E h h0 h1 kb2 hd
    by_cases gb : g < 0
    · exact heads_gl1 k g m s a w E h h0 h1 (by omega) (by omega) gb hd
    by_cases gb2 : 15 < g
    · exact heads_gh1 k g m s a w E h h0 h1 (by omega) (by omega) gb2 hd
    by_cases mb : m < 0
    · exact heads_ml1 k g m s a w E h h0 h1 (by omega) (by omega) (by omega) (by omega) mb hd
    by_cases mb2 : 1 < m
    · exact heads_mh1 k g m s a w E h h0 h1 (by omega) (by omega) (by omega) (by omega) mb2 hd
    by_cases sb : s < 0
    · exact heads_sl1 k g m s a w E h h0 h1 (by omega) (by omega) (by omega) (by omega) (by omega) (by omega) sb hd
    by_cases sb2 : 4096 < s
    · exact heads_sh1 k g m s a w E h h0 h1 (by omega) (by omega) (by omega) (by omega) (by omega) (by omega) sb2 hd
    exact heads_ok1 k g m s a w E h h0 h1 (by omega) (by omega) (by omega) (by omega) (by omega) (by omega) (by omega) (by omega) hd
  · by_cases kb : k < 0
    · exact heads_kl0 k g m s a w E h h0 h1 kb hd
    by_cases kb2 : 255 < k
    · exact heads_kh0 k g m s a w E h h0 h1 kb2 hd
    by_cases gb : g < 0
    · exact heads_gl0 k g m s a w E h h0 h1 (by omega) (by omega) gb hd
    by_cases gb2 : 15 < g
    · exact heads_gh0 k g m s a w E h h0 h1 (by omega) (by omega) gb2 hd
    by_cases mb : m < 0
    · exact heads_ml0 k g m s a w E h h0 h1 (by omega) (by omega) (by omega) (by omega) mb hd
    by_cases mb2 : 1 < m
    · exact heads_mh0 k g m s a w E h h0 h1 (by omega) (by omega) (by omega) (by omega) mb2 hd
    by_cases sb : s < 0
    · exact heads_sl0 k g m s a w E h h0 h1 (by omega) (by omega) (by omega) (by omega) (by omega) (by omega) sb hd
    by_cases sb2 : 4096 < s
    · exact heads_sh0 k g m s a w E h h0 h1 (by omega) (by omega) (by omega) (by omega) (by omega) (by omega) sb2 hd
    exact heads_ok0 k g m s a w E h h0 h1 (by omega) (by omega) (by omega) (by omega) (by omega) (by omega) (by omega) (by omega) hd
end Go.Proofs.YtpbfhkkecbnieaaDoor
