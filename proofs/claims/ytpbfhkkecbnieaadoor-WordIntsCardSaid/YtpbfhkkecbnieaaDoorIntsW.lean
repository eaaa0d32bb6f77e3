/- The law WordInts: its walks. -/
import Derived.Test.YtpbfhkkecbnieaaDoorRefWordB
import Derived.Test.YtpbfhkkecbnieaaDoorWord4
import Derived.Test.YtpbfhkkecbnieaaDoorLaidEnv
namespace Go.Proofs.YtpbfhkkecbnieaaDoor
open Go.ChangeShapes Go.WideShapes Go.ChangeAt Go.RowKit
set_option linter.unusedVariables false
set_option linter.unusedSimpArgs false


set_option maxHeartbeats 4000000 in
set_option maxRecDepth 100000 in
theorem ints_11 (n a : Int) (w : World) (E : Nat → Addr) (h : ErrEnv E w) (h0 : 0 ≤ a) (h1 : a ≤ 18446744073709551615) (hs : smallB n = true) (hk : (a % 4 != 1) = false) :
    Calls Tryd.prog 6 #[.int .i64 n, .int .u64 a] w fun e w' => e = .returned (.bool true) ∧ Ext w w' := by
  have e1 : (kindW a != a % 4) = false := by simp [kindW]
  have e2 : kindW a = 1 := by simpa [kindW] using hk
  have H := Lib.hid h
  clear h
  have hb := Ext.refl w
  go_enter Tryd.func6, Tryd.ntmps6
  go_wp2_with (first
    | (go_at_call 20; refine (five_any _).mono ?_; rintro e w' ⟨rfl, rfl⟩)
    | (go_at_call 21; refine (ofInt_yes _ hs _).mono ?_; rintro e w' ⟨rfl, rfl⟩)
    | (go_at_call 41; refine (kind_any _ h0 h1 _).mono ?_; rintro e w' ⟨rfl, rfl⟩)
    | (go_at_call 42; refine (kIsSmall_any _ _).mono ?_; rintro e w' ⟨rfl, rfl⟩)
    | (go_at_call 44; refine (kIntWord_any _ _).mono ?_; rintro e w' ⟨rfl, rfl⟩)
    | (go_at_call 45; refine (kIntOf_any _ h0 h1 _).mono ?_; rintro e w' ⟨rfl, rfl⟩)
    | (go_at_call 24; refine (toInt_yes _ h0 h1 e2 _).mono ?_; rintro e w' ⟨rfl, rfl⟩))
  go_ret
  exact ⟨rfl, hb⟩

set_option maxHeartbeats 4000000 in
set_option maxRecDepth 100000 in
theorem ints_10 (n a : Int) (w : World) (E : Nat → Addr) (h : ErrEnv E w) (h0 : 0 ≤ a) (h1 : a ≤ 18446744073709551615) (hs : smallB n = true) (hk : (a % 4 != 1) = true) :
    Calls Tryd.prog 6 #[.int .i64 n, .int .u64 a] w fun e w' => e = .returned (.bool true) ∧ Ext w w' := by
  have e1 : (kindW a != a % 4) = false := by simp [kindW]
  have e2 : (kindW a != 1) = true := hk
  have H := Lib.hid h
  clear h
  have hb := Ext.refl w
  go_enter Tryd.func6, Tryd.ntmps6
  go_wp2_with (first
    | (go_at_call 20; refine (five_any _).mono ?_; rintro e w' ⟨rfl, rfl⟩)
    | (go_at_call 21; refine (ofInt_yes _ hs _).mono ?_; rintro e w' ⟨rfl, rfl⟩)
    | (go_at_call 41; refine (kind_any _ h0 h1 _).mono ?_; rintro e w' ⟨rfl, rfl⟩)
    | (go_at_call 42; refine (kIsSmall_any _ _).mono ?_; rintro e w' ⟨rfl, rfl⟩)
    | (go_at_call 44; refine (kIntWord_any _ _).mono ?_; rintro e w' ⟨rfl, rfl⟩)
    | (go_at_call 45; refine (kIntOf_any _ h0 h1 _).mono ?_; rintro e w' ⟨rfl, rfl⟩)
    | (go_at_call 24; refine (toInt_no _ h0 h1 e2 _ _ (H.out.ext hb).shape).mono ?_; rintro e wn ⟨rfl, hq⟩; replace hb := hb.trans_ hq; clear hq; (try clear hc hf hz); obtain ⟨hc, hf, hz⟩ := hb.three)
    | (go_at_call 43; refine (coded_env (H.out.ext hb) _ (by omega) _).mono ?_; rintro e wn ⟨rfl, hq⟩; replace hb := hb.trans_ hq; clear hq; (try clear hc hf hz); obtain ⟨hc, hf, hz⟩ := hb.three))
  go_ret
  exact ⟨rfl, hb⟩

set_option maxHeartbeats 4000000 in
set_option maxRecDepth 100000 in
theorem ints_01 (n a : Int) (w : World) (E : Nat → Addr) (h : ErrEnv E w) (h0 : 0 ≤ a) (h1 : a ≤ 18446744073709551615) (hs : smallB n = false) (hk : (a % 4 != 1) = false) :
    Calls Tryd.prog 6 #[.int .i64 n, .int .u64 a] w fun e w' => e = .returned (.bool true) ∧ Ext w w' := by
  have e1 : (kindW a != a % 4) = false := by simp [kindW]
  have e2 : kindW a = 1 := by simpa [kindW] using hk
  have H := Lib.hid h
  clear h
  have hb := Ext.refl w
  go_enter Tryd.func6, Tryd.ntmps6
  go_wp2_with (first
    | (go_at_call 20; refine (five_any _).mono ?_; rintro e w' ⟨rfl, rfl⟩)
    | (go_at_call 21; refine (ofInt_no _ hs _ _ (H.out.ext hb).bound).mono ?_; rintro e wn ⟨rfl, hq⟩; replace hb := hb.trans_ hq; clear hq; (try clear hc hf hz); obtain ⟨hc, hf, hz⟩ := hb.three)
    | (go_at_call 41; refine (kind_any _ h0 h1 _).mono ?_; rintro e w' ⟨rfl, rfl⟩)
    | (go_at_call 42; refine (kIsSmall_any _ _).mono ?_; rintro e w' ⟨rfl, rfl⟩)
    | (go_at_call 44; refine (kIntWord_any _ _).mono ?_; rintro e w' ⟨rfl, rfl⟩)
    | (go_at_call 45; refine (kIntOf_any _ h0 h1 _).mono ?_; rintro e w' ⟨rfl, rfl⟩)
    | (go_at_call 24; refine (toInt_yes _ h0 h1 e2 _).mono ?_; rintro e w' ⟨rfl, rfl⟩)
    | (go_at_call 43; refine (coded_env (H.out.ext hb) _ (by omega) _).mono ?_; rintro e wn ⟨rfl, hq⟩; replace hb := hb.trans_ hq; clear hq; (try clear hc hf hz); obtain ⟨hc, hf, hz⟩ := hb.three))
  go_ret
  exact ⟨rfl, hb⟩

set_option maxHeartbeats 4000000 in
set_option maxRecDepth 100000 in
theorem ints_00 (n a : Int) (w : World) (E : Nat → Addr) (h : ErrEnv E w) (h0 : 0 ≤ a) (h1 : a ≤ 18446744073709551615) (hs : smallB n = false) (hk : (a % 4 != 1) = true) :
    Calls Tryd.prog 6 #[.int .i64 n, .int .u64 a] w fun e w' => e = .returned (.bool true) ∧ Ext w w' := by
  have e1 : (kindW a != a % 4) = false := by simp [kindW]
  have e2 : (kindW a != 1) = true := hk
  have H := Lib.hid h
  clear h
  have hb := Ext.refl w
  go_enter Tryd.func6, Tryd.ntmps6
  go_wp2_with (first
    | (go_at_call 20; refine (five_any _).mono ?_; rintro e w' ⟨rfl, rfl⟩)
    | (go_at_call 21; refine (ofInt_no _ hs _ _ (H.out.ext hb).bound).mono ?_; rintro e wn ⟨rfl, hq⟩; replace hb := hb.trans_ hq; clear hq; (try clear hc hf hz); obtain ⟨hc, hf, hz⟩ := hb.three)
    | (go_at_call 41; refine (kind_any _ h0 h1 _).mono ?_; rintro e w' ⟨rfl, rfl⟩)
    | (go_at_call 42; refine (kIsSmall_any _ _).mono ?_; rintro e w' ⟨rfl, rfl⟩)
    | (go_at_call 44; refine (kIntWord_any _ _).mono ?_; rintro e w' ⟨rfl, rfl⟩)
    | (go_at_call 45; refine (kIntOf_any _ h0 h1 _).mono ?_; rintro e w' ⟨rfl, rfl⟩)
    | (go_at_call 24; refine (toInt_no _ h0 h1 e2 _ _ (H.out.ext hb).shape).mono ?_; rintro e wn ⟨rfl, hq⟩; replace hb := hb.trans_ hq; clear hq; (try clear hc hf hz); obtain ⟨hc, hf, hz⟩ := hb.three)
    | (go_at_call 43; refine (coded_env (H.out.ext hb) _ (by omega) _).mono ?_; rintro e wn ⟨rfl, hq⟩; replace hb := hb.trans_ hq; clear hq; (try clear hc hf hz); obtain ⟨hc, hf, hz⟩ := hb.three))
  go_ret
  exact ⟨rfl, hb⟩

theorem ints_any (n a : Int) (w : World) (E : Nat → Addr) (h : ErrEnv E w) (h0 : 0 ≤ a) (h1 : a ≤ 18446744073709551615) :
    Calls Tryd.prog 6 #[.int .i64 n, .int .u64 a] w fun e w' => e = .returned (.bool true) ∧ Ext w w' := by
  rcases Bool.eq_false_or_eq_true (smallB n) with hs | hs <;> rcases Bool.eq_false_or_eq_true (a % 4 != 1) with hk | hk
  · exact ints_10 n a w E h h0 h1 hs hk
  · exact ints_11 n a w E h h0 h1 hs hk
  · exact ints_00 n a w E h h0 h1 hs hk
  · exact ints_01 n a w E h h0 h1 hs hk
end Go.Proofs.YtpbfhkkecbnieaaDoor
