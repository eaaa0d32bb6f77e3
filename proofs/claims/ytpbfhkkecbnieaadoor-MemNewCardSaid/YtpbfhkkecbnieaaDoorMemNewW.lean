/- The law MemNew: its walk. -/
import Derived.Test.YtpbfhkkecbnieaaDoorFresh
import Derived.Test.YtpbfhkkecbnieaaDoorBack0
import Derived.Test.YtpbfhkkecbnieaaDoorRefChk0
namespace Go.Proofs.YtpbfhkkecbnieaaDoor
open Go.RowKit
set_option linter.unusedVariables false
set_option linter.unusedSimpArgs false

theorem newOK_false (half old card : Int) (h : half < 1 ∨ 65536 < half ∨ old < 1 ∨ 65536 < old ∨ card < 1 ∨ 1024 < card) : newOK half old card = false := by
  unfold newOK
  have : ¬ (inR half 1 65536 = true ∧ inR old 1 65536 = true ∧ inR card 1 1024 = true) := by
    rw [inR_true, inR_true, inR_true]
    rintro ⟨⟨_, _⟩, ⟨_, _⟩, ⟨_, _⟩⟩
    omega
  revert this
  cases inR half 1 65536 <;> cases inR old 1 65536 <;> cases inR card 1 1024 <;> simp
set_option maxRecDepth 100000 in
set_option maxHeartbeats 4000000 in
theorem memNew_big (half old card : Int) (hh : (3000 < half ∧ half ≤ 65536) ∨ (¬ 3000 < half ∧ 3000 < old ∧ old ≤ 65536) ∨ (3000 < half ∧ ¬ half ≤ 65536 ∧ 3000 < old ∧ old ≤ 65536)) (w : World) (E : Nat → Addr) (h : ErrEnv E w) :
    Calls Tryd.prog 12 #[.int .i64 half, .int .i64 old, .int .i64 card] w fun e w' => e = .returned (.bool true) ∧ Ext w w' := by
  have H := Lib.hid h
  clear h
  rcases hh with ⟨h1, h2⟩ | ⟨h1, h2, h3⟩ | ⟨h1, h2, h3, h4⟩
  all_goals
    go_enter Tryd.func12, Tryd.ntmps12
    go_wp2_with (go_at_call 27; refine (fresh_any _ E H.out).mono ?_; rintro e w' ⟨rfl, hq⟩; have hb := Lib.hid hq; clear hq)
    go_ret
    exact ⟨rfl, hb.out⟩
set_option maxRecDepth 100000 in
set_option maxHeartbeats 4000000 in
theorem memNew_no (half old card : Int)
    (hh : (half < 1 ∧ ¬ 3000 < half ∧ ¬ 3000 < old) ∨ (half < 1 ∧ ¬ 3000 < half ∧ 3000 < old ∧ ¬ old ≤ 65536) ∨ (65536 < half ∧ 3000 < half ∧ ¬ half < 1 ∧ ¬ half ≤ 65536 ∧ ¬ 3000 < old) ∨ (65536 < half ∧ 3000 < half ∧ ¬ half < 1 ∧ ¬ half ≤ 65536 ∧ 3000 < old ∧ ¬ old ≤ 65536)
      ∨ (¬ half < 1 ∧ ¬ 65536 < half ∧ ¬ 3000 < half ∧ ¬ 3000 < old ∧ old < 1) ∨ (¬ half < 1 ∧ ¬ 65536 < half ∧ ¬ 3000 < half ∧ 3000 < old ∧ ¬ old < 1 ∧ 65536 < old ∧ ¬ old ≤ 65536)
      ∨ (¬ half < 1 ∧ ¬ 65536 < half ∧ ¬ 3000 < half ∧ ¬ 3000 < old ∧ ¬ old < 1 ∧ ¬ 65536 < old ∧ card < 1) ∨ (¬ half < 1 ∧ ¬ 65536 < half ∧ ¬ 3000 < half ∧ ¬ 3000 < old ∧ ¬ old < 1 ∧ ¬ 65536 < old ∧ ¬ card < 1 ∧ 1024 < card)) (w : World) (E : Nat → Addr) (h : ErrEnv E w) :
    Calls Tryd.prog 12 #[.int .i64 half, .int .i64 old, .int .i64 card] w fun e w' => e = .returned (.bool true) ∧ Ext w w' := by
  have hN : Hid (newOK half old card = false) := Lib.hid (newOK_false _ _ _ (by omega))
  have H := Lib.hid h
  clear h
  rcases hh with ⟨h1, h2, h3⟩ | ⟨h1, h2, h3, h4⟩ | ⟨h1, h2, h3, h4, h5⟩ | ⟨h1, h2, h3, h4, h5, h6⟩ | ⟨h1, h2, h3, h4, h5⟩ | ⟨h1, h2, h3, h4, h5, h6, h7⟩ | ⟨h1, h2, h3, h4, h5, h6, h7⟩ | ⟨h1, h2, h3, h4, h5, h6, h7, h8⟩
  all_goals
    go_enter Tryd.func12, Tryd.ntmps12
    go_wp2_with (first
      | (go_at_call 27; refine (fresh_any _ E H.out).mono ?_; rintro e w' ⟨rfl, hq⟩; have hb := Lib.hid hq; clear hq)
      | (go_at_call 56; refine (new_no _ _ _ hN.out _ _ (H.out.ext hb.out).bound).mono ?_; rintro e w' ⟨rfl, hq⟩; have hb2 := Lib.hid (hb.out.trans_ hq); clear hq)
      | (go_at_call 43; refine (coded_env (H.out.ext hb2.out) _ (by omega) _).mono ?_; rintro e wn ⟨rfl, hq⟩; have hb3 := Lib.hid (hb2.out.trans_ hq); clear hq))
    go_ret
    exact ⟨rfl, hb3.out⟩
set_option maxRecDepth 100000 in
set_option maxHeartbeats 4000000 in
theorem memNew_yes (half old card : Int) (h1 : ¬ half < 1) (h2 : ¬ 65536 < half) (h3 : ¬ 3000 < half) (h4 : ¬ old < 1) (h5 : ¬ 65536 < old) (h6 : ¬ 3000 < old) (h7 : ¬ card < 1) (h8 : ¬ 1024 < card) (w : World) (E : Nat → Addr) (h : ErrEnv E w) :
    Calls Tryd.prog 12 #[.int .i64 half, .int .i64 old, .int .i64 card] w fun e w' => e = .returned (.bool true) ∧ Ext w w' := by
  have q0 : (old + card - 1) / card ≤ old + card - 1 := Int.ediv_le_self _ (by omega)
  have q1 : 0 ≤ (old + card - 1) / card := Int.ediv_nonneg (by omega) (by omega)
  have hNo : newOK half old card = true := by
    unfold newOK
    rw [inR_true.2 ⟨by omega, by omega⟩, inR_true.2 ⟨by omega, by omega⟩, inR_true.2 ⟨by omega, by omega⟩]
    rfl
  have hs : Shp (newM half old card) := by
    refine ⟨by simp only [newM]; omega, by simp only [newM]; omega, by simp only [newM]; omega, by simp only [newM]; omega, by simp only [newM]; omega, by simp only [newM]; omega, ?_, by simp [newM], by simp [newM], by simp [newM], by simp only [newM]; omega, by simp [newM], by simp only [newM]; omega, ?_⟩
    · simp only [newM, List.length_replicate]; omega
    · simp only [newM, List.length_replicate]; omega
  have hF : Few (newM half old card) := by
    refine ⟨?_, by simp [newM], by simp [newM], by simp [newM], ?_⟩
    · simp only [newM, List.length_replicate]; omega
    · simp only [newM, List.length_replicate]; omega
  have hok := newM_ok half old card hNo
  have H := Lib.hid h
  have HN := Lib.hid hNo
  have HS := Lib.hid hs
  have HF := Lib.hid hF
  have HO := Lib.hid hok
  clear h hNo hs hF hok q0 q1
  go_enter Tryd.func12, Tryd.ntmps12
  go_wp2_with (first
    | (go_at_call 27; refine (fresh_any _ E H.out).mono ?_; rintro e w' ⟨rfl, hq⟩; have hb := Lib.hid hq; clear hq)
    | (go_at_call 56; refine (new_yes _ _ _ HN.out _).mono ?_; rintro e w1 ⟨b, S, rfl, hom, hq⟩; have HM := Lib.hid (hom.mem HO.out); have hb2 := Lib.hid (hb.out.trans_ hq); clear hom hq)
    | (go_at_call 32; refine (back0_walk _ 0 _ _ _ HM.out HF.out rfl).mono ?_; rintro e w2 ⟨B, b2, S2, rfl, hom, hlt, hq⟩; have hM2 := hom.mem HO.out; have k0 : w2.cell? ⟨b2, 0, none⟩ = some (.int .i64 half) := hM2.half; have k1 : w2.cell? ⟨b2, 1, none⟩ = some (.int .i64 old) := hM2.old; have k2 : w2.cell? ⟨b2, 2, none⟩ = some (.int .i64 card) := hM2.card; have k4 : w2.cell? ⟨b2, 4, none⟩ = some (.int .i64 0) := hM2.used; have k5 : w2.cell? ⟨b2, 5, none⟩ = some (.int .i64 0) := hM2.top; have k6 : w2.cell? ⟨b2, 6, none⟩ = some (.int .i64 0) := hM2.oldTop; have k7 : w2.cell? ⟨b2, 7, none⟩ = some (.slice S2.R.1 0 S2.R.2) := hM2.roots; have k8 : w2.cell? ⟨b2, 8, none⟩ = some (.slice S2.K.1 0 S2.K.2) := hM2.weak; have k9 : w2.cell? ⟨b2, 9, none⟩ = some (.slice S2.I.1 0 S2.I.2) := hM2.ids; have HM2 := Lib.hid hM2; have K0 := Lib.hid k0; have K1 := Lib.hid k1; have K2 := Lib.hid k2; have K4 := Lib.hid k4; have K5 := Lib.hid k5; have K6 := Lib.hid k6; have K7 := Lib.hid k7; have K8 := Lib.hid k8; have K9 := Lib.hid k9; have hb3 := Lib.hid (hb2.out.trans_ hq); clear hom hlt hq hM2 k0 k1 k2 k4 k5 k6 k7 k8 k9)
    | (go_at_call 57; refine (kShaped_yes _ 0 _ _ HS.out _ HM2.out).mono ?_; rintro e w3 ⟨rfl, hq⟩; have hb4 := Lib.hid hq; clear hq)
    | (go_at_call 34; refine (checkOf0 _ 0 _ _ HS.out _ (HM2.out.ext hb4.out) rfl rfl rfl rfl rfl).mono ?_; rintro e w4 ⟨rfl, hq⟩; have hc := hb4.out.trans_ hq; have n0 := hc.cell_ K0.out; have n1 := hc.cell_ K1.out; have n2 := hc.cell_ K2.out; have n4 := hc.cell_ K4.out; have n5 := hc.cell_ K5.out; have n6 := hc.cell_ K6.out; have n7 := hc.cell_ K7.out; have n8 := hc.cell_ K8.out; have n9 := hc.cell_ K9.out; have hb5 := Lib.hid (hb3.out.trans_ hc); clear hc hq))
  go_region
  go_wp2
  go_ret
  exact ⟨rfl, by repeat (first | exact hb5.out | refine Ext.drew_ ?_ | refine Ext.trans_ hb5.out (ext_drewN _ _))⟩
theorem memNew_any (half old card : Int) (w : World) (E : Nat → Addr) (h : ErrEnv E w) :
    Calls Tryd.prog 12 #[.int .i64 half, .int .i64 old, .int .i64 card] w fun e w' => e = .returned (.bool true) ∧ Ext w w' := by
  by_cases a1 : 3000 < half
  · by_cases a2 : half ≤ 65536
    · exact memNew_big half old card (Or.inl ⟨a1, a2⟩) w E h
    · by_cases b1 : 3000 < old
      · by_cases b2 : old ≤ 65536
        · exact memNew_big half old card (Or.inr (Or.inr ⟨a1, a2, b1, b2⟩)) w E h
        · exact memNew_no half old card (Or.inr (Or.inr (Or.inr (Or.inl ⟨by omega, a1, by omega, a2, b1, b2⟩)))) w E h
      · exact memNew_no half old card (Or.inr (Or.inr (Or.inl ⟨by omega, a1, by omega, a2, b1⟩))) w E h
  · by_cases b1 : 3000 < old
    · by_cases b2 : old ≤ 65536
      · exact memNew_big half old card (Or.inr (Or.inl ⟨a1, b1, b2⟩)) w E h
      · by_cases a3 : half < 1
        · exact memNew_no half old card (Or.inr (Or.inl ⟨a3, a1, b1, b2⟩)) w E h
        · exact memNew_no half old card (Or.inr (Or.inr (Or.inr (Or.inr (Or.inr (Or.inl ⟨a3, by omega, a1, b1, by omega, by omega, b2⟩)))))) w E h
    · by_cases a3 : half < 1
      · exact memNew_no half old card (Or.inl ⟨a3, a1, b1⟩) w E h
      · by_cases b3 : old < 1
        · exact memNew_no half old card (Or.inr (Or.inr (Or.inr (Or.inr (Or.inl ⟨a3, by omega, a1, b1, b3⟩))))) w E h
        · by_cases c1 : card < 1
          · exact memNew_no half old card (Or.inr (Or.inr (Or.inr (Or.inr (Or.inr (Or.inr (Or.inl ⟨a3, by omega, a1, b1, b3, by omega, c1⟩))))))) w E h
          · by_cases c2 : 1024 < card
            · exact memNew_no half old card (Or.inr (Or.inr (Or.inr (Or.inr (Or.inr (Or.inr (Or.inr ⟨a3, by omega, a1, b1, b3, by omega, c1, c2⟩))))))) w E h
            · exact memNew_yes half old card a3 (by omega) a1 b3 (by omega) b1 c1 c2 w E h
end Go.Proofs.YtpbfhkkecbnieaaDoor
