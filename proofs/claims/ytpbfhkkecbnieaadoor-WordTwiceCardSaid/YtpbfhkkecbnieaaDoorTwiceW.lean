/- The walk of the law WordTwice, its eight ways. -/
import Derived.Test.YtpbfhkkecbnieaaDoorWord4
namespace Go.Proofs.YtpbfhkkecbnieaaDoor
open Go.RowKit

set_option maxHeartbeats 4000000 in
set_option maxRecDepth 100000 in
theorem twice_111 (n a k g m s : Int) (w : World) (b z : Addr) (gb : GBound w b) (gs : GShape w z) (h1 : smallB n = true) (h2 : (0 ≤ a ∧ a ≤ 1099511627776)) (hk : inB k 255 = true) (hg : inB g 15 = true) (hm : inB m 1 = true) (hs : inB s 4096 = true) :
    Calls Tryd.prog 3 #[.int .i64 n, .int .i64 a, .agg #[.int .i64 k, .int .i64 g, .int .i64 m, .int .i64 s]] w fun e w' => e = .returned (.bool true) ∧ Ext w w' := by
  have hd := headW_hd k g m s (inB_true.1 hk) (inB_true.1 hg) (inB_true.1 hm) (inB_true.1 hs)
  have hin := headW_in k g m s (inB_true.1 hk) (inB_true.1 hg) (inB_true.1 hm) (inB_true.1 hs)
  obtain ⟨d0, d1, d2, d3, d4⟩ := hd
  have hiw := intW_wd n
  have hnn := numW_intW n h1
  have haw := addrW_wd a
  have hpp := placeW_addrW a h2
  have e4 : (0 : Int) < addrW a := by unfold addrW; omega
  have e5 : addrW a / 4 ≤ 1099511627777 := by unfold addrW; omega
  have e1 : (intW n == addrW a) = false := by rw [beq_eq_false_iff_ne]; omega
  have e2 : (addrW a == headW k g m s) = false := by rw [beq_eq_false_iff_ne]; have := (isHd_iff _).1 d0; omega
  have e3 : (intW n == headW k g m s) = false := by rw [beq_eq_false_iff_ne]; have := (isHd_iff _).1 d0; omega
  have hb := Ext.refl (w.alloc (.cells #[.int .i64 k, .int .i64 g, .int .i64 m, .int .i64 s] 23))
  go_enter Tryd.func3, Tryd.ntmps3
  go_wp2_with (first
    | (go_at_call 20; refine (five_any _).mono ?_; rintro e w' ⟨rfl, rfl⟩)
    | (go_at_call 21; refine (ofInt_yes _ h1 _).mono ?_; rintro e w' ⟨rfl, rfl⟩)
    | (go_at_call 22; refine (ofAddr_yes _ h2 _).mono ?_; rintro e w' ⟨rfl, rfl⟩)
    | (go_at_call 23; refine (ofHead_yes _ _ _ _ hk hg hm hs _).mono ?_; rintro e wn ⟨rfl, hq⟩; replace hb := hb.trans_ hq; clear hq; (try clear hc hf hz); obtain ⟨hc, hf, _⟩ := hb.three; have hz : w.heap.size < wn.heap.size := (by have := hb.size; simp only [World.size_alloc] at this; omega))
    | (go_at_call 24; refine (toInt_yes _ (by omega) (by omega) (by unfold kindW; omega) _).mono ?_; rintro e w' ⟨rfl, rfl⟩)
    | (go_at_call 25; refine (toAddr_yes _ (by omega) (by omega) (by unfold kindW; omega) e4 e5 _).mono ?_; rintro e w' ⟨rfl, rfl⟩)
    | (go_at_call 26; refine (toHead_yes _ hin.1 hin.2 d0 _).mono ?_; rintro e wn ⟨rfl, hq⟩; replace hb := hb.trans_ hq; clear hq; (try clear hc hf hz); obtain ⟨hc, hf, _⟩ := hb.three; have hz : w.heap.size < wn.heap.size := (by have := hb.size; simp only [World.size_alloc] at this; omega)))
  go_ret
  refine ⟨rfl, ?_⟩
  repeat (first | exact ((Ext.refl _).alloc_ _).trans_ hb | refine Ext.alloc_ ?_ _)

set_option maxHeartbeats 4000000 in
set_option maxRecDepth 100000 in
theorem twice_110 (n a k g m s : Int) (w : World) (b z : Addr) (gb : GBound w b) (gs : GShape w z) (h1 : smallB n = true) (h2 : (0 ≤ a ∧ a ≤ 1099511627776)) (hh : (inB k 255 && inB g 15 && inB m 1 && inB s 4096) = false) :
    Calls Tryd.prog 3 #[.int .i64 n, .int .i64 a, .agg #[.int .i64 k, .int .i64 g, .int .i64 m, .int .i64 s]] w fun e w' => e = .returned (.bool true) ∧ Ext w w' := by
  have hiw := intW_wd n
  have hnn := numW_intW n h1
  have haw := addrW_wd a
  have hpp := placeW_addrW a h2
  have e4 : (0 : Int) < addrW a := by unfold addrW; omega
  have e5 : addrW a / 4 ≤ 1099511627777 := by unfold addrW; omega
  have e1 : (intW n == addrW a) = false := by rw [beq_eq_false_iff_ne]; omega
  have hb := Ext.refl (w.alloc (.cells #[.int .i64 k, .int .i64 g, .int .i64 m, .int .i64 s] 23))
  go_enter Tryd.func3, Tryd.ntmps3
  go_wp2_with (first
    | (go_at_call 20; refine (five_any _).mono ?_; rintro e w' ⟨rfl, rfl⟩)
    | (go_at_call 21; refine (ofInt_yes _ h1 _).mono ?_; rintro e w' ⟨rfl, rfl⟩)
    | (go_at_call 22; refine (ofAddr_yes _ h2 _).mono ?_; rintro e w' ⟨rfl, rfl⟩)
    | (go_at_call 23; refine (ofHead_no _ _ _ _ hh _ b ((((Ext.refl w).alloc_ _).trans_ hb).cell_ gb)).mono ?_; rintro e wn ⟨rfl, hq⟩; replace hb := hb.trans_ hq; clear hq; (try clear hc hf hz); obtain ⟨hc, hf, _⟩ := hb.three; have hz : w.heap.size < wn.heap.size := (by have := hb.size; simp only [World.size_alloc] at this; omega))
    | (go_at_call 24; refine (toInt_yes _ (by omega) (by omega) (by unfold kindW; omega) _).mono ?_; rintro e w' ⟨rfl, rfl⟩)
    | (go_at_call 25; refine (toAddr_yes _ (by omega) (by omega) (by unfold kindW; omega) e4 e5 _).mono ?_; rintro e w' ⟨rfl, rfl⟩))
  go_ret
  refine ⟨rfl, ?_⟩
  repeat (first | exact ((Ext.refl _).alloc_ _).trans_ hb | refine Ext.alloc_ ?_ _)

set_option maxHeartbeats 4000000 in
set_option maxRecDepth 100000 in
theorem twice_101 (n a k g m s : Int) (w : World) (b z : Addr) (gb : GBound w b) (gs : GShape w z) (h1 : smallB n = true) (h2 : ¬ (0 ≤ a ∧ a ≤ 1099511627776)) (hk : inB k 255 = true) (hg : inB g 15 = true) (hm : inB m 1 = true) (hs : inB s 4096 = true) :
    Calls Tryd.prog 3 #[.int .i64 n, .int .i64 a, .agg #[.int .i64 k, .int .i64 g, .int .i64 m, .int .i64 s]] w fun e w' => e = .returned (.bool true) ∧ Ext w w' := by
  have hd := headW_hd k g m s (inB_true.1 hk) (inB_true.1 hg) (inB_true.1 hm) (inB_true.1 hs)
  have hin := headW_in k g m s (inB_true.1 hk) (inB_true.1 hg) (inB_true.1 hm) (inB_true.1 hs)
  obtain ⟨d0, d1, d2, d3, d4⟩ := hd
  have hiw := intW_wd n
  have hnn := numW_intW n h1
  have e3 : (intW n == headW k g m s) = false := by rw [beq_eq_false_iff_ne]; have := (isHd_iff _).1 d0; omega
  have H2 := Lib.hid h2
  clear h2
  have hb := Ext.refl (w.alloc (.cells #[.int .i64 k, .int .i64 g, .int .i64 m, .int .i64 s] 23))
  go_enter Tryd.func3, Tryd.ntmps3
  go_wp2_with (first
    | (go_at_call 20; refine (five_any _).mono ?_; rintro e w' ⟨rfl, rfl⟩)
    | (go_at_call 21; refine (ofInt_yes _ h1 _).mono ?_; rintro e w' ⟨rfl, rfl⟩)
    | (go_at_call 22; refine (ofAddr_no _ H2.out _ b ((((Ext.refl w).alloc_ _).trans_ hb).cell_ gb)).mono ?_; rintro e wn ⟨rfl, hq⟩; replace hb := hb.trans_ hq; clear hq; (try clear hc hf hz); obtain ⟨hc, hf, _⟩ := hb.three; have hz : w.heap.size < wn.heap.size := (by have := hb.size; simp only [World.size_alloc] at this; omega))
    | (go_at_call 23; refine (ofHead_yes _ _ _ _ hk hg hm hs _).mono ?_; rintro e wn ⟨rfl, hq⟩; replace hb := hb.trans_ hq; clear hq; (try clear hc hf hz); obtain ⟨hc, hf, _⟩ := hb.three; have hz : w.heap.size < wn.heap.size := (by have := hb.size; simp only [World.size_alloc] at this; omega))
    | (go_at_call 24; refine (toInt_yes _ (by omega) (by omega) (by unfold kindW; omega) _).mono ?_; rintro e w' ⟨rfl, rfl⟩)
    | (go_at_call 26; refine (toHead_yes _ hin.1 hin.2 d0 _).mono ?_; rintro e wn ⟨rfl, hq⟩; replace hb := hb.trans_ hq; clear hq; (try clear hc hf hz); obtain ⟨hc, hf, _⟩ := hb.three; have hz : w.heap.size < wn.heap.size := (by have := hb.size; simp only [World.size_alloc] at this; omega)))
  go_ret
  refine ⟨rfl, ?_⟩
  repeat (first | exact ((Ext.refl _).alloc_ _).trans_ hb | refine Ext.alloc_ ?_ _)

set_option maxHeartbeats 4000000 in
set_option maxRecDepth 100000 in
theorem twice_100 (n a k g m s : Int) (w : World) (b z : Addr) (gb : GBound w b) (gs : GShape w z) (h1 : smallB n = true) (h2 : ¬ (0 ≤ a ∧ a ≤ 1099511627776)) (hh : (inB k 255 && inB g 15 && inB m 1 && inB s 4096) = false) :
    Calls Tryd.prog 3 #[.int .i64 n, .int .i64 a, .agg #[.int .i64 k, .int .i64 g, .int .i64 m, .int .i64 s]] w fun e w' => e = .returned (.bool true) ∧ Ext w w' := by
  have hiw := intW_wd n
  have hnn := numW_intW n h1
  have H2 := Lib.hid h2
  clear h2
  have hb := Ext.refl (w.alloc (.cells #[.int .i64 k, .int .i64 g, .int .i64 m, .int .i64 s] 23))
  go_enter Tryd.func3, Tryd.ntmps3
  go_wp2_with (first
    | (go_at_call 20; refine (five_any _).mono ?_; rintro e w' ⟨rfl, rfl⟩)
    | (go_at_call 21; refine (ofInt_yes _ h1 _).mono ?_; rintro e w' ⟨rfl, rfl⟩)
    | (go_at_call 22; refine (ofAddr_no _ H2.out _ b ((((Ext.refl w).alloc_ _).trans_ hb).cell_ gb)).mono ?_; rintro e wn ⟨rfl, hq⟩; replace hb := hb.trans_ hq; clear hq; (try clear hc hf hz); obtain ⟨hc, hf, _⟩ := hb.three; have hz : w.heap.size < wn.heap.size := (by have := hb.size; simp only [World.size_alloc] at this; omega))
    | (go_at_call 23; refine (ofHead_no _ _ _ _ hh _ b ((((Ext.refl w).alloc_ _).trans_ hb).cell_ gb)).mono ?_; rintro e wn ⟨rfl, hq⟩; replace hb := hb.trans_ hq; clear hq; (try clear hc hf hz); obtain ⟨hc, hf, _⟩ := hb.three; have hz : w.heap.size < wn.heap.size := (by have := hb.size; simp only [World.size_alloc] at this; omega))
    | (go_at_call 24; refine (toInt_yes _ (by omega) (by omega) (by unfold kindW; omega) _).mono ?_; rintro e w' ⟨rfl, rfl⟩))
  go_ret
  refine ⟨rfl, ?_⟩
  repeat (first | exact ((Ext.refl _).alloc_ _).trans_ hb | refine Ext.alloc_ ?_ _)

set_option maxHeartbeats 4000000 in
set_option maxRecDepth 100000 in
theorem twice_011 (n a k g m s : Int) (w : World) (b z : Addr) (gb : GBound w b) (gs : GShape w z) (h1 : smallB n = false) (h2 : (0 ≤ a ∧ a ≤ 1099511627776)) (hk : inB k 255 = true) (hg : inB g 15 = true) (hm : inB m 1 = true) (hs : inB s 4096 = true) :
    Calls Tryd.prog 3 #[.int .i64 n, .int .i64 a, .agg #[.int .i64 k, .int .i64 g, .int .i64 m, .int .i64 s]] w fun e w' => e = .returned (.bool true) ∧ Ext w w' := by
  have hd := headW_hd k g m s (inB_true.1 hk) (inB_true.1 hg) (inB_true.1 hm) (inB_true.1 hs)
  have hin := headW_in k g m s (inB_true.1 hk) (inB_true.1 hg) (inB_true.1 hm) (inB_true.1 hs)
  obtain ⟨d0, d1, d2, d3, d4⟩ := hd
  have haw := addrW_wd a
  have hpp := placeW_addrW a h2
  have e4 : (0 : Int) < addrW a := by unfold addrW; omega
  have e5 : addrW a / 4 ≤ 1099511627777 := by unfold addrW; omega
  have e2 : (addrW a == headW k g m s) = false := by rw [beq_eq_false_iff_ne]; have := (isHd_iff _).1 d0; omega
  have hb := Ext.refl (w.alloc (.cells #[.int .i64 k, .int .i64 g, .int .i64 m, .int .i64 s] 23))
  go_enter Tryd.func3, Tryd.ntmps3
  go_wp2_with (first
    | (go_at_call 20; refine (five_any _).mono ?_; rintro e w' ⟨rfl, rfl⟩)
    | (go_at_call 21; refine (ofInt_no _ h1 _ b ((((Ext.refl w).alloc_ _).trans_ hb).cell_ gb)).mono ?_; rintro e wn ⟨rfl, hq⟩; replace hb := hb.trans_ hq; clear hq; (try clear hc hf hz); obtain ⟨hc, hf, _⟩ := hb.three; have hz : w.heap.size < wn.heap.size := (by have := hb.size; simp only [World.size_alloc] at this; omega))
    | (go_at_call 22; refine (ofAddr_yes _ h2 _).mono ?_; rintro e w' ⟨rfl, rfl⟩)
    | (go_at_call 23; refine (ofHead_yes _ _ _ _ hk hg hm hs _).mono ?_; rintro e wn ⟨rfl, hq⟩; replace hb := hb.trans_ hq; clear hq; (try clear hc hf hz); obtain ⟨hc, hf, _⟩ := hb.three; have hz : w.heap.size < wn.heap.size := (by have := hb.size; simp only [World.size_alloc] at this; omega))
    | (go_at_call 25; refine (toAddr_yes _ (by omega) (by omega) (by unfold kindW; omega) e4 e5 _).mono ?_; rintro e w' ⟨rfl, rfl⟩)
    | (go_at_call 26; refine (toHead_yes _ hin.1 hin.2 d0 _).mono ?_; rintro e wn ⟨rfl, hq⟩; replace hb := hb.trans_ hq; clear hq; (try clear hc hf hz); obtain ⟨hc, hf, _⟩ := hb.three; have hz : w.heap.size < wn.heap.size := (by have := hb.size; simp only [World.size_alloc] at this; omega)))
  go_ret
  refine ⟨rfl, ?_⟩
  repeat (first | exact ((Ext.refl _).alloc_ _).trans_ hb | refine Ext.alloc_ ?_ _)

set_option maxHeartbeats 4000000 in
set_option maxRecDepth 100000 in
theorem twice_010 (n a k g m s : Int) (w : World) (b z : Addr) (gb : GBound w b) (gs : GShape w z) (h1 : smallB n = false) (h2 : (0 ≤ a ∧ a ≤ 1099511627776)) (hh : (inB k 255 && inB g 15 && inB m 1 && inB s 4096) = false) :
    Calls Tryd.prog 3 #[.int .i64 n, .int .i64 a, .agg #[.int .i64 k, .int .i64 g, .int .i64 m, .int .i64 s]] w fun e w' => e = .returned (.bool true) ∧ Ext w w' := by
  have haw := addrW_wd a
  have hpp := placeW_addrW a h2
  have e4 : (0 : Int) < addrW a := by unfold addrW; omega
  have e5 : addrW a / 4 ≤ 1099511627777 := by unfold addrW; omega
  have hb := Ext.refl (w.alloc (.cells #[.int .i64 k, .int .i64 g, .int .i64 m, .int .i64 s] 23))
  go_enter Tryd.func3, Tryd.ntmps3
  go_wp2_with (first
    | (go_at_call 20; refine (five_any _).mono ?_; rintro e w' ⟨rfl, rfl⟩)
    | (go_at_call 21; refine (ofInt_no _ h1 _ b ((((Ext.refl w).alloc_ _).trans_ hb).cell_ gb)).mono ?_; rintro e wn ⟨rfl, hq⟩; replace hb := hb.trans_ hq; clear hq; (try clear hc hf hz); obtain ⟨hc, hf, _⟩ := hb.three; have hz : w.heap.size < wn.heap.size := (by have := hb.size; simp only [World.size_alloc] at this; omega))
    | (go_at_call 22; refine (ofAddr_yes _ h2 _).mono ?_; rintro e w' ⟨rfl, rfl⟩)
    | (go_at_call 23; refine (ofHead_no _ _ _ _ hh _ b ((((Ext.refl w).alloc_ _).trans_ hb).cell_ gb)).mono ?_; rintro e wn ⟨rfl, hq⟩; replace hb := hb.trans_ hq; clear hq; (try clear hc hf hz); obtain ⟨hc, hf, _⟩ := hb.three; have hz : w.heap.size < wn.heap.size := (by have := hb.size; simp only [World.size_alloc] at this; omega))
    | (go_at_call 25; refine (toAddr_yes _ (by omega) (by omega) (by unfold kindW; omega) e4 e5 _).mono ?_; rintro e w' ⟨rfl, rfl⟩))
  go_ret
  refine ⟨rfl, ?_⟩
  repeat (first | exact ((Ext.refl _).alloc_ _).trans_ hb | refine Ext.alloc_ ?_ _)

set_option maxHeartbeats 4000000 in
set_option maxRecDepth 100000 in
theorem twice_001 (n a k g m s : Int) (w : World) (b z : Addr) (gb : GBound w b) (gs : GShape w z) (h1 : smallB n = false) (h2 : ¬ (0 ≤ a ∧ a ≤ 1099511627776)) (hk : inB k 255 = true) (hg : inB g 15 = true) (hm : inB m 1 = true) (hs : inB s 4096 = true) :
    Calls Tryd.prog 3 #[.int .i64 n, .int .i64 a, .agg #[.int .i64 k, .int .i64 g, .int .i64 m, .int .i64 s]] w fun e w' => e = .returned (.bool true) ∧ Ext w w' := by
  have hd := headW_hd k g m s (inB_true.1 hk) (inB_true.1 hg) (inB_true.1 hm) (inB_true.1 hs)
  have hin := headW_in k g m s (inB_true.1 hk) (inB_true.1 hg) (inB_true.1 hm) (inB_true.1 hs)
  obtain ⟨d0, d1, d2, d3, d4⟩ := hd
  have H2 := Lib.hid h2
  clear h2
  have hb := Ext.refl (w.alloc (.cells #[.int .i64 k, .int .i64 g, .int .i64 m, .int .i64 s] 23))
  go_enter Tryd.func3, Tryd.ntmps3
  go_wp2_with (first
    | (go_at_call 20; refine (five_any _).mono ?_; rintro e w' ⟨rfl, rfl⟩)
    | (go_at_call 21; refine (ofInt_no _ h1 _ b ((((Ext.refl w).alloc_ _).trans_ hb).cell_ gb)).mono ?_; rintro e wn ⟨rfl, hq⟩; replace hb := hb.trans_ hq; clear hq; (try clear hc hf hz); obtain ⟨hc, hf, _⟩ := hb.three; have hz : w.heap.size < wn.heap.size := (by have := hb.size; simp only [World.size_alloc] at this; omega))
    | (go_at_call 22; refine (ofAddr_no _ H2.out _ b ((((Ext.refl w).alloc_ _).trans_ hb).cell_ gb)).mono ?_; rintro e wn ⟨rfl, hq⟩; replace hb := hb.trans_ hq; clear hq; (try clear hc hf hz); obtain ⟨hc, hf, _⟩ := hb.three; have hz : w.heap.size < wn.heap.size := (by have := hb.size; simp only [World.size_alloc] at this; omega))
    | (go_at_call 23; refine (ofHead_yes _ _ _ _ hk hg hm hs _).mono ?_; rintro e wn ⟨rfl, hq⟩; replace hb := hb.trans_ hq; clear hq; (try clear hc hf hz); obtain ⟨hc, hf, _⟩ := hb.three; have hz : w.heap.size < wn.heap.size := (by have := hb.size; simp only [World.size_alloc] at this; omega))
    | (go_at_call 26; refine (toHead_yes _ hin.1 hin.2 d0 _).mono ?_; rintro e wn ⟨rfl, hq⟩; replace hb := hb.trans_ hq; clear hq; (try clear hc hf hz); obtain ⟨hc, hf, _⟩ := hb.three; have hz : w.heap.size < wn.heap.size := (by have := hb.size; simp only [World.size_alloc] at this; omega)))
  go_ret
  refine ⟨rfl, ?_⟩
  repeat (first | exact ((Ext.refl _).alloc_ _).trans_ hb | refine Ext.alloc_ ?_ _)

set_option maxHeartbeats 4000000 in
set_option maxRecDepth 100000 in
theorem twice_000 (n a k g m s : Int) (w : World) (b z : Addr) (gb : GBound w b) (gs : GShape w z) (h1 : smallB n = false) (h2 : ¬ (0 ≤ a ∧ a ≤ 1099511627776)) (hh : (inB k 255 && inB g 15 && inB m 1 && inB s 4096) = false) :
    Calls Tryd.prog 3 #[.int .i64 n, .int .i64 a, .agg #[.int .i64 k, .int .i64 g, .int .i64 m, .int .i64 s]] w fun e w' => e = .returned (.bool true) ∧ Ext w w' := by
  have H2 := Lib.hid h2
  clear h2
  have hb := Ext.refl (w.alloc (.cells #[.int .i64 k, .int .i64 g, .int .i64 m, .int .i64 s] 23))
  go_enter Tryd.func3, Tryd.ntmps3
  go_wp2_with (first
    | (go_at_call 20; refine (five_any _).mono ?_; rintro e w' ⟨rfl, rfl⟩)
    | (go_at_call 21; refine (ofInt_no _ h1 _ b ((((Ext.refl w).alloc_ _).trans_ hb).cell_ gb)).mono ?_; rintro e wn ⟨rfl, hq⟩; replace hb := hb.trans_ hq; clear hq; (try clear hc hf hz); obtain ⟨hc, hf, _⟩ := hb.three; have hz : w.heap.size < wn.heap.size := (by have := hb.size; simp only [World.size_alloc] at this; omega))
    | (go_at_call 22; refine (ofAddr_no _ H2.out _ b ((((Ext.refl w).alloc_ _).trans_ hb).cell_ gb)).mono ?_; rintro e wn ⟨rfl, hq⟩; replace hb := hb.trans_ hq; clear hq; (try clear hc hf hz); obtain ⟨hc, hf, _⟩ := hb.three; have hz : w.heap.size < wn.heap.size := (by have := hb.size; simp only [World.size_alloc] at this; omega))
    | (go_at_call 23; refine (ofHead_no _ _ _ _ hh _ b ((((Ext.refl w).alloc_ _).trans_ hb).cell_ gb)).mono ?_; rintro e wn ⟨rfl, hq⟩; replace hb := hb.trans_ hq; clear hq; (try clear hc hf hz); obtain ⟨hc, hf, _⟩ := hb.three; have hz : w.heap.size < wn.heap.size := (by have := hb.size; simp only [World.size_alloc] at this; omega)))
  go_ret
  refine ⟨rfl, ?_⟩
  repeat (first | exact ((Ext.refl _).alloc_ _).trans_ hb | refine Ext.alloc_ ?_ _)

theorem twice_any (n a k g m s : Int) (w : World) (b z : Addr) (gb : GBound w b) (gs : GShape w z) :
    Calls Tryd.prog 3 #[.int .i64 n, .int .i64 a, .agg #[.int .i64 k, .int .i64 g, .int .i64 m, .int .i64 s]] w fun e w' => e = .returned (.bool true) ∧ Ext w w' := by
  have hh : (inB k 255 = true ∧ inB g 15 = true ∧ inB m 1 = true ∧ inB s 4096 = true) ∨ (inB k 255 && inB g 15 && inB m 1 && inB s 4096) = false := by
    cases inB k 255 <;> cases inB g 15 <;> cases inB m 1 <;> cases inB s 4096 <;> simp
  rcases Bool.eq_false_or_eq_true (smallB n) with h1 | h1 <;> by_cases h2 : 0 ≤ a ∧ a ≤ 1099511627776 <;> rcases hh with ⟨hk, hg, hm, hs⟩ | hh
  · exact twice_111 n a k g m s w b z gb gs h1 h2 hk hg hm hs
  · exact twice_110 n a k g m s w b z gb gs h1 h2 hh
  · exact twice_101 n a k g m s w b z gb gs h1 h2 hk hg hm hs
  · exact twice_100 n a k g m s w b z gb gs h1 h2 hh
  · exact twice_011 n a k g m s w b z gb gs h1 h2 hk hg hm hs
  · exact twice_010 n a k g m s w b z gb gs h1 h2 hh
  · exact twice_001 n a k g m s w b z gb gs h1 h2 hk hg hm hs
  · exact twice_000 n a k g m s w b z gb gs h1 h2 hh
end Go.Proofs.YtpbfhkkecbnieaaDoor
