/- The walk of Memory.shape. -/
import Derived.Test.YtecbbbaafcoliaaGreatDoorJZn04
import Derived.Test.YtecbbbaafcoliaaGreatDoorJZn10
import Derived.IntWalk
import Derived.Test.YtecbbbaafcoliaaGreatDoorJZn08
import Derived.Laws.EntriesVeiled
import Derived.Deep.RegionHeld3
import Derived.Deep.QuietTactic
import Derived.BigQuiet
namespace Go.Proofs.YtecbbbaafcoliaaGreatDoor
open Go.RowKit
set_option linter.unusedVariables false
set_option linter.unusedSimpArgs false

theorem rng_any (a lo hi : Int) (w : World) : Calls Tryz.prog 96 #[.int .i64 a, .int .i64 lo, .int .i64 hi] w fun e w' => e = .returned (.bool (inR a lo hi)) ∧ w' = w := by
  by_cases h : lo ≤ a
  · have e : inR a lo hi = decide (a ≤ hi) := by simp [inR, h]
    rw [e]
    go_enter Tryz.func96, Tryz.ntmps96
    go_wp2
    go_ret
    exact ⟨rfl, rfl⟩
  · have e : inR a lo hi = false := by simp [inR, h]
    rw [e]
    go_enter Tryz.func96, Tryz.ntmps96
    go_wp2
    go_ret
    exact ⟨rfl, rfl⟩
theorem lexB_eq {l l' : List Oper} (h : l = l') (hB : Region.lexB .any l'.toArray = true) : Region.lexB .any l.toArray = true := h ▸ hB
theorem rng_lit {a lo hi : Int} {r : Bool} (h : inR a lo hi = r) (w : World) : Calls Tryz.prog 96 #[.int .i64 a, .int .i64 lo, .int .i64 hi] w fun e w' => e = .returned (.bool r) ∧ w' = w := by
  rw [← h]; exact rng_any a lo hi w

set_option maxHeartbeats 4000000 in
set_option maxRecDepth 100000 in
theorem shape_0 (w : World) (b o : Nat) (M : Mem) (S : Sls) (hM : RMem w b o M S) (h0 : inR M.half 1 65536 = false) :
    Calls Tryz.prog 59 #[.pointer (some ⟨b, o, none⟩)] w fun e w' => e = .returned (.bool false) ∧ ∃ n, w' = w.drewN n := by
  have c_half := hM.half
  have c_old := hM.old
  have c_card := hM.card
  have c_W := hM.W
  have c_used := hM.used
  have c_top := hM.top
  have c_oldTop := hM.oldTop
  have c_cards := hM.cards
  have hl := hM.ok.lenW
  have hl2 := hM.ok.lenC
  clear hM
  go_enter Tryz.func59, Tryz.ntmps59
  go_wp2_with (go_at_call 96; refine (rng_any _ _ _ _).mono ?_; rintro e w' ⟨rfl, rfl⟩)
  simp only [List.append_eq, List.cons_append, List.nil_append]
  refine wp_region_quiet_lit (by kernel_rfl) (lexB_eq (by kernel_rfl) shape_lex) ?_
  repeat (go_big_quiet_step ((go_at_call 96; first | (with_reducible exact Calls.quiet_of_same (rng_lit h0 _)))))
  refine wpQuiet_nil ?_
  intro _ hw'
  obtain ⟨nq, hw''⟩ := hw'
  subst hw''
  go_wp2
  go_ret
  exact ⟨rfl, _, rfl⟩
set_option maxHeartbeats 4000000 in
set_option maxRecDepth 100000 in
theorem shape_1 (w : World) (b o : Nat) (M : Mem) (S : Sls) (hM : RMem w b o M S) (h0 : inR M.half 1 65536 = true) (h1 : inR M.old 1 65536 = false) :
    Calls Tryz.prog 59 #[.pointer (some ⟨b, o, none⟩)] w fun e w' => e = .returned (.bool false) ∧ ∃ n, w' = w.drewN n := by
  have c_half := hM.half
  have c_old := hM.old
  have c_card := hM.card
  have c_W := hM.W
  have c_used := hM.used
  have c_top := hM.top
  have c_oldTop := hM.oldTop
  have c_cards := hM.cards
  have hl := hM.ok.lenW
  have hl2 := hM.ok.lenC
  obtain ⟨b1, b2⟩ := inR_true.1 h0
  clear hM
  go_enter Tryz.func59, Tryz.ntmps59
  go_wp2_with (go_at_call 96; refine (rng_any _ _ _ _).mono ?_; rintro e w' ⟨rfl, rfl⟩)
  simp only [List.append_eq, List.cons_append, List.nil_append]
  refine wp_region_quiet_lit (by kernel_rfl) (lexB_eq (by kernel_rfl) shape_lex) ?_
  repeat (go_big_quiet_step ((go_at_call 96; first | (with_reducible exact Calls.quiet_of_same (rng_lit h0 _)) | (with_reducible exact Calls.quiet_of_same (rng_lit h1 _)))))
  refine wpQuiet_nil ?_
  intro _ hw'
  obtain ⟨nq, hw''⟩ := hw'
  subst hw''
  go_wp2
  go_ret
  exact ⟨rfl, _, rfl⟩
set_option maxHeartbeats 4000000 in
set_option maxRecDepth 100000 in
theorem shape_2 (w : World) (b o : Nat) (M : Mem) (S : Sls) (hM : RMem w b o M S) (h0 : inR M.half 1 65536 = true) (h1 : inR M.old 1 65536 = true) (h2 : inR M.card 1 1024 = false) :
    Calls Tryz.prog 59 #[.pointer (some ⟨b, o, none⟩)] w fun e w' => e = .returned (.bool false) ∧ ∃ n, w' = w.drewN n := by
  have c_half := hM.half
  have c_old := hM.old
  have c_card := hM.card
  have c_W := hM.W
  have c_used := hM.used
  have c_top := hM.top
  have c_oldTop := hM.oldTop
  have c_cards := hM.cards
  have hl := hM.ok.lenW
  have hl2 := hM.ok.lenC
  obtain ⟨b1, b2⟩ := inR_true.1 h0
  obtain ⟨b3, b4⟩ := inR_true.1 h1
  clear hM
  go_enter Tryz.func59, Tryz.ntmps59
  go_wp2_with (go_at_call 96; refine (rng_any _ _ _ _).mono ?_; rintro e w' ⟨rfl, rfl⟩)
  simp only [List.append_eq, List.cons_append, List.nil_append]
  refine wp_region_quiet_lit (by kernel_rfl) (lexB_eq (by kernel_rfl) shape_lex) ?_
  repeat (go_big_quiet_step ((go_at_call 96; first | (with_reducible exact Calls.quiet_of_same (rng_lit h0 _)) | (with_reducible exact Calls.quiet_of_same (rng_lit h1 _)) | (with_reducible exact Calls.quiet_of_same (rng_lit h2 _)))))
  refine wpQuiet_nil ?_
  intro _ hw'
  obtain ⟨nq, hw''⟩ := hw'
  subst hw''
  go_wp2
  go_ret
  exact ⟨rfl, _, rfl⟩
set_option maxHeartbeats 4000000 in
set_option maxRecDepth 100000 in
theorem shape_3 (w : World) (b o : Nat) (M : Mem) (S : Sls) (hM : RMem w b o M S) (h0 : inR M.half 1 65536 = true) (h1 : inR M.old 1 65536 = true) (h2 : inR M.card 1 1024 = true) (h3 : ((M.W.length : Int) == 2 * M.half + M.old) = false) :
    Calls Tryz.prog 59 #[.pointer (some ⟨b, o, none⟩)] w fun e w' => e = .returned (.bool false) ∧ ∃ n, w' = w.drewN n := by
  have c_half := hM.half
  have c_old := hM.old
  have c_card := hM.card
  have c_W := hM.W
  have c_used := hM.used
  have c_top := hM.top
  have c_oldTop := hM.oldTop
  have c_cards := hM.cards
  have hl := hM.ok.lenW
  have hl2 := hM.ok.lenC
  obtain ⟨b1, b2⟩ := inR_true.1 h0
  obtain ⟨b3, b4⟩ := inR_true.1 h1
  obtain ⟨b5, b6⟩ := inR_true.1 h2
  have e0 : IntKind.i64.wrap (2 * M.half) = 2 * M.half := IntWalk.i64_in _ (by omega)
  have e1 : IntKind.i64.wrap (2 * M.half + M.old) = 2 * M.half + M.old := IntWalk.i64_in _ (by omega)
  clear hM
  go_enter Tryz.func59, Tryz.ntmps59
  go_wp2_with (go_at_call 96; refine (rng_any _ _ _ _).mono ?_; rintro e w' ⟨rfl, rfl⟩)
  simp only [List.append_eq, List.cons_append, List.nil_append]
  refine wp_region_quiet_lit (by kernel_rfl) (lexB_eq (by kernel_rfl) shape_lex) ?_
  repeat (go_big_quiet_step ((go_at_call 96; first | (with_reducible exact Calls.quiet_of_same (rng_lit h0 _)) | (with_reducible exact Calls.quiet_of_same (rng_lit h1 _)) | (with_reducible exact Calls.quiet_of_same (rng_lit h2 _)))))
  refine wpQuiet_nil ?_
  intro _ hw'
  obtain ⟨nq, hw''⟩ := hw'
  subst hw''
  go_wp2
  go_ret
  exact ⟨rfl, _, rfl⟩
set_option maxHeartbeats 4000000 in
set_option maxRecDepth 100000 in
theorem shape_4 (w : World) (b o : Nat) (M : Mem) (S : Sls) (hM : RMem w b o M S) (h0 : inR M.half 1 65536 = true) (h1 : inR M.old 1 65536 = true) (h2 : inR M.card 1 1024 = true) (h3 : ((M.W.length : Int) == 2 * M.half + M.old) = true) (h4 : inR M.used 0 1 = false) :
    Calls Tryz.prog 59 #[.pointer (some ⟨b, o, none⟩)] w fun e w' => e = .returned (.bool false) ∧ ∃ n, w' = w.drewN n := by
  have c_half := hM.half
  have c_old := hM.old
  have c_card := hM.card
  have c_W := hM.W
  have c_used := hM.used
  have c_top := hM.top
  have c_oldTop := hM.oldTop
  have c_cards := hM.cards
  have hl := hM.ok.lenW
  have hl2 := hM.ok.lenC
  obtain ⟨b1, b2⟩ := inR_true.1 h0
  obtain ⟨b3, b4⟩ := inR_true.1 h1
  obtain ⟨b5, b6⟩ := inR_true.1 h2
  have e0 : IntKind.i64.wrap (2 * M.half) = 2 * M.half := IntWalk.i64_in _ (by omega)
  have e1 : IntKind.i64.wrap (2 * M.half + M.old) = 2 * M.half + M.old := IntWalk.i64_in _ (by omega)
  clear hM
  go_enter Tryz.func59, Tryz.ntmps59
  go_wp2_with (go_at_call 96; refine (rng_any _ _ _ _).mono ?_; rintro e w' ⟨rfl, rfl⟩)
  simp only [List.append_eq, List.cons_append, List.nil_append]
  refine wp_region_quiet_lit (by kernel_rfl) (lexB_eq (by kernel_rfl) shape_lex) ?_
  repeat (go_big_quiet_step ((go_at_call 96; first | (with_reducible exact Calls.quiet_of_same (rng_lit h0 _)) | (with_reducible exact Calls.quiet_of_same (rng_lit h1 _)) | (with_reducible exact Calls.quiet_of_same (rng_lit h2 _)) | (with_reducible exact Calls.quiet_of_same (rng_lit h4 _)))))
  refine wpQuiet_nil ?_
  intro _ hw'
  obtain ⟨nq, hw''⟩ := hw'
  subst hw''
  go_wp2
  go_ret
  exact ⟨rfl, _, rfl⟩
set_option maxHeartbeats 4000000 in
set_option maxRecDepth 100000 in
theorem shape_5 (w : World) (b o : Nat) (M : Mem) (S : Sls) (hM : RMem w b o M S) (h0 : inR M.half 1 65536 = true) (h1 : inR M.old 1 65536 = true) (h2 : inR M.card 1 1024 = true) (h3 : ((M.W.length : Int) == 2 * M.half + M.old) = true) (h4 : inR M.used 0 1 = true) (h5 : inR M.top 0 M.half = false) :
    Calls Tryz.prog 59 #[.pointer (some ⟨b, o, none⟩)] w fun e w' => e = .returned (.bool false) ∧ ∃ n, w' = w.drewN n := by
  have c_half := hM.half
  have c_old := hM.old
  have c_card := hM.card
  have c_W := hM.W
  have c_used := hM.used
  have c_top := hM.top
  have c_oldTop := hM.oldTop
  have c_cards := hM.cards
  have hl := hM.ok.lenW
  have hl2 := hM.ok.lenC
  obtain ⟨b1, b2⟩ := inR_true.1 h0
  obtain ⟨b3, b4⟩ := inR_true.1 h1
  obtain ⟨b5, b6⟩ := inR_true.1 h2
  have e0 : IntKind.i64.wrap (2 * M.half) = 2 * M.half := IntWalk.i64_in _ (by omega)
  have e1 : IntKind.i64.wrap (2 * M.half + M.old) = 2 * M.half + M.old := IntWalk.i64_in _ (by omega)
  clear hM
  go_enter Tryz.func59, Tryz.ntmps59
  go_wp2_with (go_at_call 96; refine (rng_any _ _ _ _).mono ?_; rintro e w' ⟨rfl, rfl⟩)
  simp only [List.append_eq, List.cons_append, List.nil_append]
  refine wp_region_quiet_lit (by kernel_rfl) (lexB_eq (by kernel_rfl) shape_lex) ?_
  repeat (go_big_quiet_step ((go_at_call 96; first | (with_reducible exact Calls.quiet_of_same (rng_lit h0 _)) | (with_reducible exact Calls.quiet_of_same (rng_lit h1 _)) | (with_reducible exact Calls.quiet_of_same (rng_lit h2 _)) | (with_reducible exact Calls.quiet_of_same (rng_lit h4 _)) | (with_reducible exact Calls.quiet_of_same (rng_lit h5 _)))))
  refine wpQuiet_nil ?_
  intro _ hw'
  obtain ⟨nq, hw''⟩ := hw'
  subst hw''
  go_wp2
  go_ret
  exact ⟨rfl, _, rfl⟩
set_option maxHeartbeats 4000000 in
set_option maxRecDepth 100000 in
theorem shape_6 (w : World) (b o : Nat) (M : Mem) (S : Sls) (hM : RMem w b o M S) (h0 : inR M.half 1 65536 = true) (h1 : inR M.old 1 65536 = true) (h2 : inR M.card 1 1024 = true) (h3 : ((M.W.length : Int) == 2 * M.half + M.old) = true) (h4 : inR M.used 0 1 = true) (h5 : inR M.top 0 M.half = true) (h6 : inR M.oldTop 0 M.old = false) :
    Calls Tryz.prog 59 #[.pointer (some ⟨b, o, none⟩)] w fun e w' => e = .returned (.bool false) ∧ ∃ n, w' = w.drewN n := by
  have c_half := hM.half
  have c_old := hM.old
  have c_card := hM.card
  have c_W := hM.W
  have c_used := hM.used
  have c_top := hM.top
  have c_oldTop := hM.oldTop
  have c_cards := hM.cards
  have hl := hM.ok.lenW
  have hl2 := hM.ok.lenC
  obtain ⟨b1, b2⟩ := inR_true.1 h0
  obtain ⟨b3, b4⟩ := inR_true.1 h1
  obtain ⟨b5, b6⟩ := inR_true.1 h2
  have e0 : IntKind.i64.wrap (2 * M.half) = 2 * M.half := IntWalk.i64_in _ (by omega)
  have e1 : IntKind.i64.wrap (2 * M.half + M.old) = 2 * M.half + M.old := IntWalk.i64_in _ (by omega)
  clear hM
  go_enter Tryz.func59, Tryz.ntmps59
  go_wp2_with (go_at_call 96; refine (rng_any _ _ _ _).mono ?_; rintro e w' ⟨rfl, rfl⟩)
  simp only [List.append_eq, List.cons_append, List.nil_append]
  refine wp_region_quiet_lit (by kernel_rfl) (lexB_eq (by kernel_rfl) shape_lex) ?_
  repeat (go_big_quiet_step ((go_at_call 96; first | (with_reducible exact Calls.quiet_of_same (rng_lit h0 _)) | (with_reducible exact Calls.quiet_of_same (rng_lit h1 _)) | (with_reducible exact Calls.quiet_of_same (rng_lit h2 _)) | (with_reducible exact Calls.quiet_of_same (rng_lit h4 _)) | (with_reducible exact Calls.quiet_of_same (rng_lit h5 _)) | (with_reducible exact Calls.quiet_of_same (rng_lit h6 _)))))
  refine wpQuiet_nil ?_
  intro _ hw'
  obtain ⟨nq, hw''⟩ := hw'
  subst hw''
  go_wp2
  go_ret
  exact ⟨rfl, _, rfl⟩
set_option maxHeartbeats 4000000 in
set_option maxRecDepth 100000 in
theorem shape_7 (w : World) (b o : Nat) (M : Mem) (S : Sls) (hM : RMem w b o M S) (h0 : inR M.half 1 65536 = true) (h1 : inR M.old 1 65536 = true) (h2 : inR M.card 1 1024 = true) (h3 : ((M.W.length : Int) == 2 * M.half + M.old) = true) (h4 : inR M.used 0 1 = true) (h5 : inR M.top 0 M.half = true) (h6 : inR M.oldTop 0 M.old = true) (h7 : ((M.cards.length : Int) == (M.old + M.card - 1) / M.card) = false) :
    Calls Tryz.prog 59 #[.pointer (some ⟨b, o, none⟩)] w fun e w' => e = .returned (.bool false) ∧ ∃ n, w' = w.drewN n := by
  have c_half := hM.half
  have c_old := hM.old
  have c_card := hM.card
  have c_W := hM.W
  have c_used := hM.used
  have c_top := hM.top
  have c_oldTop := hM.oldTop
  have c_cards := hM.cards
  have hl := hM.ok.lenW
  have hl2 := hM.ok.lenC
  obtain ⟨b1, b2⟩ := inR_true.1 h0
  obtain ⟨b3, b4⟩ := inR_true.1 h1
  obtain ⟨b5, b6⟩ := inR_true.1 h2
  have e0 : IntKind.i64.wrap (2 * M.half) = 2 * M.half := IntWalk.i64_in _ (by omega)
  have e1 : IntKind.i64.wrap (2 * M.half + M.old) = 2 * M.half + M.old := IntWalk.i64_in _ (by omega)
  have e2 : IntKind.i64.wrap (M.old + M.card) = M.old + M.card := IntWalk.i64_in _ (by omega)
  have e3 : IntKind.i64.wrap (M.old + M.card - 1) = M.old + M.card - 1 := IntWalk.i64_in _ (by omega)
  have e4 : (M.old + M.card - 1).tdiv M.card = (M.old + M.card - 1) / M.card := Int.tdiv_eq_ediv_of_nonneg (by omega)
  have e6 : 0 ≤ (M.old + M.card - 1) / M.card := Int.ediv_nonneg (by omega) (by omega)
  have e7 : (M.old + M.card - 1) / M.card ≤ M.old + M.card - 1 := Int.ediv_le_self _ (by omega)
  have e5 : IntKind.i64.wrap ((M.old + M.card - 1) / M.card) = (M.old + M.card - 1) / M.card := IntWalk.i64_in _ (by omega)
  have e8 : (M.card == 0) = false := by simp; omega
  clear e6 e7
  clear hM
  go_enter Tryz.func59, Tryz.ntmps59
  go_wp2_with (go_at_call 96; refine (rng_any _ _ _ _).mono ?_; rintro e w' ⟨rfl, rfl⟩)
  simp only [List.append_eq, List.cons_append, List.nil_append]
  refine wp_region_quiet_lit (by kernel_rfl) (lexB_eq (by kernel_rfl) shape_lex) ?_
  repeat (go_big_quiet_step ((go_at_call 96; first | (with_reducible exact Calls.quiet_of_same (rng_lit h0 _)) | (with_reducible exact Calls.quiet_of_same (rng_lit h1 _)) | (with_reducible exact Calls.quiet_of_same (rng_lit h2 _)) | (with_reducible exact Calls.quiet_of_same (rng_lit h4 _)) | (with_reducible exact Calls.quiet_of_same (rng_lit h5 _)) | (with_reducible exact Calls.quiet_of_same (rng_lit h6 _)))))
  refine wpQuiet_nil ?_
  intro _ hw'
  obtain ⟨nq, hw''⟩ := hw'
  subst hw''
  go_wp2
  go_ret
  exact ⟨rfl, _, rfl⟩
set_option maxHeartbeats 4000000 in
set_option maxRecDepth 100000 in
theorem shape_8 (w : World) (b o : Nat) (M : Mem) (S : Sls) (hM : RMem w b o M S) (h0 : inR M.half 1 65536 = true) (h1 : inR M.old 1 65536 = true) (h2 : inR M.card 1 1024 = true) (h3 : ((M.W.length : Int) == 2 * M.half + M.old) = true) (h4 : inR M.used 0 1 = true) (h5 : inR M.top 0 M.half = true) (h6 : inR M.oldTop 0 M.old = true) (h7 : ((M.cards.length : Int) == (M.old + M.card - 1) / M.card) = true) :
    Calls Tryz.prog 59 #[.pointer (some ⟨b, o, none⟩)] w fun e w' => e = .returned (.bool true) ∧ ∃ n, w' = w.drewN n := by
  have c_half := hM.half
  have c_old := hM.old
  have c_card := hM.card
  have c_W := hM.W
  have c_used := hM.used
  have c_top := hM.top
  have c_oldTop := hM.oldTop
  have c_cards := hM.cards
  have hl := hM.ok.lenW
  have hl2 := hM.ok.lenC
  obtain ⟨b1, b2⟩ := inR_true.1 h0
  obtain ⟨b3, b4⟩ := inR_true.1 h1
  obtain ⟨b5, b6⟩ := inR_true.1 h2
  have e0 : IntKind.i64.wrap (2 * M.half) = 2 * M.half := IntWalk.i64_in _ (by omega)
  have e1 : IntKind.i64.wrap (2 * M.half + M.old) = 2 * M.half + M.old := IntWalk.i64_in _ (by omega)
  have e2 : IntKind.i64.wrap (M.old + M.card) = M.old + M.card := IntWalk.i64_in _ (by omega)
  have e3 : IntKind.i64.wrap (M.old + M.card - 1) = M.old + M.card - 1 := IntWalk.i64_in _ (by omega)
  have e4 : (M.old + M.card - 1).tdiv M.card = (M.old + M.card - 1) / M.card := Int.tdiv_eq_ediv_of_nonneg (by omega)
  have e6 : 0 ≤ (M.old + M.card - 1) / M.card := Int.ediv_nonneg (by omega) (by omega)
  have e7 : (M.old + M.card - 1) / M.card ≤ M.old + M.card - 1 := Int.ediv_le_self _ (by omega)
  have e5 : IntKind.i64.wrap ((M.old + M.card - 1) / M.card) = (M.old + M.card - 1) / M.card := IntWalk.i64_in _ (by omega)
  have e8 : (M.card == 0) = false := by simp; omega
  clear e6 e7
  clear hM
  go_enter Tryz.func59, Tryz.ntmps59
  go_wp2_with (go_at_call 96; refine (rng_any _ _ _ _).mono ?_; rintro e w' ⟨rfl, rfl⟩)
  simp only [List.append_eq, List.cons_append, List.nil_append]
  refine wp_region_quiet_lit (by kernel_rfl) (lexB_eq (by kernel_rfl) shape_lex) ?_
  repeat (go_big_quiet_step ((go_at_call 96; first | (with_reducible exact Calls.quiet_of_same (rng_lit h0 _)) | (with_reducible exact Calls.quiet_of_same (rng_lit h1 _)) | (with_reducible exact Calls.quiet_of_same (rng_lit h2 _)) | (with_reducible exact Calls.quiet_of_same (rng_lit h4 _)) | (with_reducible exact Calls.quiet_of_same (rng_lit h5 _)) | (with_reducible exact Calls.quiet_of_same (rng_lit h6 _)))))
  refine wpQuiet_nil ?_
  intro _ hw'
  obtain ⟨nq, hw''⟩ := hw'
  subst hw''
  go_wp2
  go_ret
  exact ⟨rfl, _, rfl⟩
theorem shape_any (w : World) (b o : Nat) (M : Mem) (S : Sls) (hM : RMem w b o M S) :
    Calls Tryz.prog 59 #[.pointer (some ⟨b, o, none⟩)] w fun e w' => e = .returned (.bool (shapeB M)) ∧ ∃ n, w' = w.drewN n := by
  rcases Bool.eq_false_or_eq_true (inR M.half 1 65536) with h0 | h0
  rotate_left
  · have e : shapeB M = false := by unfold shapeB; rw [h0]; simp
    rw [e]; exact shape_0 w b o M S hM h0
  rcases Bool.eq_false_or_eq_true (inR M.old 1 65536) with h1 | h1
  rotate_left
  · have e : shapeB M = false := by unfold shapeB; rw [h0, h1]; simp
    rw [e]; exact shape_1 w b o M S hM h0 h1
  rcases Bool.eq_false_or_eq_true (inR M.card 1 1024) with h2 | h2
  rotate_left
  · have e : shapeB M = false := by unfold shapeB; rw [h0, h1, h2]; simp
    rw [e]; exact shape_2 w b o M S hM h0 h1 h2
  rcases Bool.eq_false_or_eq_true (((M.W.length : Int) == 2 * M.half + M.old)) with h3 | h3
  rotate_left
  · have e : shapeB M = false := by unfold shapeB; rw [h0, h1, h2, h3]; simp
    rw [e]; exact shape_3 w b o M S hM h0 h1 h2 h3
  rcases Bool.eq_false_or_eq_true (inR M.used 0 1) with h4 | h4
  rotate_left
  · have e : shapeB M = false := by unfold shapeB; rw [h0, h1, h2, h3, h4]; simp
    rw [e]; exact shape_4 w b o M S hM h0 h1 h2 h3 h4
  rcases Bool.eq_false_or_eq_true (inR M.top 0 M.half) with h5 | h5
  rotate_left
  · have e : shapeB M = false := by unfold shapeB; rw [h0, h1, h2, h3, h4, h5]; simp
    rw [e]; exact shape_5 w b o M S hM h0 h1 h2 h3 h4 h5
  rcases Bool.eq_false_or_eq_true (inR M.oldTop 0 M.old) with h6 | h6
  rotate_left
  · have e : shapeB M = false := by unfold shapeB; rw [h0, h1, h2, h3, h4, h5, h6]; simp
    rw [e]; exact shape_6 w b o M S hM h0 h1 h2 h3 h4 h5 h6
  rcases Bool.eq_false_or_eq_true (((M.cards.length : Int) == (M.old + M.card - 1) / M.card)) with h7 | h7
  rotate_left
  · have e : shapeB M = false := by unfold shapeB; rw [h0, h1, h2, h3, h4, h5, h6, h7]; simp
    rw [e]; exact shape_7 w b o M S hM h0 h1 h2 h3 h4 h5 h6 h7
  have e : shapeB M = true := by unfold shapeB; rw [h0, h1, h2, h3, h4, h5, h6, h7]; rfl
  rw [e]; exact shape_8 w b o M S hM h0 h1 h2 h3 h4 h5 h6 h7
end Go.Proofs.YtecbbbaafcoliaaGreatDoor
/- The walk of Memory.Check: where a header is wrong. -/
namespace Go.Proofs.YtecbbbaafcoliaaGreatDoor
open Go.RowKit
set_option linter.unusedVariables false
set_option linter.unusedSimpArgs false

theorem SMap.made_ {w w' : World} {b : Nat} (q : IntKind) (hb : w.heap.size = b) (hx : Ext (w.alloc (.map #[] 0)) w') : SMap w' b q [] := by
  subst hb; exact (SMap.made w q).ext hx

set_option maxRecDepth 100000 in
set_option maxHeartbeats 4000000 in
theorem check_a (b o : Nat) (M : Mem) (S : Sls) (gb gs gp : Addr) (w : World) (hM : RMem w b o M S) (hG : GBound w gb) (hS : GShape w gs) (hs : shapeB M = true) (h1 : objsB M (okHd M) = false) :
    Calls Tryz.prog 20 #[.pointer (some ⟨b, o, none⟩)] w fun e w' => e = .returned (errV gs) ∧ Ext w w' := by
  have hh := shp_of hs
  have hmm := @run_makeMap Tryz.prog
  have HM := Lib.hid hM
  have HG := Lib.hid hG
  have HH := Lib.hid hh
  have hltb := hM.lt
  have hltg := cell_lt hS
  simp only at hltg
  clear hM hG hh
  go_enter Tryz.func20, Tryz.ntmps20
  go_wp2_with (first
    | (go_at_call 59; refine (shape_any _ b o M S ?_).mono ?_; (exact HM.out.ext ((Ext.refl w).alloc_ _)); rintro e w' ⟨rfl, n, rfl⟩; rw [hs]))
  refine (objects_c1 w b o M S HH.out HM.out gb gs HG.out hS (w.heap.size + 1) (w.heap.size + 1 + 1) w.heap.size _ ?_ (by omega) (by omega) (by omega) ?_ ?_ ?_).mono ?_
  · repeat (first | exact Ext.refl _ | (refine Ext.set_ ?_ (by simp) _) | (refine Ext.alloc_ ?_ _) | (refine Ext.drewN_ ?_ _))
  · exact SMap.made_ (w := (w.alloc _).drewN n) _ (by simp) (by repeat (first | exact Ext.refl _ | (refine Ext.set_ ?_ (by simp) _) | (refine Ext.alloc_ ?_ _)))
  · simp [go_sem]
  · simp [go_sem]
  rintro e w1 ⟨rfl, hsm, hK⟩
  rw [h1]
  have hx : Ext w w1 := Ext.keep (by repeat (first | exact Ext.refl _ | (refine Ext.set_ ?_ (by simp) _) | (refine Ext.alloc_ ?_ _) | (refine Ext.drewN_ ?_ _))) hK (fun i hi => by omega)
  have hS1 : GShape w1 gs := hx.cell_ hS
  clear hsm hK
  go_wp2
  go_ret
  exact ⟨rfl, hx⟩
end Go.Proofs.YtecbbbaafcoliaaGreatDoor
/- The walks of Memory.starts and of its closure; of Alloc's closure. -/
namespace Go.Proofs.YtecbbbaafcoliaaGreatDoor
open Go.RowKit
set_option linter.unusedVariables false
set_option linter.unusedSimpArgs false

theorem s1_enters (args : Array Value) (w : World) : (callFunc 111 args).run Tryz.prog w = .ok (.enter 111 args) w :=
  enters_of Tryz.func111 (by kernel_rfl) rfl args w
theorem s1_any (x : Ob) (bm b3 : Nat) (st : List Int) (w : World) (hm : SMap w bm .i64 st) (hne3 : b3 ≠ bm) (h3 : w.cell? ⟨b3, 0, none⟩ = some (.map (some bm))) :
    Calls Tryz.prog 111 #[.int .i64 (x.a : Int), headV x.w, .pointer (some ⟨b3, 0, none⟩)] w fun e w' =>
      e = .returned (.bool true) ∧ SMap w' bm .i64 (st ++ [(x.a : Int)]) ∧ Keep (· = bm) w w' := by
  have hlt3 := cell_lt h3
  have hltm := hm.lt
  simp only at hlt3
  obtain ⟨w1, hrun, hm2, hbut⟩ := smap_put (hm.ext ((Ext.refl w).alloc_ (.cells #[.int .i64 (hKind x.w), .int .i64 (hAge x.w), .int .i64 (hMark x.w), .int .i64 (hSize x.w)] 77))) (x.a : Int)
  have hk1 := Keep.of_but hbut
  have hkk : Keep (· = bm) w w1 := ((Keep.refl _ w).alloc_ _).trans hk1
  have HM2 := Lib.hid hm2
  have HK := Lib.hid hkk
  clear hm hm2 hbut hk1 hkk
  unfold headV
  go_enter Tryz.func111, Tryz.ntmps111
  go_wp2
  go_ret
  exact ⟨rfl, HM2.out, HK.out⟩
def SAll (bm : Nat) (w : World) (M : Mem) (e : Ending) (w' : World) : Prop :=
  e = .returned (.bool (objsB M fun _ => true)) ∧ (objsB M (fun _ => true) = true → SMap w' bm .i64 (startsM M)) ∧ Keep (· = bm) w w'
theorem objects_s (w0 : World) (b o : Nat) (M : Mem) (S : Sls) (hs : Shp M) (hM : RMem w0 b o M S) (gb gs : Addr) (hG : GBound w0 gb) (hS : GShape w0 gs) (bm b3 : Nat) (w : World) (hE : Ext w0 w)
    (hbm : w0.heap.size ≤ bm) (hne3 : b3 ≠ bm) (hm : SMap w bm .i64 []) (h3 : w.cell? ⟨b3, 0, none⟩ = some (.map (some bm))) :
    Calls Tryz.prog 60 #[.pointer (some ⟨b, o, none⟩), .func (.func 111) #[] #[.pointer (some ⟨b3, 0, none⟩)]] w (SAll bm w M) := by
  refine (objects_walk w0 b o M S hs hM gb gs hG hS (· = bm) _ #[.pointer (some ⟨b3, 0, none⟩)] s1_enters (fun _ => true) (fun v w' => SMap w' bm .i64 (v.map fun (y : Ob) => (y.a : Int))) w hE
    (fun k hk => by subst hk; exact ⟨hbm, hm.lt⟩) (fun v w1 w2 hI hx => hI.ext hx) (fun v x w' hI hK hx => ?_) hm).mono ?_
  · have := s1_any x bm b3 (v.map fun (y : Ob) => (y.a : Int)) w' hI hne3 (hK.cell hne3 h3)
    rw [← ats_snoc] at this
    exact this
  · rintro e w' ⟨v, he, hI, hv, hK⟩
    exact ⟨he, fun h => by rw [hv h] at hI; exact hI, hK⟩
def StartsPost (w : World) (M : Mem) (e : Ending) (w' : World) : Prop :=
  ∃ bm, e = .returned (.map (some bm)) ∧ (objsB M (fun _ => true) = true → SMap w' bm .i64 (startsM M)) ∧ Ext w w'
set_option maxRecDepth 100000 in
set_option maxHeartbeats 4000000 in
theorem starts_any (b o : Nat) (M : Mem) (S : Sls) (hs : Shp M) (gb gs : Addr) (w : World) (hM : RMem w b o M S) (hG : GBound w gb) (hS : GShape w gs) :
    Calls Tryz.prog 80 #[.pointer (some ⟨b, o, none⟩)] w (StartsPost w M) := by
  have hmm := @run_makeMap Tryz.prog
  have HM := Lib.hid hM
  have HG := Lib.hid hG
  have HS := Lib.hid hS
  clear hM hG hS
  go_enter Tryz.func80, Tryz.ntmps80
  go_wp2_with fail
  refine (objects_s w b o M S hs HM.out gb gs HG.out HS.out w.heap.size (w.heap.size + 1) _ ?_ (Nat.le_refl _) (by omega) ?_ ?_).mono ?_
  · repeat (first | exact Ext.refl _ | (refine Ext.set_ ?_ (by simp) _) | (refine Ext.alloc_ ?_ _) | (refine Ext.drewN_ ?_ _))
  · exact SMap.made_ (w := w) _ rfl (by repeat (first | exact Ext.refl _ | (refine Ext.set_ ?_ (by simp) _) | (refine Ext.alloc_ ?_ _)))
  · simp [go_sem]
  rintro e w1 ⟨rfl, hsm, hK⟩
  have hx : Ext w w1 := Ext.keep (by repeat (first | exact Ext.refl _ | (refine Ext.set_ ?_ (by simp) _) | (refine Ext.alloc_ ?_ _) | (refine Ext.drewN_ ?_ _))) hK (fun i hi => by omega)
  have f3 : w1.cell? ⟨w.heap.size + 1, 0, none⟩ = some (.map (some w.heap.size)) := hK.cell (by simp) (by simp [go_sem])
  have HX := Lib.hid hx
  have HSM := Lib.hid hsm
  clear hx hsm hK
  go_wp2
  go_ret
  exact ⟨_, rfl, HSM.out, HX.out⟩
theorem a1_enters (args : Array Value) (w : World) : (callFunc 81 args).run Tryz.prog w = .ok (.enter 81 args) w :=
  enters_of Tryz.func81 (by kernel_rfl) rfl args w
theorem a1_any (a : Int) (h0 : 0 ≤ a) (h1 : a ≤ 18446744073709551615) (bm b3 : Nat) (st : List Int) (w : World) (hm : SMap w bm .i64 st) (h3 : w.cell? ⟨b3, 0, none⟩ = some (.map (some bm))) :
    Calls Tryz.prog 81 #[.int .u64 a, .pointer (some ⟨b3, 0, none⟩)] w fun e w' => e = .returned (.bool (!fldB st a)) ∧ w' = w := by
  go_enter Tryz.func81, Tryz.ntmps81
  go_wp2_with (go_at_call 63; refine (field_any a h0 h1 bm st _ hm).mono ?_; rintro e w' ⟨rfl, rfl⟩)
  go_ret
  exact ⟨rfl, rfl⟩
end Go.Proofs.YtecbbbaafcoliaaGreatDoor
/- The walk of Memory.Fresh. -/
namespace Go.Proofs.YtecbbbaafcoliaaGreatDoor
open Go.RowKit
set_option linter.unusedVariables false
set_option linter.unusedSimpArgs false

/-- A memory with a header more. -/
def freshM (M : Mem) (kind size : Int) : Mem := { M with W := M.W.set (M.base + M.top.toNat) (headW kind 0 0 size), top := M.top + 1 + size }
def FreshPost (w : World) (B b : Nat) (M : Mem) (S : Sls) (kind size : Int) (e : Ending) (w' : World) : Prop :=
  e = .returned (.int .i64 ((M.base + M.top.toNat : Nat) : Int)) ∧ OMem w' B b 68 (freshM M kind size) S ∧ Keep (OwnL b S) w w'
set_option maxRecDepth 100000 in
set_option maxHeartbeats 4000000 in
theorem fresh_obj (B b : Nat) (M : Mem) (S : Sls) (w : World) (hO : OMem w B b 68 M S) (hok : M.Ok) (hs : Shp M) (kind size : Int) (hk : 0 ≤ kind ∧ kind ≤ 255) (hz : 0 ≤ size ∧ size ≤ 4096) (hr : M.top + 1 + size ≤ M.half) :
    Calls Tryz.prog 82 #[.pointer (some ⟨b, 0, none⟩), .int .i64 kind, .int .i64 size] w (FreshPost w B b M S kind size) := by
  obtain ⟨hb, b0, b1⟩ := hs.base
  have s1 := hs.h1
  have s2 := hs.h2
  have s3 := hs.t1
  have s4 := hs.t2
  have s7 := hs.o1
  have s8 := hs.w
  obtain ⟨k0, k1⟩ := hk
  obtain ⟨z0, z1⟩ := hz
  obtain ⟨t, ht⟩ : ∃ t : Nat, M.top = t := ⟨M.top.toNat, by omega⟩
  obtain ⟨at_, hat⟩ : ∃ a : Nat, a = M.base + t := ⟨_, rfl⟩
  have hlen : at_ < M.W.length := by omega
  obtain ⟨g, hg, hgB, hgl, hgf, hgc, cur, hgh, -, -⟩ := own_block hO.fW (by omega)
  have hM := hO.mem hok
  have c3 := hM.W
  have c5 := hM.top
  simp only [Nat.zero_add] at c3 c5
  rw [hg] at c3
  rw [ht] at c5
  have hgb : g ≠ b := fun e => (hO.fld ⟨3, 51, 1, S.W.1, M.W.length, S.W.2, wcells M.W⟩ (by simp [memFlds])).2.2 (by simp [Fld.val, hg, Value.ownBlock, e])
  have hcell : w.cell? ⟨g, at_, none⟩ = some (.int .u64 (M.W.getD at_ 0)) := by
    have := hM.rW
    rw [hg] at this
    simpa using this.at_ (wcells_at M.W at_ hlen)
  have hfb := hO.frozen 5
  have hfg := hgf at_
  have hlb := OM.lt hO
  have e1 : IntKind.i64.wrap ((M.base : Int) + (t : Int)) = (at_ : Int) := by rw [IntWalk.i64_in _ (by omega)]; omega
  have e2 : IntKind.i64.wrap (1 + size) = 1 + size := IntWalk.i64_in _ (by omega)
  have e3 : IntKind.i64.wrap ((t : Int) + (1 + size)) = (t : Int) + 1 + size := by rw [IntWalk.i64_in _ (by omega)]; omega
  have HS := Lib.hid hs
  have HM := Lib.hid hM
  have HO := Lib.hid hO
  have HG := Lib.hid hg
  have HT := Lib.hid ht
  have HAT := Lib.hid hat
  have E1 := Lib.hid e1
  clear hs hM hO hg ht hat hb hgh hgf s8 e1
  go_enter Tryz.func82, Tryz.ntmps82
  go_wp2
  refine wp_region_held_drew (S := fun W => W.cell? ⟨b, 5, none⟩ = some (.int .i64 (t : Int))) (by kernel_rfl) ?_ (fun hHeld => ?_)
  · exact c5
  refine wpAnyH_take (i := 0) (oi := ⟨some 8, _, _, _, _, _⟩) (v := ?_) rfl (by kernel_rfl) (by kernel_rfl) (by kernel_rfl) (fun _ _ _ h => h) (Or.inl ⟨by rfl, ?_⟩) (by assumption) ?_
  rotate_left
  · (intro w hSw; (try dsimp only at hSw); go_simp; try with_reducible rfl)
  try simp only [Act.put, List.setIfInBounds_toArray, List.set_cons_zero, List.set_cons_succ]
  refine wpAnyH_take (i := 2) (oi := ⟨some 10, _, _, _, _, _⟩) (v := ?_) rfl (by kernel_rfl) (by kernel_rfl) (by kernel_rfl) (fun _ _ _ h => h) (Or.inl ⟨by rfl, ?_⟩) (by assumption) ?_
  rotate_left
  · (intro w hSw; (try dsimp only at hSw); go_simp; try with_reducible rfl)
  try simp only [Act.put, List.setIfInBounds_toArray, List.set_cons_zero, List.set_cons_succ]
  refine wpAnyH_take (i := 3) (oi := ⟨some 11, _, _, _, _, _⟩) (v := ?_) rfl (by kernel_rfl) (by kernel_rfl) (by kernel_rfl) (fun _ _ _ h => h) (Or.inl ⟨by rfl, ?_⟩) (by assumption) ?_
  rotate_left
  · (intro w hSw; (try dsimp only at hSw); go_simp; try with_reducible rfl)
  try simp only [Act.put, List.setIfInBounds_toArray, List.set_cons_zero, List.set_cons_succ]
  refine wpAnyH_take (i := 4) (oi := ⟨some 12, _, _, _, _, _⟩) (v := ?_) rfl (by kernel_rfl) (by kernel_rfl) (by kernel_rfl) (fun _ _ _ h => h) (Or.inl ⟨by rfl, ?_⟩) (by assumption) ?_
  rotate_left
  · (intro w hSw; (try dsimp only at hSw); go_simp; try with_reducible rfl)
  try simp only [Act.put, List.setIfInBounds_toArray, List.set_cons_zero, List.set_cons_succ]
  refine wpAnyH_take (i := 5) (oi := ⟨some 13, _, _, _, _, _⟩) (v := ?_) rfl (by kernel_rfl) (by kernel_rfl) (by kernel_rfl) (fun _ _ _ h => h) (Or.inl ⟨by rfl, ?_⟩) (by assumption) ?_
  rotate_left
  · (intro w hSw; (try dsimp only at hSw); go_simp; try with_reducible rfl)
  try simp only [Act.put, List.setIfInBounds_toArray, List.set_cons_zero, List.set_cons_succ]
  refine wpAnyH_ready (rs := [1]) (by kernel_rfl) (by simp) ?_
  refine AllReadyH.cons (o := ⟨some 9, _, _, _, _, _⟩) rfl (fun K hK => ?_) AllReadyH.nil
  go_simp
  refine (base_any _ b 0 M S (HM.out.ext (by repeat (first | exact Ext.refl _ | (refine Ext.drew_ ?_) | (refine Ext.drewN_ ?_ _)))) HS.out).mono ?_
  rintro e w' ⟨rfl, n, rfl⟩
  refine hK.out _ _ ?_ (fun hHeld => ?_)
  · (try dsimp only); exact c5
  clear hK K
  try simp only [Act.put, List.setIfInBounds_toArray, List.set_cons_zero, List.set_cons_succ]
  refine wpAnyH_take (i := 6) (oi := ⟨some 14, _, _, _, _, _⟩) (v := .int .i64 (at_ : Int)) rfl (by kernel_rfl) (by kernel_rfl) (by kernel_rfl) (fun _ _ _ h => h) (Or.inl ⟨by rfl, ?_⟩) (by assumption) ?_
  · (intro w hSw; go_simp; rw [E1.out])
  try simp only [Act.put, List.setIfInBounds_toArray, List.set_cons_zero, List.set_cons_succ]
  refine wpAnyH_take (i := 7) (oi := ⟨some 7, _, _, _, _, _⟩) (v := ?_) rfl (by kernel_rfl) (by kernel_rfl) (by kernel_rfl) (fun _ _ _ h => h) (Or.inl ⟨by rfl, ?_⟩) (by assumption) ?_
  rotate_left
  · (intro w hSw; (try dsimp only at hSw); go_simp; try with_reducible rfl)
  try simp only [Act.put, List.setIfInBounds_toArray, List.set_cons_zero, List.set_cons_succ]
  refine wpAnyH_done (by kernel_rfl) ?_ _
  go_wp2
  refine named_world' (fun W1 hW1 => ?_)
  have hE1 : Ext w W1 := by rw [hW1]; repeat (first | exact Ext.refl _ | (refine Ext.drew_ ?_) | (refine Ext.drewN_ ?_ _))
  have HE1 := Lib.hid hE1
  have d3 := hE1.cell_ c3
  clear hW1 hE1 hHeld
  refine wp_region_held_drew (S := fun W => W.cell? ⟨b, 3, none⟩ = some (.slice (some ⟨g, 0, none⟩) M.W.length S.W.2)) (by kernel_rfl) ?_ (fun hHeld => ?_)
  · exact d3
  refine wpAnyH_take (i := 0) (oi := ⟨some 15, _, _, _, _, _⟩) (v := ?_) rfl (by kernel_rfl) (by kernel_rfl) (by kernel_rfl) (fun _ _ _ h => h) (Or.inl ⟨by rfl, ?_⟩) (by assumption) ?_
  rotate_left
  · (intro w hSw; (try dsimp only at hSw); go_simp; try with_reducible rfl)
  try simp only [Act.put, List.setIfInBounds_toArray, List.set_cons_zero, List.set_cons_succ]
  refine wpAnyH_take (i := 1) (oi := ⟨some 16, _, _, _, _, _⟩) (v := ?_) rfl (by kernel_rfl) (by kernel_rfl) (by kernel_rfl) (fun _ _ _ h => h) (Or.inl ⟨by rfl, ?_⟩) (by assumption) ?_
  rotate_left
  · (intro w hSw; (try dsimp only at hSw); go_simp; try with_reducible rfl)
  try simp only [Act.put, List.setIfInBounds_toArray, List.set_cons_zero, List.set_cons_succ]
  refine wpAnyH_take (i := 2) (oi := ⟨some 17, _, _, _, _, _⟩) (v := ?_) rfl (by kernel_rfl) (by kernel_rfl) (by kernel_rfl) (fun _ _ _ h => h) (Or.inl ⟨by rfl, ?_⟩) (by assumption) ?_
  rotate_left
  · (intro w hSw; (try dsimp only at hSw); go_simp; try with_reducible rfl)
  try simp only [Act.put, List.setIfInBounds_toArray, List.set_cons_zero, List.set_cons_succ]
  refine wpAnyH_take (i := 3) (oi := ⟨some 18, _, _, _, _, _⟩) (v := ?_) rfl (by kernel_rfl) (by kernel_rfl) (by kernel_rfl) (fun _ _ _ h => h) (Or.inl ⟨by rfl, ?_⟩) (by assumption) ?_
  rotate_left
  · (intro w hSw; (try dsimp only at hSw); go_simp; try with_reducible rfl)
  try simp only [Act.put, List.setIfInBounds_toArray, List.set_cons_zero, List.set_cons_succ]
  refine wpAnyH_take (i := 4) (oi := ⟨some 19, _, _, _, _, _⟩) (v := ?_) rfl (by kernel_rfl) (by kernel_rfl) (by kernel_rfl) (fun _ _ _ h => h) (Or.inl ⟨by rfl, ?_⟩) (by assumption) ?_
  rotate_left
  · (intro w hSw; (try dsimp only at hSw); go_simp; try with_reducible rfl)
  try simp only [Act.put, List.setIfInBounds_toArray, List.set_cons_zero, List.set_cons_succ]
  refine wpAnyH_take (i := 5) (oi := ⟨some 20, _, _, _, _, _⟩) (v := ?_) rfl (by kernel_rfl) (by kernel_rfl) (by kernel_rfl) (fun _ _ _ h => h) (Or.inl ⟨by rfl, ?_⟩) (by assumption) ?_
  rotate_left
  · (intro w hSw; (try dsimp only at hSw); go_simp; try with_reducible rfl)
  try simp only [Act.put, List.setIfInBounds_toArray, List.set_cons_zero, List.set_cons_succ]
  refine wpAnyH_take (i := 6) (oi := ⟨some 21, _, _, _, _, _⟩) (v := ?_) rfl (by kernel_rfl) (by kernel_rfl) (by kernel_rfl) (fun _ _ _ h => h) (Or.inl ⟨by rfl, ?_⟩) (by assumption) ?_
  rotate_left
  · (intro w hSw; (try dsimp only at hSw); go_simp; try with_reducible rfl)
  try simp only [Act.put, List.setIfInBounds_toArray, List.set_cons_zero, List.set_cons_succ]
  refine wpAnyH_take (i := 7) (oi := ⟨some 22, _, _, _, _, _⟩) (v := ?_) rfl (by kernel_rfl) (by kernel_rfl) (by kernel_rfl) (fun _ _ _ h => h) (Or.inl ⟨by rfl, ?_⟩) (by assumption) ?_
  rotate_left
  · (intro w hSw; (try dsimp only at hSw); go_simp; try with_reducible rfl)
  try simp only [Act.put, List.setIfInBounds_toArray, List.set_cons_zero, List.set_cons_succ]
  refine wpAnyH_ready (rs := [8]) (by kernel_rfl) (by simp) ?_
  refine AllReadyH.cons (o := ⟨some 23, _, _, _, _, _⟩) rfl (fun K hK => ?_) AllReadyH.nil
  go_simp
  refine (headWord_any kind 0 0 size ⟨k0, k1⟩ (by omega) (by omega) ⟨z0, z1⟩ _).mono ?_
  rintro e w2 ⟨rfl, hq⟩
  have HE2 : Hid (Ext w w2) := Ext.trans_ (by first | exact HE1.out | exact HE1.out.drew_ | exact HE1.out.drewN_ _) hq
  clear hq
  have g3 := HE2.out.cell_ c3
  have gc := HE2.out.cell_ hcell
  have gf : w2.frozen? ⟨g, at_, none⟩ = false := by rw [HE2.out.three.2.1 _ _ hgl]; exact hfg
  refine hK.out _ _ ?_ (fun hHeld => ?_)
  · (try dsimp only); exact g3
  clear hK K
  try simp only [Act.put, List.setIfInBounds_toArray, List.set_cons_zero, List.set_cons_succ]
  refine wpAnyH_take (i := 9) (oi := ⟨some 24, _, _, _, _, _⟩) (v := ?_) rfl (by kernel_rfl) (by kernel_rfl) (by kernel_rfl) (fun _ _ _ h => h) (Or.inl ⟨by rfl, ?_⟩) (by assumption) ?_
  rotate_left
  · (intro w hSw; (try dsimp only at hSw); go_simp; try with_reducible rfl)
  try simp only [Act.put, List.setIfInBounds_toArray, List.set_cons_zero, List.set_cons_succ]
  refine wpAnyH_ready (rs := [10]) (by kernel_rfl) (by simp) ?_
  refine AllReadyH.cons (o := ⟨none, _, _, _, _, _⟩) rfl (fun K hK => ?_) AllReadyH.nil
  go_simp
  skip
  refine hK.out _ _ ?_ (fun hHeld => ?_)
  · (try dsimp only); rw [World.cell?_setCell_far _ _ _ _ (by simp; omega)]; exact g3
  clear hK K
  try simp only [Act.put, List.setIfInBounds_toArray, List.set_cons_zero, List.set_cons_succ]
  refine wpAnyH_done (by kernel_rfl) ?_ _
  clear hHeld
  generalize hW4 : w2.setCell ⟨g, at_, none⟩ (Value.int .u64 (headW kind 0 0 size)) = W4
  have hO4 : OMem W4 B b 68 { M with W := M.W.set at_ (headW kind 0 0 size) } S := by
    rw [← hW4]; exact OMem.setW (OM.ext HO.out HE2.out) HG.out at_ hlen _
  have hK4 : Keep (OwnL b S) w W4 := by
    rw [← hW4]; exact (Keep.of_ext HE2.out).set_ (Or.inl (Or.inr (Or.inl HG.out))) _
  have n5 : W4.cell? ⟨b, 5, none⟩ = some (.int .i64 (t : Int)) := by
    have := hO4.num (5, M.top) (by simp [memNums])
    rw [HT.out] at this
    exact this
  have f5 := hO4.frozen 5
  have l5 := OM.lt hO4
  have HO4 := Lib.hid hO4
  have HK4 := Lib.hid hK4
  clear hO4 hK4 g3 gc gf hW4
  go_wp2
  go_ret
  have hfin := OMem.setTop HO4.out ((t : Int) + 1 + size)
  have hT := HT.out
  have hA : M.base + M.top.toNat = at_ := by rw [HAT.out, hT]; rfl
  refine ⟨by rw [hA]; rfl, ?_, HK4.out.set_ (Or.inl (Or.inl rfl)) _⟩
  unfold freshM
  rw [hA, hT]
  exact hfin
end Go.Proofs.YtecbbbaafcoliaaGreatDoor
