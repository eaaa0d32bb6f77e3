/- The walk of Memory.shape. -/
import Derived.Test.YtpbfhkkecbnieaaDoorKeep
import Derived.Test.YtpbfhkkecbnieaaDoorShapeLex
import Derived.IntWalk
namespace Go.Proofs.YtpbfhkkecbnieaaDoor
open Go.RowKit
set_option linter.unusedVariables false
set_option linter.unusedSimpArgs false

theorem rng_any (a lo hi : Int) (w : World) : Calls Tryd.prog 143 #[.int .i64 a, .int .i64 lo, .int .i64 hi] w fun e w' => e = .returned (.bool (inR a lo hi)) ∧ w' = w := by
  by_cases h : lo ≤ a
  · have e : inR a lo hi = decide (a ≤ hi) := by simp [inR, h]
    rw [e]
    go_enter Tryd.func143, Tryd.ntmps143
    go_wp2
    go_ret
    exact ⟨rfl, rfl⟩
  · have e : inR a lo hi = false := by simp [inR, h]
    rw [e]
    go_enter Tryd.func143, Tryd.ntmps143
    go_wp2
    go_ret
    exact ⟨rfl, rfl⟩
theorem lexB_eq {l l' : List Oper} (h : l = l') (hB : Region.lexB .any l'.toArray = true) : Region.lexB .any l.toArray = true := h ▸ hB
theorem rng_lit {a lo hi : Int} {r : Bool} (h : inR a lo hi = r) (w : World) : Calls Tryd.prog 143 #[.int .i64 a, .int .i64 lo, .int .i64 hi] w fun e w' => e = .returned (.bool r) ∧ w' = w := by
  rw [← h]; exact rng_any a lo hi w

set_option maxHeartbeats 4000000 in
set_option maxRecDepth 100000 in
theorem shape_0 (w : World) (b o : Nat) (M : Mem) (S : Sls) (hM : RMem w b o M S) (h0 : inR M.half 1 65536 = false) :
    Calls Tryd.prog 94 #[.pointer (some ⟨b, o, none⟩)] w fun e w' => e = .returned (.bool false) ∧ ∃ n, w' = w.drewN n := by
  have c_half := hM.half
  have c_old := hM.old
  have c_card := hM.card
  have c_W := hM.W
  have c_used := hM.used
  have c_top := hM.top
  have c_oldTop := hM.oldTop
  have c_cards := hM.cards
  have hl := hM.ok.lenW
  have hl2 := hM.ok.lenC
  clear hM
  go_enter Tryd.func94, Tryd.ntmps94
  go_wp2_with (go_at_call 143; refine (rng_any _ _ _ _).mono ?_; rintro e w' ⟨rfl, rfl⟩)
  simp only [List.append_eq, List.cons_append, List.nil_append]
  refine wp_region_quiet_lit (by kernel_rfl) (lexB_eq (by kernel_rfl) shape_lex) ?_
  repeat (go_big_quiet_step ((go_at_call 143; first | (with_reducible exact Calls.quiet_of_same (rng_lit h0 _)))))
  refine wpQuiet_nil ?_
  intro _ hw'
  obtain ⟨nq, hw''⟩ := hw'
  subst hw''
  go_wp2
  go_ret
  exact ⟨rfl, _, rfl⟩
set_option maxHeartbeats 4000000 in
set_option maxRecDepth 100000 in
theorem shape_1 (w : World) (b o : Nat) (M : Mem) (S : Sls) (hM : RMem w b o M S) (h0 : inR M.half 1 65536 = true) (h1 : inR M.old 1 65536 = false) :
    Calls Tryd.prog 94 #[.pointer (some ⟨b, o, none⟩)] w fun e w' => e = .returned (.bool false) ∧ ∃ n, w' = w.drewN n := by
  have c_half := hM.half
  have c_old := hM.old
  have c_card := hM.card
  have c_W := hM.W
  have c_used := hM.used
  have c_top := hM.top
  have c_oldTop := hM.oldTop
  have c_cards := hM.cards
  have hl := hM.ok.lenW
  have hl2 := hM.ok.lenC
  obtain ⟨b1, b2⟩ := inR_true.1 h0
  clear hM
  go_enter Tryd.func94, Tryd.ntmps94
  go_wp2_with (go_at_call 143; refine (rng_any _ _ _ _).mono ?_; rintro e w' ⟨rfl, rfl⟩)
  simp only [List.append_eq, List.cons_append, List.nil_append]
  refine wp_region_quiet_lit (by kernel_rfl) (lexB_eq (by kernel_rfl) shape_lex) ?_
  repeat (go_big_quiet_step ((go_at_call 143; first | (with_reducible exact Calls.quiet_of_same (rng_lit h0 _)) | (with_reducible exact Calls.quiet_of_same (rng_lit h1 _)))))
  refine wpQuiet_nil ?_
  intro _ hw'
  obtain ⟨nq, hw''⟩ := hw'
  subst hw''
  go_wp2
  go_ret
  exact ⟨rfl, _, rfl⟩
set_option maxHeartbeats 4000000 in
set_option maxRecDepth 100000 in
theorem shape_2 (w : World) (b o : Nat) (M : Mem) (S : Sls) (hM : RMem w b o M S) (h0 : inR M.half 1 65536 = true) (h1 : inR M.old 1 65536 = true) (h2 : inR M.card 1 1024 = false) :
    Calls Tryd.prog 94 #[.pointer (some ⟨b, o, none⟩)] w fun e w' => e = .returned (.bool false) ∧ ∃ n, w' = w.drewN n := by
  have c_half := hM.half
  have c_old := hM.old
  have c_card := hM.card
  have c_W := hM.W
  have c_used := hM.used
  have c_top := hM.top
  have c_oldTop := hM.oldTop
  have c_cards := hM.cards
  have hl := hM.ok.lenW
  have hl2 := hM.ok.lenC
  obtain ⟨b1, b2⟩ := inR_true.1 h0
  obtain ⟨b3, b4⟩ := inR_true.1 h1
  clear hM
  go_enter Tryd.func94, Tryd.ntmps94
  go_wp2_with (go_at_call 143; refine (rng_any _ _ _ _).mono ?_; rintro e w' ⟨rfl, rfl⟩)
  simp only [List.append_eq, List.cons_append, List.nil_append]
  refine wp_region_quiet_lit (by kernel_rfl) (lexB_eq (by kernel_rfl) shape_lex) ?_
  repeat (go_big_quiet_step ((go_at_call 143; first | (with_reducible exact Calls.quiet_of_same (rng_lit h0 _)) | (with_reducible exact Calls.quiet_of_same (rng_lit h1 _)) | (with_reducible exact Calls.quiet_of_same (rng_lit h2 _)))))
  refine wpQuiet_nil ?_
  intro _ hw'
  obtain ⟨nq, hw''⟩ := hw'
  subst hw''
  go_wp2
  go_ret
  exact ⟨rfl, _, rfl⟩
set_option maxHeartbeats 4000000 in
set_option maxRecDepth 100000 in
theorem shape_3 (w : World) (b o : Nat) (M : Mem) (S : Sls) (hM : RMem w b o M S) (h0 : inR M.half 1 65536 = true) (h1 : inR M.old 1 65536 = true) (h2 : inR M.card 1 1024 = true) (h3 : ((M.W.length : Int) == 2 * M.half + M.old) = false) :
    Calls Tryd.prog 94 #[.pointer (some ⟨b, o, none⟩)] w fun e w' => e = .returned (.bool false) ∧ ∃ n, w' = w.drewN n := by
  have c_half := hM.half
  have c_old := hM.old
  have c_card := hM.card
  have c_W := hM.W
  have c_used := hM.used
  have c_top := hM.top
  have c_oldTop := hM.oldTop
  have c_cards := hM.cards
  have hl := hM.ok.lenW
  have hl2 := hM.ok.lenC
  obtain ⟨b1, b2⟩ := inR_true.1 h0
  obtain ⟨b3, b4⟩ := inR_true.1 h1
  obtain ⟨b5, b6⟩ := inR_true.1 h2
  have e0 : IntKind.i64.wrap (2 * M.half) = 2 * M.half := IntWalk.i64_in _ (by omega)
  have e1 : IntKind.i64.wrap (2 * M.half + M.old) = 2 * M.half + M.old := IntWalk.i64_in _ (by omega)
  clear hM
  go_enter Tryd.func94, Tryd.ntmps94
  go_wp2_with (go_at_call 143; refine (rng_any _ _ _ _).mono ?_; rintro e w' ⟨rfl, rfl⟩)
  simp only [List.append_eq, List.cons_append, List.nil_append]
  refine wp_region_quiet_lit (by kernel_rfl) (lexB_eq (by kernel_rfl) shape_lex) ?_
  repeat (go_big_quiet_step ((go_at_call 143; first | (with_reducible exact Calls.quiet_of_same (rng_lit h0 _)) | (with_reducible exact Calls.quiet_of_same (rng_lit h1 _)) | (with_reducible exact Calls.quiet_of_same (rng_lit h2 _)))))
  refine wpQuiet_nil ?_
  intro _ hw'
  obtain ⟨nq, hw''⟩ := hw'
  subst hw''
  go_wp2
  go_ret
  exact ⟨rfl, _, rfl⟩
set_option maxHeartbeats 4000000 in
set_option maxRecDepth 100000 in
theorem shape_4 (w : World) (b o : Nat) (M : Mem) (S : Sls) (hM : RMem w b o M S) (h0 : inR M.half 1 65536 = true) (h1 : inR M.old 1 65536 = true) (h2 : inR M.card 1 1024 = true) (h3 : ((M.W.length : Int) == 2 * M.half + M.old) = true) (h4 : inR M.used 0 1 = false) :
    Calls Tryd.prog 94 #[.pointer (some ⟨b, o, none⟩)] w fun e w' => e = .returned (.bool false) ∧ ∃ n, w' = w.drewN n := by
  have c_half := hM.half
  have c_old := hM.old
  have c_card := hM.card
  have c_W := hM.W
  have c_used := hM.used
  have c_top := hM.top
  have c_oldTop := hM.oldTop
  have c_cards := hM.cards
  have hl := hM.ok.lenW
  have hl2 := hM.ok.lenC
  obtain ⟨b1, b2⟩ := inR_true.1 h0
  obtain ⟨b3, b4⟩ := inR_true.1 h1
  obtain ⟨b5, b6⟩ := inR_true.1 h2
  have e0 : IntKind.i64.wrap (2 * M.half) = 2 * M.half := IntWalk.i64_in _ (by omega)
  have e1 : IntKind.i64.wrap (2 * M.half + M.old) = 2 * M.half + M.old := IntWalk.i64_in _ (by omega)
  clear hM
  go_enter Tryd.func94, Tryd.ntmps94
  go_wp2_with (go_at_call 143; refine (rng_any _ _ _ _).mono ?_; rintro e w' ⟨rfl, rfl⟩)
  simp only [List.append_eq, List.cons_append, List.nil_append]
  refine wp_region_quiet_lit (by kernel_rfl) (lexB_eq (by kernel_rfl) shape_lex) ?_
  repeat (go_big_quiet_step ((go_at_call 143; first | (with_reducible exact Calls.quiet_of_same (rng_lit h0 _)) | (with_reducible exact Calls.quiet_of_same (rng_lit h1 _)) | (with_reducible exact Calls.quiet_of_same (rng_lit h2 _)) | (with_reducible exact Calls.quiet_of_same (rng_lit h4 _)))))
  refine wpQuiet_nil ?_
  intro _ hw'
  obtain ⟨nq, hw''⟩ := hw'
  subst hw''
  go_wp2
  go_ret
  exact ⟨rfl, _, rfl⟩
set_option maxHeartbeats 4000000 in
set_option maxRecDepth 100000 in
theorem shape_5 (w : World) (b o : Nat) (M : Mem) (S : Sls) (hM : RMem w b o M S) (h0 : inR M.half 1 65536 = true) (h1 : inR M.old 1 65536 = true) (h2 : inR M.card 1 1024 = true) (h3 : ((M.W.length : Int) == 2 * M.half + M.old) = true) (h4 : inR M.used 0 1 = true) (h5 : inR M.top 0 M.half = false) :
    Calls Tryd.prog 94 #[.pointer (some ⟨b, o, none⟩)] w fun e w' => e = .returned (.bool false) ∧ ∃ n, w' = w.drewN n := by
  have c_half := hM.half
  have c_old := hM.old
  have c_card := hM.card
  have c_W := hM.W
  have c_used := hM.used
  have c_top := hM.top
  have c_oldTop := hM.oldTop
  have c_cards := hM.cards
  have hl := hM.ok.lenW
  have hl2 := hM.ok.lenC
  obtain ⟨b1, b2⟩ := inR_true.1 h0
  obtain ⟨b3, b4⟩ := inR_true.1 h1
  obtain ⟨b5, b6⟩ := inR_true.1 h2
  have e0 : IntKind.i64.wrap (2 * M.half) = 2 * M.half := IntWalk.i64_in _ (by omega)
  have e1 : IntKind.i64.wrap (2 * M.half + M.old) = 2 * M.half + M.old := IntWalk.i64_in _ (by omega)
  clear hM
  go_enter Tryd.func94, Tryd.ntmps94
  go_wp2_with (go_at_call 143; refine (rng_any _ _ _ _).mono ?_; rintro e w' ⟨rfl, rfl⟩)
  simp only [List.append_eq, List.cons_append, List.nil_append]
  refine wp_region_quiet_lit (by kernel_rfl) (lexB_eq (by kernel_rfl) shape_lex) ?_
  repeat (go_big_quiet_step ((go_at_call 143; first | (with_reducible exact Calls.quiet_of_same (rng_lit h0 _)) | (with_reducible exact Calls.quiet_of_same (rng_lit h1 _)) | (with_reducible exact Calls.quiet_of_same (rng_lit h2 _)) | (with_reducible exact Calls.quiet_of_same (rng_lit h4 _)) | (with_reducible exact Calls.quiet_of_same (rng_lit h5 _)))))
  refine wpQuiet_nil ?_
  intro _ hw'
  obtain ⟨nq, hw''⟩ := hw'
  subst hw''
  go_wp2
  go_ret
  exact ⟨rfl, _, rfl⟩
set_option maxHeartbeats 4000000 in
set_option maxRecDepth 100000 in
theorem shape_6 (w : World) (b o : Nat) (M : Mem) (S : Sls) (hM : RMem w b o M S) (h0 : inR M.half 1 65536 = true) (h1 : inR M.old 1 65536 = true) (h2 : inR M.card 1 1024 = true) (h3 : ((M.W.length : Int) == 2 * M.half + M.old) = true) (h4 : inR M.used 0 1 = true) (h5 : inR M.top 0 M.half = true) (h6 : inR M.oldTop 0 M.old = false) :
    Calls Tryd.prog 94 #[.pointer (some ⟨b, o, none⟩)] w fun e w' => e = .returned (.bool false) ∧ ∃ n, w' = w.drewN n := by
  have c_half := hM.half
  have c_old := hM.old
  have c_card := hM.card
  have c_W := hM.W
  have c_used := hM.used
  have c_top := hM.top
  have c_oldTop := hM.oldTop
  have c_cards := hM.cards
  have hl := hM.ok.lenW
  have hl2 := hM.ok.lenC
  obtain ⟨b1, b2⟩ := inR_true.1 h0
  obtain ⟨b3, b4⟩ := inR_true.1 h1
  obtain ⟨b5, b6⟩ := inR_true.1 h2
  have e0 : IntKind.i64.wrap (2 * M.half) = 2 * M.half := IntWalk.i64_in _ (by omega)
  have e1 : IntKind.i64.wrap (2 * M.half + M.old) = 2 * M.half + M.old := IntWalk.i64_in _ (by omega)
  clear hM
  go_enter Tryd.func94, Tryd.ntmps94
  go_wp2_with (go_at_call 143; refine (rng_any _ _ _ _).mono ?_; rintro e w' ⟨rfl, rfl⟩)
  simp only [List.append_eq, List.cons_append, List.nil_append]
  refine wp_region_quiet_lit (by kernel_rfl) (lexB_eq (by kernel_rfl) shape_lex) ?_
  repeat (go_big_quiet_step ((go_at_call 143; first | (with_reducible exact Calls.quiet_of_same (rng_lit h0 _)) | (with_reducible exact Calls.quiet_of_same (rng_lit h1 _)) | (with_reducible exact Calls.quiet_of_same (rng_lit h2 _)) | (with_reducible exact Calls.quiet_of_same (rng_lit h4 _)) | (with_reducible exact Calls.quiet_of_same (rng_lit h5 _)) | (with_reducible exact Calls.quiet_of_same (rng_lit h6 _)))))
  refine wpQuiet_nil ?_
  intro _ hw'
  obtain ⟨nq, hw''⟩ := hw'
  subst hw''
  go_wp2
  go_ret
  exact ⟨rfl, _, rfl⟩
set_option maxHeartbeats 4000000 in
set_option maxRecDepth 100000 in
theorem shape_7 (w : World) (b o : Nat) (M : Mem) (S : Sls) (hM : RMem w b o M S) (h0 : inR M.half 1 65536 = true) (h1 : inR M.old 1 65536 = true) (h2 : inR M.card 1 1024 = true) (h3 : ((M.W.length : Int) == 2 * M.half + M.old) = true) (h4 : inR M.used 0 1 = true) (h5 : inR M.top 0 M.half = true) (h6 : inR M.oldTop 0 M.old = true) (h7 : ((M.cards.length : Int) == (M.old + M.card - 1) / M.card) = false) :
    Calls Tryd.prog 94 #[.pointer (some ⟨b, o, none⟩)] w fun e w' => e = .returned (.bool false) ∧ ∃ n, w' = w.drewN n := by
  have c_half := hM.half
  have c_old := hM.old
  have c_card := hM.card
  have c_W := hM.W
  have c_used := hM.used
  have c_top := hM.top
  have c_oldTop := hM.oldTop
  have c_cards := hM.cards
  have hl := hM.ok.lenW
  have hl2 := hM.ok.lenC
  obtain ⟨b1, b2⟩ := inR_true.1 h0
  obtain ⟨b3, b4⟩ := inR_true.1 h1
  obtain ⟨b5, b6⟩ := inR_true.1 h2
  have e0 : IntKind.i64.wrap (2 * M.half) = 2 * M.half := IntWalk.i64_in _ (by omega)
  have e1 : IntKind.i64.wrap (2 * M.half + M.old) = 2 * M.half + M.old := IntWalk.i64_in _ (by omega)
  have e2 : IntKind.i64.wrap (M.old + M.card) = M.old + M.card := IntWalk.i64_in _ (by omega)
  have e3 : IntKind.i64.wrap (M.old + M.card - 1) = M.old + M.card - 1 := IntWalk.i64_in _ (by omega)
  have e4 : (M.old + M.card - 1).tdiv M.card = (M.old + M.card - 1) / M.card := Int.tdiv_eq_ediv_of_nonneg (by omega)
  have e6 : 0 ≤ (M.old + M.card - 1) / M.card := Int.ediv_nonneg (by omega) (by omega)
  have e7 : (M.old + M.card - 1) / M.card ≤ M.old + M.card - 1 := Int.ediv_le_self _ (by omega)
  have e5 : IntKind.i64.wrap ((M.old + M.card - 1) / M.card) = (M.old + M.card - 1) / M.card := IntWalk.i64_in _ (by omega)
  have e8 : (M.card == 0) = false := by simp; omega
  clear e6 e7
  clear hM
  go_enter Tryd.func94, Tryd.ntmps94
  go_wp2_with (go_at_call 143; refine (rng_any _ _ _ _).mono ?_; rintro e w' ⟨rfl, rfl⟩)
  simp only [List.append_eq, List.cons_append, List.nil_append]
  refine wp_region_quiet_lit (by kernel_rfl) (lexB_eq (by kernel_rfl) shape_lex) ?_
  repeat (go_big_quiet_step ((go_at_call 143; first | (with_reducible exact Calls.quiet_of_same (rng_lit h0 _)) | (with_reducible exact Calls.quiet_of_same (rng_lit h1 _)) | (with_reducible exact Calls.quiet_of_same (rng_lit h2 _)) | (with_reducible exact Calls.quiet_of_same (rng_lit h4 _)) | (with_reducible exact Calls.quiet_of_same (rng_lit h5 _)) | (with_reducible exact Calls.quiet_of_same (rng_lit h6 _)))))
  refine wpQuiet_nil ?_
  intro _ hw'
  obtain ⟨nq, hw''⟩ := hw'
  subst hw''
  go_wp2
  go_ret
  exact ⟨rfl, _, rfl⟩
set_option maxHeartbeats 4000000 in
set_option maxRecDepth 100000 in
theorem shape_8 (w : World) (b o : Nat) (M : Mem) (S : Sls) (hM : RMem w b o M S) (h0 : inR M.half 1 65536 = true) (h1 : inR M.old 1 65536 = true) (h2 : inR M.card 1 1024 = true) (h3 : ((M.W.length : Int) == 2 * M.half + M.old) = true) (h4 : inR M.used 0 1 = true) (h5 : inR M.top 0 M.half = true) (h6 : inR M.oldTop 0 M.old = true) (h7 : ((M.cards.length : Int) == (M.old + M.card - 1) / M.card) = true) :
    Calls Tryd.prog 94 #[.pointer (some ⟨b, o, none⟩)] w fun e w' => e = .returned (.bool true) ∧ ∃ n, w' = w.drewN n := by
  have c_half := hM.half
  have c_old := hM.old
  have c_card := hM.card
  have c_W := hM.W
  have c_used := hM.used
  have c_top := hM.top
  have c_oldTop := hM.oldTop
  have c_cards := hM.cards
  have hl := hM.ok.lenW
  have hl2 := hM.ok.lenC
  obtain ⟨b1, b2⟩ := inR_true.1 h0
  obtain ⟨b3, b4⟩ := inR_true.1 h1
  obtain ⟨b5, b6⟩ := inR_true.1 h2
  have e0 : IntKind.i64.wrap (2 * M.half) = 2 * M.half := IntWalk.i64_in _ (by omega)
  have e1 : IntKind.i64.wrap (2 * M.half + M.old) = 2 * M.half + M.old := IntWalk.i64_in _ (by omega)
  have e2 : IntKind.i64.wrap (M.old + M.card) = M.old + M.card := IntWalk.i64_in _ (by omega)
  have e3 : IntKind.i64.wrap (M.old + M.card - 1) = M.old + M.card - 1 := IntWalk.i64_in _ (by omega)
  have e4 : (M.old + M.card - 1).tdiv M.card = (M.old + M.card - 1) / M.card := Int.tdiv_eq_ediv_of_nonneg (by omega)
  have e6 : 0 ≤ (M.old + M.card - 1) / M.card := Int.ediv_nonneg (by omega) (by omega)
  have e7 : (M.old + M.card - 1) / M.card ≤ M.old + M.card - 1 := Int.ediv_le_self _ (by omega)
  have e5 : IntKind.i64.wrap ((M.old + M.card - 1) / M.card) = (M.old + M.card - 1) / M.card := IntWalk.i64_in _ (by omega)
  have e8 : (M.card == 0) = false := by simp; omega
  clear e6 e7
  clear hM
  go_enter Tryd.func94, Tryd.ntmps94
  go_wp2_with (go_at_call 143; refine (rng_any _ _ _ _).mono ?_; rintro e w' ⟨rfl, rfl⟩)
  simp only [List.append_eq, List.cons_append, List.nil_append]
  refine wp_region_quiet_lit (by kernel_rfl) (lexB_eq (by kernel_rfl) shape_lex) ?_
  repeat (go_big_quiet_step ((go_at_call 143; first | (with_reducible exact Calls.quiet_of_same (rng_lit h0 _)) | (with_reducible exact Calls.quiet_of_same (rng_lit h1 _)) | (with_reducible exact Calls.quiet_of_same (rng_lit h2 _)) | (with_reducible exact Calls.quiet_of_same (rng_lit h4 _)) | (with_reducible exact Calls.quiet_of_same (rng_lit h5 _)) | (with_reducible exact Calls.quiet_of_same (rng_lit h6 _)))))
  refine wpQuiet_nil ?_
  intro _ hw'
  obtain ⟨nq, hw''⟩ := hw'
  subst hw''
  go_wp2
  go_ret
  exact ⟨rfl, _, rfl⟩
theorem shape_any (w : World) (b o : Nat) (M : Mem) (S : Sls) (hM : RMem w b o M S) :
    Calls Tryd.prog 94 #[.pointer (some ⟨b, o, none⟩)] w fun e w' => e = .returned (.bool (shapeB M)) ∧ ∃ n, w' = w.drewN n := by
  rcases Bool.eq_false_or_eq_true (inR M.half 1 65536) with h0 | h0
  rotate_left
  · have e : shapeB M = false := by unfold shapeB; rw [h0]; simp
    rw [e]; exact shape_0 w b o M S hM h0
  rcases Bool.eq_false_or_eq_true (inR M.old 1 65536) with h1 | h1
  rotate_left
  · have e : shapeB M = false := by unfold shapeB; rw [h0, h1]; simp
    rw [e]; exact shape_1 w b o M S hM h0 h1
  rcases Bool.eq_false_or_eq_true (inR M.card 1 1024) with h2 | h2
  rotate_left
  · have e : shapeB M = false := by unfold shapeB; rw [h0, h1, h2]; simp
    rw [e]; exact shape_2 w b o M S hM h0 h1 h2
  rcases Bool.eq_false_or_eq_true (((M.W.length : Int) == 2 * M.half + M.old)) with h3 | h3
  rotate_left
  · have e : shapeB M = false := by unfold shapeB; rw [h0, h1, h2, h3]; simp
    rw [e]; exact shape_3 w b o M S hM h0 h1 h2 h3
  rcases Bool.eq_false_or_eq_true (inR M.used 0 1) with h4 | h4
  rotate_left
  · have e : shapeB M = false := by unfold shapeB; rw [h0, h1, h2, h3, h4]; simp
    rw [e]; exact shape_4 w b o M S hM h0 h1 h2 h3 h4
  rcases Bool.eq_false_or_eq_true (inR M.top 0 M.half) with h5 | h5
  rotate_left
  · have e : shapeB M = false := by unfold shapeB; rw [h0, h1, h2, h3, h4, h5]; simp
    rw [e]; exact shape_5 w b o M S hM h0 h1 h2 h3 h4 h5
  rcases Bool.eq_false_or_eq_true (inR M.oldTop 0 M.old) with h6 | h6
  rotate_left
  · have e : shapeB M = false := by unfold shapeB; rw [h0, h1, h2, h3, h4, h5, h6]; simp
    rw [e]; exact shape_6 w b o M S hM h0 h1 h2 h3 h4 h5 h6
  rcases Bool.eq_false_or_eq_true (((M.cards.length : Int) == (M.old + M.card - 1) / M.card)) with h7 | h7
  rotate_left
  · have e : shapeB M = false := by unfold shapeB; rw [h0, h1, h2, h3, h4, h5, h6, h7]; simp
    rw [e]; exact shape_7 w b o M S hM h0 h1 h2 h3 h4 h5 h6 h7
  have e : shapeB M = true := by unfold shapeB; rw [h0, h1, h2, h3, h4, h5, h6, h7]; rfl
  rw [e]; exact shape_8 w b o M S hM h0 h1 h2 h3 h4 h5 h6 h7
end Go.Proofs.YtpbfhkkecbnieaaDoor
