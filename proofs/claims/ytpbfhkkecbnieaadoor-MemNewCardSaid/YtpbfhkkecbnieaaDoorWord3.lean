/- The walk of word.ToHead. -/
import Derived.Test.YtpbfhkkecbnieaaDoorWord2
namespace Go.Proofs.YtpbfhkkecbnieaaDoor
open Go.RowKit
set_option linter.unusedVariables false
set_option linter.unusedSimpArgs false

/-- The numbers that ToHead makes of a word. -/
theorem toHead_bits (a : Int) (h0 : 0 ≤ a) (h1 : a ≤ 18446744073709551615) :
    wrap64 (bits .and .u64 (a / 4) 255) = hKind a ∧ wrap64 (bits .and .u64 (a / 1024) 15) = hAge a ∧ wrap64 (bits .and .u64 (a / 16384) 1) = hMark a ∧ wrap64 (bits .and .u64 (a / 65536) 8191) = hSize a % 8192 := by
  rw [and255 _ (by omega) (by omega), and15 _ (by omega) (by omega), and1 _ (by omega) (by omega), and8191 _ (by omega) (by omega)]
  rw [IntWalk.wrap64_in _ (by omega), IntWalk.wrap64_in _ (by omega), IntWalk.wrap64_in _ (by omega), IntWalk.wrap64_in _ (by omega)]
  exact ⟨rfl, rfl, rfl, rfl⟩
theorem toHead_yes (a : Int) (h0 : 0 ≤ a) (h1 : a ≤ 18446744073709551615) (h : isHd a = true) (w : World) :
    Calls Tryd.prog 26 #[.int .u64 a] w fun e w' => e = .returned (.tuple #[.agg #[.int .i64 (hKind a), .int .i64 (hAge a), .int .i64 (hMark a), .int .i64 (hSize a)], .nilIface]) ∧ Ext w w' := by
  obtain ⟨b1, b2, b3, b4⟩ := toHead_bits a h0 h1
  have hin := hd_in a h0
  have hsz : hSize a ≤ 4096 := ((isHd_iff a).1 h).2.2
  have b5 : hSize a % 8192 = hSize a := by omega
  rw [b5] at b4
  have hbk := headW_back a h
  have k1 : inB (hKind a) 255 = true := inB_true.2 (by omega)
  have k2 : inB (hAge a) 15 = true := inB_true.2 (by omega)
  have k3 : inB (hMark a) 1 = true := inB_true.2 (by omega)
  have k4 : inB (hSize a) 4096 = true := inB_true.2 (by omega)
  clear hin hsz b5 h
  go_enter Tryd.func26, Tryd.ntmps26
  go_wp2_with (go_at_call 23; refine (ofHead_yes _ _ _ _ k1 k2 k3 k4 _).mono ?_; rintro e w' ⟨rfl, hb⟩; obtain ⟨hc, hf, hz⟩ := hb.three; simp at hz)
  have q0 : w'.cell? ⟨w.heap.size, 0, none⟩ = some (.int .i64 0) := by rw [hc _ _ (by simp; omega)]; simp [go_sem]
  have q1 : w'.cell? ⟨w.heap.size, 1, none⟩ = some (.int .i64 0) := by rw [hc _ _ (by simp; omega)]; simp [go_sem]
  have q2 : w'.cell? ⟨w.heap.size, 2, none⟩ = some (.int .i64 0) := by rw [hc _ _ (by simp; omega)]; simp [go_sem]
  have q3 : w'.cell? ⟨w.heap.size, 3, none⟩ = some (.int .i64 0) := by rw [hc _ _ (by simp; omega)]; simp [go_sem]
  exact bodyPost_ret (v := .tuple #[.agg #[.int .i64 (hKind a), .int .i64 (hAge a), .int .i64 (hMark a), .int .i64 (hSize a)], .nilIface]) (by simp [results, Tryd.results26, go_sem, q0, q1, q2, q3]) rfl
    ⟨rfl, by repeat (first | exact (((Ext.refl _).alloc_ _).alloc_ _).trans_ hb | refine Ext.set_ ?_ (by simp) _)⟩
set_option maxHeartbeats 1000000 in
theorem toHead_no (a : Int) (h0 : 0 ≤ a) (h1 : a ≤ 18446744073709551615) (h : isHd a = false) (w : World) (b s : Addr) (gb : GBound w b) (gs : GShape w s) :
    Calls Tryd.prog 26 #[.int .u64 a] w fun e w' => e = .returned (.tuple #[.agg #[.int .i64 0, .int .i64 0, .int .i64 0, .int .i64 0], errV s]) ∧ Ext w w' := by
  have hlb := cell_lt gb
  have hls := cell_lt gs
  simp only at hlb hls
  obtain ⟨b1, b2, b3, b4⟩ := toHead_bits a h0 h1
  have hin := hd_in a h0
  have k1 : inB (hKind a) 255 = true := inB_true.2 (by omega)
  have k2 : inB (hAge a) 15 = true := inB_true.2 (by omega)
  have k3 : inB (hMark a) 1 = true := inB_true.2 (by omega)
  by_cases k4 : inB (hSize a % 8192) 4096 = true
  · have hne : headW (hKind a) (hAge a) (hMark a) (hSize a % 8192) ≠ a := fun e => by
      rw [headW_only a e (inB_true.1 k4).2] at h; cases h
    have hne' : (headW (hKind a) (hAge a) (hMark a) (hSize a % 8192) != a) = true := by simpa using hne
    clear hin h hne
    go_enter Tryd.func26, Tryd.ntmps26
    go_wp2_with (go_at_call 23; refine (ofHead_yes _ _ _ _ k1 k2 k3 k4 _).mono ?_; rintro e w' ⟨rfl, hb⟩; obtain ⟨hc, hf, hz⟩ := hb.three; simp at hz)
    have q0 : w'.cell? ⟨w.heap.size, 0, none⟩ = some (.int .i64 0) := by rw [hc _ _ (by simp; omega)]; simp [go_sem]
    have q1 : w'.cell? ⟨w.heap.size, 1, none⟩ = some (.int .i64 0) := by rw [hc _ _ (by simp; omega)]; simp [go_sem]
    have q2 : w'.cell? ⟨w.heap.size, 2, none⟩ = some (.int .i64 0) := by rw [hc _ _ (by simp; omega)]; simp [go_sem]
    have q3 : w'.cell? ⟨w.heap.size, 3, none⟩ = some (.int .i64 0) := by rw [hc _ _ (by simp; omega)]; simp [go_sem]
    have q4 : w'.frozen? ⟨w.heap.size, 0, none⟩ = false := by rw [hf _ _ (by simp; omega)]; simp [go_sem]
    have q5 : w'.frozen? ⟨w.heap.size, 1, none⟩ = false := by rw [hf _ _ (by simp; omega)]; simp [go_sem]
    have q6 : w'.frozen? ⟨w.heap.size, 2, none⟩ = false := by rw [hf _ _ (by simp; omega)]; simp [go_sem]
    have q7 : w'.frozen? ⟨w.heap.size, 3, none⟩ = false := by rw [hf _ _ (by simp; omega)]; simp [go_sem]
    go_region
    all_goals go_wp2
    all_goals refine bodyPost_ret (v := .tuple #[.agg #[.int .i64 0, .int .i64 0, .int .i64 0, .int .i64 0], errV s]) (by simp [results, Tryd.results26, go_sem, q0, q1, q2, q3]) rfl ⟨rfl, ?_⟩
    all_goals repeat (first | exact (((Ext.refl _).alloc_ _).alloc_ _).trans_ hb | refine Ext.drew_ ?_ | refine Ext.set_ ?_ (by simp) _)
  · have k4' : inB (hSize a % 8192) 4096 = false := by simpa using k4
    clear hin h k4
    go_enter Tryd.func26, Tryd.ntmps26
    go_wp2_with (go_at_call 23; refine (ofHead_no _ _ _ _ (by simp [k4']) _ b ((((Ext.refl w).alloc_ _).alloc_ _).cell_ gb)).mono ?_; rintro e w' ⟨rfl, hb⟩; obtain ⟨hc, hf, hz⟩ := hb.three; simp at hz)
    have q0 : w'.cell? ⟨w.heap.size, 0, none⟩ = some (.int .i64 0) := by rw [hc _ _ (by simp; omega)]; simp [go_sem]
    have q1 : w'.cell? ⟨w.heap.size, 1, none⟩ = some (.int .i64 0) := by rw [hc _ _ (by simp; omega)]; simp [go_sem]
    have q2 : w'.cell? ⟨w.heap.size, 2, none⟩ = some (.int .i64 0) := by rw [hc _ _ (by simp; omega)]; simp [go_sem]
    have q3 : w'.cell? ⟨w.heap.size, 3, none⟩ = some (.int .i64 0) := by rw [hc _ _ (by simp; omega)]; simp [go_sem]
    have q4 : w'.frozen? ⟨w.heap.size, 0, none⟩ = false := by rw [hf _ _ (by simp; omega)]; simp [go_sem]
    have q5 : w'.frozen? ⟨w.heap.size, 1, none⟩ = false := by rw [hf _ _ (by simp; omega)]; simp [go_sem]
    have q6 : w'.frozen? ⟨w.heap.size, 2, none⟩ = false := by rw [hf _ _ (by simp; omega)]; simp [go_sem]
    have q7 : w'.frozen? ⟨w.heap.size, 3, none⟩ = false := by rw [hf _ _ (by simp; omega)]; simp [go_sem]
    go_region
    all_goals go_wp2
    all_goals refine bodyPost_ret (v := .tuple #[.agg #[.int .i64 0, .int .i64 0, .int .i64 0, .int .i64 0], errV s]) (by simp [results, Tryd.results26, go_sem, q0, q1, q2, q3]) rfl ⟨rfl, ?_⟩
    all_goals repeat (first | exact (((Ext.refl _).alloc_ _).alloc_ _).trans_ hb | refine Ext.drew_ ?_ | refine Ext.set_ ?_ (by simp) _)
end Go.Proofs.YtpbfhkkecbnieaaDoor
