/- The walk of word.Bytes. -/
import Derived.Test.YtpbfhkkecbnieaaDoorBytes
import Derived.Test.YtpbfhkkecbnieaaDoorBase
import Derived.OwnWalk
import Derived.Laws.OwnMore
namespace Go.Proofs.YtpbfhkkecbnieaaDoor
open Go.RowKit
set_option linter.unusedVariables false
set_option linter.unusedSimpArgs false

/-- The bytes of a text as numbers; words as cells. -/
def bnums (s : ByteArray) : List Int := s.data.toList.map fun b => (b.toNat : Int)
def wcellsB (l : List Int) : List Value := l.map fun x => Value.int .u64 x
theorem bnums_len (s : ByteArray) : (bnums s).length = s.size := by
  unfold bnums; rw [List.length_map]; rfl
theorem bnums_bound (s : ByteArray) : ∀ b ∈ bnums s, 0 ≤ b ∧ b ≤ 255 := fun b hb => by
  simp only [bnums, List.mem_map] at hb
  obtain ⟨x, _, rfl⟩ := hb
  have := x.toNat_lt
  omega
theorem bnums_at (s : ByteArray) (k : Nat) (h : k < s.size) : (bnums s).getD k 0 = (s[k].toNat : Int) := by
  have h' : k < s.data.toList.length := h
  rw [List.getD_eq_getElem?_getD, bnums, List.getElem?_map, List.getElem?_eq_getElem h']
  rfl
theorem byteP_small (s : List Int) (h : ∀ b ∈ s, 0 ≤ b ∧ b ≤ 255) (k : Nat) (hk : k ≤ s.length) : 0 ≤ byteP s k (k / 8) ∧ byteP s k (k / 8) < p8 (k % 8) := by
  have h1 := leW_bound (((s.take k).drop (8 * (k / 8))).take 8) fun b hb => h b (List.mem_of_mem_take (List.mem_of_mem_drop (List.mem_of_mem_take hb)))
  have h2 : (((s.take k).drop (8 * (k / 8))).take 8).length = k % 8 := by simp; omega
  rw [h2] at h1
  exact h1
theorem or_byte (x c : Int) (j : Nat) (hj : j < 8) (hx : 0 ≤ x ∧ x < p8 j) (hc : 0 ≤ c ∧ c ≤ 255) :
    bits .or .u64 x (IntKind.u64.wrap (IntKind.u64.wrap c * 2 ^ (j * 8))) = x + c * p8 j := by
  have e : IntKind.u64.wrap c = c := wraps_u64 c (by omega) (by omega)
  have ej : (2 : Int) ^ (j * 8) = p8 j := by unfold p8; rw [Nat.mul_comm]
  have hp := p8_pos j
  have hj' : j = 0 ∨ j = 1 ∨ j = 2 ∨ j = 3 ∨ j = 4 ∨ j = 5 ∨ j = 6 ∨ j = 7 := by omega
  rw [e, ej, bits_or_comm]
  rcases hj' with rfl | rfl | rfl | rfl | rfl | rfl | rfl | rfl <;> simp only [p8] at * <;>
    (rw [wraps_u64 _ (by omega) (by omega), or_u64 _ _ _ (by omega) (by omega) (by omega) (by omega) (show x < 2 ^ _ from hx.2) (by omega)]; omega)
theorem infoU64 : (Tryd.prog.info? 25).map (fun i => (i.zero, i.size, i.bytes)) = some (some (.int .u64 0), 1, 8) := by kernel_rfl
theorem undU64s : Tryd.prog.underlying 47 = some (.slice 25) := by kernel_rfl

set_option maxRecDepth 100000 in
set_option maxHeartbeats 4000000 in
theorem bytes_walk (s : ByteArray) (hs : s.size ≤ 35184372088832) (w : World) :
    Calls Tryd.prog 48 #[.string s] w fun e w' => e = .returned (.slice (some ⟨w.heap.size, 0, none⟩) ((s.size + 7) / 8) ((s.size + 7) / 8)) ∧
      w'.ownsRow w.heap.size 25 1 (.slice (some ⟨w.heap.size, 0, none⟩) ((s.size + 7) / 8) ((s.size + 7) / 8)) ((s.size + 7) / 8) (wcellsB (bytesW (bnums s))) ∧ Ext w w' := by
  obtain ⟨i0, hi, hz0, hz1, hz2⟩ := info_parts infoU64
  have hm0 : (0 : Int) ≤ (s.size : Int) + 7 := by omega
  go_enter Tryd.func48, Tryd.ntmps48
  go_wp2_with (first
    | (refine wpList_make_full _ rfl _ _ 47 rfl w.heap.size 25 i0 (.int .u64 0) 1 undU64s hi hz0 hz1 .i64 .i64 (((s.size : Int) + 7) / 8) (((s.size : Int) + 7) / 8) ((s.size + 7) / 8) rfl rfl (by omega) (by omega) (by rw [hz2]; omega) (by unfold maxLen; omega) (Nat.le_refl _) ?_; intro w1 hown hgrow; have hbel0 : Below w.heap.size w w1 := (Below.refl _ _).grown hgrow (Nat.le_refl _) (by simp); clear hgrow))
  generalize hM : (s.size + 7) / 8 = m at hown ⊢
  go_loopw [4, 12] (fun t i wr => ∃ k : Nat, k ≤ s.size ∧ i = .int .i64 k ∧ wr.ownsRow w.heap.size 25 1 (.slice (some ⟨w.heap.size, 0, none⟩) m m) m (wcellsB (bytesP (bnums s) k m)) ∧ Below w.heap.size w wr)
    (fun _ i _ => s.size - (intOf i).toNat)
  case atStart =>
    refine ⟨0, Nat.zero_le _, rfl, ?_, hbel0⟩
    rw [bytesP_zero]
    rw [show (Value.int .u64 0).cells = #[Value.int .u64 0] from rfl, Nat.mul_one, toList_madeCells_one] at hown
    simpa [wcellsB] using hown
  case round =>
    obtain ⟨k, hk, rfl, hrow, hbel⟩ := hrel
    have hsz := hbel.size
    have hcell : k < s.size → wr.cell? ⟨w.heap.size, k / 8, none⟩ = some (.int .u64 (byteP (bnums s) k (k / 8))) := fun h => by
      rw [hrow.cellAt (k / 8) (by omega)]
      simp [wcellsB, bytesP, show k / 8 < m from by omega]
    have hfr : wr.frozen? ⟨w.heap.size, k / 8, none⟩ = false := hrow.frozenAt _
    have hlt8 : k < s.size → k / 8 < m := by omega
    have hbt := byteP_bound (bnums s) (bnums_bound s) k (k / 8)
    clear hown
    have hN : Hid ((s.size + 7) / 8 = m) := hM
    clear hM
    go_wp2
    · have hc1 := hcell (by assumption)
      have hm1 := hlt8 (by assumption)
      clear hcell hlt8
      go_region
      go_wp2
      go_roundw
      case rel =>
        have hor := or_byte (byteP (bnums s) k (k / 8)) (s[k].toNat : Int) (k % 8) (by omega) (byteP_small _ (bnums_bound s) k (by rw [bnums_len]; omega)) (bnums_bound s _ (by rw [← bnums_at s k (by assumption)]; simp [List.getD_eq_getElem?_getD, bnums_len, (by assumption : k < s.size)]))
        refine ⟨k + 1, by omega, rfl, ?_, ?_⟩
        · rw [hor, ← bytesP_step (bnums s) k m (by rw [bnums_len]; assumption), bnums_at s k (by assumption)]
          have := (hrow.stored (k / 8) (.int .u64 (byteP (bnums s) k (k / 8) + (s[k].toNat : Int) * p8 (k % 8)))).1
          simpa [wcellsB, List.map_set] using this.drew
        · exact (hbel.setCell (Nat.le_refl _) _).drew
      case measure => simp [intOf]; omega
    · go_ret
      have hkk : k = s.size := by omega
      have hM' : (s.size + 7) / 8 = m := hN
      have hb := bytesP_all (bnums s)
      rw [bnums_len] at hb
      rw [hM', ← hb, hM', ← hkk]
      exact ⟨rfl, hrow, hbel⟩
end Go.Proofs.YtpbfhkkecbnieaaDoor
