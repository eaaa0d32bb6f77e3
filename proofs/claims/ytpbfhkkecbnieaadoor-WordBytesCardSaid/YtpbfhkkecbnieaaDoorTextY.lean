/- The walk of word.Text: the good way. -/
import Derived.Test.YtpbfhkkecbnieaaDoorTextW
import Derived.Lib.SlBytesRow
namespace Go.Proofs.YtpbfhkkecbnieaaDoor
open Go.RowKit
set_option linter.unusedVariables false
set_option linter.unusedSimpArgs false

theorem infoU8 : (Tryd.prog.info? 5).map (fun i => (i.zero, i.size, i.bytes)) = some (some (.int .u8 0), 1, 1) := by kernel_rfl
theorem undU8s : Tryd.prog.underlying 149 = some (.slice 5) := by kernel_rfl

set_option maxRecDepth 100000 in
set_option maxHeartbeats 4000000 in
theorem text_yes (b off m c : Nat) (ws : List Int) (n : Nat) (hm : m ≤ 35184372088832) (hn : n ≤ 8 * m) (hw : ∀ x ∈ ws, 0 ≤ x ∧ x ≤ 18446744073709551615) (w : World) (hb : b < w.heap.size)
    (hc : ∀ j, j < m → w.cell? ⟨b, off + j, none⟩ = some (.int .u64 (ws.getD j 0))) :
    Calls Tryd.prog 49 #[.slice (some ⟨b, off, none⟩) m c, .int .i64 n] w fun e w' => e = .returned (.tuple #[.string (strOfNums (textP ws n n)), .nilIface]) ∧ Ext w w' := by
  obtain ⟨i0, hi, hz0, hz1, hz2⟩ := info_parts infoU8
  go_enter Tryd.func49, Tryd.ntmps49
  go_wp2_with (first
    | (refine wpList_make_full _ rfl _ _ 149 rfl w.heap.size 5 i0 (.int .u8 0) 1 undU8s hi hz0 hz1 .i64 .i64 (n : Int) (n : Int) n rfl rfl (by omega) (by omega) (by rw [hz2]; omega) (by unfold maxLen; omega) (Nat.le_refl _) ?_; intro w1 hown hgrow; have hbel0 : Below w.heap.size w w1 := (Below.refl _ _).grown hgrow (Nat.le_refl _) (by simp); clear hgrow))
  go_loopw [7, 22] (fun t i wr => ∃ k : Nat, k ≤ n ∧ i = .int .i64 k ∧ wr.ownsRow w.heap.size 5 1 (.slice (some ⟨w.heap.size, 0, none⟩) n n) n ((textP ws k n).map (Value.int .u8)) ∧ Below w.heap.size w wr)
    (fun _ i _ => n - (intOf i).toNat)
  case atStart =>
    refine ⟨0, Nat.zero_le _, rfl, ?_, hbel0⟩
    rw [textP_zero]
    rw [show (Value.int .u8 0).cells = #[Value.int .u8 0] from rfl, Nat.mul_one, toList_madeCells_one] at hown
    simpa using hown
  case round =>
    clear hown
    obtain ⟨k, hk, rfl, hrow, hbel⟩ := hrel
    have hsz := hbel.size
    have hcell : k < n → wr.cell? ⟨b, off + k / 8, none⟩ = some (.int .u64 (ws.getD (k / 8) 0)) := fun h => by
      rw [hbel.cell hb]; exact hc _ (by omega)
    have hlt8 : k < n → k / 8 < m := by omega
    have hfr : wr.frozen? ⟨w.heap.size, k, none⟩ = false := hrow.frozenAt _
    have hold : k < n → wr.cell? ⟨w.heap.size, k, none⟩ = some (.int .u8 0) := fun h => by
      rw [hrow.cellAt k (by omega)]; simp [textP, h]
    have hconv : Hid (k = n → (convert 149 9 (.slice (some ⟨w.heap.size, 0, none⟩) n n)).run Tryd.prog wr = .ok (.string (strOfNums (textP ws n n))) wr) := fun h => by
      subst h
      refine run_convert_bytes_arg wr _ _ undU8s (by kernel_rfl) _ 0 k k (textP ws k k) (by simp [textP]) (fun i hi => ?_) _ (by kernel_rfl)
      rw [Nat.zero_add, hrow.cellAt i (by omega)]
      simp [textP, hi]
    go_wp2
    · have hkn : k < n := by assumption
      refine ⟨⟨k + 1, by omega, rfl, ?_, hbel.setCell (Nat.le_refl _) _⟩, by simp [intOf]; omega⟩
      rw [← textP_step ws k n hkn]
      have := (hrow.stored k (.int .u8 (tbyte ws k))).1
      simpa [List.map_set, tbyte, p8, Nat.mul_comm, List.getD_eq_getElem?_getD] using this
    · have hcv := hconv (by omega)
      go_wp2
      rw [hcv]
      go_wp2
      go_ret2
      exact ⟨rfl, hbel⟩
end Go.Proofs.YtpbfhkkecbnieaaDoor
