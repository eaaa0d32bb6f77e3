/- plain.Code over nil and over the seven package-level errors: their numbers. -/
import Derived.Test.YtpbfhkkecbnieaaDoorErrsAs
namespace Go.Proofs.YtpbfhkkecbnieaaDoor
open Go.RowKit
set_option linter.unusedVariables false
set_option linter.unusedSimpArgs false

/-- The seven package-level errors: their places; each is another one. -/
structure ErrEnv (E : Nat → Addr) (w : World) : Prop where
  text : w.cell? ⟨4, 0, none⟩ = some (errV (E 0))
  bound : w.cell? ⟨0, 0, none⟩ = some (errV (E 1))
  shape : w.cell? ⟨1, 0, none⟩ = some (errV (E 2))
  name : w.cell? ⟨5, 0, none⟩ = some (errV (E 3))
  place : w.cell? ⟨3, 0, none⟩ = some (errV (E 4))
  full : w.cell? ⟨2, 0, none⟩ = some (errV (E 5))
  nothing : w.cell? ⟨6, 0, none⟩ = some (errV (E 6))
  etype : GEType w
  blk : ∀ i, i < 7 → ∃ c t, w.heap[(E i).block]? = some (.cells c t (0, 0))
  ne : ∀ i j, i < 7 → j < 7 → i ≠ j → E i ≠ E j

theorem block_lt {w : World} {b : Nat} {o : Obj} (h : w.heap[b]? = some o) : b < w.heap.size := by
  rcases Nat.lt_or_ge b w.heap.size with g | g
  · exact g
  · simp [Array.getElem?_eq_none g] at h
theorem Ext.block_ {w w' : World} (h : Ext w w') {b : Nat} {o : Obj} (hb : w.heap[b]? = some o) : w'.heap[b]? = some o := by
  rw [Below.block h b (block_lt hb)]; exact hb
theorem ErrEnv.ext {E : Nat → Addr} {w w' : World} (h : ErrEnv E w) (hx : Ext w w') : ErrEnv E w' :=
  ⟨hx.cell_ h.text, hx.cell_ h.bound, hx.cell_ h.shape, hx.cell_ h.name, hx.cell_ h.place, hx.cell_ h.full, hx.cell_ h.nothing, hx.cell_ h.etype,
    fun i hi => let ⟨c, t, hc⟩ := h.blk i hi; ⟨c, t, hx.block_ hc⟩, h.ne⟩

theorem is_env {E : Nat → Addr} {w : World} (h : ErrEnv E w) (i j : Nat) (hi : i < 7) (hj : j < 7) :
    Calls Tryd.prog 145 #[errV (E i), errV (E j)] w fun e w' => e = .returned (.bool (decide (i = j))) ∧ w' = w := by
  by_cases hij : i = j
  · subst hij; simp only [decide_true]; exact is_same _ w
  · simp only [hij, decide_false]
    obtain ⟨c, t, hc⟩ := h.blk i hi
    obtain ⟨c', t', hc'⟩ := h.blk j hj
    exact is_other _ _ _ _ _ _ w (h.ne i j hi hj hij) hc hc'

theorem code_nil (w : World) : Calls Tryd.prog 104 #[.nilIface] w fun e w' => e = .returned (.tuple #[.int .i64 0, .int .i64 (-1)]) ∧ w' = w := by
  go_enter Tryd.func104, Tryd.ntmps104
  go_wp2_with fail
  go_ret2
  exact ⟨rfl, rfl⟩

set_option maxRecDepth 100000 in
set_option maxHeartbeats 4000000 in
theorem code_env {E : Nat → Addr} {w : World} (h : ErrEnv E w) (k : Nat) (hk : k < 7) :
    Calls Tryd.prog 104 #[errV (E k)] w fun e w' => e = .returned (.tuple #[.int .i64 (k + 1), .int .i64 (-1)]) ∧ Ext w w' := by
  have l0 := cell_lt h.text
  have l1 := cell_lt h.bound
  have l2 := cell_lt h.shape
  have l3 := cell_lt h.name
  have l4 := cell_lt h.place
  have l5 := cell_lt h.full
  have l6 := cell_lt h.nothing
  simp only at l0 l1 l2 l3 l4 l5 l6
  have H := Lib.hid h
  clear h
  go_enter Tryd.func104, Tryd.ntmps104
  go_wp2_with (first
    | (go_at_call 144; refine (as_miss _ _ _ (((Ext.refl w).alloc_ _).cell_ H.out.etype)).mono ?_; rintro e w1 ⟨rfl, hb⟩; have h1 := H.out.ext (((Ext.refl w).alloc_ _).trans_ hb); have hz : w.heap.size < w1.heap.size := (by have := hb.size; simp only [World.size_alloc] at this; omega); have c0 := h1.text; have c1 := h1.bound; have c2 := h1.shape; have c3 := h1.name; have c4 := h1.place; have c5 := h1.full; have c6 := h1.nothing))
  have hx : Ext w (w1.alloc (.cells #[errV (E 0), errV (E 1), errV (E 2), errV (E 3), errV (E 4), errV (E 5), errV (E 6)] 27)) := (((Ext.refl w).alloc_ _).trans_ hb).alloc_ _
  have h2 := Lib.hid (h1.ext ((Ext.refl w1).alloc_ (.cells #[errV (E 0), errV (E 1), errV (E 2), errV (E 3), errV (E 4), errV (E 5), errV (E 6)] 27)))
  have hcell : ∀ j, j < 7 → (w1.alloc (.cells #[errV (E 0), errV (E 1), errV (E 2), errV (E 3), errV (E 4), errV (E 5), errV (E 6)] 27)).cell? ⟨w1.heap.size, j, none⟩ = some (errV (E j)) := by
    intro j hj
    rw [World.cell?_alloc_new]
    match j, hj with
    | 0, _ => rfl
    | 1, _ => rfl
    | 2, _ => rfl
    | 3, _ => rfl
    | 4, _ => rfl
    | 5, _ => rfl
    | 6, _ => rfl
  clear h1 hb hz c0 c1 c2 c3 c4 c5 c6 l0 l1 l2 l3 l4 l5 l6
  generalize w1.heap.size = nb at *
  generalize (w1.alloc (.cells #[errV (E 0), errV (E 1), errV (E 2), errV (E 3), errV (E 4), errV (E 5), errV (E 6)] 27)) = W at *
  have HC := Lib.hid hcell
  clear hcell
  go_loop [3, 25] (fun c i => ∃ j : Nat, j ≤ k ∧ c = .int .i64 (-1) ∧ i = .int .i64 j) (fun _ i => 7 - (intOf i).toNat)
  case atStart => exact ⟨0, Nat.zero_le _, rfl, rfl⟩
  case round =>
    obtain ⟨j, hj, rfl, rfl⟩ := hrel
    have hc := HC.out j (by omega)
    by_cases hjk : k = j
    · subst hjk
      go_wp2_with (first
        | (go_at_call 145; refine (is_same _ _).mono ?_; rintro e w' ⟨rfl, rfl⟩))
      go_ret2
      exact ⟨rfl, hx⟩
    · have hd : j < k := by omega
      obtain ⟨ca, ta, ha⟩ := h2.out.blk k hk
      obtain ⟨cb, tb, hb⟩ := h2.out.blk j (by omega)
      have hne := h2.out.ne k j hk (by omega) hjk
      have Ha := Lib.hid ha
      have Hb := Lib.hid hb
      clear ha hb
      go_wp2_with (first
        | (go_at_call 145; refine (is_other _ _ _ _ _ _ _ hne Ha.out Hb.out).mono ?_; rintro e w' ⟨rfl, rfl⟩))
      go_round
      case rel => exact ⟨j + 1, by omega, rfl, by go_num⟩
      case measure => simp [intOf]; omega

theorem coded_nil (c : Int) (w : World) : Calls Tryd.prog 43 #[.nilIface, .int .i64 c] w fun e w' => e = .returned (.bool (0 == c)) ∧ w' = w := by
  rcases hc : (0 == c) with _ | _
  all_goals
    go_enter Tryd.func43, Tryd.ntmps43
    go_wp2_with (go_at_call 104; refine (code_nil _).mono ?_; rintro e w' ⟨rfl, rfl⟩)
    go_ret
    exact ⟨rfl, rfl⟩
theorem coded_env {E : Nat → Addr} {w : World} (h : ErrEnv E w) (k : Nat) (hk : k < 7) (c : Int) :
    Calls Tryd.prog 43 #[errV (E k), .int .i64 c] w fun e w' => e = .returned (.bool ((k + 1 : Int) == c)) ∧ Ext w w' := by
  have H := Lib.hid h
  clear h
  rcases hc : ((k + 1 : Int) == c) with _ | _
  all_goals
    go_enter Tryd.func43, Tryd.ntmps43
    go_wp2_with (go_at_call 104; refine (code_env H.out k hk).mono ?_; rintro e w' ⟨rfl, hb⟩)
    go_ret
    exact ⟨rfl, hb⟩
end Go.Proofs.YtpbfhkkecbnieaaDoor
