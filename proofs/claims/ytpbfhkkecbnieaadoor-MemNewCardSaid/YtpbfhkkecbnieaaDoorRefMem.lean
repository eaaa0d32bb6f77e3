/- The walks of the document's answer for memories: its small functions. -/
import Derived.Test.YtpbfhkkecbnieaaDoorChk
namespace Go.Proofs.YtpbfhkkecbnieaaDoor
open Go.RowKit
set_option linter.unusedVariables false
set_option linter.unusedSimpArgs false

/-- Where a word points to; -1: nowhere. -/
def ptsW (a : Int) : Int := if kindW a = 0 ∧ a ≠ 0 ∧ a / 4 ≤ 1099511627776 then placeW a else -1
/-- Objects as cells; where an address is among them. -/
def ocells (l : List Ob) : List Value := l.flatMap fun o => [Value.int .i64 (o.a : Int), Value.int .i64 (hKind o.w), Value.int .i64 (hAge o.w), Value.int .i64 (hSize o.w)]
def objAt (l : List Ob) (p : Int) : Int := ((l.findIdx? fun o => (o.a : Int) == p).map fun i => (i : Int)).getD (-1)
theorem ocells_at (l : List Ob) (i : Nat) (h : i < l.length) : (ocells l)[i * 4]? = some (.int .i64 (l[i].a : Int)) ∧ (ocells l)[i * 4 + 1]? = some (.int .i64 (hKind l[i].w)) ∧
    (ocells l)[i * 4 + 2]? = some (.int .i64 (hAge l[i].w)) ∧ (ocells l)[i * 4 + 3]? = some (.int .i64 (hSize l[i].w)) := by
  induction l generalizing i with
  | nil => simp at h
  | cons y l ih =>
    cases i with
    | zero => simp [ocells]
    | succ i =>
      have := ih i (by simpa using h)
      have e1 : (i + 1) * 4 = i * 4 + 4 := by omega
      rw [e1]
      simpa [ocells] using this
theorem ocells_len (l : List Ob) : (ocells l).length = l.length * 4 := by
  induction l with
  | nil => rfl
  | cons y l ih => simp only [ocells, List.flatMap_cons, List.length_append, List.length_cons, List.length_nil] at *; omega
theorem objAt_nonneg (l : List Ob) (p : Int) : decide (0 ≤ objAt l p) = inSt (l.map fun o => (o.a : Int)) p := by
  unfold objAt inSt
  induction l with
  | nil => simp
  | cons y l ih =>
    rw [List.findIdx?_cons]
    by_cases h : ((y.a : Int) == p) = true
    · have : p = (y.a : Int) := by simpa using (beq_iff_eq.1 h).symm
      subst this
      simp
    · rw [if_neg h]
      have h' : ¬ p = (y.a : Int) := fun e => h (by simp [e])
      simp only [List.map_cons, List.contains_cons]
      rw [show (p == (y.a : Int)) = false by simpa using h', Bool.false_or, ← ih]
      cases l.findIdx? fun o => (o.a : Int) == p with
      | none => rfl
      | some i => simp; omega

theorem points_any (a : Int) (h0 : 0 ≤ a) (h1 : a ≤ 18446744073709551615) (w : World) :
    Calls Tryd.prog 89 #[.int .u64 a] w fun e w' => e = .returned (.int .i64 (ptsW a)) ∧ w' = w := by
  by_cases hk : a % 4 = 0
  · by_cases hz : a = 0
    · subst hz
      have e : ptsW 0 = -1 := by decide
      rw [e]
      clear hk
      go_enter Tryd.func89, Tryd.ntmps89
      go_wp2
      go_ret
      exact ⟨rfl, rfl⟩
    · have k1 : (a % 4 != 0) = false := by simpa using hk
      have k2 : (a == 0) = false := by simpa using hz
      by_cases h3 : a / 4 ≤ 1099511627776
      · have e : ptsW a = a / 4 - 1 := by unfold ptsW kindW; rw [if_pos ⟨hk, hz, h3⟩]; rfl
        have h4 : ¬ 1099511627776 < a / 4 := by omega
        rw [e]
        clear hk hz
        go_enter Tryd.func89, Tryd.ntmps89
        go_wp2
        go_ret
        exact ⟨rfl, rfl⟩
      · have e : ptsW a = -1 := by unfold ptsW; rw [if_neg (fun h => h3 h.2.2)]
        have h4 : 1099511627776 < a / 4 := by omega
        rw [e]
        clear hk hz
        go_enter Tryd.func89, Tryd.ntmps89
        go_wp2
        go_ret
        exact ⟨rfl, rfl⟩
  · have k1 : (a % 4 != 0) = true := by simpa using hk
    have e : ptsW a = -1 := by unfold ptsW kindW; rw [if_neg (fun h => hk h.1)]
    rw [e]
    clear hk
    go_enter Tryd.func89, Tryd.ntmps89
    go_wp2
    go_ret
    exact ⟨rfl, rfl⟩

set_option maxRecDepth 100000 in
theorem objectAt_any (a : Option Addr) (c : Nat) (l : List Ob) (p : Int) (w : World) (hl : l.length ≤ 9223372036854775807) (hR : RSl w a (ocells l)) :
    Calls Tryd.prog 90 #[.slice a l.length c, .int .i64 p] w fun e w' => e = .returned (.int .i64 (objAt l p)) ∧ w' = w := by
  have HR := Lib.hid hR
  clear hR
  go_enter Tryd.func90, Tryd.ntmps90
  go_wp2
  go_loop [5] (fun i => ∃ k : Nat, k ≤ l.length ∧ i = .int .i64 (k : Int) ∧ Hid (∀ j (hj : j < l.length), j < k → ((l[j].a : Int) == p) = false)) (fun i => l.length - (intOf i).toNat)
  case atStart => exact ⟨0, Nat.zero_le _, rfl, fun j _ hj => absurd hj (Nat.not_lt_zero _)⟩
  case round =>
    obtain ⟨k, hk, rfl, hA⟩ := hrel
    by_cases hlt : k < l.length
    · obtain ⟨ob, oo, rfl, hc⟩ := HR.out _ _ (ocells_at l k hlt).1
      cases hq : ((l[k].a : Int) == p) with
      | true =>
        have HQ := Lib.hid hq
        go_wp2
        go_ret
        refine ⟨?_, rfl⟩
        unfold objAt
        have : l.findIdx? (fun o => (o.a : Int) == p) = some k := List.findIdx?_eq_some_iff_getElem.2 ⟨hlt, HQ.out, fun j hj => by
          have := hA.out j (by omega) hj; simpa using this⟩
        rw [this]; rfl
      | false =>
        have HQ := Lib.hid hq
        go_wp2
        refine ⟨⟨k + 1, by omega, by go_num, fun j hj1 hj2 => ?_⟩, by simp [intOf]; omega⟩
        by_cases e : j = k
        · subst e; exact HQ.out
        · exact hA.out j hj1 (by omega)
    · go_wp2
      go_ret
      refine ⟨?_, rfl⟩
      unfold objAt
      have : l.findIdx? (fun o => (o.a : Int) == p) = none := List.findIdx?_eq_none_iff.2 fun x hx => by
        obtain ⟨j, hj, rfl⟩ := List.mem_iff_getElem.1 hx
        exact hA.out j hj (by omega)
      rw [this]; rfl
end Go.Proofs.YtpbfhkkecbnieaaDoor
