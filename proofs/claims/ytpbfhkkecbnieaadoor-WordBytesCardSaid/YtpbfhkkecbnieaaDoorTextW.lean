/- The walk of word.Text: the error way. -/
import Derived.Test.YtpbfhkkecbnieaaDoorBytesW
namespace Go.Proofs.YtpbfhkkecbnieaaDoor
open Go.RowKit
set_option linter.unusedVariables false
set_option linter.unusedSimpArgs false

theorem text_no (a : Option Addr) (m c : Nat) (n : Int) (hm : m ≤ 35184372088832) (hn : n < 0 ∨ 8 * (m : Int) < n) (w : World) (s : Addr) (hs : GBound w s) :
    Calls Tryd.prog 49 #[.slice a m c, .int .i64 n] w fun e w' => e = .returned (.tuple #[.string ⟨#[]⟩, errV s]) ∧ Ext w w' := by
  by_cases h1 : n < 0
  · clear hn
    go_enter Tryd.func49, Tryd.ntmps49
    go_wp2
    go_quiet (fail)
    go_wp2
    go_ret2
    exact ⟨rfl, ext_drewN _ _⟩
  · have h2 : 8 * (m : Int) < n := by omega
    clear hn
    go_enter Tryd.func49, Tryd.ntmps49
    go_wp2
    go_quiet (fail)
    go_wp2
    go_ret2
    exact ⟨rfl, ext_drewN _ _⟩

/-- The byte at a place of the words; the text when the first `k` bytes are in. -/
def tbyte (ws : List Int) (i : Nat) : Int := ws.getD (i / 8) 0 / p8 (i % 8) % 256
def textP (ws : List Int) (k n : Nat) : List Int := (List.range n).map fun i => if i < k then tbyte ws i else 0
theorem textP_zero (ws : List Int) (n : Nat) : textP ws 0 n = List.replicate n 0 := by
  unfold textP
  apply List.ext_getElem?
  intro j
  by_cases hj : j < n <;> simp [hj]
theorem textP_step (ws : List Int) (k n : Nat) (hk : k < n) : (textP ws k n).set k (tbyte ws k) = textP ws (k + 1) n := by
  apply List.ext_getElem?
  intro j
  unfold textP
  rw [List.getElem?_set]
  by_cases he : k = j
  · subst he; simp [hk]
  · by_cases hj : j < n
    · have : (j < k + 1) = (j < k) := propext ⟨fun h => by omega, fun h => by omega⟩
      simp [he, hj, this]
    · simp [he, hj]
end Go.Proofs.YtpbfhkkecbnieaaDoor
