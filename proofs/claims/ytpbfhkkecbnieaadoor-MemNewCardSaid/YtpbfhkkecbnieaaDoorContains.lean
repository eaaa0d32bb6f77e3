/- The walks of slices.IndexFunc and slices.ContainsFunc at words, whatever is asked of them. -/
import Derived.Test.YtpbfhkkecbnieaaDoorEach
namespace Go.Proofs.YtpbfhkkecbnieaaDoor
open Go.RowKit
set_option linter.unusedVariables false
set_option linter.unusedSimpArgs false

/-- What a function value answers of a word, wherever all that lay in w lies. -/
def Says (w : World) (g : Nat) (lb : Array Value) (p : Int → Bool) : Prop :=
  ∀ (W : World) (x : Int), Ext w W → 0 ≤ x → x ≤ 18446744073709551615 → Calls Tryd.prog g (#[.int .u64 x] ++ lb) W fun e w' => e = .returned (.bool (p x)) ∧ Ext w w'
def IdxPost (w : World) (p : Int → Bool) (zs : List Int) (e : Ending) (w' : World) : Prop :=
  ∃ n : Int, e = .returned (.int .i64 n) ∧ decide (0 ≤ n) = zs.any p ∧ Ext w w'

set_option maxRecDepth 100000 in
set_option maxHeartbeats 2000000 in
theorem indexF_walk (p : Int → Bool) (g : Nat) (lb : Array Value) (eg : ∀ args w, (callFunc g args).run Tryd.prog w = .ok (.enter g args) w) (a : Option Addr) (c : Nat) (zs : List Int) (w : World)
    (hz : zs.length ≤ 9223372036854775807) (hR : RSl w a (wcells zs)) (hb : ∀ x ∈ zs, 0 ≤ x ∧ x ≤ 18446744073709551615) (hp : Says w g lb p) :
    Calls Tryd.prog 138 #[.slice a zs.length c, .func (.func g) #[] lb] w (IdxPost w p zs) := by
  have HP := Lib.hid hp
  have HR := Lib.hid hR
  have HB := Lib.hid hb
  clear hp hR hb
  go_enter Tryd.func138, Tryd.ntmps138
  go_wp2
  go_loopw [5, 8] (fun _ i wr => ∃ k : Nat, k ≤ zs.length ∧ i = .int .i64 (k : Int) ∧ Hid (Ext w wr) ∧ Hid (∀ j, j < k → p (zs.getD j 0) = false))
    (fun _ i _ => zs.length - (intOf i).toNat)
  case atStart => exact ⟨0, Nat.zero_le _, rfl, Ext.refl w, fun j hj => absurd hj (Nat.not_lt_zero _)⟩
  case round =>
    obtain ⟨k, hk, rfl, hE, hA⟩ := hrel
    by_cases hlt : k < zs.length
    · obtain ⟨b, off, rfl, hc⟩ := HR.out k _ (wcells_at zs k hlt)
      replace hc := hE.out.cell_ hc
      have hin : 0 ≤ zs.getD k 0 ∧ zs.getD k 0 ≤ 18446744073709551615 := by
        rw [List.getD_eq_getElem?_getD, List.getElem?_eq_getElem hlt]
        exact HB.out _ (List.getElem_mem hlt)
      have hcall := HP.out wr (zs.getD k 0) hE.out hin.1 hin.2
      have hltz : (k : Int) < (zs.length : Int) := by omega
      generalize hy : zs.getD k 0 = y at hc hcall hin
      have HY := Lib.hid hy
      clear hy
      cases hq : p y with
      | true =>
        have HQ := Lib.hid hq
        rw [hq] at hcall
        clear hq
        go_wp2
        refine hcall.mono ?_
        rintro e w' ⟨rfl, hb'⟩
        have HB' := Lib.hid hb'
        clear hb'
        go_wp2
        go_ret
        refine ⟨_, rfl, ?_, HB'.out⟩
        have : zs.any p = true := List.any_eq_true.2 ⟨zs[k], List.getElem_mem hlt, by
          have := HY.out; rw [List.getD_eq_getElem?_getD, List.getElem?_eq_getElem hlt] at this
          simp at this; rw [this]; exact HQ.out⟩
        rw [this]; simp
      | false =>
        have HQ := Lib.hid hq
        rw [hq] at hcall
        clear hq
        go_wp2
        refine hcall.mono ?_
        rintro e w' ⟨rfl, hb'⟩
        have HB' := Lib.hid hb'
        clear hb'
        go_wp2
        go_roundw
        case rel => exact ⟨k + 1, by omega, by go_num, HB'.out, fun j hj => by
          by_cases e : j = k
          · subst e; rw [HY.out]; exact HQ.out
          · exact hA.out j (by omega)⟩
        case measure => simp [intOf]; omega
    · have hltz : ¬ (k : Int) < (zs.length : Int) := by omega
      go_wp2
      go_ret
      refine ⟨_, rfl, ?_, hE.out⟩
      have : zs.any p = false := by
        rw [List.any_eq_false]
        intro x hx
        obtain ⟨j, hj, rfl⟩ := List.mem_iff_getElem.1 hx
        have := hA.out j (by omega)
        rw [List.getD_eq_getElem?_getD, List.getElem?_eq_getElem hj] at this
        simpa using this
      rw [this]; rfl
theorem containsF_walk (p : Int → Bool) (g : Nat) (lb : Array Value) (eg : ∀ args w, (callFunc g args).run Tryd.prog w = .ok (.enter g args) w) (a : Option Addr) (c : Nat) (zs : List Int) (w : World)
    (hz : zs.length ≤ 9223372036854775807) (hR : RSl w a (wcells zs)) (hb : ∀ x ∈ zs, 0 ≤ x ∧ x ≤ 18446744073709551615) (hp : Says w g lb p) :
    Calls Tryd.prog 84 #[.slice a zs.length c, .func (.func g) #[] lb] w fun e w' => e = .returned (.bool (zs.any p)) ∧ Ext w w' := by
  go_enter Tryd.func84, Tryd.ntmps84
  go_wp2_with (go_at_call 138; refine (indexF_walk p g lb eg a c zs _ hz hR hb hp).mono ?_; rintro e w' ⟨n, rfl, hn, hq⟩)
  go_ret
  exact ⟨rfl, hq⟩
end Go.Proofs.YtpbfhkkecbnieaaDoor
