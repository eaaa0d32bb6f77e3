/- The walks of package mem: its small functions. -/
import Derived.Test.YtpbfhkkecbnieaaDoorKeep
import Derived.Test.YtpbfhkkecbnieaaDoorWord3
import Derived.IntWalk
namespace Go.Proofs.YtpbfhkkecbnieaaDoor
open Go.RowKit
set_option linter.unusedVariables false
set_option linter.unusedSimpArgs false

/-- Is a kind raw? Does an address lie in the old space? Does a word point into the nursery? Is a word a field? -/
def rawB (k : Int) : Bool := decide (k < 8)
def oldB (M : Mem) (a : Int) : Bool := decide (2 * M.half ≤ a)
def youngB (M : Mem) (a : Int) : Bool := (kindW a == 0) && (a != 0) && !oldB M (placeW a)
def inSt (st : List Int) (a : Int) : Bool := st.contains a
def fldB (st : List Int) (a : Int) : Bool :=
  if kindW a = 0 then a == 0 || inSt st (placeW a) else if kindW a = 1 then true else if kindW a = 2 then decide (a / 4 ≤ 2) else false
def cardB (M : Mem) (a : Int) : Bool := M.cards.getD ((a - 2 * M.half) / M.card).toNat false

theorem raw_any (k : Int) (w : World) : Calls Tryd.prog 83 #[.int .i64 k] w fun e w' => e = .returned (.bool (rawB k)) ∧ w' = w := by
  unfold rawB
  go_enter Tryd.func83, Tryd.ntmps83
  go_wp2
  go_ret
  exact ⟨rfl, rfl⟩
theorem base_any (w : World) (b o : Nat) (M : Mem) (S : Sls) (hM : RMem w b o M S) (hs : Shp M) :
    Calls Tryd.prog 139 #[.pointer (some ⟨b, o, none⟩)] w fun e w' => e = .returned (.int .i64 (M.base : Int)) ∧ ∃ n, w' = w.drewN n := by
  obtain ⟨hb, b0, b1⟩ := hs.base
  have h2 := hs.h2
  have c1 := hM.used
  have c2 := hM.half
  have e1 : IntKind.i64.wrap (M.used * M.half) = M.used * M.half := IntWalk.i64_in _ (by omega)
  rw [← hb]
  clear hb hM hs
  go_enter Tryd.func139, Tryd.ntmps139
  go_wp2
  go_quiet (fail)
  go_wp2
  go_ret
  exact ⟨rfl, _, rfl⟩
theorem inOld_any (a : Int) (w : World) (b o : Nat) (M : Mem) (S : Sls) (hM : RMem w b o M S) (hs : Shp M) :
    Calls Tryd.prog 97 #[.pointer (some ⟨b, o, none⟩), .int .i64 a] w fun e w' => e = .returned (.bool (oldB M a)) ∧ w' = w := by
  have h1 := hs.h1
  have h2 := hs.h2
  have c2 := hM.half
  clear hM hs
  unfold oldB
  go_enter Tryd.func97, Tryd.ntmps97
  go_wp2
  go_ret
  exact ⟨rfl, rfl⟩
theorem young_any (a : Int) (h0 : 0 ≤ a) (h1 : a ≤ 18446744073709551615) (w : World) (b o : Nat) (M : Mem) (S : Sls) (hM : RMem w b o M S) (hs : Shp M) :
    Calls Tryd.prog 102 #[.pointer (some ⟨b, o, none⟩), .int .u64 a] w fun e w' => e = .returned (.bool (youngB M a)) ∧ w' = w := by
  by_cases hk : kindW a = 0
  · have k1 : (kindW a == 0) = true := by simpa using hk
    by_cases hz : a = 0
    · have k2 : (a != 0) = false := by simpa using hz
      have e : youngB M a = false := by simp [youngB, k2]
      rw [e]
      clear hk hz
      go_enter Tryd.func102, Tryd.ntmps102
      go_wp2_with (first
        | (go_at_call 41; refine (kind_any _ h0 h1 _).mono ?_; rintro e w' ⟨rfl, rfl⟩))
      go_ret
      exact ⟨rfl, rfl⟩
    · have k2 : (a != 0) = true := by simpa using hz
      have e : youngB M a = !oldB M (placeW a) := by simp [youngB, k1, k2]
      rw [e]
      clear hk hz
      go_enter Tryd.func102, Tryd.ntmps102
      go_wp2_with (first
        | (go_at_call 41; refine (kind_any _ h0 h1 _).mono ?_; rintro e w' ⟨rfl, rfl⟩)
        | (go_at_call 78; refine (place_any _ h0 h1 _).mono ?_; rintro e w' ⟨rfl, rfl⟩)
        | (go_at_call 97; refine (inOld_any _ _ b o M S hM hs).mono ?_; rintro e w' ⟨rfl, rfl⟩))
      go_ret
      exact ⟨rfl, rfl⟩
  · have k1 : (kindW a == 0) = false := by simpa using hk
    have e : youngB M a = false := by simp [youngB, k1]
    rw [e]
    clear hk
    go_enter Tryd.func102, Tryd.ntmps102
    go_wp2_with (first
      | (go_at_call 41; refine (kind_any _ h0 h1 _).mono ?_; rintro e w' ⟨rfl, rfl⟩))
    go_ret
    exact ⟨rfl, rfl⟩
theorem bcells_at (l : List Bool) (j : Nat) (h : j < l.length) : (bcells l)[j]? = some (.bool (l.getD j false)) := by
  simp [bcells, List.getD_eq_getElem?_getD, h]
theorem marked_any (a : Int) (w : World) (b o : Nat) (M : Mem) (S : Sls) (hM : RMem w b o M S) (hs : Shp M) (ha : 2 * M.half ≤ a) (hb : a < 2 * M.half + M.old) :
    Calls Tryd.prog 103 #[.pointer (some ⟨b, o, none⟩), .int .i64 a] w fun e w' => e = .returned (.bool (cardB M a)) ∧ ∃ n, w' = w.drewN n := by
  obtain ⟨i0, i1⟩ := hs.card a ha hb
  have h1 := hs.h1
  have h2 := hs.h2
  have o2 := hs.o2
  have cc1 := hs.c1
  have cc2 := hs.c2
  have c1 := hM.cards
  have c2 := hM.half
  have c3 := hM.card
  unfold cardB
  have hq : (a - 2 * M.half).tdiv M.card = (a - 2 * M.half) / M.card := Int.tdiv_eq_ediv_of_nonneg (by omega)
  obtain ⟨J, hJ⟩ : ∃ J : Nat, (a - 2 * M.half) / M.card = (J : Int) := ⟨((a - 2 * M.half) / M.card).toNat, by omega⟩
  rw [hJ] at hq i1 i0 ⊢
  have hJl : J < M.cards.length := by omega
  obtain ⟨cb, co, hC, hcell⟩ := hM.rC J _ (bcells_at M.cards J hJl)
  rw [hC] at c1
  rw [Int.toNat_natCast]
  have e0 : IntKind.i64.wrap (2 * M.half) = 2 * M.half := IntWalk.i64_in _ (by omega)
  have e1 : IntKind.i64.wrap (a - 2 * M.half) = a - 2 * M.half := IntWalk.i64_in _ (by omega)
  have hcap := hM.capC
  have hcl : M.cards.length ≤ 9223372036854775807 := hM.ok.lenC
  have e2 : IntKind.i64.wrap ((J : Nat) : Int) = (J : Int) := IntWalk.i64_in _ (by omega)
  have hne : (M.card == 0) = false := by simp; omega
  have hjj : (J : Int) < (M.cards.length : Int) := by omega
  clear hJ hC hM hs
  go_enter Tryd.func103, Tryd.ntmps103
  go_wp2
  go_quiet (fail)
  go_wp2
  go_ret
  refine ⟨?_, _, rfl⟩
  simp [List.getD_eq_getElem?_getD, hJl]
end Go.Proofs.YtpbfhkkecbnieaaDoor
