/- The walks of package word, the functions that answer an error. -/
import Derived.Test.YtpbfhkkecbnieaaDoorWord
namespace Go.Proofs.YtpbfhkkecbnieaaDoor
open Go.RowKit

/-- An error as errors.New makes it: its type, its place. -/
abbrev errV (a : Addr) : Value := .iface 286 (.pointer (some a))
/-- What the package-level errors hold. -/
abbrev GBound (w : World) (a : Addr) : Prop := w.cell? ⟨0, 0, none⟩ = some (errV a)
abbrev GShape (w : World) (a : Addr) : Prop := w.cell? ⟨1, 0, none⟩ = some (errV a)
abbrev GPlace (w : World) (a : Addr) : Prop := w.cell? ⟨3, 0, none⟩ = some (errV a)
abbrev GFull (w : World) (a : Addr) : Prop := w.cell? ⟨2, 0, none⟩ = some (errV a)
theorem cell_lt {w : World} {p : Addr} {v : Value} (h : w.cell? p = some v) : p.block < w.heap.size := by
  rcases Nat.lt_or_ge p.block w.heap.size with g | g
  · exact g
  · simp [World.cell?, Array.getElem?_eq_none g] at h
theorem Ext.cell_ {w w' : World} (h : Ext w w') {p : Addr} {v : Value} (hc : w.cell? p = some v) : w'.cell? p = some v := by
  rw [Below.cell h (cell_lt hc)]; exact hc
theorem Ext.trans_ {a b c : World} (h : Ext a b) (k : Ext b c) : Ext a c := Below.trans h (k.mono h.size)
theorem Ext.alloc_ {a b : World} (h : Ext a b) (o : Obj) : Ext a (b.alloc o) := Below.alloc h h.size o
theorem Ext.drewN_ {a b : World} (h : Ext a b) (n : Nat) : Ext a (b.drewN n) := h.trans_ (ext_drewN _ _)
theorem Ext.drew_ {a b : World} (h : Ext a b) : Ext a b.drew := Below.drew h
theorem Ext.set_ {a b : World} (h : Ext a b) {p : Addr} (hp : a.heap.size ≤ p.block) (u : Value) : Ext a (b.setCell p u) := Below.setCell h hp u

/-- What a walk wants behind a call: old cells, old marks, the heap's size. -/
theorem Ext.three {W w : World} (h : Ext W w) : (∀ b o, b < W.heap.size → w.cell? ⟨b, o, none⟩ = W.cell? ⟨b, o, none⟩) ∧ (∀ b o, b < W.heap.size → w.frozen? ⟨b, o, none⟩ = W.frozen? ⟨b, o, none⟩) ∧ W.heap.size ≤ w.heap.size :=
  ⟨fun b o hb => h.cell (p := ⟨b, o, none⟩) hb, fun b o hb => h.frozen (p := ⟨b, o, none⟩) hb, h.size⟩

theorem ofInt_yes (a : Int) (h : smallB a = true) (w : World) :
    Calls Tryd.prog 21 #[.int .i64 a] w fun e w' => e = .returned (.tuple #[.int .u64 (intW a), .nilIface]) ∧ w' = w := by
  go_enter Tryd.func21, Tryd.ntmps21
  go_wp2_with (first
    | (go_at_call 72; refine (isSmall_any _ _).mono ?_; rintro e w' ⟨rfl, rfl⟩)
    | (go_at_call 73; refine (int_any _ _).mono ?_; rintro e w' ⟨rfl, rfl⟩))
  go_ret2
  exact ⟨rfl, rfl⟩
theorem ofInt_no (a : Int) (h : smallB a = false) (w : World) (s : Addr) (hs : GBound w s) :
    Calls Tryd.prog 21 #[.int .i64 a] w fun e w' => e = .returned (.tuple #[.int .u64 0, errV s]) ∧ Ext w w' := by
  go_enter Tryd.func21, Tryd.ntmps21
  go_wp2_with (first
    | (go_at_call 72; refine (isSmall_any _ _).mono ?_; rintro e w' ⟨rfl, rfl⟩))
  go_quiet (fail)
  go_wp2
  go_ret2
  exact ⟨rfl, ext_drewN _ _⟩
theorem toInt_yes (a : Int) (h0 : 0 ≤ a) (h1 : a ≤ 18446744073709551615) (h : kindW a = 1) (w : World) :
    Calls Tryd.prog 24 #[.int .u64 a] w fun e w' => e = .returned (.tuple #[.int .i64 (numW a), .nilIface]) ∧ w' = w := by
  go_enter Tryd.func24, Tryd.ntmps24
  go_wp2_with (first
    | (go_at_call 41; refine (kind_any _ h0 h1 _).mono ?_; rintro e w' ⟨rfl, rfl⟩)
    | (go_at_call 77; refine (num_any _ h0 h1 _).mono ?_; rintro e w' ⟨rfl, rfl⟩))
  go_ret2
  exact ⟨rfl, rfl⟩
theorem toInt_no (a : Int) (h0 : 0 ≤ a) (h1 : a ≤ 18446744073709551615) (h : (kindW a != 1) = true) (w : World) (s : Addr) (hs : GShape w s) :
    Calls Tryd.prog 24 #[.int .u64 a] w fun e w' => e = .returned (.tuple #[.int .i64 0, errV s]) ∧ Ext w w' := by
  go_enter Tryd.func24, Tryd.ntmps24
  go_wp2_with (first
    | (go_at_call 41; refine (kind_any _ h0 h1 _).mono ?_; rintro e w' ⟨rfl, rfl⟩))
  go_quiet (fail)
  go_wp2
  go_ret2
  exact ⟨rfl, ext_drewN _ _⟩
theorem ofAddr_yes (a : Int) (h : 0 ≤ a ∧ a ≤ 1099511627776) (w : World) :
    Calls Tryd.prog 22 #[.int .i64 a] w fun e w' => e = .returned (.tuple #[.int .u64 (addrW a), .nilIface]) ∧ w' = w := by
  obtain ⟨h1, h2⟩ := h
  go_enter Tryd.func22, Tryd.ntmps22
  go_wp2_with (first
    | (go_at_call 74; refine (addr_any _ _).mono ?_; rintro e w' ⟨rfl, rfl⟩))
  go_ret2
  exact ⟨rfl, rfl⟩
theorem ofAddr_no (a : Int) (h : ¬ (0 ≤ a ∧ a ≤ 1099511627776)) (w : World) (s : Addr) (hs : GBound w s) :
    Calls Tryd.prog 22 #[.int .i64 a] w fun e w' => e = .returned (.tuple #[.int .u64 0, errV s]) ∧ Ext w w' := by
  by_cases h1 : a < 0
  · clear h
    go_enter Tryd.func22, Tryd.ntmps22
    go_wp2
    go_quiet (fail)
    go_wp2
    go_ret2
    exact ⟨rfl, ext_drewN _ _⟩
  · have h2 : 1099511627776 < a := by omega
    clear h
    go_enter Tryd.func22, Tryd.ntmps22
    go_wp2
    go_quiet (fail)
    go_wp2
    go_ret2
    exact ⟨rfl, ext_drewN _ _⟩
theorem ofConst_yes (a : Int) (h : 0 ≤ a ∧ a ≤ 2) (w : World) :
    Calls Tryd.prog 50 #[.int .i64 a] w fun e w' => e = .returned (.tuple #[.int .u64 (constW a), .nilIface]) ∧ w' = w := by
  obtain ⟨h1, h2⟩ := h
  go_enter Tryd.func50, Tryd.ntmps50
  go_wp2_with (first
    | (go_at_call 105; refine (const_any _ _).mono ?_; rintro e w' ⟨rfl, rfl⟩))
  go_ret2
  exact ⟨rfl, rfl⟩
theorem ofConst_no (a : Int) (h : ¬ (0 ≤ a ∧ a ≤ 2)) (w : World) (s : Addr) (hs : GBound w s) :
    Calls Tryd.prog 50 #[.int .i64 a] w fun e w' => e = .returned (.tuple #[.int .u64 0, errV s]) ∧ Ext w w' := by
  by_cases h1 : a < 0
  · clear h
    go_enter Tryd.func50, Tryd.ntmps50
    go_wp2
    go_quiet (fail)
    go_wp2
    go_ret2
    exact ⟨rfl, ext_drewN _ _⟩
  · have h2 : 2 < a := by omega
    clear h
    go_enter Tryd.func50, Tryd.ntmps50
    go_wp2
    go_quiet (fail)
    go_wp2
    go_ret2
    exact ⟨rfl, ext_drewN _ _⟩
end Go.Proofs.YtpbfhkkecbnieaaDoor
