/- errors.Is over errors of errors.New's make, by its contracts. (Turned from the guide's worked text SentryIs.) -/
import Derived.Test.YtelhoppfidibiaaGreatDoorJOa01
import Derived.LaidEql
import Derived.Stop.Asserts
import Derived.RowKitTokens
import Derived.Shelf.SlSortCmp.NoneTotal
import Derived.Lib.SortBridge
import Derived.Test.YtelhoppfidibiaaGreatDoorJOa30
import Derived.BigQuiet
import Derived.Test.YtelhoppfidibiaaGreatDoorJOa29
namespace Go.Proofs.YtelhoppfidibiaaGreatDoor
open Go.RowKit Go.Extern.Stop Go.Stop Go.Extern
set_option linter.unusedVariables false
set_option linter.unusedSimpArgs false

/-! Closed facts: what reflectlite.TypeOf(target).Comparable() gives -/
theorem isTypeOf (v : Value) (w : World) : (Extern.ReflectliteType.typeOf #[.iface 261 v]).run Tryz.prog w = .ok (.iface 206 (.agg #[.pointer (some ⟨11, 261, none⟩)])) w := by kernel_rfl
theorem isComparable (w : World) : ((Extern.ReflectliteType.method fun t => do Rtype.noPackHeld "Comparable" t; (fun a => Value.bool a.comparable) <$> typeInfo t) #[.agg #[.pointer (some ⟨11, 261, none⟩)]]).run Tryz.prog w = .ok (.bool true) w := by kernel_rfl
theorem isMethodComparable (v : Value) (w : World) : (Go.method 391 206 v "Comparable").run Tryz.prog w = .ok (207, v) w := by kernel_rfl
theorem isComp : (Tryz.prog.info? 261).map (·.comparable) = some true := by kernel_rfl
theorem isSize : (Tryz.prog.info? 279).map (·.size) = some 1 := by kernel_rfl
theorem noIsE (v : Value) (xT : TypeId) (w : World) : (Instr.typeAssert (.iface 261 v) xT 208 true).run Tryz.prog w = .ok (.tuple #[.nilIface, .bool false]) w := run_typeAssert_lacksB Tryz.underlying208 (by kernel_rfl) (by kernel_rfl) v xT w
theorem noUnwrapE (v : Value) (xT : TypeId) (w : World) : (Instr.typeAssert (.iface 261 v) xT 211 true).run Tryz.prog w = .ok (.tuple #[.nilIface, .bool false]) w := run_typeAssert_lacksB Tryz.underlying211 (by kernel_rfl) (by kernel_rfl) v xT w
theorem noUnwrapsE (v : Value) (xT : TypeId) (w : World) : (Instr.typeAssert (.iface 261 v) xT 212 true).run Tryz.prog w = .ok (.tuple #[.nilIface, .bool false]) w := run_typeAssert_lacksB Tryz.underlying212 (by kernel_rfl) (by kernel_rfl) v xT w

set_option maxRecDepth 100000 in
set_option maxHeartbeats 1000000 in
theorem is_same (a : Addr) (w : World) :
    Calls Tryz.prog 45 #[errV a, errV a] w fun e w' => e = .returned (.bool true) ∧ w' = w := by
  obtain ⟨i, hi, hcmp⟩ := Option.map_eq_some_iff.1 isComp
  obtain ⟨j, hj, hjs⟩ := Option.map_eq_some_iff.1 isSize
  have h8 := @run_callFunc_extern Tryz.prog 96 _ Extern.ReflectliteType.typeOf Tryz.func96 (by kernel_rfl) (by kernel_rfl) (by kernel_rfl) (by kernel_rfl)
  have h32 := @run_callFunc_extern Tryz.prog 207 _ (Extern.ReflectliteType.method fun t => do Rtype.noPackHeld "Comparable" t; pure (.bool (← typeInfo t).comparable)) Tryz.func207 (by kernel_rfl) (by kernel_rfl) (by kernel_rfl) (by kernel_rfl)
  have tT := isTypeOf
  have cT := isComparable
  have mR := isMethodComparable
  have heq := run_eql_iface_ptr_same (P := Tryz.prog) w a Tryz.underlying26 Tryz.underlying261 hi hcmp hj
  go_enter Tryz.func45, Tryz.ntmps45
  go_wp2
  refine wp_loop_rounds 1 ?_
  rw [rounds_succ]
  go_wp2
  go_ret
  exact ⟨rfl, rfl⟩
set_option maxRecDepth 100000 in
set_option maxHeartbeats 1000000 in
theorem is_other (a b : Addr) (ca cb : Array Value) (ta tb : TypeId) (w : World) (hne : a ≠ b) (ha : w.heap[a.block]? = some (.cells ca ta (0, 0))) (hb : w.heap[b.block]? = some (.cells cb tb (0, 0))) :
    Calls Tryz.prog 45 #[errV a, errV b] w fun e w' => e = .returned (.bool false) ∧ w' = w := by
  obtain ⟨i, hi, hcmp⟩ := Option.map_eq_some_iff.1 isComp
  obtain ⟨j, hj, hjs⟩ := Option.map_eq_some_iff.1 isSize
  have h8 := @run_callFunc_extern Tryz.prog 96 _ Extern.ReflectliteType.typeOf Tryz.func96 (by kernel_rfl) (by kernel_rfl) (by kernel_rfl) (by kernel_rfl)
  have h32 := @run_callFunc_extern Tryz.prog 207 _ (Extern.ReflectliteType.method fun t => do Rtype.noPackHeld "Comparable" t; pure (.bool (← typeInfo t).comparable)) Tryz.func207 (by kernel_rfl) (by kernel_rfl) (by kernel_rfl) (by kernel_rfl)
  have tT := isTypeOf
  have cT := isComparable
  have mR := isMethodComparable
  have nE := noIsE
  have uE := noUnwrapE
  have vE := noUnwrapsE
  have heq := run_eql_iface_ptr_other (P := Tryz.prog) w Tryz.underlying26 Tryz.underlying261 hi hcmp hj (by rw [hjs]; decide) hne ha hb
  go_enter Tryz.func45, Tryz.ntmps45
  go_wp2
  refine wp_loop_rounds 1 ?_
  rw [rounds_succ]
  go_wp2
  go_ret
  exact ⟨rfl, rfl⟩
open Go.Shelf Go.RowKit Go.Sort

def sortRen : Ren where
  f := fun x => match x with
    | 6 => 99
    | 15 => 146
    | 14 => 145
    | 28 => 169
    | 29 => 170
    | 20 => 161
    | 21 => 162
    | 22 => 163
    | 23 => 164
    | 24 => 165
    | 25 => 166
    | 26 => 167
    | 27 => 168
    | 46 => 177
    | 47 => 178
    | 48 => 179
    | 49 => 180
    | 50 => 181
    | 57 => 184
    | n => n
  t := fun x => match x with
    | 22 => 22
    | 24 => 3
    | 25 => 147
    | 3 => 3
    | 39 => 143
    | 0 => 0
    | 53 => 192
    | 55 => 78
    | 4 => 4
    | 46 => 238
    | 45 => 237
    | 50 => 163
    | 5 => 5
    | 9 => 9
    | 66 => 252
    | 70 => 255
    | 76 => 257
    | 77 => 45
    | n => n
  g := fun n => n
set_option maxRecDepth 100000 in
theorem sortL : SlLaysF.n6 Tryz.prog sortRen where
  mixed := by kernel_rfl
  f6 := Exists.intro "slices.SortFunc[[]int,int]" ⟨by decide, by kernel_rfl⟩
  f14 := Exists.intro "slices.pdqsortCmpFunc[int]" ⟨by decide, by kernel_rfl⟩
  f15 := by kernel_rfl
  f20 := Exists.intro "slices.insertionSortCmpFunc[int]" ⟨by decide, by kernel_rfl⟩
  f21 := Exists.intro "slices.heapSortCmpFunc[int]" ⟨by decide, by kernel_rfl⟩
  f22 := Exists.intro "slices.breakPatternsCmpFunc[int]" ⟨by decide, by kernel_rfl⟩
  f23 := Exists.intro "slices.choosePivotCmpFunc[int]" ⟨by decide, by kernel_rfl⟩
  f24 := Exists.intro "slices.reverseRangeCmpFunc[int]" ⟨by decide, by kernel_rfl⟩
  f25 := Exists.intro "slices.partialInsertionSortCmpFunc[int]" ⟨by decide, by kernel_rfl⟩
  f26 := Exists.intro "slices.partitionEqualCmpFunc[int]" ⟨by decide, by kernel_rfl⟩
  f27 := Exists.intro "slices.partitionCmpFunc[int]" ⟨by decide, by kernel_rfl⟩
  f28 := by kernel_rfl
  f29 := by kernel_rfl
  f46 := Exists.intro "slices.siftDownCmpFunc[int]" ⟨by decide, by kernel_rfl⟩
  f47 := by kernel_rfl
  f48 := by kernel_rfl
  f49 := Exists.intro "slices.medianAdjacentCmpFunc[int]" ⟨by decide, by kernel_rfl⟩
  f50 := Exists.intro "slices.medianCmpFunc[int]" ⟨by decide, by kernel_rfl⟩
  f57 := Exists.intro "slices.order2CmpFunc[int]" ⟨by decide, by kernel_rfl⟩
  t0 := by kernel_rfl
  a0 := fun w => by kernel_rfl
  z0 := fun w => by kernel_rfl
  v0 := fun w => by kernel_rfl
  t3 := by kernel_rfl
  a3 := fun w => by kernel_rfl
  z3 := fun w => by kernel_rfl
  v3 := fun w => by kernel_rfl
  t4 := by kernel_rfl
  a4 := fun w => by kernel_rfl
  z4 := fun w => by kernel_rfl
  v4 := fun w => by kernel_rfl
  t5 := by kernel_rfl
  a5 := fun w => by kernel_rfl
  z5 := fun w => by kernel_rfl
  v5 := fun w => by kernel_rfl
  t9 := by kernel_rfl
  a9 := fun w => by kernel_rfl
  z9 := fun w => by kernel_rfl
  v9 := fun w => by kernel_rfl
  t22 := by kernel_rfl
  a22 := fun w => by kernel_rfl
  z22 := fun w => by kernel_rfl
  v22 := fun w => by kernel_rfl
  a24 := fun w => by kernel_rfl
  z24 := fun w => by kernel_rfl
  t25 := by kernel_rfl
  a25 := fun w => by kernel_rfl
  z25 := fun w => by kernel_rfl
  v25 := fun w => by kernel_rfl
  t39 := by kernel_rfl
  a39 := fun w => by kernel_rfl
  z39 := fun w => by kernel_rfl
  v39 := fun w => by kernel_rfl
  t45 := by kernel_rfl
  a45 := fun w => by kernel_rfl
  z45 := fun w => by kernel_rfl
  v45 := fun w => by kernel_rfl
  t46 := by kernel_rfl
  a46 := fun w => by kernel_rfl
  z46 := fun w => by kernel_rfl
  v46 := fun w => by kernel_rfl
  t50 := by kernel_rfl
  a50 := fun w => by kernel_rfl
  z50 := fun w => by kernel_rfl
  v50 := fun w => by kernel_rfl
  t53 := by kernel_rfl
  a53 := fun w => by kernel_rfl
  z53 := fun w => by kernel_rfl
  v53 := fun w => by kernel_rfl
  t55 := by kernel_rfl
  a55 := fun w => by kernel_rfl
  z55 := fun w => by kernel_rfl
  v55 := fun w => by kernel_rfl
  t66 := by kernel_rfl
  a66 := fun w => by kernel_rfl
  z66 := fun w => by kernel_rfl
  v66 := fun w => by kernel_rfl
  t70 := by kernel_rfl
  a70 := fun w => by kernel_rfl
  z70 := fun w => by kernel_rfl
  v70 := fun w => by kernel_rfl
  t76 := by kernel_rfl
  a76 := fun w => by kernel_rfl
  z76 := fun w => by kernel_rfl
  v76 := fun w => by kernel_rfl
  t77 := by kernel_rfl
  a77 := fun w => by kernel_rfl
  z77 := fun w => by kernel_rfl
  v77 := fun w => by kernel_rfl
open Go.Shelf Go.RowKit Go.Sort

abbrev A20 := Fin 1048576
def enc20 (x : A20) : Value := .int .i64 (x.val : Int)
/-- The comparison. -/
def cfM (hb : Nat) (x y : A20) : Int := if decide (hb ≤ x.val) = decide (hb ≤ y.val) then (x.val : Int) - (y.val : Int) else if hb ≤ x.val then -1 else 1
theorem lt_cfM (hb : Nat) (x y : A20) : ltOf (cfM hb) x y = ltM hb x.val y.val := by
  unfold ltOf cfM ltM
  by_cases h1 : hb ≤ x.val <;> by_cases h2 : hb ≤ y.val <;> simp [h1, h2] <;> omega
theorem swoM (hb : Nat) : SWO (ltOf (cfM hb)) where
  irrefl x := by rw [lt_cfM]; unfold ltM; simp
  trans x y z h1 h2 := by
    rw [lt_cfM] at *
    unfold ltM at *
    by_cases k1 : hb ≤ x.val <;> by_cases k2 : hb ≤ y.val <;> by_cases k3 : hb ≤ z.val <;> simp [k1, k2, k3] at * <;> omega
  ntrans x y z h1 h2 := by
    rw [lt_cfM] at *
    unfold ltM at *
    by_cases k1 : hb ≤ x.val <;> by_cases k2 : hb ≤ y.val <;> by_cases k3 : hb ≤ z.val <;> simp [k1, k2, k3] at * <;> omega
theorem totM (hb : Nat) (x y : A20) (h1 : ltOf (cfM hb) x y = false) (h2 : ltOf (cfM hb) y x = false) : x = y := by
  rw [lt_cfM] at h1 h2
  unfold ltM at h1 h2
  apply Fin.ext
  by_cases k1 : hb ≤ x.val <;> by_cases k2 : hb ≤ y.val <;> simp [k1, k2] at h1 h2 <;> omega
set_option maxRecDepth 100000 in
theorem inOld_cell (b o : Nat) (half a : Int) (hh : 1 ≤ half ∧ half ≤ 65536) (w : World) (hc : w.cell? ⟨b, o, none⟩ = some (.int .i64 half)) :
    Calls Tryz.prog 101 #[.pointer (some ⟨b, o, none⟩), .int .i64 a] w fun e w' => e = .returned (.bool (decide (2 * half ≤ a))) ∧ w' = w := by
  have i1 : IntKind.i64.wrap (2 * half) = 2 * half := IntWalk.i64_in _ (by omega)
  have hb := cell_lt hc
  simp only at hb
  go_enter Tryz.func101, Tryz.ntmps101
  go_wp2
  go_ret
  exact ⟨rfl, rfl⟩
set_option maxRecDepth 100000 in
set_option maxHeartbeats 400000 in
theorem cmp1_oo (b xb : Nat) (half : Int) (hh : 1 ≤ half ∧ half ≤ 65536) (X Y : Int) (hX : 0 ≤ X ∧ X ≤ 1048576) (hY : 0 ≤ Y ∧ Y ≤ 1048576) (k1 : 2 * half ≤ X) (k2 : 2 * half ≤ Y) (w : World) (h0 : w.cell? ⟨xb, 0, none⟩ = some (.pointer (some ⟨b, 0, none⟩))) (hc : w.cell? ⟨b, 0, none⟩ = some (.int .i64 half)) :
    Calls Tryz.prog 100 #[.int .i64 X, .int .i64 Y, .pointer (some ⟨xb, 0, none⟩)] w fun e w' => e = .returned (.int .i64 (X - Y)) ∧ ∃ q, w' = w.drewN q := by
  have i2 : IntKind.i64.wrap (X - Y) = X - Y := IntWalk.i64_in _ (by omega)
  have HC := Lib.hid hc
  have HI : Hid (∀ (a : Int) (W : World), W.cell? ⟨b, 0, none⟩ = some (.int .i64 half) → Calls Tryz.prog 101 #[.pointer (some ⟨b, 0, none⟩), .int .i64 a] W fun e w' => e = .returned (.bool (decide (2 * half ≤ a))) ∧ w' = W) := fun a W hW => inOld_cell b 0 half a hh W hW
  have d1 : decide (2 * half ≤ X) = true := by simpa using k1
  have d2 : decide (2 * half ≤ Y) = true := by simpa using k2
  clear hc k1 k2 hX hY hh
  go_enter Tryz.func100, Tryz.ntmps100
  go_wp2
  go_quiet (first
    | (go_at_call 101; exact Calls.quiet_of_same (HI.out _ _ (Ext.cell_ (ext_drewN _ _) HC.out))))
  go_wp2
  go_ret
  exact ⟨rfl, _, rfl⟩
set_option maxRecDepth 100000 in
set_option maxHeartbeats 400000 in
theorem cmp1_oy (b xb : Nat) (half : Int) (hh : 1 ≤ half ∧ half ≤ 65536) (X Y : Int) (hX : 0 ≤ X ∧ X ≤ 1048576) (hY : 0 ≤ Y ∧ Y ≤ 1048576) (k1 : 2 * half ≤ X) (k2 : ¬ 2 * half ≤ Y) (w : World) (h0 : w.cell? ⟨xb, 0, none⟩ = some (.pointer (some ⟨b, 0, none⟩))) (hc : w.cell? ⟨b, 0, none⟩ = some (.int .i64 half)) :
    Calls Tryz.prog 100 #[.int .i64 X, .int .i64 Y, .pointer (some ⟨xb, 0, none⟩)] w fun e w' => e = .returned (.int .i64 (-1)) ∧ ∃ q, w' = w.drewN q := by
  have i2 : IntKind.i64.wrap (X - Y) = X - Y := IntWalk.i64_in _ (by omega)
  have HC := Lib.hid hc
  have HI : Hid (∀ (a : Int) (W : World), W.cell? ⟨b, 0, none⟩ = some (.int .i64 half) → Calls Tryz.prog 101 #[.pointer (some ⟨b, 0, none⟩), .int .i64 a] W fun e w' => e = .returned (.bool (decide (2 * half ≤ a))) ∧ w' = W) := fun a W hW => inOld_cell b 0 half a hh W hW
  have d1 : decide (2 * half ≤ X) = true := by simpa using k1
  have d2 : decide (2 * half ≤ Y) = false := by simpa using k2
  clear hc k1 k2 hX hY hh
  go_enter Tryz.func100, Tryz.ntmps100
  go_wp2
  go_quiet (first
    | (go_at_call 101; exact Calls.quiet_of_same (HI.out _ _ (Ext.cell_ (ext_drewN _ _) HC.out))))
  go_wp2_with (go_at_call 101; refine (HI.out _ _ (Ext.cell_ (ext_drewN _ _) HC.out)).mono ?_; rintro e w' ⟨rfl, hw9⟩; have hw9 := hw9.symm; subst hw9)
  go_ret
  exact ⟨rfl, _, rfl⟩
set_option maxRecDepth 100000 in
set_option maxHeartbeats 400000 in
theorem cmp1_yo (b xb : Nat) (half : Int) (hh : 1 ≤ half ∧ half ≤ 65536) (X Y : Int) (hX : 0 ≤ X ∧ X ≤ 1048576) (hY : 0 ≤ Y ∧ Y ≤ 1048576) (k1 : ¬ 2 * half ≤ X) (k2 : 2 * half ≤ Y) (w : World) (h0 : w.cell? ⟨xb, 0, none⟩ = some (.pointer (some ⟨b, 0, none⟩))) (hc : w.cell? ⟨b, 0, none⟩ = some (.int .i64 half)) :
    Calls Tryz.prog 100 #[.int .i64 X, .int .i64 Y, .pointer (some ⟨xb, 0, none⟩)] w fun e w' => e = .returned (.int .i64 (1)) ∧ ∃ q, w' = w.drewN q := by
  have i2 : IntKind.i64.wrap (X - Y) = X - Y := IntWalk.i64_in _ (by omega)
  have HC := Lib.hid hc
  have HI : Hid (∀ (a : Int) (W : World), W.cell? ⟨b, 0, none⟩ = some (.int .i64 half) → Calls Tryz.prog 101 #[.pointer (some ⟨b, 0, none⟩), .int .i64 a] W fun e w' => e = .returned (.bool (decide (2 * half ≤ a))) ∧ w' = W) := fun a W hW => inOld_cell b 0 half a hh W hW
  have d1 : decide (2 * half ≤ X) = false := by simpa using k1
  have d2 : decide (2 * half ≤ Y) = true := by simpa using k2
  clear hc k1 k2 hX hY hh
  go_enter Tryz.func100, Tryz.ntmps100
  go_wp2
  go_quiet (first
    | (go_at_call 101; exact Calls.quiet_of_same (HI.out _ _ (Ext.cell_ (ext_drewN _ _) HC.out))))
  go_wp2_with (go_at_call 101; refine (HI.out _ _ (Ext.cell_ (ext_drewN _ _) HC.out)).mono ?_; rintro e w' ⟨rfl, hw9⟩; have hw9 := hw9.symm; subst hw9)
  go_ret
  exact ⟨rfl, _, rfl⟩
set_option maxRecDepth 100000 in
set_option maxHeartbeats 400000 in
theorem cmp1_yy (b xb : Nat) (half : Int) (hh : 1 ≤ half ∧ half ≤ 65536) (X Y : Int) (hX : 0 ≤ X ∧ X ≤ 1048576) (hY : 0 ≤ Y ∧ Y ≤ 1048576) (k1 : ¬ 2 * half ≤ X) (k2 : ¬ 2 * half ≤ Y) (w : World) (h0 : w.cell? ⟨xb, 0, none⟩ = some (.pointer (some ⟨b, 0, none⟩))) (hc : w.cell? ⟨b, 0, none⟩ = some (.int .i64 half)) :
    Calls Tryz.prog 100 #[.int .i64 X, .int .i64 Y, .pointer (some ⟨xb, 0, none⟩)] w fun e w' => e = .returned (.int .i64 (X - Y)) ∧ ∃ q, w' = w.drewN q := by
  have i2 : IntKind.i64.wrap (X - Y) = X - Y := IntWalk.i64_in _ (by omega)
  have HC := Lib.hid hc
  have HI : Hid (∀ (a : Int) (W : World), W.cell? ⟨b, 0, none⟩ = some (.int .i64 half) → Calls Tryz.prog 101 #[.pointer (some ⟨b, 0, none⟩), .int .i64 a] W fun e w' => e = .returned (.bool (decide (2 * half ≤ a))) ∧ w' = W) := fun a W hW => inOld_cell b 0 half a hh W hW
  have d1 : decide (2 * half ≤ X) = false := by simpa using k1
  have d2 : decide (2 * half ≤ Y) = false := by simpa using k2
  clear hc k1 k2 hX hY hh
  go_enter Tryz.func100, Tryz.ntmps100
  go_wp2
  go_quiet (first
    | (go_at_call 101; exact Calls.quiet_of_same (HI.out _ _ (Ext.cell_ (ext_drewN _ _) HC.out))))
  go_wp2
  go_ret
  exact ⟨rfl, _, rfl⟩
theorem cmp1_walk (b xb : Nat) (half : Int) (hb : Nat) (hhb : (hb : Int) = 2 * half) (hh : 1 ≤ half ∧ half ≤ 65536) (x y : A20) (w : World) (h0 : w.cell? ⟨xb, 0, none⟩ = some (.pointer (some ⟨b, 0, none⟩))) (hc : w.cell? ⟨b, 0, none⟩ = some (.int .i64 half)) :
    Calls Tryz.prog 100 #[.int .i64 (x.val : Int), .int .i64 (y.val : Int), .pointer (some ⟨xb, 0, none⟩)] w fun e w' => e = .returned (.int .i64 (cfM hb x y)) ∧ ∃ q, w' = w.drewN q := by
  have hx := x.isLt
  have hy := y.isLt
  unfold cfM
  by_cases k1 : hb ≤ x.val
  · by_cases k2 : hb ≤ y.val
    · rw [decide_eq_true k1, decide_eq_true k2, if_pos rfl]
      exact cmp1_oo b xb half hh _ _ ⟨by omega, by omega⟩ ⟨by omega, by omega⟩ (by omega) (by omega) w h0 hc
    · rw [decide_eq_true k1, decide_eq_false k2, if_neg (by decide), if_pos k1]
      exact cmp1_oy b xb half hh _ _ ⟨by omega, by omega⟩ ⟨by omega, by omega⟩ (by omega) (by omega) w h0 hc
  · by_cases k2 : hb ≤ y.val
    · rw [decide_eq_false k1, decide_eq_true k2, if_neg (by decide), if_neg k1]
      exact cmp1_yo b xb half hh _ _ ⟨by omega, by omega⟩ ⟨by omega, by omega⟩ (by omega) (by omega) w h0 hc
    · rw [decide_eq_false k1, decide_eq_false k2, if_pos rfl]
      exact cmp1_yy b xb half hh _ _ ⟨by omega, by omega⟩ ⟨by omega, by omega⟩ (by omega) (by omega) w h0 hc
open Go.Shelf Go.RowKit Go.Sort

theorem keep_sortWorld {α : Type} [Inhabited α] (enc : α → Value) (w : World) (blk off n : Nat) (d : Array α) (os : Array Obj) : Keep (· = blk) w (sortWorld enc w blk off n d os) := by
  refine ⟨rfl, rfl, rfl, ?_, fun k hk hn => ?_⟩
  · show w.heap.size ≤ (w.heap.modify blk _ ++ os).size
    simp
  · show (w.heap.modify blk _ ++ os)[k]? = _
    rw [Array.getElem?_append, if_pos (by simpa using hk), Array.getElem?_modify, if_neg (fun e => hn e.symm)]
theorem block_sortWorld {α : Type} [Inhabited α] (enc : α → Value) (w : World) (blk off n : Nat) (d : Array α) (os : Array Obj) {cur : Array Value} {e : TypeId} {fr : Nat × Nat} (h : w.heap[blk]? = some (.cells cur e fr)) : (sortWorld enc w blk off n d os).heap[blk]? = some (.cells (putCells enc off d cur) e fr) := by
  have hlt := lt_of_block h
  show (w.heap.modify blk _ ++ os)[blk]? = _
  rw [Array.getElem?_append, if_pos (by simpa using hlt), Array.getElem?_modify, if_pos rfl, h]
  rfl
theorem tail_sortWorld {α : Type} [Inhabited α] (enc : α → Value) {w : World} {B blk off cap : Nat} {e : TypeId} {xs : List Value} (d : Array α) (hd : xs.length = d.size) (n : Nat) (os : Array Obj)
    (h : Tail w B e (.slice (some ⟨blk, off, none⟩) xs.length cap) xs) : Tail (sortWorld enc w blk off n d os) B e (.slice (some ⟨blk, off, none⟩) (d.toList.map enc).length cap) (d.toList.map enc) := by
  rcases h with ⟨h, -⟩ | ⟨g, of2, cap2, cur, hv, q1, q2, q3, q4, q5, q6⟩
  · cases h
  · injection hv with hv1 hv2 hv3
    injection hv1 with hv1
    injection hv1 with e1 e2
    subst e1 e2 hv3
    refine Or.inr ⟨blk, off, cap, putCells enc off d cur, rfl, q1, block_sortWorld enc w blk off n d os q2, by simp; omega, q4, by simp [putCells]; exact q5, ?_⟩
    apply List.ext_getElem?
    intro i
    rw [List.getElem?_take, List.length_map, Array.length_toList]
    by_cases hi : i < d.size
    · rw [if_pos hi, List.getElem?_drop, List.getElem?_map, Array.getElem?_toList, Array.getElem?_toList]
      have hc : off + i < cur.size := by omega
      unfold putCells
      rw [Array.getElem?_mapIdx, Array.getElem?_eq_getElem hc, Array.getElem?_eq_getElem hi]
      simp only [Option.map_some]
      rw [if_pos ⟨by omega, by omega⟩, show off + i - off = i by omega, getElem!_pos d i hi]
    · rw [if_neg hi, List.getElem?_eq_none (by simp; omega)]
def l20 (l : List Nat) (h : ∀ a ∈ l, a < 1048576) : List A20 := l.pmap (fun a ha => ⟨a, ha⟩) h
theorem l20_val (l : List Nat) (h : ∀ a ∈ l, a < 1048576) : (l20 l h).map (·.val) = l := by
  unfold l20
  rw [List.map_pmap]
  simp
theorem l20_sort (hb : Nat) (l : List Nat) (h : ∀ a ∈ l, a < 1048576) : ((l20 l h).mergeSort fun x y => !ltOf (cfM hb) y x).map (·.val) = l.mergeSort (leM hb) := by
  rw [List.map_mergeSort (s := leM hb) (fun a _ c _ => by rw [lt_cfM]; rfl), l20_val]
theorem enc20_map (l : List A20) : l.map enc20 = tcells ((l.map (·.val)).map fun a : Nat => (a : Int)) := by
  unfold tcells enc20
  simp
def SortPost (w : World) (B g off cap : Nat) (l : List Nat) (e : Ending) (w' : World) : Prop :=
  e = .returned (.tuple #[]) ∧ Tail w' B 3 (.slice (some ⟨g, off, none⟩) l.length cap) (tcells (l.map fun a : Nat => (a : Int))) ∧ Keep (· = g) w w'
theorem sort_walk (b xb B g off cap : Nat) (half : Int) (hb : Nat) (hhb : (hb : Int) = 2 * half) (hh : 1 ≤ half ∧ half ≤ 65536) (l : List Nat) (hl : ∀ a ∈ l, a < 1048576) (hn : l.length ≤ 1000000) (w : World)
    (h0 : w.cell? ⟨xb, 0, none⟩ = some (.pointer (some ⟨b, 0, none⟩))) (hc : w.cell? ⟨b, 0, none⟩ = some (.int .i64 half)) (n1 : xb ≠ g) (n2 : b ≠ g)
    (hT : Tail w B 3 (.slice (some ⟨g, off, none⟩) l.length cap) (tcells (l.map fun a : Nat => (a : Int)))) :
    Calls Tryz.prog 99 #[.slice (some ⟨g, off, none⟩) l.length cap, .func (.func 100) #[] #[.pointer (some ⟨xb, 0, none⟩)]] w (SortPost w B g off cap (l.mergeSort (leM hb))) := by
  have hsz : (l20 l hl).toArray.size = l.length := by simp [l20]
  have hxs : tcells (l.map fun a : Nat => (a : Int)) = (l20 l hl).map enc20 := by rw [enc20_map, l20_val]
  have hR := (Tail.read hT).2
  have hlt : g < w.heap.size := by
    have := hT.lt (k := g) rfl
    exact this.2
  have hfz : ∀ j, w.frozen? ⟨g, j, none⟩ = false := fun j => by
    rcases hT with ⟨q, -⟩ | ⟨g', of2, cap2, cur, hv, q1, q2, -⟩
    · cases q
    · injection hv with hv1 hv2 hv3
      injection hv1 with hv1
      injection hv1 with e1 e2
      subst e1
      simp [World.frozen?, q2]
  have hH : Holds enc20 w g off (l20 l hl).toArray := fun j hj => by
    refine ⟨?_, hfz _⟩
    have hj' : j < (l20 l hl).length := by simpa using hj
    have h1 : (tcells (l.map fun a : Nat => (a : Int)))[j]? = some (enc20 (l20 l hl)[j]) := by rw [hxs, List.getElem?_map, List.getElem?_eq_getElem hj']; rfl
    have := hR.at_ h1
    rw [this, getElem!_pos _ j hj]
    rfl
  have hcmp : CmpReads Tryz.prog 100 #[.pointer (some ⟨xb, 0, none⟩)] enc20 (cfM hb) g off (l20 l hl).toArray.size w := fun m os dk hdk x y => by
    have hk := keep_sortWorld enc20 w g off m dk os
    exact cmp1_walk b xb half hb hhb hh x y _ (hk.cell (p := ⟨xb, 0, none⟩) n1 h0) (hk.cell (p := ⟨b, 0, none⟩) n2 hc)
  have eg : ∀ args w, (callFunc 100 args).run Tryz.prog w = .ok (.enter 100 args) w := enters_of Tryz.func100 (by kernel_rfl) rfl
  have hS := Any.slices_SortFunc_total sortL enc20 (fun _ => rfl) (cfM hb) (swoM hb) 100 #[.pointer (some ⟨xb, 0, none⟩)] g off cap (l20 l hl).toArray w eg hcmp.lays hH hlt (by rw [hsz]; omega) (totM hb)
  rw [hsz] at hS
  refine hS.mono ?_
  rintro e w' ⟨rfl, n, os, rfl⟩
  refine ⟨rfl, ?_, keep_sortWorld enc20 w g off n _ os⟩
  have hlen : (tcells (l.map fun a : Nat => (a : Int))).length = l.length := by simp [tcells]
  rw [← hlen] at hT
  have ht := tail_sortWorld enc20 (((l20 l hl).toArray.toList.mergeSort fun x y => !ltOf (cfM hb) y x).toArray) (by simp [l20, tcells]) n os hT
  have e1 : (((l20 l hl).toArray.toList.mergeSort fun x y => !ltOf (cfM hb) y x).toArray).toList.map enc20 = tcells ((l.mergeSort (leM hb)).map fun a : Nat => (a : Int)) := by
    rw [enc20_map]
    show tcells ((((l20 l hl).mergeSort fun x y => !ltOf (cfM hb) y x).map (·.val)).map fun a : Nat => (a : Int)) = _
    rw [l20_sort]
  rw [e1] at ht
  have e2 : (tcells ((l.mergeSort (leM hb)).map fun a : Nat => (a : Int))).length = (l.mergeSort (leM hb)).length := by simp [tcells]
  rw [e2] at ht
  exact ht
theorem sort_none (p : Option Addr) (cap : Nat) (fv : Value) (w : World) : Calls Tryz.prog 99 #[.slice p 0 cap, fv] w fun e w' => e = .returned (.tuple #[]) ∧ w' = w :=
  AnyF.slices_SortFunc_none (P := Tryz.prog) (ρ := sortRen) { sortL with } p cap fv w
theorem sort_any (b xb B : Nat) (ta : Option Addr) (tc : Nat) (half : Int) (hb : Nat) (hhb : (hb : Int) = 2 * half) (hh : 1 ≤ half ∧ half ≤ 65536) (l : List Nat) (hl : ∀ a ∈ l, a < 1048576) (hn : l.length ≤ 1000000) (w : World)
    (h0 : w.cell? ⟨xb, 0, none⟩ = some (.pointer (some ⟨b, 0, none⟩))) (hc : w.cell? ⟨b, 0, none⟩ = some (.int .i64 half)) (n1 : (Value.slice ta l.length tc).ownBlock ≠ some xb) (n2 : (Value.slice ta l.length tc).ownBlock ≠ some b)
    (hT : Tail w B 3 (.slice ta l.length tc) (tcells (l.map fun a : Nat => (a : Int)))) :
    Calls Tryz.prog 99 #[.slice ta l.length tc, .func (.func 100) #[] #[.pointer (some ⟨xb, 0, none⟩)]] w fun e w' =>
      e = .returned (.tuple #[]) ∧ Tail w' B 3 (.slice ta l.length tc) (tcells ((l.mergeSort (leM hb)).map fun a : Nat => (a : Int))) ∧ Keep (fun k => (Value.slice ta l.length tc).ownBlock = some k) w w' := by
  by_cases he : l = []
  · subst he
    refine (sort_none ta tc _ w).mono ?_
    rintro e w' ⟨rfl, rfl⟩
    exact ⟨rfl, by simpa using hT, Keep.refl _ _⟩
  · have hg : ∃ g off, ta = some ⟨g, off, none⟩ := by
      rcases hT with ⟨q, q2⟩ | ⟨g, off, cap, cur, hv, -⟩
      · exfalso
        apply he
        have : (tcells (l.map fun a : Nat => (a : Int))).length = 0 := by rw [q2]; rfl
        exact List.eq_nil_of_length_eq_zero (by simpa [tcells] using this)
      · injection hv with hv1
        exact ⟨g, off, hv1⟩
    obtain ⟨g, off, rfl⟩ := hg
    have hlen : (l.mergeSort (leM hb)).length = l.length := (List.mergeSort_perm _ _).length_eq
    refine (sort_walk b xb B g off tc half hb hhb hh l hl hn w h0 hc (fun e => n1 (by rw [e]; rfl)) (fun e => n2 (by rw [e]; rfl)) hT).mono ?_
    rintro e w' ⟨rfl, h1, h2⟩
    rw [hlen] at h1
    exact ⟨rfl, h1, h2.sub fun k hk => by rw [hk]; rfl⟩
end Go.Proofs.YtelhoppfidibiaaGreatDoor
