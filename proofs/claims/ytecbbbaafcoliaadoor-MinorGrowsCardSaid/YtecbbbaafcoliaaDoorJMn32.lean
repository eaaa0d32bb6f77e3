/- errors.Is over errors of errors.New's make, by its contracts. (Turned from the guide's worked text SentryIs.) -/
import Derived.Test.YtecbbbaafcoliaaDoorJMn01
import Derived.LaidEql
import Derived.Stop.Asserts
import Derived.RowKitTokens
import Derived.Test.YtecbbbaafcoliaaDoorJMn06
namespace Go.Proofs.YtecbbbaafcoliaaDoor
open Go.RowKit Go.Extern.Stop Go.Stop Go.Extern
set_option linter.unusedVariables false
set_option linter.unusedSimpArgs false

/-! Closed facts: what reflectlite.TypeOf(target).Comparable() gives -/
theorem isTypeOf (v : Value) (w : World) : (Extern.ReflectliteType.typeOf #[.iface 189 v]).run Tryd.prog w = .ok (.iface 169 (.agg #[.pointer (some ⟨8, 189, none⟩)])) w := by kernel_rfl
theorem isComparable (w : World) : ((Extern.ReflectliteType.method fun t => do Rtype.noPackHeld "Comparable" t; (fun a => Value.bool a.comparable) <$> typeInfo t) #[.agg #[.pointer (some ⟨8, 189, none⟩)]]).run Tryd.prog w = .ok (.bool true) w := by kernel_rfl
theorem isMethodComparable (v : Value) (w : World) : (Go.method 321 169 v "Comparable").run Tryd.prog w = .ok (151, v) w := by kernel_rfl
theorem isComp : (Tryd.prog.info? 189).map (·.comparable) = some true := by kernel_rfl
theorem isSize : (Tryd.prog.info? 209).map (·.size) = some 1 := by kernel_rfl
theorem noIsE (v : Value) (xT : TypeId) (w : World) : (Instr.typeAssert (.iface 189 v) xT 179 true).run Tryd.prog w = .ok (.tuple #[.nilIface, .bool false]) w := run_typeAssert_lacksB Tryd.underlying179 (by kernel_rfl) (by kernel_rfl) v xT w
theorem noUnwrapE (v : Value) (xT : TypeId) (w : World) : (Instr.typeAssert (.iface 189 v) xT 176 true).run Tryd.prog w = .ok (.tuple #[.nilIface, .bool false]) w := run_typeAssert_lacksB Tryd.underlying176 (by kernel_rfl) (by kernel_rfl) v xT w
theorem noUnwrapsE (v : Value) (xT : TypeId) (w : World) : (Instr.typeAssert (.iface 189 v) xT 177 true).run Tryd.prog w = .ok (.tuple #[.nilIface, .bool false]) w := run_typeAssert_lacksB Tryd.underlying177 (by kernel_rfl) (by kernel_rfl) v xT w

set_option maxRecDepth 100000 in
set_option maxHeartbeats 1000000 in
theorem is_same (a : Addr) (w : World) :
    Calls Tryd.prog 97 #[errV a, errV a] w fun e w' => e = .returned (.bool true) ∧ w' = w := by
  obtain ⟨i, hi, hcmp⟩ := Option.map_eq_some_iff.1 isComp
  obtain ⟨j, hj, hjs⟩ := Option.map_eq_some_iff.1 isSize
  have h8 := @run_callFunc_extern Tryd.prog 107 _ Extern.ReflectliteType.typeOf Tryd.func107 (by kernel_rfl) (by kernel_rfl) (by kernel_rfl) (by kernel_rfl)
  have h32 := @run_callFunc_extern Tryd.prog 151 _ (Extern.ReflectliteType.method fun t => do Rtype.noPackHeld "Comparable" t; pure (.bool (← typeInfo t).comparable)) Tryd.func151 (by kernel_rfl) (by kernel_rfl) (by kernel_rfl) (by kernel_rfl)
  have tT := isTypeOf
  have cT := isComparable
  have mR := isMethodComparable
  have heq := run_eql_iface_ptr_same (P := Tryd.prog) w a Tryd.underlying32 Tryd.underlying189 hi hcmp hj
  go_enter Tryd.func97, Tryd.ntmps97
  go_wp2
  refine wp_loop_rounds 1 ?_
  rw [rounds_succ]
  go_wp2
  go_ret
  exact ⟨rfl, rfl⟩
set_option maxRecDepth 100000 in
set_option maxHeartbeats 1000000 in
theorem is_other (a b : Addr) (ca cb : Array Value) (ta tb : TypeId) (w : World) (hne : a ≠ b) (ha : w.heap[a.block]? = some (.cells ca ta (0, 0))) (hb : w.heap[b.block]? = some (.cells cb tb (0, 0))) :
    Calls Tryd.prog 97 #[errV a, errV b] w fun e w' => e = .returned (.bool false) ∧ w' = w := by
  obtain ⟨i, hi, hcmp⟩ := Option.map_eq_some_iff.1 isComp
  obtain ⟨j, hj, hjs⟩ := Option.map_eq_some_iff.1 isSize
  have h8 := @run_callFunc_extern Tryd.prog 107 _ Extern.ReflectliteType.typeOf Tryd.func107 (by kernel_rfl) (by kernel_rfl) (by kernel_rfl) (by kernel_rfl)
  have h32 := @run_callFunc_extern Tryd.prog 151 _ (Extern.ReflectliteType.method fun t => do Rtype.noPackHeld "Comparable" t; pure (.bool (← typeInfo t).comparable)) Tryd.func151 (by kernel_rfl) (by kernel_rfl) (by kernel_rfl) (by kernel_rfl)
  have tT := isTypeOf
  have cT := isComparable
  have mR := isMethodComparable
  have nE := noIsE
  have uE := noUnwrapE
  have vE := noUnwrapsE
  have heq := run_eql_iface_ptr_other (P := Tryd.prog) w Tryd.underlying32 Tryd.underlying189 hi hcmp hj (by rw [hjs]; decide) hne ha hb
  go_enter Tryd.func97, Tryd.ntmps97
  go_wp2
  refine wp_loop_rounds 1 ?_
  rw [rounds_succ]
  go_wp2
  go_ret
  exact ⟨rfl, rfl⟩
end Go.Proofs.YtecbbbaafcoliaaDoor
/- errors.As over an error of errors.New's make, sought as an *api.Fault: none. (Turned from the guide's worked text ToyasAs.) -/
namespace Go.Proofs.YtecbbbaafcoliaaDoor
open Go.RowKit Go.Extern.Stop Go.Stop Go.Extern
set_option linter.unusedVariables false
set_option linter.unusedSimpArgs false

theorem valueOfFF (t : Addr) (w : World) : (ReflectliteValue.unpack (.iface 136 (.pointer (some t)))).run Tryd.prog w
    = .ok (.agg #[.pointer (some ⟨8, 136, none⟩), .pointer (some ⟨w.heap.size, 0, none⟩), .int .u64 150]) (w.alloc (.cells #[.pointer (some t)] 136)) := by kernel_rfl
theorem typeFF (a : Addr) (w : World) : (ReflectliteValue.methodAny (ReflectliteValue.valueError "reflectlite.Value.Type" 0) (fun t _ _ _ => ReflectliteType.toType t) #[.agg #[.pointer (some ⟨8, 136, none⟩), .pointer (some a), .int .u64 150]]).run Tryd.prog w
    = .ok (.iface 169 (.agg #[.pointer (some ⟨8, 136, none⟩)])) w := by kernel_rfl
theorem methodKind (h : Value) (w : World) : (Go.method 321 169 (.agg #[h]) "Kind").run Tryd.prog w = .ok (141, h) w := by kernel_rfl
theorem kindFF (w : World) : ((ReflectliteType.abiMethod fun t => (fun a : Nat => Value.int IntKind.u8 (a : Int)) <$> Rtype.kind t) #[.pointer (some ⟨8, 136, none⟩)]).run Tryd.prog w = .ok (.int .u8 22) w := by kernel_rfl
theorem kindF (w : World) : ((ReflectliteType.abiMethod fun t => (fun a : Nat => Value.int IntKind.u8 (a : Int)) <$> Rtype.kind t) #[.pointer (some ⟨8, 134, none⟩)]).run Tryd.prog w = .ok (.int .u8 22) w := by kernel_rfl
theorem rlm (z : Sem Value) (f : TypeId → Addr → Nat → Nat → Sem Value) (v : Value) :
    ReflectliteValue.method z f #[v] = (do match ← ReflectliteValue.parts v with | none => z | some (t, a, fl) => f t a fl (fl % 32)) := rfl
theorem partsFF (a : Addr) (w : World) : (ReflectliteValue.parts (.agg #[.pointer (some ⟨8, 136, none⟩), .pointer (some a), .int .u64 150])).run Tryd.prog w = .ok (some (136, a, 150)) w := by kernel_rfl
theorem isNilFF (a p : Addr) (W : World) (ha : W.cell? a = some (.pointer (some p))) :
    (ReflectliteValue.method (ReflectliteValue.valueError "reflectlite.Value.IsNil" 0) ReflectliteValue.isNil #[.agg #[.pointer (some ⟨8, 136, none⟩), .pointer (some a), .int .u64 150]]).run Tryd.prog W = .ok (.bool false) W := by
  rw [rlm]
  simp only [Sem.run_bind, partsFF, Result.andThen]
  simp [ReflectliteValue.isNil, loadVar, isAgg, underlying, Tryd.underlying136, ha, Result.andThen]
theorem methodElem (h : Value) (w : World) : (Go.method 321 169 (.agg #[h]) "Elem").run Tryd.prog w = .ok (152, .agg #[h]) w := by kernel_rfl
theorem methodImplements (h : Value) (w : World) : (Go.method 321 169 (.agg #[h]) "Implements").run Tryd.prog w = .ok (153, .agg #[h]) w := by kernel_rfl
theorem methodAssignableTo (h : Value) (w : World) : (Go.method 321 169 (.agg #[h]) "AssignableTo").run Tryd.prog w = .ok (150, .agg #[h]) w := by kernel_rfl
theorem elemFF (w : World) : (ReflectliteType.method ReflectliteType.elem #[.agg #[.pointer (some ⟨8, 136, none⟩)]]).run Tryd.prog w = .ok (.iface 169 (.agg #[.pointer (some ⟨8, 134, none⟩)])) w := by kernel_rfl
theorem implementsF (w : World) : (ReflectliteType.relation "Implements" ReflectliteType.implements_ #[.agg #[.pointer (some ⟨8, 134, none⟩)], .iface 169 (.agg #[.pointer (some ⟨8, 32, none⟩)])]).run Tryd.prog w = .ok (.bool true) w := by kernel_rfl
theorem assignableE (w : World) : (ReflectliteType.relation "AssignableTo" ReflectliteType.assignableTo #[.agg #[.pointer (some ⟨8, 189, none⟩)], .iface 169 (.agg #[.pointer (some ⟨8, 134, none⟩)])]).run Tryd.prog w = .ok (.bool false) w := by kernel_rfl
theorem noAsE (v : Value) (xT : TypeId) (w : World) : (Instr.typeAssert (.iface 189 v) xT 173 true).run Tryd.prog w = .ok (.tuple #[.nilIface, .bool false]) w := run_typeAssert_lacksB Tryd.underlying173 (by kernel_rfl) (by kernel_rfl) v xT w

/-- What errors.errorType holds. -/
abbrev GEType (w : World) : Prop := w.cell? ⟨7, 0, none⟩ = some (.iface 169 (.agg #[.pointer (some ⟨8, 32, none⟩)]))

set_option maxRecDepth 100000 in
set_option maxHeartbeats 4000000 in
theorem as_miss (a t : Addr) (w : World) (hg : GEType w) :
    Calls Tryd.prog 96 #[errV a, .iface 136 (.pointer (some t))] w fun ev w' => ev = .returned (.bool false) ∧ Ext w w' := by
  have h6 := @run_callFunc_extern Tryd.prog 103 _ (fun args => ReflectliteValue.unpack (args.getD 0 (.tuple #[]))) Tryd.func103 (by kernel_rfl) (by kernel_rfl) (by kernel_rfl) (by kernel_rfl)
  have h7 := @run_callFunc_extern Tryd.prog 104 _ (ReflectliteValue.methodAny (ReflectliteValue.valueError "reflectlite.Value.Type" 0) (fun t _ _ _ => ReflectliteType.toType t)) Tryd.func104 (by kernel_rfl) (by kernel_rfl) (by kernel_rfl) (by kernel_rfl)
  have h8 := @run_callFunc_extern Tryd.prog 105 _ (ReflectliteValue.method (ReflectliteValue.valueError "reflectlite.Value.IsNil" 0) ReflectliteValue.isNil) Tryd.func105 (by kernel_rfl) (by kernel_rfl) (by kernel_rfl) (by kernel_rfl)
  have h27 := @run_callFunc_extern Tryd.prog 141 _ (ReflectliteType.abiMethod fun t => do pure (.int .u8 (← Rtype.kind t))) Tryd.func141 (by kernel_rfl) (by kernel_rfl) (by kernel_rfl) (by kernel_rfl)
  have h37 := @run_callFunc_extern Tryd.prog 152 _ (ReflectliteType.method ReflectliteType.elem) Tryd.func152 (by kernel_rfl) (by kernel_rfl) (by kernel_rfl) (by kernel_rfl)
  have h38 := @run_callFunc_extern Tryd.prog 153 _ (ReflectliteType.relation "Implements" ReflectliteType.implements_) Tryd.func153 (by kernel_rfl) (by kernel_rfl) (by kernel_rfl) (by kernel_rfl)
  have h10 := @run_callFunc_extern Tryd.prog 107 _ ReflectliteType.typeOf Tryd.func107 (by kernel_rfl) (by kernel_rfl) (by kernel_rfl) (by kernel_rfl)
  have h35 := @run_callFunc_extern Tryd.prog 150 _ (ReflectliteType.relation "AssignableTo" ReflectliteType.assignableTo) Tryd.func150 (by kernel_rfl) (by kernel_rfl) (by kernel_rfl) (by kernel_rfl)
  have tO := isTypeOf
  have mA := methodAssignableTo
  have aE := assignableE
  have f6 := valueOfFF
  have f7 := typeFF
  have mK := methodKind
  have mE := methodElem
  have mI := methodImplements
  have k27 := kindFF
  have k25 := kindF
  have e27 := elemFF
  have i25 := implementsF
  have nA := noAsE
  have uE := noUnwrapE
  have vE := noUnwrapsE
  have n8 := isNilFF ⟨w.heap.size, 0, none⟩ t ((w.alloc (.cells #[.pointer (some t)] 136)).alloc (.cells #[.pointer (some ⟨8, 136, none⟩), .pointer (some ⟨w.heap.size, 0, none⟩), .int .u64 150] 147)) (by simp)
  have hlt := cell_lt hg
  simp only at hlt
  go_enter Tryd.func96, Tryd.ntmps96
  go_wp2
  refine wp_loop_rounds 1 ?_
  rw [rounds_succ]
  go_wp2
  go_ret
  refine ⟨rfl, ?_⟩
  repeat (first | exact Ext.refl _ | refine Ext.alloc_ ?_ _)
end Go.Proofs.YtecbbbaafcoliaaDoor
/- plain.Code over nil and over the seven package-level errors: their numbers. -/
namespace Go.Proofs.YtecbbbaafcoliaaDoor
open Go.RowKit
set_option linter.unusedVariables false
set_option linter.unusedSimpArgs false

/-- The seven package-level errors: their places; each is another one. -/
structure ErrEnv (E : Nat → Addr) (w : World) : Prop where
  text : w.cell? ⟨4, 0, none⟩ = some (errV (E 0))
  bound : w.cell? ⟨0, 0, none⟩ = some (errV (E 1))
  shape : w.cell? ⟨1, 0, none⟩ = some (errV (E 2))
  name : w.cell? ⟨5, 0, none⟩ = some (errV (E 3))
  place : w.cell? ⟨3, 0, none⟩ = some (errV (E 4))
  full : w.cell? ⟨2, 0, none⟩ = some (errV (E 5))
  nothing : w.cell? ⟨6, 0, none⟩ = some (errV (E 6))
  etype : GEType w
  blk : ∀ i, i < 7 → ∃ c t, w.heap[(E i).block]? = some (.cells c t (0, 0))
  ne : ∀ i j, i < 7 → j < 7 → i ≠ j → E i ≠ E j

theorem ErrEnv.g4 {E : Nat → Addr} {w : World} (h : ErrEnv E w) : G4 E w := ⟨⟨h.bound, h.shape, h.place⟩, h.full⟩
theorem ErrEnv.g3 {E : Nat → Addr} {w : World} (h : ErrEnv E w) : G3 E w := h.g4.toG3
theorem block_lt {w : World} {b : Nat} {o : Obj} (h : w.heap[b]? = some o) : b < w.heap.size := by
  rcases Nat.lt_or_ge b w.heap.size with g | g
  · exact g
  · simp [Array.getElem?_eq_none g] at h
theorem Ext.block_ {w w' : World} (h : Ext w w') {b : Nat} {o : Obj} (hb : w.heap[b]? = some o) : w'.heap[b]? = some o := by
  rw [Below.block h b (block_lt hb)]; exact hb
theorem ErrEnv.ext {E : Nat → Addr} {w w' : World} (h : ErrEnv E w) (hx : Ext w w') : ErrEnv E w' :=
  ⟨hx.cell_ h.text, hx.cell_ h.bound, hx.cell_ h.shape, hx.cell_ h.name, hx.cell_ h.place, hx.cell_ h.full, hx.cell_ h.nothing, hx.cell_ h.etype,
    fun i hi => let ⟨c, t, hc⟩ := h.blk i hi; ⟨c, t, hx.block_ hc⟩, h.ne⟩

theorem is_env {E : Nat → Addr} {w : World} (h : ErrEnv E w) (i j : Nat) (hi : i < 7) (hj : j < 7) :
    Calls Tryd.prog 97 #[errV (E i), errV (E j)] w fun e w' => e = .returned (.bool (decide (i = j))) ∧ w' = w := by
  by_cases hij : i = j
  · subst hij; simp only [decide_true]; exact is_same _ w
  · simp only [hij, decide_false]
    obtain ⟨c, t, hc⟩ := h.blk i hi
    obtain ⟨c', t', hc'⟩ := h.blk j hj
    exact is_other _ _ _ _ _ _ w (h.ne i j hi hj hij) hc hc'

theorem code_nil (w : World) : Calls Tryd.prog 75 #[.nilIface] w fun e w' => e = .returned (.tuple #[.int .i64 0, .int .i64 (-1)]) ∧ w' = w := by
  go_enter Tryd.func75, Tryd.ntmps75
  go_wp2_with fail
  go_ret2
  exact ⟨rfl, rfl⟩

set_option maxRecDepth 100000 in
set_option maxHeartbeats 4000000 in
theorem code_env {E : Nat → Addr} {w : World} (h : ErrEnv E w) (k : Nat) (hk : k < 7) :
    Calls Tryd.prog 75 #[errV (E k)] w fun e w' => e = .returned (.tuple #[.int .i64 (k + 1), .int .i64 (-1)]) ∧ Ext w w' := by
  have l0 := cell_lt h.text
  have l1 := cell_lt h.bound
  have l2 := cell_lt h.shape
  have l3 := cell_lt h.name
  have l4 := cell_lt h.place
  have l5 := cell_lt h.full
  have l6 := cell_lt h.nothing
  simp only at l0 l1 l2 l3 l4 l5 l6
  have H := Lib.hid h
  clear h
  go_enter Tryd.func75, Tryd.ntmps75
  go_wp2_with (first
    | (go_at_call 96; refine (as_miss _ _ _ (((Ext.refl w).alloc_ _).cell_ H.out.etype)).mono ?_; rintro e w1 ⟨rfl, hb⟩; have h1 := H.out.ext (((Ext.refl w).alloc_ _).trans_ hb); have hz : w.heap.size < w1.heap.size := (by have := hb.size; simp only [World.size_alloc] at this; omega); have c0 := h1.text; have c1 := h1.bound; have c2 := h1.shape; have c3 := h1.name; have c4 := h1.place; have c5 := h1.full; have c6 := h1.nothing))
  have hx : Ext w (w1.alloc (.cells #[errV (E 0), errV (E 1), errV (E 2), errV (E 3), errV (E 4), errV (E 5), errV (E 6)] 32)) := (((Ext.refl w).alloc_ _).trans_ hb).alloc_ _
  have h2 := Lib.hid (h1.ext ((Ext.refl w1).alloc_ (.cells #[errV (E 0), errV (E 1), errV (E 2), errV (E 3), errV (E 4), errV (E 5), errV (E 6)] 32)))
  have hcell : ∀ j, j < 7 → (w1.alloc (.cells #[errV (E 0), errV (E 1), errV (E 2), errV (E 3), errV (E 4), errV (E 5), errV (E 6)] 32)).cell? ⟨w1.heap.size, j, none⟩ = some (errV (E j)) := by
    intro j hj
    rw [World.cell?_alloc_new]
    match j, hj with
    | 0, _ => rfl
    | 1, _ => rfl
    | 2, _ => rfl
    | 3, _ => rfl
    | 4, _ => rfl
    | 5, _ => rfl
    | 6, _ => rfl
  clear h1 hb hz c0 c1 c2 c3 c4 c5 c6 l0 l1 l2 l3 l4 l5 l6
  generalize w1.heap.size = nb at *
  generalize (w1.alloc (.cells #[errV (E 0), errV (E 1), errV (E 2), errV (E 3), errV (E 4), errV (E 5), errV (E 6)] 32)) = W at *
  have HC := Lib.hid hcell
  clear hcell
  go_loop [3, 25] (fun c i => ∃ j : Nat, j ≤ k ∧ c = .int .i64 (-1) ∧ i = .int .i64 j) (fun _ i => 7 - (intOf i).toNat)
  case atStart => exact ⟨0, Nat.zero_le _, rfl, rfl⟩
  case round =>
    obtain ⟨j, hj, rfl, rfl⟩ := hrel
    have hc := HC.out j (by omega)
    by_cases hjk : k = j
    · subst hjk
      go_wp2_with (first
        | (go_at_call 97; refine (is_same _ _).mono ?_; rintro e w' ⟨rfl, rfl⟩))
      go_ret2
      exact ⟨rfl, hx⟩
    · have hd : j < k := by omega
      obtain ⟨ca, ta, ha⟩ := h2.out.blk k hk
      obtain ⟨cb, tb, hb⟩ := h2.out.blk j (by omega)
      have hne := h2.out.ne k j hk (by omega) hjk
      have Ha := Lib.hid ha
      have Hb := Lib.hid hb
      clear ha hb
      go_wp2_with (first
        | (go_at_call 97; refine (is_other _ _ _ _ _ _ _ hne Ha.out Hb.out).mono ?_; rintro e w' ⟨rfl, rfl⟩))
      go_round
      case rel => exact ⟨j + 1, by omega, rfl, by go_num⟩
      case measure => simp [intOf]; omega

theorem coded_nil (c : Int) (w : World) : Calls Tryd.prog 30 #[.nilIface, .int .i64 c] w fun e w' => e = .returned (.bool (0 == c)) ∧ w' = w := by
  rcases hc : (0 == c) with _ | _
  all_goals
    go_enter Tryd.func30, Tryd.ntmps30
    go_wp2_with (go_at_call 75; refine (code_nil _).mono ?_; rintro e w' ⟨rfl, rfl⟩)
    go_ret
    exact ⟨rfl, rfl⟩
theorem coded_env {E : Nat → Addr} {w : World} (h : ErrEnv E w) (k : Nat) (hk : k < 7) (c : Int) :
    Calls Tryd.prog 30 #[errV (E k), .int .i64 c] w fun e w' => e = .returned (.bool ((k + 1 : Int) == c)) ∧ Ext w w' := by
  have H := Lib.hid h
  clear h
  rcases hc : ((k + 1 : Int) == c) with _ | _
  all_goals
    go_enter Tryd.func30, Tryd.ntmps30
    go_wp2_with (go_at_call 75; refine (code_env H.out k hk).mono ?_; rintro e w' ⟨rfl, hb⟩)
    go_ret
    exact ⟨rfl, hb⟩
end Go.Proofs.YtecbbbaafcoliaaDoor
/- The walks of the document's answer for words: those that only some statements reach. -/
namespace Go.Proofs.YtecbbbaafcoliaaDoor
open Go.RowKit
set_option linter.unusedVariables false
set_option linter.unusedSimpArgs false

theorem intK_bits (a : Int) : IntKind.u64.wrap (IntKind.u64.wrap (IntKind.u64.wrap a * 4) + 1) = intW a := by
  rw [IntKind.wrap_u64, IntKind.wrap_u64, IntKind.wrap_u64]; unfold intW; omega
theorem kAddrWord_any (a : Int) (w : World) :
    Calls Tryd.prog 21 #[.int .i64 a] w fun e w' => e = .returned (.int .u64 (addrW a)) ∧ w' = w := by
  rw [← addr_bits]
  go_enter Tryd.func21, Tryd.ntmps21
  go_wp2
  go_ret
  exact ⟨rfl, rfl⟩
theorem kHeadWord_any (k a m s : Int) (hk : 0 ≤ k ∧ k ≤ 255) (ha : 0 ≤ a ∧ a ≤ 15) (hm : 0 ≤ m ∧ m ≤ 1) (hs : 0 ≤ s ∧ s ≤ 4096) (w : World) :
    Calls Tryd.prog 32 #[.int .i64 k, .int .i64 a, .int .i64 m, .int .i64 s] w fun e w' => e = .returned (.int .u64 (headW k a m s)) ∧ w' = w := by
  obtain ⟨hk0, hk1⟩ := hk
  obtain ⟨ha0, ha1⟩ := ha
  obtain ⟨hm0, hm1⟩ := hm
  obtain ⟨hs0, hs1⟩ := hs
  go_enter Tryd.func32, Tryd.ntmps32
  go_wp2
  go_ret
  exact ⟨rfl, rfl⟩
end Go.Proofs.YtecbbbaafcoliaaDoor
