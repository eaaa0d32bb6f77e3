/- Maps whose keys are of an integer kind, as lists of pairs in the order in which the keys came: what a look-up and a store do. Over any program. -/
import Derived.Test.YtpbfhkkecbnieaaDoorBase
import Derived.Maps.OwnOps
import Derived.MapKept
namespace Go.Proofs.YtpbfhkkecbnieaaDoor
open Go.RowKit
set_option linter.unusedVariables false
set_option linter.unusedSimpArgs false

/-- What a key bears. -/
def mget (es : List (Int × Value)) (k : Int) : Option Value := (es.find? fun p => k == p.1).map (·.2)
/-- A key gets a value: in its place, or at the end. -/
def mput : List (Int × Value) → Int → Value → List (Int × Value)
  | [], k, v => [(k, v)]
  | (a, u) :: es, k, v => if k == a then (a, v) :: es else (a, u) :: mput es k v

theorem mget_nil (k : Int) : mget [] k = none := rfl
theorem mget_mput_same (es : List (Int × Value)) (k : Int) (v : Value) : mget (mput es k v) k = some v := by
  induction es with
  | nil => simp [mput, mget]
  | cons p es ih =>
    obtain ⟨a, u⟩ := p
    simp only [mput]
    by_cases h : k = a
    · subst h; simp [mget]
    · have hb : (k == a) = false := by simpa using h
      rw [hb]
      simp only [Bool.false_eq_true, if_false]
      have : mget ((a, u) :: mput es k v) k = mget (mput es k v) k := by simp [mget, List.find?_cons, hb]
      rw [this, ih]
theorem mget_mput_other (es : List (Int × Value)) (k j : Int) (v : Value) (hj : j ≠ k) : mget (mput es k v) j = mget es j := by
  induction es with
  | nil => simp [mput, mget, hj]
  | cons p es ih =>
    obtain ⟨a, u⟩ := p
    simp only [mput]
    by_cases h : k = a
    · subst h
      have hb : (j == k) = false := by simpa using hj
      simp [mget, List.find?_cons, hb]
    · have hb : (k == a) = false := by simpa using h
      rw [hb]
      simp only [Bool.false_eq_true, if_false]
      unfold mget at ih ⊢
      simp only [List.find?_cons]
      rcases hja : (j == a) with _ | _
      · simpa using ih
      · rfl

/-- Block b is a map that bears these pairs. -/
def MapI (w : World) (b : Nat) (q : IntKind) (es : List (Int × Value)) : Prop :=
  ∃ ents clock, w.heap[b]? = some (.map ents clock) ∧ ents.toList.map (fun e => (e.key, e.val)) = es.map (fun p => (Value.int q p.1, p.2))

theorem MapI.lt {w : World} {b : Nat} {q : IntKind} {es : List (Int × Value)} (h : MapI w b q es) : b < w.heap.size := by
  obtain ⟨ents, clock, hb, _⟩ := h
  rcases Nat.lt_or_ge b w.heap.size with g | g
  · exact g
  · simp [Array.getElem?_eq_none g] at hb
theorem MapI.of_block {w w' : World} {b : Nat} {q : IntKind} {es : List (Int × Value)} (h : MapI w b q es) (he : w'.heap[b]? = w.heap[b]?) : MapI w' b q es := by
  obtain ⟨ents, clock, hb, hm⟩ := h
  exact ⟨ents, clock, he.trans hb, hm⟩
theorem MapI.ext {w w' : World} {b : Nat} {q : IntKind} {es : List (Int × Value)} (h : MapI w b q es) (hx : Ext w w') : MapI w' b q es :=
  h.of_block (Below.block hx b h.lt)
theorem MapI.alloc {w : World} {b : Nat} {q : IntKind} {es : List (Int × Value)} (h : MapI w b q es) (o : Obj) : MapI (w.alloc o) b q es := h.ext ((Ext.refl w).alloc_ o)
theorem MapI.setCell {w : World} {b : Nat} {q : IntKind} {es : List (Int × Value)} (h : MapI w b q es) (p : Addr) (u : Value) : MapI (w.setCell p u) b q es := by
  obtain ⟨ents, clock, hb, hm⟩ := h
  refine ⟨ents, clock, ?_, hm⟩
  simp only [World.setCell, Array.getElem?_modify]
  split
  · rename_i e; subst e; simp [hb]
  · exact hb
theorem MapI.drewN {w : World} {b : Nat} {q : IntKind} {es : List (Int × Value)} (h : MapI w b q es) (n : Nat) : MapI (w.drewN n) b q es := h
theorem MapI.drew {w : World} {b : Nat} {q : IntKind} {es : List (Int × Value)} (h : MapI w b q es) : MapI w.drew b q es := h
theorem MapI.made (w : World) (q : IntKind) : MapI (w.alloc (.map #[] 0)) w.heap.size q [] :=
  ⟨#[], 0, (MapKept.heap_alloc w _).1, rfl⟩

section
variable {P : Program} {w : World}

theorem findNow_int (q : IntKind) (k : Int) : ∀ (l : List MapEntry) (es : List (Int × Value)) (i : Nat), l.map (fun e => (e.key, e.val)) = es.map (fun p => (Value.int q p.1, p.2)) →
    (∃ j v, Instr.findNow (.int q) (.int q k) l i = some (some (i + j, v)) ∧ mget es k = some v ∧ (l.modify j fun e => { e with val := (default : Value) }).length = l.length ∧ j < l.length ∧
      ∀ u kk, kk = Value.int q k → (l.modify j fun e => { e with key := kk, val := u }).map (fun e => (e.key, e.val)) = (mput es k u).map (fun p => (Value.int q p.1, p.2)) ∧ (l[j]?.map (·.key)) = some (Value.int q k)) ∨
    (Instr.findNow (.int q) (.int q k) l i = some none ∧ mget es k = none ∧ ∀ u, mput es k u = es ++ [(k, u)]) := by
  intro l
  induction l with
  | nil =>
    intro es i h
    obtain rfl : es = [] := by simpa using h.symm
    exact Or.inr ⟨rfl, rfl, fun u => rfl⟩
  | cons e l ih =>
    intro es i h
    match es, h with
    | [], h => simp at h
    | (a, u0) :: es, h =>
      simp only [List.map_cons, List.cons.injEq, Prod.mk.injEq] at h
      obtain ⟨⟨hk, hv⟩, ht⟩ := h
      by_cases ha : k = a
      · subst ha
        refine Or.inl ⟨0, e.val, ?_, ?_, ?_, by simp, ?_⟩
        · simp [Instr.findNow, hk, Instr.sameNow]
        · simp [mget, hv]
        · simp
        · intro u kk hkk
          refine ⟨?_, by simp [hk]⟩
          simp [mput, hkk, ht]
      · have hb : (k == a) = false := by simpa using ha
        have hs : Instr.sameNow (.int q) (.int q k) e.key = some false := by rw [hk]; simp [Instr.sameNow, ha]
        have hf : ∀ i, Instr.findNow (.int q) (.int q k) (e :: l) i = Instr.findNow (.int q) (.int q k) l (i + 1) := by
          intro i; simp only [Instr.findNow, hs]
        have hg : mget ((a, u0) :: es) k = mget es k := by simp [mget, List.find?_cons, hb]
        rcases ih es (i + 1) ht with ⟨j, v, h1, h2, _, h4, h5⟩ | ⟨h1, h2, h3⟩
        · refine Or.inl ⟨j + 1, v, by rw [hf, h1]; simp; omega, by rw [hg, h2], by simp, by simp; omega, ?_⟩
          intro u kk hkk
          have := h5 u kk hkk
          refine ⟨?_, by simpa using this.2⟩
          simp only [List.modify_succ_cons, List.map_cons, mput, hb, Bool.false_eq_true, if_false, hk, hv, this.1]
        · exact Or.inr ⟨by rw [hf, h1], by rw [hg, h2], fun u => by simp [mput, hb, h3 u]⟩

theorem checkKey_int {k : TypeId} {q : IntKind} (hk : P.underlying k = some (.int q)) (em : Bool) (v : Value) (w : World) : (Instr.checkKey em 10000 k v).run P w = .ok () w := by
  show (Instr.checkKey em (9999 + 1) k v).run P w = .ok () w
  unfold Instr.checkKey
  simp only [Sem.run_bind, run_underlying hk, Result.andThen]
  rfl

/-- A look-up: the world does not turn. -/
theorem run_lookup_mapi {t k e : TypeId} {q : IntKind} (ht : P.underlying t = some (.map k e)) (hk : P.underlying k = some (.int q)) {z : Value} (hz : (zeroValue e).run P w = .ok z w)
    {b : Nat} {es : List (Int × Value)} (hm : MapI w b q es) (x : Int) (c : Bool) :
    (Instr.lookup t (.map (some b)) (.int q x) c).run P w = .ok (if c then .tuple #[(mget es x).getD z, .bool (mget es x).isSome] else (mget es x).getD z) w := by
  obtain ⟨ents, clock, hb, hl⟩ := hm
  rcases findNow_int q x ents.toList es 0 hl with ⟨j, v, h1, h2, _⟩ | ⟨h1, h2, _⟩
  · simp [Instr.lookup, run_underlying ht, MapKept.run_getObj_map hb, checkKey_int hk, Instr.findKey, run_underlying hk, h1, h2, Result.andThen]
  · simp [Instr.lookup, run_underlying ht, MapKept.run_getObj_map hb, checkKey_int hk, Instr.findKey, run_underlying hk, h1, h2, hz, Result.andThen]

/-- The world but for one block. -/
structure But (b : Nat) (w w' : World) : Prop where
  os : w'.os = w.os
  tape : w'.tape = w.tape
  output : w'.output = w.output
  size : w'.heap.size = w.heap.size
  block : ∀ k, k ≠ b → w'.heap[k]? = w.heap[k]?

/-- A store. -/
theorem run_update_mapi {t k e : TypeId} {q : IntKind} (ht : P.underlying t = some (.map k e)) (hk : P.underlying k = some (.int q))
    {b : Nat} {es : List (Int × Value)} (hm : MapI w b q es) (x : Int) (v : Value) :
    ∃ w', (Instr.mapUpdate t (.map (some b)) (.int q x) v).run P w = .ok () w' ∧ MapI w' b q (mput es x v) ∧ But b w w' := by
  obtain ⟨ents, clock, hb, hl⟩ := hm
  have hlt : b < w.heap.size := (show MapI w b q es from ⟨ents, clock, hb, hl⟩).lt
  rcases findNow_int q x ents.toList es 0 hl with ⟨j, v0, h1, h2, _, h4, h5⟩ | ⟨h1, h2, h3⟩
  · obtain ⟨h6, h7⟩ := h5 v (.int q x) rfl
    have hj : (ents[j]?).map (·.key) = some (Value.int q x) := by simpa using h7
    have hst : (Instr.keyThatStays (((ents[j]?).map (·.key)).getD (.int q x)) (.int q x)).run P w = .ok (.int q x) w := by
      rw [hj]; simp [Instr.keyThatStays, Instr.sameBits]
    refine ⟨{ w with heap := w.heap.setIfInBounds b (.map (ents.modify j fun e => { e with key := .int q x, val := v }) clock) }, ?_, ?_, ?_⟩
    · simp [Instr.mapUpdate, run_underlying ht, MapKept.run_getObj_map hb, checkKey_int hk, Instr.findKey, run_underlying hk, h1, hst, MapKept.run_setObj_map _ hb, Result.andThen]
    · refine ⟨ents.modify j fun e => { e with key := .int q x, val := v }, clock, by simp [Array.getElem?_setIfInBounds, hlt], ?_⟩
      simpa using h6
    · refine ⟨rfl, rfl, rfl, by simp, fun i hi => ?_⟩
      simp only [Array.getElem?_setIfInBounds]; rw [if_neg (fun e => hi e.symm)]
  · refine ⟨{ w with heap := w.heap.setIfInBounds b (.map (ents.push { key := .int q x, val := v, born := clock }) (clock + 1)) }, ?_, ?_, ?_⟩
    · simp [Instr.mapUpdate, run_underlying ht, MapKept.run_getObj_map hb, checkKey_int hk, Instr.findKey, run_underlying hk, h1, MapKept.run_setObj_map _ hb, Result.andThen]
    · refine ⟨ents.push { key := .int q x, val := v, born := clock }, clock + 1, by simp [Array.getElem?_setIfInBounds, hlt], ?_⟩
      simp [h3 v, hl]
    · refine ⟨rfl, rfl, rfl, by simp, fun i hi => ?_⟩
      simp only [Array.getElem?_setIfInBounds]; rw [if_neg (fun e => hi e.symm)]
end
end Go.Proofs.YtpbfhkkecbnieaaDoor
