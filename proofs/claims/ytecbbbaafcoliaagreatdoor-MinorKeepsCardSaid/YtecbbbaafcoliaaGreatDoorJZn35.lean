/- A memory among the arguments: what its reading tells of the world. -/
import Derived.Test.YtecbbbaafcoliaaGreatDoorJZn08
import Derived.ProofKit
import Derived.Deep.Fields
import Derived.Deep.SlicePairs
import Derived.OpenShut
import Derived.Test.YtecbbbaafcoliaaGreatDoorCards
import Derived.Test.YtecbbbaafcoliaaGreatDoorTie
import Derived.Test.YtecbbbaafcoliaaGreatDoorJZn01
import Derived.LaidLaws
import Derived.LaidSub
import Derived.LaidMore
import Derived.Deep.DeepHandedRow
import Derived.Deep.DeepWitnessRowRef
namespace Go.Proofs.YtecbbbaafcoliaaGreatDoor
open Go.ChangeShapes Go.WideShapes Go.RowKit Go.Deep
set_option linter.unusedVariables false
set_option linter.unusedSimpArgs false

section
variable {H : Type} {enc : TypeId × Value → H} {w : World} {base : Nat} {spare : Nat → Bool} {held : Bool}

theorem rsl_of (a : Addr) (cs : List Value) (h : ∀ i v, cs[i]? = some v → w.cell? (a.add i) = some v) : RSl w (some a) cs := fun j u hu => by
  obtain ⟨b, off, spot⟩ := a
  obtain ⟨hj, _⟩ := List.getElem?_eq_some_iff.1 hu
  have h0 := h 0 (cs[0]'(by omega)) (by simp)
  have hs : spot = none := by simpa [Addr.add] using World.cell?_spot h0
  subst hs
  have hj0 := h j u hu
  refine ⟨b, off, rfl, ?_⟩
  by_cases e : j = 0
  · subst e; simpa [Addr.add] using hj0
  · simpa [Addr.add, e] using hj0
theorem read_u64s {fuel : Nat} {v : Value} {x : DataW H × List MemPlace} (h : DataW.trod enc Tryz.prog w base spare held fuel 26 [v] = some x) :
    ∃ a c l, v = .slice a l.length c ∧ RSl w a (wcells l) ∧ l.length ≤ c ∧ (a = none → c = 0) ∧ c ≤ 9223372036854775807 ∧ ∀ z ∈ l, 0 ≤ z ∧ z ≤ 18446744073709551615 := by
  rcases open_ints (e := 51) (k := .u64) (by kernel_rfl) (by kernel_rfl) (by kernel_rfl) h with ⟨hcs, _⟩ | ⟨a, len, cap, zs, hcs, _, hl, hm, hz, _, hcell, hwf⟩
  · obtain rfl := List.singleton_inj.1 hcs
    exact ⟨none, 0, [], rfl, RSl.nil _ _, Nat.le_refl _, fun _ => rfl, by omega, by simp⟩
  · obtain rfl := List.singleton_inj.1 hcs
    have hle : len ≤ zs.length := by rw [hz]; split <;> omega
    have hln : (zs.take len).length = len := by simp; omega
    refine ⟨some a, cap, zs.take len, by rw [hln], rsl_of a _ fun i v hi => ?_, by rw [hln]; exact hl, (fun e => by cases e), by unfold maxLen at hm; omega, fun z hz' => ?_⟩
    · obtain ⟨hi', hv⟩ := List.getElem?_eq_some_iff.1 hi
      simp only [wcells, List.length_map, hln] at hi'
      rw [hcell i (by omega), ← hv]
      simp [wcells, List.getD_eq_getElem?_getD, show i < zs.length by omega]
    · exact wf_u64 (hwf z (List.mem_of_mem_take hz'))
theorem read_bools {fuel : Nat} {v : Value} {x : DataW H × List MemPlace} (h : DataW.trod enc Tryz.prog w base spare held fuel 28 [v] = some x) :
    ∃ a c l, v = .slice a l.length c ∧ RSl w a (bcells l) ∧ l.length ≤ c ∧ (a = none → c = 0) ∧ c ≤ 9223372036854775807 := by
  rcases open_slice1 (e := 4) (by kernel_rfl) (by kernel_rfl) h with ⟨hcs, _⟩ | ⟨a, len, cap, m, n, V, D, Pl, hcs, _, hl, hm, hmm, _, hx⟩
  · obtain rfl := List.singleton_inj.1 hcs
    exact ⟨none, 0, [], rfl, RSl.nil _ _, Nat.le_refl _, fun _ => rfl, by omega⟩
  · obtain rfl := List.singleton_inj.1 hcs
    have hle : len ≤ m := by rw [hmm]; split <;> omega
    have hb : ∀ i, i < m → ∃ q : Bool, V i = .bool q := fun i hi => by
      obtain ⟨q, hq, _⟩ := DataW.trod_bool (by kernel_rfl) (hx i hi).2
      exact ⟨q, List.singleton_inj.1 hq⟩
    obtain ⟨B, hB⟩ := choose_lt (α := Bool) (p := fun i q => V i = .bool q) hb
    have hln : ((List.range len).map B).length = len := by simp
    refine ⟨some a, cap, (List.range len).map B, by rw [hln], rsl_of a _ fun i v hi => ?_, by rw [hln]; exact hl, (fun e => by cases e), by unfold maxLen at hm; omega⟩
    obtain ⟨hi', hv⟩ := List.getElem?_eq_some_iff.1 hi
    simp only [bcells, List.length_map, List.length_range] at hi'
    rw [(hx i (by omega)).1, hB i (by omega), ← hv]
    simp [bcells]
theorem rsl_ids (a : Addr) (l : List (Int × Int)) (h : ∀ (i : Nat) (hi : i < l.length), w.cell? (a.add (i * 2)) = some (.int .u64 l[i].1) ∧ w.cell? (a.add (i * 2 + 1)) = some (.int .i64 l[i].2)) : RSl w (some a) (icells l) :=
  rsl_of a _ fun i v hv => by
    obtain ⟨hi, _⟩ := List.getElem?_eq_some_iff.1 hv
    rw [icells_len] at hi
    obtain ⟨h1, h2⟩ := icells_at l (i / 2) (by omega)
    obtain ⟨h3, h4⟩ := h (i / 2) (by omega)
    rcases Nat.mod_two_eq_zero_or_one i with e | e
    · have e2 : i / 2 * 2 = i := by omega
      rw [e2] at h1 h3
      rw [hv] at h1; rw [h3, h1]
    · have e2 : i / 2 * 2 + 1 = i := by omega
      rw [e2] at h2 h4
      rw [hv] at h2; rw [h4, h2]
theorem read_ids {fuel : Nat} {v : Value} {x : DataW H × List MemPlace} (h : DataW.trod enc Tryz.prog w base spare held fuel 27 [v] = some x) :
    ∃ a c l, v = .slice a l.length c ∧ RSl w a (icells l) ∧ l.length ≤ c ∧ (a = none → c = 0) ∧ c ≤ 9223372036854775807 ∧ ∀ z ∈ l, (0 ≤ z.1 ∧ z.1 ≤ 18446744073709551615) ∧ (-9223372036854775808 ≤ z.2 ∧ z.2 ≤ 9223372036854775807) := by
  rcases open_slice_pairs (e := 65) (by kernel_rfl) (Tryz.underlying65) (by kernel_rfl) rfl rfl (by kernel_rfl) (by kernel_rfl) h with ⟨hcs, _⟩ | ⟨a, len, cap, m, n, V0, V1, D0, D1, P0, P1, hcs, _, hl, hm, hmm, _, hx⟩
  · obtain rfl := List.singleton_inj.1 hcs
    exact ⟨none, 0, [], rfl, RSl.nil _ _, Nat.le_refl _, fun _ => rfl, by omega, by simp⟩
  · obtain rfl := List.singleton_inj.1 hcs
    have hle : len ≤ m := by rw [hmm]; split <;> omega
    have hb : ∀ i, i < m → ∃ q : Int × Int, (V0 i = .int .u64 q.1 ∧ V1 i = .int .i64 q.2) ∧ (0 ≤ q.1 ∧ q.1 ≤ 18446744073709551615) ∧ (-9223372036854775808 ≤ q.2 ∧ q.2 ≤ 9223372036854775807) := fun i hi => by
      obtain ⟨_, _, h3, h4⟩ := hx i hi
      obtain ⟨q0, e0, _, w0⟩ := DataW.trod_int (k := .u64) (by kernel_rfl) h3
      obtain ⟨q1, e1, _, w1⟩ := DataW.trod_int (k := .i64) (by kernel_rfl) h4
      exact ⟨(q0, q1), ⟨List.singleton_inj.1 e0, List.singleton_inj.1 e1⟩, wf_u64 w0, wf_i64 w1⟩
    obtain ⟨B, hB⟩ := choose_lt (p := fun i (q : Int × Int) => (V0 i = .int .u64 q.1 ∧ V1 i = .int .i64 q.2) ∧ (0 ≤ q.1 ∧ q.1 ≤ 18446744073709551615) ∧ (-9223372036854775808 ≤ q.2 ∧ q.2 ≤ 9223372036854775807)) hb
    have hln : ((List.range len).map B).length = len := by simp
    refine ⟨some a, cap, (List.range len).map B, by rw [hln], rsl_ids a _ fun i hi => ?_, by rw [hln]; exact hl, (fun e => by cases e), by unfold maxLen at hm; omega, fun z hz => ?_⟩
    · simp only [List.length_map, List.length_range] at hi
      obtain ⟨g1, g2, _, _⟩ := hx i (by omega)
      obtain ⟨⟨g3, g4⟩, _⟩ := hB i (by omega)
      rw [g1, g2, g3, g4]
      simp
    · obtain ⟨i, hi, rfl⟩ := List.mem_map.1 hz
      exact (hB i (by have := List.mem_range.1 hi; omega)).2
/-- THE ARGUMENT: nil, or a memory that lies there. -/
theorem read_mem {fuel : Nat} {cs : List Value} {x : DataW H × List MemPlace} (h : DataW.trod enc Tryz.prog w base spare held fuel 22 cs = some x) :
    cs = [.pointer none] ∨ ∃ b o M S, cs = [.pointer (some ⟨b, o, none⟩)] ∧ RMem w b o M S := by
  rcases open_ptr_fields (tp := 22) (ts := 30) (by kernel_rfl) (Tryz.underlying30) (hone_of (by kernel_rfl)) (by kernel_rfl) (by decide) h with ⟨h0, _⟩ | ⟨b, o, n, V, Y, rfl, hb, rfl, hf⟩
  · exact Or.inl h0
  right
  obtain ⟨k0, t0⟩ := hf 0 _ rfl
  obtain ⟨k1, t1⟩ := hf 1 _ rfl
  obtain ⟨k2, t2⟩ := hf 2 _ rfl
  obtain ⟨k3, t3⟩ := hf 3 _ rfl
  obtain ⟨k4, t4⟩ := hf 4 _ rfl
  obtain ⟨k5, t5⟩ := hf 5 _ rfl
  obtain ⟨k6, t6⟩ := hf 6 _ rfl
  obtain ⟨k7, t7⟩ := hf 7 _ rfl
  obtain ⟨k8, t8⟩ := hf 8 _ rfl
  obtain ⟨k9, t9⟩ := hf 9 _ rfl
  obtain ⟨k10, t10⟩ := hf 10 _ rfl
  obtain ⟨half, e0, _, w0⟩ := DataW.trod_int (k := .i64) (by kernel_rfl) t0
  obtain ⟨old, e1, _, w1⟩ := DataW.trod_int (k := .i64) (by kernel_rfl) t1
  obtain ⟨card, e2, _, w2⟩ := DataW.trod_int (k := .i64) (by kernel_rfl) t2
  obtain ⟨a3, c3, W, e3, r3, l3, n3, m3, b3⟩ := read_u64s t3
  obtain ⟨used, e4, _, w4⟩ := DataW.trod_int (k := .i64) (by kernel_rfl) t4
  obtain ⟨top, e5, _, w5⟩ := DataW.trod_int (k := .i64) (by kernel_rfl) t5
  obtain ⟨oldTop, e6, _, w6⟩ := DataW.trod_int (k := .i64) (by kernel_rfl) t6
  obtain ⟨a7, c7, R, e7, r7, l7, n7, m7, b7⟩ := read_u64s t7
  obtain ⟨a8, c8, K, e8, r8, l8, n8, m8, b8⟩ := read_u64s t8
  obtain ⟨a9, c9, I, e9, r9, l9, n9, m9, b9⟩ := read_ids t9
  obtain ⟨a10, c10, C, e10, r10, l10, n10, m10⟩ := read_bools t10
  have e0 := List.singleton_inj.1 e0
  have e1 := List.singleton_inj.1 e1
  have e2 := List.singleton_inj.1 e2
  have e4 := List.singleton_inj.1 e4
  have e5 := List.singleton_inj.1 e5
  have e6 := List.singleton_inj.1 e6
  rw [e0] at k0; rw [e1] at k1; rw [e2] at k2; rw [e3] at k3; rw [e4] at k4; rw [e5] at k5; rw [e6] at k6; rw [e7] at k7; rw [e8] at k8; rw [e9] at k9; rw [e10] at k10
  exact ⟨b, o, ⟨half, old, card, W, used, top, oldTop, R, K, I, C⟩, ⟨(a3, c3), (a7, c7), (a8, c8), (a9, c9), (a10, c10)⟩, rfl,
    ⟨k0, k1, k2, k3, k4, k5, k6, k7, k8, k9, k10, r3, r7, r8, r9, r10, l3, l7, l8, l9, l10, n3, n7, n8, n9, n10,
      ⟨wf_i64 w0, wf_i64 w1, wf_i64 w2, wf_i64 w4, wf_i64 w5, wf_i64 w6, b3, b7, b8, b9, Nat.le_trans l3 m3, Nat.le_trans l7 m7, Nat.le_trans l8 m8, Nat.le_trans l9 m9, Nat.le_trans l10 m10⟩⟩⟩
end
end Go.Proofs.YtecbbbaafcoliaaGreatDoor
/- What the rows' listed package-level errors give a walk: each variable's cell holds an error of its own. -/
namespace Go.Proofs.YtecbbbaafcoliaaGreatDoor
open Go.ChangeShapes Go.WideShapes Go.ChangeAt Go.RowKit
set_option linter.unusedVariables false
set_option linter.unusedSimpArgs false

theorem own : ownKnob Tryz.prog.godebug = none := by kernel_rfl
theorem esName : Tryz.prog.typeName? 3 228 = some "*errors.errorString" := by kernel_rfl
theorem esStar : "*" ++ "errors.errorString" = "*errors.errorString" := by decide
theorem esRow (u : TypeId) (h : Tryz.prog.typeName? 3 u = some "*errors.errorString") : u = 228 :=
  typeName_ptr_named (nm := "errors.errorString") (by rw [esStar]; kernel_rfl) (by kernel_rfl) (by decide) u (by rw [esStar]; exact h)
theorem esCells : Tryz.prog.cellsOf 246 = 1 := by kernel_rfl
theorem strCells : Tryz.prog.cellsOf 9 = 1 := by kernel_rfl

/-- An error as errors.New makes it, as a datum. -/
abbrev errD (text : List UInt8) : DataW Unit := .iface "*errors.errorString" (.ptr (.agg [.lit (.string text)]))

set_option maxRecDepth 100000 in
/-- One listed error. -/
theorem one_of_laid {W : World} {n : String} {text : List UInt8} {g : Nat} (hg : Tryz.prog.globalNamed n = some g) (ht : (Tryz.prog.globals[g]?).map (·.type) = some 34)
    (h : laidMet Tryz.prog [(n, errD text)] W) : ∃ a s, W.cell? ⟨g, 0, none⟩ = some (errV a) ∧ W.cell? a = some (.string s) ∧ s.data.toList = text := by
  obtain ⟨ps, ⟨g0, t0, cs0, f0, p0, q0, hg0, ht0, hv0, hd0, _, e0⟩, hnd, hrows⟩ := h
  obtain rfl := Option.some.inj (hg.symm.trans hg0)
  obtain rfl := Option.some.inj (ht.symm.trans ht0)
  subst e0
  obtain ⟨l0⟩ := cs0
  have ok0 : ∀ u v, l0 = [.iface u v] → Value.okWide Tryz.prog W .any 0 u v := fun u v e => by
    subst e
    exact (hrows g 0 (by simp [MemPlace.row])).2 u v (by simpa using World.var?_cell hg0 hv0 0)
  obtain ⟨a0, s0, rfl, hc0, hs0, hz0, rfl⟩ := errorString_of_trod Tryz.underlying34 esRow Tryz.underlying228 Tryz.underlying246 rfl rfl Tryz.underlying9 esCells strCells hd0 ok0
  exact ⟨a0, s0, by simpa using World.var?_cell hg0 hv0 0, hc0, hs0⟩

set_option maxRecDepth 100000 in
/-- The block of a listed error. -/
theorem blk_of_laid {W : World} {n : String} {text : List UInt8} {g : Nat} (hg : Tryz.prog.globalNamed n = some g) (ht : (Tryz.prog.globals[g]?).map (·.type) = some 34)
    (h : laidMet Tryz.prog [(n, errD text)] W) {a : Addr} (ha : W.cell? ⟨g, 0, none⟩ = some (errV a)) : ∃ c t, W.heap[a.block]? = some (.cells c t (0, 0)) := by
  obtain ⟨ps, ⟨g0, t0, cs0, f0, p0, q0, hg0, ht0, hv0, hd0, _, e0⟩, hnd, hrows⟩ := h
  obtain rfl := Option.some.inj (hg.symm.trans hg0)
  obtain rfl := Option.some.inj (ht.symm.trans ht0)
  subst e0
  obtain ⟨l0⟩ := cs0
  have ok0 : ∀ u v, l0 = [.iface u v] → Value.okWide Tryz.prog W .any 0 u v := fun u v e => by
    subst e
    exact (hrows g 0 (by simp [MemPlace.row])).2 u v (by simpa using World.var?_cell hg0 hv0 0)
  obtain ⟨a0, s0, rfl, hc0, hs0, hz0, rfl⟩ := errorString_of_trod Tryz.underlying34 esRow Tryz.underlying228 Tryz.underlying246 rfl rfl Tryz.underlying9 esCells strCells hd0 ok0
  have e0 : W.cell? ⟨g, 0, none⟩ = some (errV a0) := by simpa using World.var?_cell hg0 hv0 0
  rw [e0] at ha
  have ea : a0 = a := by injection ha with ha; injection ha with _ ha; injection ha with ha; injection ha
  subst ea
  exact (hrows a0.block a0.off (by simp [MemPlace.row])).1

set_option maxRecDepth 100000 in
/-- Two listed errors are two. -/
theorem two_of_laid {W : World} {n m : String} {tn tm : List UInt8} {g k : Nat} (hg : Tryz.prog.globalNamed n = some g) (ht : (Tryz.prog.globals[g]?).map (·.type) = some 34)
    (hk : Tryz.prog.globalNamed m = some k) (hkt : (Tryz.prog.globals[k]?).map (·.type) = some 34)
    (h : laidMet Tryz.prog [(n, errD tn), (m, errD tm)] W) {a b : Addr} (ha : W.cell? ⟨g, 0, none⟩ = some (errV a)) (hb : W.cell? ⟨k, 0, none⟩ = some (errV b)) : a ≠ b := by
  obtain ⟨ps, ⟨g0, t0, cs0, f0, p0, q0, hg0, ht0, hv0, hd0, ⟨g1, t1, cs1, f1, p1, q1, hg1, ht1, hv1, hd1, hq1, e1⟩, e0⟩, hnd, hrows⟩ := h
  obtain rfl := Option.some.inj (hg.symm.trans hg0)
  obtain rfl := Option.some.inj (hk.symm.trans hg1)
  obtain rfl := Option.some.inj (ht.symm.trans ht0)
  obtain rfl := Option.some.inj (hkt.symm.trans ht1)
  have hq1' : q1 = [] := hq1
  subst hq1'
  subst e1
  subst e0
  obtain ⟨l0⟩ := cs0
  obtain ⟨l1⟩ := cs1
  have ok0 : ∀ u v, l0 = [.iface u v] → Value.okWide Tryz.prog W .any 0 u v := fun u v e => by
    subst e
    exact (hrows g 0 (by simp [MemPlace.row])).2 u v (by simpa using World.var?_cell hg0 hv0 0)
  have ok1 : ∀ u v, l1 = [.iface u v] → Value.okWide Tryz.prog W .any 0 u v := fun u v e => by
    subst e
    exact (hrows k 0 (by simp [MemPlace.row])).2 u v (by simpa using World.var?_cell hg1 hv1 0)
  obtain ⟨a0, s0, rfl, hc0, hs0, hz0, rfl⟩ := errorString_of_trod Tryz.underlying34 esRow Tryz.underlying228 Tryz.underlying246 rfl rfl Tryz.underlying9 esCells strCells hd0 ok0
  obtain ⟨a1, s1, rfl, hc1, hs1, hz1, rfl⟩ := errorString_of_trod Tryz.underlying34 esRow Tryz.underlying228 Tryz.underlying246 rfl rfl Tryz.underlying9 esCells strCells hd1 ok1
  have e0 : W.cell? ⟨g, 0, none⟩ = some (errV a0) := by simpa using World.var?_cell hg0 hv0 0
  have e1 : W.cell? ⟨k, 0, none⟩ = some (errV a1) := by simpa using World.var?_cell hg1 hv1 0
  rw [e0] at ha; rw [e1] at hb
  have ea : a0 = a := by injection ha with ha; injection ha with _ ha; injection ha with ha; injection ha
  have eb : a1 = b := by injection hb with hb; injection hb with _ hb; injection hb with hb; injection hb
  subst ea eb
  rintro rfl
  simp [MemPlace.row] at hnd

theorem gB : Tryz.prog.globalNamed "nurserypy/api.ErrBound" = some 0 := by kernel_rfl
theorem gBt : (Tryz.prog.globals[0]?).map (·.type) = some 34 := by kernel_rfl
theorem gS : Tryz.prog.globalNamed "nurserypy/api.ErrShape" = some 2 := by kernel_rfl
theorem gSt : (Tryz.prog.globals[2]?).map (·.type) = some 34 := by kernel_rfl
theorem gP : Tryz.prog.globalNamed "nurserypy/api.ErrPlace" = some 3 := by kernel_rfl
theorem gPt : (Tryz.prog.globals[3]?).map (·.type) = some 34 := by kernel_rfl
theorem gF : Tryz.prog.globalNamed "nurserypy/api.ErrFull" = some 1 := by kernel_rfl
theorem gFt : (Tryz.prog.globals[1]?).map (·.type) = some 34 := by kernel_rfl

theorem laidOut : laidOutB Tryz.prog = true := by kernel_rfl

/-- The arguments read behind the call as they did before. -/
theorem trodAll_stays {H : Type} {enc : TypeId × Value → H} {W W' : World} (hb : Ext W W') : ∀ {ts : List TypeId} {vs : List Value} {ds : List (DataW H)} {ps : List MemPlace},
    (∀ t ∈ ts, Tryz.prog.readableRec t = true ∧ t < Tryz.prog.types.size) → (∀ x ∈ ps, x.block < W.heap.size) →
    DataW.TrodAll enc Tryz.prog W 0 (fun _ => true) true ts vs ds ps → DataW.TrodAll enc Tryz.prog W' 0 (fun b => decide (b < W.heap.size)) true ts vs ds ps := by
  intro ts
  induction ts with
  | nil =>
    intro vs ds ps _ _ h
    obtain ⟨rfl, rfl, rfl⟩ := trodAll_nil h
    exact trodAll_mk0
  | cons t ts ih =>
    intro vs ds ps hr hlt h
    obtain ⟨v, vs', d, ds', p, q, rfl, rfl, rfl, h0, r0⟩ := trodAll_cons h
    have ht := hr t (by simp)
    exact trodAll_cons_mk (Below.trod laidOut ht.1 ht.2 h0 hb (fun x hx => hlt x (by simp [hx]))) (ih (fun t h => hr t (by simp [h])) (fun x hx => hlt x (by simp [hx])) r0)

/-- A law that answers true and leaves what was there. -/
theorem law_post {H : Type} {enc : TypeId × Value → H} {f : Func} {s : ChangeSpec} {W W' : World} {args : Array Value} {ds gs : List (DataW H)} {before : List MemPlace}
    (hrt : f.resultTypes = #[4]) (hsv : s.vars = []) (hW : DataW.Whole enc Tryz.prog f.params.toList s.vars false W args.toList ds gs before)
    (hfn : s.fn H (ds ++ gs) = { results := [.lit (.bool true)], args := ds }) (hr : ∀ t ∈ f.params.toList, Tryz.prog.readableRec t = true ∧ t < Tryz.prog.types.size) (hb : Ext W W') :
    s.post enc Tryz.prog f false true false false W args (.bool true) W' := by
  have hlt := fun x hx => hW.lt x hx
  obtain ⟨p, q, hA, hV, hpq, hfz, hnd⟩ := id hW
  rw [hsv] at hV
  obtain ⟨rfl, rfl⟩ := trodVars_none hV
  subst hpq
  refine ⟨ds, [], _, [], p, [], hW, ?_, ?_, ?_, ?_, fun h => by cases h⟩
  · rw [hfn, hrt]; exact trodAll_mk1 (shut_bool Tryz.underlying4 true)
  · rw [hfn]; exact trodAll_stays hb hr (fun x hx => by simpa using hlt x (by simp [hx])) hA
  · rw [hfn, hsv]; rfl
  · exact hb.frame _
end Go.Proofs.YtecbbbaafcoliaaGreatDoor
/- The listed errors of laws on memories, as the walks want them. -/
namespace Go.Proofs.YtecbbbaafcoliaaGreatDoor
open Go.ChangeShapes Go.WideShapes Go.ChangeAt Go.RowKit
set_option linter.unusedVariables false
set_option linter.unusedSimpArgs false

def laid3 : List (String × DataW Unit) := [("nurserypy/api.ErrBound", Rows.laid_nurserypy_api_ErrBound), ("nurserypy/api.ErrShape", Rows.laid_nurserypy_api_ErrShape), ("nurserypy/api.ErrPlace", Rows.laid_nurserypy_api_ErrPlace)]
def laid4 : List (String × DataW Unit) := [("nurserypy/api.ErrBound", Rows.laid_nurserypy_api_ErrBound), ("nurserypy/api.ErrShape", Rows.laid_nurserypy_api_ErrShape), ("nurserypy/api.ErrPlace", Rows.laid_nurserypy_api_ErrPlace), ("nurserypy/api.ErrFull", Rows.laid_nurserypy_api_ErrFull)]
theorem g3_of_laid {W : World} (h : laidMetH Tryz.prog laid3 W) : ∃ E, G3 E W := by
  obtain ⟨a1, _, c1, _⟩ := one_of_laid (W := W) (n := "nurserypy/api.ErrBound") (text := _) gB gBt (h.filter fun x => x.1 == "nurserypy/api.ErrBound")
  obtain ⟨a2, _, c2, _⟩ := one_of_laid (W := W) (n := "nurserypy/api.ErrShape") (text := _) gS gSt (h.filter fun x => x.1 == "nurserypy/api.ErrShape")
  obtain ⟨a4, _, c4, _⟩ := one_of_laid (W := W) (n := "nurserypy/api.ErrPlace") (text := _) gP gPt (h.filter fun x => x.1 == "nurserypy/api.ErrPlace")
  exact ⟨fun i => match i with | 1 => a1 | 2 => a2 | _ => a4, c1, c2, c4⟩
theorem g4_of_laid {W : World} (h : laidMetH Tryz.prog laid4 W) : ∃ E, G4 E W := by
  obtain ⟨a1, _, c1, _⟩ := one_of_laid (W := W) (n := "nurserypy/api.ErrBound") (text := _) gB gBt (h.filter fun x => x.1 == "nurserypy/api.ErrBound")
  obtain ⟨a2, _, c2, _⟩ := one_of_laid (W := W) (n := "nurserypy/api.ErrShape") (text := _) gS gSt (h.filter fun x => x.1 == "nurserypy/api.ErrShape")
  obtain ⟨a4, _, c4, _⟩ := one_of_laid (W := W) (n := "nurserypy/api.ErrPlace") (text := _) gP gPt (h.filter fun x => x.1 == "nurserypy/api.ErrPlace")
  obtain ⟨a5, _, c5, _⟩ := one_of_laid (W := W) (n := "nurserypy/api.ErrFull") (text := _) gF gFt (h.filter fun x => x.1 == "nurserypy/api.ErrFull")
  exact ⟨fun i => match i with | 1 => a1 | 2 => a2 | 4 => a4 | _ => a5, ⟨c1, c2, c4⟩, c5⟩
end Go.Proofs.YtecbbbaafcoliaaGreatDoor
