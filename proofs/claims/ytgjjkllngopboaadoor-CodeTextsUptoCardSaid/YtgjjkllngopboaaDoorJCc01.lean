/- Code among the arguments: what its reading tells of the world. -/
import Derived.Test.YtgjjkllngopboaaDoorJCa03
import Derived.Test.YtgjjkllngopboaaDoorJCa20
import Derived.ProofKit
import Derived.Deep.Fields
import Derived.Deep.SlicePairs
import Derived.OpenShut
import Derived.Lib.SmallJoins
import Derived.Test.YtgjjkllngopboaaDoorRows
namespace Go.Proofs.YtgjjkllngopboaaDoor
open Go.ChangeShapes Go.WideShapes Go.RowKit Go.Deep Go.Joins
set_option linter.unusedVariables false
set_option linter.unusedSimpArgs false

theorem wf_c64 {n : Int} (h : (Lit.int .i64 n).wf = true) : -9223372036854775808 ≤ n ∧ n ≤ 9223372036854775807 := by
  have h1 : IntKind.i64.min = -9223372036854775808 := by decide
  have h2 : IntKind.i64.max = 9223372036854775807 := by decide
  simp only [Lit.wf, Bool.and_eq_true, decide_eq_true_eq, h1, h2] at h; exact h
/-- How much one thing that is read takes at most. -/
def szR (n : Nat) : Prop := n ≤ 140737488351232
/-- Code that is read fits. -/
structure SizedC (c : CodeP) : Prop where
  strs : ∀ s ∈ c.strs, szR s.size
  names : ∀ s ∈ c.names, szR s.size
  fns : ∀ f ∈ c.funcs, szR f.name.size ∧ szR (f.ops.length * 24) ∧ ∀ op ∈ f.ops, szR op.name.size
  lF : szR (c.funcs.length * 72)
  lI : szR (c.ints.length * 8)
  lS : szR (c.strs.length * 16)
  lN : szR (c.names.length * 16)
/-- Code that lies there to be read. -/
structure RCodeR (w : World) (c : CodeP) (V : CodeV) : Prop where
  len : V.fs.length = c.funcs.length
  F : RSl w V.F.1 (fnCells (withV c V))
  I : RSl w V.I.1 (c.ints.map fun x => Value.int .i64 x)
  S : RSl w V.S.1 (c.strs.map Value.string)
  N : RSl w V.N.1 (c.names.map Value.string)
  ops : ∀ x ∈ withV c V, RSl w x.2.1 (opCells x.1.ops)
  capI : c.ints.length ≤ V.I.2
  capS : c.strs.length ≤ V.S.2
  capN : c.names.length ≤ V.N.2
  nilI : V.I.1 = none → V.I.2 = 0
  nilS : V.S.1 = none → V.S.2 = 0
  nilN : V.N.1 = none → V.N.2 = 0
theorem RCodeR.ext {w w' : World} {c : CodeP} {V : CodeV} (h : RCodeR w c V) (hx : Ext w w') : RCodeR w' c V :=
  ⟨h.len, h.F.ext hx, h.I.ext hx, h.S.ext hx, h.N.ext hx, fun x hm => (h.ops x hm).ext hx, h.capI, h.capS, h.capN, h.nilI, h.nilS, h.nilN⟩
theorem RCodeR.full {w : World} {c : CodeP} {V : CodeV} (h : RCodeR w c V) (hc : countP c + c.funcs.length + c.ints.length + c.strs.length + c.names.length ≤ 1000000000000000000) : RCode w c V :=
  ⟨h.len, h.F, h.I, h.S, h.N, h.ops, hc⟩

section
variable {H : Type} {enc : TypeId × Value → H} {P : Program} {w : World} {base : Nat} {spare : Nat → Bool} {held : Bool}

theorem all_weights {e : TypeId} : ∀ {l : List (DataW H)}, (∀ n ∈ DataW.weightsAll P e l, szR n) → ∀ d ∈ l, ∀ n ∈ d.weights P e, szR n
  | [], _, d, hd, _, _ => by cases hd
  | a :: l, h, d, hd, n, hn => by
    simp only [DataW.weightsAll, List.mem_append] at h
    rcases List.mem_cons.1 hd with rfl | hd
    · exact h n (Or.inl hn)
    · exact all_weights (fun n hn => h n (Or.inr hn)) d hd n hn
theorem sl_weights {t e : TypeId} {elems sp : List (DataW H)} (hu : P.underlying t = some (.slice e)) (h : ∀ n ∈ (DataW.slice elems sp).weights P t, szR n) :
    szR (elems.length * P.bytesOf e) ∧ ∀ d ∈ elems, ∀ n ∈ d.weights P e, szR n := by
  simp only [DataW.weights, hu] at h
  refine ⟨?_, all_weights fun n hn => h n (by simp [hn])⟩
  refine Nat.le_trans ?_ (h _ (List.mem_cons_self ..))
  exact Nat.mul_le_mul_right _ (Nat.le_add_right _ _)
theorem agg_w2 {t : TypeId} {f0 f1 : Field} {d0 d1 : DataW H} (hu : P.underlying t = some (.struct #[f0, f1])) (h : ∀ n ∈ (DataW.agg [d0, d1]).weights P t, szR n) :
    (∀ n ∈ d0.weights P f0.type, szR n) ∧ (∀ n ∈ d1.weights P f1.type, szR n) := by
  simp only [DataW.weights, hu, DataW.weightsEach, List.map_cons, List.mem_append] at h
  exact ⟨fun n hn => h n (by simp [hn]), fun n hn => h n (by simp [hn])⟩
theorem agg_w4 {t : TypeId} {f0 f1 f2 f3 : Field} {d0 d1 d2 d3 : DataW H} (hu : P.underlying t = some (.struct #[f0, f1, f2, f3])) (h : ∀ n ∈ (DataW.agg [d0, d1, d2, d3]).weights P t, szR n) :
    (∀ n ∈ d0.weights P f0.type, szR n) ∧ (∀ n ∈ d1.weights P f1.type, szR n) ∧ (∀ n ∈ d2.weights P f2.type, szR n) ∧ (∀ n ∈ d3.weights P f3.type, szR n) := by
  simp only [DataW.weights, hu, DataW.weightsEach, List.map_cons, List.mem_append] at h
  exact ⟨fun n hn => h n (by simp [hn]), fun n hn => h n (by simp [hn]), fun n hn => h n (by simp [hn]), fun n hn => h n (by simp [hn])⟩
theorem agg_w6 {t : TypeId} {f0 f1 f2 f3 f4 f5 : Field} {d0 d1 d2 d3 d4 d5 : DataW H} (hu : P.underlying t = some (.struct #[f0, f1, f2, f3, f4, f5])) (h : ∀ n ∈ (DataW.agg [d0, d1, d2, d3, d4, d5]).weights P t, szR n) :
    (∀ n ∈ d0.weights P f0.type, szR n) ∧ (∀ n ∈ d1.weights P f1.type, szR n) ∧ (∀ n ∈ d2.weights P f2.type, szR n) ∧ (∀ n ∈ d3.weights P f3.type, szR n) ∧ (∀ n ∈ d4.weights P f4.type, szR n) ∧ (∀ n ∈ d5.weights P f5.type, szR n) := by
  simp only [DataW.weights, hu, DataW.weightsEach, List.map_cons, List.mem_append] at h
  exact ⟨fun n hn => h n (by simp [hn]), fun n hn => h n (by simp [hn]), fun n hn => h n (by simp [hn]), fun n hn => h n (by simp [hn]), fun n hn => h n (by simp [hn]), fun n hn => h n (by simp [hn])⟩
theorem bulk_map {f : Nat → DataW H} {g : Nat → Nat} : ∀ (l : List Nat), (∀ i ∈ l, g i ≤ Rows.uptoBulk (f i)) → (l.map g).sum ≤ Rows.uptoBulkAll (l.map f)
  | [], _ => Nat.le_refl _
  | i :: l, h => by
    have h1 := h i (by simp)
    have h2 := bulk_map l fun j hj => h j (by simp [hj])
    simp only [List.map_cons, List.sum_cons, Rows.uptoBulkAll]
    omega
theorem bulk_slice {elems sp : List (DataW H)} : Rows.uptoBulkAll elems ≤ Rows.uptoBulk (.slice elems sp) := by
  simp only [Rows.uptoBulk]; omega
theorem bulk_str (s : ByteArray) : Rows.uptoBulk (DataW.lit (H := H) (.string s.data.toList)) = s.size + 1 := by
  simp [Rows.uptoBulk]
theorem rsl_ofC (a : Addr) (cs : List Value) (h : ∀ i v, cs[i]? = some v → w.cell? (a.add i) = some v) : RSl w (some a) cs := fun j u hu => by
  obtain ⟨b, off, spot⟩ := a
  obtain ⟨hj, _⟩ := List.getElem?_eq_some_iff.1 hu
  have h0 := h 0 (cs[0]'(by omega)) (by simp)
  have hs : spot = none := by simpa [Addr.add] using World.cell?_spot h0
  subst hs
  have hj0 := h j u hu
  refine ⟨b, off, rfl, ?_⟩
  by_cases e : j = 0
  · subst e; simpa [Addr.add] using hj0
  · simpa [Addr.add, e] using hj0
theorem open_struct6 {t : TypeId} {f0 f1 f2 f3 f4 f5 : Field} {fuel : Nat} {cs : List Value} {x : DataW H × List MemPlace} (ht : P.underlying t = some (.struct #[f0, f1, f2, f3, f4, f5])) (hone : oneCellFields P #[f0, f1, f2, f3, f4, f5] = true) (hC : P.cellsOf t = 6)
    (h : DataW.trod enc P w base spare held fuel t cs = some x) :
    ∃ (v0 v1 v2 v3 v4 v5 : Value) (y0 y1 y2 y3 y4 y5 : DataW H × List MemPlace) (n : Nat), cs = [v0, v1, v2, v3, v4, v5] ∧ x.1 = .agg [y0.1, y1.1, y2.1, y3.1, y4.1, y5.1] ∧
      DataW.trod enc P w base spare held n f0.type [v0] = some y0 ∧ DataW.trod enc P w base spare held n f1.type [v1] = some y1 ∧ DataW.trod enc P w base spare held n f2.type [v2] = some y2 ∧
      DataW.trod enc P w base spare held n f3.type [v3] = some y3 ∧ DataW.trod enc P w base spare held n f4.type [v4] = some y4 ∧ DataW.trod enc P w base spare held n f5.type [v5] = some y5 := by
  obtain ⟨xs, n, _, rfl, hl, hlen, hf⟩ := DataW.trod_struct ht h
  rw [hC] at hl
  obtain ⟨o0, k0⟩ := hone_of hone 0 f0 rfl
  obtain ⟨o1, k1⟩ := hone_of hone 1 f1 rfl
  obtain ⟨o2, k2⟩ := hone_of hone 2 f2 rfl
  obtain ⟨o3, k3⟩ := hone_of hone 3 f3 rfl
  obtain ⟨o4, k4⟩ := hone_of hone 4 f4 rfl
  obtain ⟨o5, k5⟩ := hone_of hone 5 f5 rfl
  match xs, hlen, cs, hl with
  | [y0, y1, y2, y3, y4, y5], _, [v0, v1, v2, v3, v4, v5], _ =>
    exact ⟨v0, v1, v2, v3, v4, v5, y0, y1, y2, y3, y4, y5, n, rfl, by simp, by simpa [o0, k0] using hf 0 f0 rfl, by simpa [o1, k1] using hf 1 f1 rfl, by simpa [o2, k2] using hf 2 f2 rfl, by simpa [o3, k3] using hf 3 f3 rfl, by simpa [o4, k4] using hf 4 f4 rfl, by simpa [o5, k5] using hf 5 f5 rfl⟩
theorem str_weight {t : TypeId} {s : ByteArray} (h : ∀ n ∈ (DataW.lit (H := H) (.string s.data.toList)).weights P t, szR n) : szR s.size := by
  have := h s.data.toList.length (by simp [DataW.weights])
  simpa using this
theorem read_i64s {fuel : Nat} {v : Value} {x : DataW H × List MemPlace} (h : DataW.trod enc Tryd.prog w base spare held fuel 23 [v] = some x) (hz : ∀ n ∈ x.1.weights Tryd.prog 23, szR n) :
    ∃ (a : Option Addr) (c : Nat) (l : List Int), v = .slice a l.length c ∧ RSl w a (l.map fun x => Value.int .i64 x) ∧ l.length ≤ c ∧ (a = none → c = 0) ∧ szR (l.length * 8) ∧ (∀ z ∈ l, in64 z) ∧ l.length ≤ Rows.uptoBulk x.1 := by
  rcases open_slice1 (e := 2) (by kernel_rfl) (by kernel_rfl) h with ⟨hcs, _⟩ | ⟨a, len, cap, m, n, V, D, Pl, hcs, _, hl, hm, hmm, hx0, hx⟩
  · obtain rfl := List.singleton_inj.1 hcs
    exact ⟨none, 0, [], rfl, RSl.nil _ _, Nat.le_refl _, fun _ => rfl, by simp [szR], by simp, by simp⟩
  · obtain rfl := List.singleton_inj.1 hcs
    have hle : len ≤ m := by rw [hmm]; split <;> omega
    rw [hx0] at hz
    obtain ⟨z1, z2⟩ := sl_weights (P := Tryd.prog) (e := 2) (by kernel_rfl) hz
    rw [show Tryd.prog.bytesOf 2 = 8 by kernel_rfl] at z1
    have hb : ∀ i, i < m → ∃ q : Int, V i = .int .i64 q ∧ in64 q := fun i hi => by
      obtain ⟨q, hq, _, hw⟩ := DataW.trod_int (k := .i64) (by kernel_rfl) (hx i hi).2
      exact ⟨q, List.singleton_inj.1 hq, wf_c64 hw⟩
    obtain ⟨B, hB⟩ := choose_lt hb
    have hln : ((List.range len).map B).length = len := by simp
    refine ⟨some a, cap, (List.range len).map B, by rw [hln], rsl_ofC a _ fun i v hi => ?_, by rw [hln]; exact hl, (fun e => by cases e), by rw [hln]; simpa [szR] using z1, fun z hz => ?_, ?_⟩
    · obtain ⟨hi', hv⟩ := List.getElem?_eq_some_iff.1 hi
      simp only [List.length_map, List.length_range] at hi'
      rw [(hx i (by omega)).1, (hB i (by omega)).1, ← hv]
      simp
    · obtain ⟨i, hi, rfl⟩ := List.mem_map.1 hz
      exact (hB i (by have := List.mem_range.1 hi; omega)).2
    · rw [hx0, hln]
      have := bulk_map (H := H) (f := D) (g := fun _ => 1) (List.range len) fun i hi => (by cases hd : D i with | lit l => (cases l <;> simp [Rows.uptoBulk]) | nil => simp [Rows.uptoBulk] | ptr d => simp [Rows.uptoBulk] | slice a b => simp [Rows.uptoBulk] | agg a => simp [Rows.uptoBulk] | iface a b => simp [Rows.uptoBulk] | map a => simp [Rows.uptoBulk] | held a => simp [Rows.uptoBulk])
      refine Nat.le_trans ?_ bulk_slice
      rw [List.map_const'] at this
      simpa using this
theorem read_strs {fuel : Nat} {v : Value} {x : DataW H × List MemPlace} (h : DataW.trod enc Tryd.prog w base spare held fuel 24 [v] = some x) (hz : ∀ n ∈ x.1.weights Tryd.prog 24, szR n) :
    ∃ (a : Option Addr) (c : Nat) (l : List ByteArray), v = .slice a l.length c ∧ RSl w a (l.map Value.string) ∧ l.length ≤ c ∧ (a = none → c = 0) ∧ szR (l.length * 16) ∧ (∀ s ∈ l, szR s.size) ∧ (l.map fun s => s.size + 1).sum ≤ Rows.uptoBulk x.1 := by
  rcases open_slice1 (e := 9) (by kernel_rfl) (by kernel_rfl) h with ⟨hcs, _⟩ | ⟨a, len, cap, m, n, V, D, Pl, hcs, _, hl, hm, hmm, hx0, hx⟩
  · obtain rfl := List.singleton_inj.1 hcs
    exact ⟨none, 0, [], rfl, RSl.nil _ _, Nat.le_refl _, fun _ => rfl, by simp [szR], by simp, by simp⟩
  · obtain rfl := List.singleton_inj.1 hcs
    have hle : len ≤ m := by rw [hmm]; split <;> omega
    rw [hx0] at hz
    obtain ⟨z1, z2⟩ := sl_weights (P := Tryd.prog) (e := 9) (by kernel_rfl) hz
    rw [show Tryd.prog.bytesOf 9 = 16 by kernel_rfl] at z1
    have hb : ∀ i, i < m → ∃ q : ByteArray, V i = .string q ∧ D i = .lit (.string q.data.toList) := fun i hi => by
      obtain ⟨q, hq, hd, _⟩ := DataW.trod_string (by kernel_rfl) (hx i hi).2
      exact ⟨q, List.singleton_inj.1 hq, (Prod.mk.inj hd).1⟩
    obtain ⟨B, hB⟩ := choose_lt hb
    have hln : ((List.range len).map B).length = len := by simp
    refine ⟨some a, cap, (List.range len).map B, by rw [hln], rsl_ofC a _ fun i v hi => ?_, by rw [hln]; exact hl, (fun e => by cases e), by rw [hln]; simpa [szR] using z1, fun z hz => ?_, ?_⟩
    · obtain ⟨hi', hv⟩ := List.getElem?_eq_some_iff.1 hi
      simp only [List.length_map, List.length_range] at hi'
      rw [(hx i (by omega)).1, (hB i (by omega)).1, ← hv]
      simp
    · obtain ⟨i, hi, rfl⟩ := List.mem_map.1 hz
      have hi' : i < len := List.mem_range.1 hi
      have := z2 (D i) (List.mem_map.2 ⟨i, hi, rfl⟩)
      rw [(hB i (by omega)).2] at this
      exact str_weight this
    · rw [hx0, List.map_map]
      refine Nat.le_trans (bulk_map _ fun i hi => ?_) bulk_slice
      rw [(hB i (by have := List.mem_range.1 hi; omega)).2, bulk_str]
      exact Nat.le_refl _
theorem rsl_ops (a : Addr) (l : List OpP) (h : ∀ (i : Nat) (hi : i < l.length), w.cell? (a.add (i * 2)) = some (.string l[i].name) ∧ w.cell? (a.add (i * 2 + 1)) = some (.int .i64 l[i].a)) : RSl w (some a) (opCells l) :=
  rsl_ofC a _ fun i v hv => by
    obtain ⟨hi, _⟩ := List.getElem?_eq_some_iff.1 hv
    rw [opCells_len] at hi
    obtain ⟨h1, h2⟩ := opCells_at l (i / 2) (by omega)
    obtain ⟨h3, h4⟩ := h (i / 2) (by omega)
    rcases Nat.mod_two_eq_zero_or_one i with e | e
    · have e2 : i / 2 * 2 = i := by omega
      rw [e2] at h1 h3
      rw [hv] at h1; rw [h3, h1]
    · have e2 : i / 2 * 2 + 1 = i := by omega
      rw [e2] at h2 h4
      rw [hv] at h2; rw [h4, h2]
instance : Inhabited OpP := ⟨⟨⟨#[]⟩, 0⟩⟩
instance : Inhabited FnP := ⟨⟨⟨#[]⟩, 0, 0, 0, 0, []⟩⟩
theorem read_kops {fuel : Nat} {v : Value} {x : DataW H × List MemPlace} (h : DataW.trod enc Tryd.prog w base spare held fuel 51 [v] = some x) (hz : ∀ n ∈ x.1.weights Tryd.prog 51, szR n) :
    ∃ (a : Option Addr) (c : Nat) (l : List OpP), v = .slice a l.length c ∧ RSl w a (opCells l) ∧ szR (l.length * 24) ∧ (∀ op ∈ l, szR op.name.size ∧ in64 op.a) ∧ (l.map fun o => o.name.size + 2).sum ≤ Rows.uptoBulk x.1 := by
  rcases open_slice_pairs (e := 70) (by kernel_rfl) (Tryd.underlying70) (by kernel_rfl) rfl rfl (by kernel_rfl) (by kernel_rfl) h with ⟨hcs, _⟩ | ⟨a, len, cap, m, n, V0, V1, D0, D1, P0, P1, hcs, _, hl, hm, hmm, hx0, hx⟩
  · obtain rfl := List.singleton_inj.1 hcs
    exact ⟨none, 0, [], rfl, RSl.nil _ _, by simp [szR], by simp, by simp⟩
  · obtain rfl := List.singleton_inj.1 hcs
    have hle : len ≤ m := by rw [hmm]; split <;> omega
    rw [hx0] at hz
    obtain ⟨z1, z2⟩ := sl_weights (P := Tryd.prog) (e := 70) (by kernel_rfl) hz
    rw [show Tryd.prog.bytesOf 70 = 24 by kernel_rfl] at z1
    have hb : ∀ i, i < m → ∃ q : OpP, (V0 i = .string q.name ∧ V1 i = .int .i64 q.a) ∧ D0 i = .lit (.string q.name.data.toList) ∧ in64 q.a := fun i hi => by
      obtain ⟨_, _, h3, h4⟩ := hx i hi
      obtain ⟨q0, e0, d0, _⟩ := DataW.trod_string (by kernel_rfl) h3
      obtain ⟨q1, e1, _, w1⟩ := DataW.trod_int (k := .i64) (by kernel_rfl) h4
      exact ⟨⟨q0, q1⟩, ⟨List.singleton_inj.1 e0, List.singleton_inj.1 e1⟩, (Prod.mk.inj d0).1, wf_c64 w1⟩
    obtain ⟨B, hB⟩ := choose_lt hb
    have hln : ((List.range len).map B).length = len := by simp
    refine ⟨some a, cap, (List.range len).map B, by rw [hln], rsl_ops a _ fun i hi => ?_, by rw [hln]; simpa [szR] using z1, fun z hz => ?_, ?_⟩
    · simp only [List.length_map, List.length_range] at hi
      obtain ⟨g1, g2, _, _⟩ := hx i (by omega)
      obtain ⟨⟨g3, g4⟩, _⟩ := hB i (by omega)
      rw [g1, g2, g3, g4]
      simp
    · obtain ⟨i, hi, rfl⟩ := List.mem_map.1 hz
      have hi' : i < len := List.mem_range.1 hi
      have hd := z2 _ (List.mem_map.2 ⟨i, hi, rfl⟩)
      rw [(hB i (by omega)).2.1] at hd
      exact ⟨str_weight (agg_w2 (Tryd.underlying70) hd).1, (hB i (by omega)).2.2⟩
    · rw [hx0, List.map_map]
      refine Nat.le_trans (bulk_map _ fun i hi => ?_) bulk_slice
      rw [(hB i (by have := List.mem_range.1 hi; omega)).2.1]
      simp only [Rows.uptoBulk, Rows.uptoBulkAll, Function.comp_apply, Array.length_toList]
      show (B i).name.data.size + 2 ≤ _
      omega
theorem rsl_fns (a : Addr) (l : List (FnP × OpsV)) (h : ∀ (i : Nat) (hi : i < l.length), w.cell? (a.add (i * 6)) = some (.string l[i].1.name) ∧ w.cell? (a.add (i * 6 + 1)) = some (.int .i64 l[i].1.params) ∧ w.cell? (a.add (i * 6 + 2)) = some (.int .i64 l[i].1.locals) ∧
    w.cell? (a.add (i * 6 + 3)) = some (.int .i64 l[i].1.cells) ∧ w.cell? (a.add (i * 6 + 4)) = some (.int .i64 l[i].1.frees) ∧ w.cell? (a.add (i * 6 + 5)) = some (.slice l[i].2.1 l[i].1.ops.length l[i].2.2)) : RSl w (some a) (fnCells l) :=
  rsl_ofC a _ fun i v hv => by
    obtain ⟨hi, _⟩ := List.getElem?_eq_some_iff.1 hv
    rw [fnCells_len] at hi
    obtain ⟨h0, h1, h2, h3, h4, h5⟩ := fnCells_at l (i / 6) (by omega)
    obtain ⟨g0, g1, g2, g3, g4, g5⟩ := h (i / 6) (by omega)
    have e : i = i / 6 * 6 ∨ i = i / 6 * 6 + 1 ∨ i = i / 6 * 6 + 2 ∨ i = i / 6 * 6 + 3 ∨ i = i / 6 * 6 + 4 ∨ i = i / 6 * 6 + 5 := by omega
    rcases e with e | e | e | e | e | e
    · rw [← e] at h0 g0; rw [hv] at h0; rw [g0, h0]
    · rw [← e] at h1 g1; rw [hv] at h1; rw [g1, h1]
    · rw [← e] at h2 g2; rw [hv] at h2; rw [g2, h2]
    · rw [← e] at h3 g3; rw [hv] at h3; rw [g3, h3]
    · rw [← e] at h4 g4; rw [hv] at h4; rw [g4, h4]
    · rw [← e] at h5 g5; rw [hv] at h5; rw [g5, h5]
/-- A function that was read. -/
def FnRead (w : World) (q : FnP × OpsV) : Prop :=
  RSl w q.2.1 (opCells q.1.ops) ∧ szR q.1.name.size ∧ szR (q.1.ops.length * 24) ∧ (∀ op ∈ q.1.ops, szR op.name.size ∧ in64 op.a) ∧ in64 q.1.params ∧ in64 q.1.locals ∧ in64 q.1.cells ∧ in64 q.1.frees
/-- How much a function holds. -/
def bulkF (f : FnP) : Nat := f.name.size + 1 + (f.ops.map fun o => o.name.size + 2).sum
theorem read_kfns {fuel : Nat} {v : Value} {x : DataW H × List MemPlace} (h : DataW.trod enc Tryd.prog w base spare held fuel 22 [v] = some x) (hz : ∀ n ∈ x.1.weights Tryd.prog 22, szR n) :
    ∃ (a : Option Addr) (c : Nat) (l : List (FnP × OpsV)), v = .slice a l.length c ∧ RSl w a (fnCells l) ∧ szR (l.length * 72) ∧ (∀ q ∈ l, FnRead w q) ∧ (l.map fun q => bulkF q.1).sum ≤ Rows.uptoBulk x.1 := by
  rcases open_slice (e := 53) (by kernel_rfl) h with ⟨hcs, _⟩ | ⟨a, len, cap, m, n, D, Pl, hcs, _, hl, hm, hmm, hx0, hx⟩
  · obtain rfl := List.singleton_inj.1 hcs
    exact ⟨none, 0, [], rfl, RSl.nil _ _, by simp [szR], by simp, by simp⟩
  · obtain rfl := List.singleton_inj.1 hcs
    have hle : len ≤ m := by rw [hmm]; split <;> omega
    rw [hx0] at hz
    obtain ⟨z1, z2⟩ := sl_weights (P := Tryd.prog) (e := 53) (by kernel_rfl) hz
    rw [show Tryd.prog.bytesOf 53 = 72 by kernel_rfl] at z1
    have hb : ∀ i, i < len → ∃ q : FnP × OpsV, (w.cell? (a.add (i * 6)) = some (.string q.1.name) ∧ w.cell? (a.add (i * 6 + 1)) = some (.int .i64 q.1.params) ∧ w.cell? (a.add (i * 6 + 2)) = some (.int .i64 q.1.locals) ∧
        w.cell? (a.add (i * 6 + 3)) = some (.int .i64 q.1.cells) ∧ w.cell? (a.add (i * 6 + 4)) = some (.int .i64 q.1.frees) ∧ w.cell? (a.add (i * 6 + 5)) = some (.slice q.2.1 q.1.ops.length q.2.2)) ∧ FnRead w q ∧ bulkF q.1 ≤ Rows.uptoBulk (D i) := fun i hi => by
      obtain ⟨cs', h1, h2⟩ := hx i (by omega)
      have hd := z2 (D i) (List.mem_map.2 ⟨i, List.mem_range.2 hi, rfl⟩)
      rw [show Tryd.prog.cellsOf 53 = 6 by kernel_rfl] at h1
      obtain ⟨_, hlen, hcell⟩ := World.cells?_some h1
      obtain ⟨v0, v1, v2, v3, v4, v5, y0, y1, y2, y3, y4, y5, k, rfl, hdx, t0, t1, t2, t3, t4, t5⟩ := open_struct6 (Tryd.underlying53) (by kernel_rfl) (by kernel_rfl) h2
      simp only at hdx
      rw [hdx] at hd
      obtain ⟨g0, -, -, -, -, g5⟩ := agg_w6 (Tryd.underlying53) hd
      obtain ⟨s0, e0, d0, _⟩ := DataW.trod_string (by kernel_rfl) t0
      obtain ⟨n1, e1, _, w1⟩ := DataW.trod_int (k := .i64) (by kernel_rfl) t1
      obtain ⟨n2, e2, _, w2⟩ := DataW.trod_int (k := .i64) (by kernel_rfl) t2
      obtain ⟨n3, e3, _, w3⟩ := DataW.trod_int (k := .i64) (by kernel_rfl) t3
      obtain ⟨n4, e4, _, w4⟩ := DataW.trod_int (k := .i64) (by kernel_rfl) t4
      obtain ⟨a5, c5, l5, e5, r5, z5, q5, u5⟩ := read_kops t5 g5
      obtain rfl := List.singleton_inj.1 e0
      obtain rfl := List.singleton_inj.1 e1
      obtain rfl := List.singleton_inj.1 e2
      obtain rfl := List.singleton_inj.1 e3
      obtain rfl := List.singleton_inj.1 e4
      subst e5
      have c0 := hcell 0 (by omega)
      have c1 := hcell 1 (by omega)
      have c2 := hcell 2 (by omega)
      have c3 := hcell 3 (by omega)
      have c4 := hcell 4 (by omega)
      have c5' := hcell 5 (by omega)
      rw [add_add] at c0 c1 c2 c3 c4 c5'
      refine ⟨(⟨s0, n1, n2, n3, n4, l5⟩, (a5, c5)), ⟨by simpa using c0, by simpa using c1, by simpa using c2, by simpa using c3, by simpa using c4, by simpa using c5'⟩, ⟨r5, ?_, z5, q5, wf_c64 w1, wf_c64 w2, wf_c64 w3, wf_c64 w4⟩, ?_⟩
      · rw [d0] at g0
        exact str_weight g0
      · rw [hdx, d0]
        simp only [Rows.uptoBulk, Rows.uptoBulkAll, bulkF, Array.length_toList]
        show s0.data.size + 1 + _ ≤ _
        omega
    obtain ⟨B, hB⟩ := choose_lt hb
    have hln : ((List.range len).map B).length = len := by simp
    refine ⟨some a, cap, (List.range len).map B, by rw [hln], rsl_fns a _ fun i hi => ?_, by rw [hln]; simpa [szR] using z1, fun z hz => ?_, ?_⟩
    · simp only [List.length_map, List.length_range] at hi
      simpa using (hB i hi).1
    · obtain ⟨i, hi, rfl⟩ := List.mem_map.1 hz
      exact (hB i (List.mem_range.1 hi)).2.1
    · rw [hx0, List.map_map]
      refine Nat.le_trans (bulk_map _ fun i hi => ?_) bulk_slice
      exact (hB i (List.mem_range.1 hi)).2.2
theorem zip_parts : ∀ l : List (FnP × OpsV), (l.map (·.1)).zip (l.map (·.2)) = l
  | [] => rfl
  | x :: l => by simp [zip_parts l]
/-- How much code holds. -/
def bulkC (c : CodeP) : Nat := (c.funcs.map bulkF).sum + (c.strs.map fun s => s.size + 1).sum + (c.names.map fun s => s.size + 1).sum + c.ints.length
set_option maxRecDepth 100000 in
/-- THE ARGUMENT: code that lies there. -/
theorem read_code {b0 : Nat} {v : Value} {d : DataW H} {p : List MemPlace} (hv : Value.okWide Tryd.prog w .any b0 26 v) (h : DataW.Trod enc Tryd.prog w base spare held 26 v d p) (hz : ∀ n ∈ d.weights Tryd.prog 26, szR n) :
    ∃ c V, v = codeV c V ∧ RCodeR w c V ∧ Nums64 c ∧ SizedC c ∧ bulkC c ≤ Rows.uptoBulk d := by
  obtain ⟨v0, v1, v2, v3, y0, y1, y2, y3, n, rfl, rfl, -, t0, t1, t2, t3⟩ := open_agg4 (Tryd.underlying26) (by kernel_rfl) (by kernel_rfl) hv h
  obtain ⟨k0, k1, k2, k3⟩ := agg_w4 (Tryd.underlying26) hz
  obtain ⟨a0, c0, l0, rfl, r0, z0, q0, u0⟩ := read_kfns t0 k0
  obtain ⟨a1, c1, l1, rfl, r1, g1, m1, z1, q1, u1⟩ := read_i64s t1 k1
  obtain ⟨a2, c2, l2, rfl, r2, g2, m2, z2, q2, u2⟩ := read_strs t2 k2
  obtain ⟨a3, c3, l3, rfl, r3, g3, m3, z3, q3, u3⟩ := read_strs t3 k3
  refine ⟨⟨l0.map (·.1), l1, l2, l3⟩, ⟨(a0, c0), (a1, c1), (a2, c2), (a3, c3), l0.map (·.2)⟩, by simp [codeV], ⟨by simp, ?_, r1, r2, r3, ?_, g1, g2, g3, m1, m2, m3⟩, ⟨fun f hf => ?_, q1⟩, ⟨q2, q3, fun f hf => ?_, by simpa using z0, z1, z2, z3⟩, ?_⟩
  · unfold withV; rw [zip_parts]; exact r0
  · unfold withV; rw [zip_parts]; exact fun x hx => (q0 x hx).1
  · obtain ⟨x, hx, rfl⟩ := List.mem_map.1 hf
    obtain ⟨_, _, _, h4, h5, h6, h7, h8⟩ := q0 x hx
    exact ⟨h5, h6, h7, h8, fun op ho => (h4 op ho).2⟩
  · obtain ⟨x, hx, rfl⟩ := List.mem_map.1 hf
    obtain ⟨_, h2, h3, h4, _⟩ := q0 x hx
    exact ⟨h2, h3, fun op ho => (h4 op ho).1⟩
  · simp only [bulkC, List.map_map, Rows.uptoBulk, Rows.uptoBulkAll]
    have e : (bulkF ∘ fun (x : FnP × OpsV) => x.1) = fun q => bulkF q.1 := rfl
    rw [e]
    omega
end
open Go.RowKit

def sumS (l : List ByteArray) : Nat := (l.map ByteArray.size).sum
def sumF (l : List FnP) : Nat := (l.map fun f => f.ops.length + f.name.size).sum
def smallC (c : CodeP) : Bool := decide (c.funcs.length ≤ 100) && (decide (c.ints.length ≤ 300) && (decide (c.strs.length ≤ 300) && decide (c.names.length ≤ 300)))
def tameB (c : CodeP) : Bool := smallC c && decide (sumS c.strs + sumF c.funcs ≤ 2000)
theorem sumS_snoc (l : List ByteArray) (k : Nat) (hk : k < l.length) : sumS (l.take (k + 1)) = sumS (l.take k) + (l[k]).size := by
  unfold sumS
  rw [List.take_add_one, List.getElem?_eq_getElem hk, List.map_append, List.sum_append]
  simp
theorem sumF_snoc (l : List FnP) (k : Nat) (hk : k < l.length) : sumF (l.take (k + 1)) = sumF (l.take k) + ((l[k]).ops.length + (l[k]).name.size) := by
  unfold sumF
  rw [List.take_add_one, List.getElem?_eq_getElem hk, List.map_append, List.sum_append]
  simp
theorem sumS_le (l : List ByteArray) (h : ∀ s ∈ l, s.size ≤ 140737488351232) : ∀ k, k ≤ l.length → sumS (l.take k) ≤ k * 140737488351232
  | 0, _ => by simp [sumS]
  | k + 1, hk => by
    rw [sumS_snoc l k (by omega)]
    have h1 := sumS_le l h k (by omega)
    have h2 := h _ (List.getElem_mem (show k < l.length by omega))
    rw [Nat.add_mul]
    omega
theorem sumF_le (l : List FnP) (h : ∀ f ∈ l, f.name.size ≤ 140737488351232 ∧ f.ops.length * 24 ≤ 140737488351232) : ∀ k, k ≤ l.length → sumF (l.take k) ≤ k * 281474976702464
  | 0, _ => by simp [sumF]
  | k + 1, hk => by
    rw [sumF_snoc l k (by omega)]
    have h1 := sumF_le l h k (by omega)
    obtain ⟨h2, h3⟩ := h _ (List.getElem_mem (show k < l.length by omega))
    rw [Nat.add_mul]
    omega
theorem fn_cellsR {w : World} {c : CodeP} {V : CodeV} (h : RCodeR w c V) {k : Nat} (hk : k < c.funcs.length) :
    ∃ fb fo va vc, V.F.1 = some ⟨fb, fo, none⟩ ∧ w.cell? ⟨fb, fo + k * 6, none⟩ = some (.string (c.funcs[k]).name) ∧ w.cell? ⟨fb, fo + k * 6 + 1, none⟩ = some (.int .i64 (c.funcs[k]).params) ∧ w.cell? ⟨fb, fo + k * 6 + 2, none⟩ = some (.int .i64 (c.funcs[k]).locals) ∧
      w.cell? ⟨fb, fo + k * 6 + 3, none⟩ = some (.int .i64 (c.funcs[k]).cells) ∧ w.cell? ⟨fb, fo + k * 6 + 4, none⟩ = some (.int .i64 (c.funcs[k]).frees) ∧ w.cell? ⟨fb, fo + k * 6 + 5, none⟩ = some (.slice va (c.funcs[k]).ops.length vc) ∧ RSl w va (opCells (c.funcs[k]).ops) ∧ (va, vc) ∈ V.fs := by
  have hwl : (withV c V).length = c.funcs.length := by unfold withV; rw [List.length_zip, h.len, Nat.min_self]
  have hat := fnCells_at (withV c V) k (by rw [hwl]; exact hk)
  have hfs : ((withV c V)[k]'(by rw [hwl]; exact hk)).1 = c.funcs[k] := by unfold withV; simp
  obtain ⟨fb, fo, hfe⟩ := h.F.some_ (by rw [fnCells_len, hwl]; omega)
  have hF := h.F
  rw [hfe] at hF
  have hmem : (withV c V)[k]'(by rw [hwl]; exact hk) ∈ withV c V := List.getElem_mem _
  have ho := h.ops _ hmem
  rw [hfs] at hat ho
  refine ⟨fb, fo, ((withV c V)[k]'(by rw [hwl]; exact hk)).2.1, ((withV c V)[k]'(by rw [hwl]; exact hk)).2.2, hfe, hF.at_ hat.1, ?_, ?_, ?_, ?_, ?_, ho, ?_⟩
  · rw [Nat.add_assoc]; exact hF.at_ hat.2.1
  · rw [Nat.add_assoc]; exact hF.at_ hat.2.2.1
  · rw [Nat.add_assoc]; exact hF.at_ hat.2.2.2.1
  · rw [Nat.add_assoc]; exact hF.at_ hat.2.2.2.2.1
  · rw [Nat.add_assoc]; exact hF.at_ hat.2.2.2.2.2
  · exact (List.of_mem_zip (show ((withV c V)[k]'(by rw [hwl]; exact hk)) ∈ c.funcs.zip V.fs from List.getElem_mem _)).2
theorem tame_big {c : CodeP} (h : smallC c = false) : tameB c = false := by unfold tameB; rw [h]; rfl
theorem small_parts {c : CodeP} (h : smallC c = true) : c.funcs.length ≤ 100 ∧ c.ints.length ≤ 300 ∧ c.strs.length ≤ 300 ∧ c.names.length ≤ 300 := by
  simpa [smallC] using h
set_option maxRecDepth 100000 in
set_option maxHeartbeats 8000000 in
theorem tame_any (c : CodeP) (V : CodeV) (w : World) (hR : RCodeR w c V) (hZ : SizedC c) :
    Calls Tryd.prog 7 #[codeV c V] w fun e w' => e = .returned (.bool (tameB c)) ∧ Ext w w' := by
  obtain ⟨RES, hRES⟩ : ∃ RES, RES = tameB c := ⟨_, rfl⟩
  rw [← hRES]
  have HRES := Lib.hid hRES
  clear hRES
  obtain ⟨⟨fa, fcp⟩, ⟨ia, icp⟩, ⟨sa, scp⟩, ⟨na, ncp⟩, fs⟩ := V
  have z1 := hZ.lF
  have z2 := hZ.lI
  have z3 := hZ.lS
  have z4 := hZ.lN
  unfold szR at z1 z2 z3 z4
  have HR := Lib.hid hR
  have HZ := Lib.hid hZ
  clear hR hZ
  unfold codeV
  simp only
  go_enter Tryd.func7, Tryd.ntmps7
  go_upto_region 1 with fail
  refine namedW (fun w1 hw1 => ?_)
  have hX1 : Ext w w1 := by rw [hw1]; exact (Ext.refl w).alloc_ _
  obtain ⟨P1, hP1⟩ : ∃ P1, P1 = w.heap.size := ⟨_, rfl⟩
  have p0 : w1.cell? ⟨P1, 0, none⟩ = some (.slice fa c.funcs.length fcp) := by rw [hw1, hP1]; simp [go_sem]
  have p1 : w1.cell? ⟨P1, 1, none⟩ = some (.slice ia c.ints.length icp) := by rw [hw1, hP1]; simp [go_sem]
  have p2 : w1.cell? ⟨P1, 2, none⟩ = some (.slice sa c.strs.length scp) := by rw [hw1, hP1]; simp [go_sem]
  have p3 : w1.cell? ⟨P1, 3, none⟩ = some (.slice na c.names.length ncp) := by rw [hw1, hP1]; simp [go_sem]
  rw [← hP1]
  have HX1 := Lib.hid hX1
  have hlP : P1 < w1.heap.size := cell_lt p0
  clear hw1 hP1 hX1
  go_upto_region 3 with fail
  go_loopg [4, 3] (c.strs.length) (fun r i n wr => ∃ (k : Nat) (z : Int), k + r = c.strs.length ∧ i = .int .i64 (k : Int) ∧ n = .int .i64 z ∧ Hid (smallC c = true → z = (sumS (c.strs.take k) : Int)) ∧ Hid (Ext w1 wr))
  case atStart => exact ⟨0, 0, by omega, rfl, rfl, fun _ => by simp [sumS], Ext.refl _⟩
  case round =>
    obtain ⟨k, z, hk, rfl, rfl, hS, hE⟩ := hrel
    have q2 := hE.out.cell_ p2
    have hsz := hE.out.size
    cases gk with
    | succ r =>
      have hlt : k < c.strs.length := by omega
      have hltz : (k : Int) < (c.strs.length : Int) := by omega
      have hRS := (HR.out.ext (HX1.out.trans_ hE.out)).S
      simp only at hRS
      obtain ⟨sb, so, rfl⟩ := hRS.some_ (by simp; omega)
      have s0 : wr.cell? ⟨sb, so + k, none⟩ = some (.string c.strs[k]) := hRS.at_ (by simp [hlt])
      have hsn := sumS_snoc c.strs k hlt
      have hzz := HZ.out.strs _ (List.getElem_mem hlt)
      unfold szR at hzz
      have hle := fun (hsm : smallC c = true) => sumS_le c.strs HZ.out.strs k (by omega)
      have HLE := Lib.hid hle
      generalize c.strs[k] = s at *
      have HK := Lib.hid hk
      have HSN := Lib.hid hsn
      clear hk hsn hle hRS
      go_wp2
      go_roundg r
      case measure => omega
      case rel =>
        refine ⟨k + 1, _, by have := HK.out; omega, by go_num, rfl, fun hsm => ?_, hE.out⟩
        have hz := hS.out hsm
        have hb := HLE.out hsm
        have := (small_parts hsm).2.2.1
        have hb2 : k * 140737488351232 ≤ 300 * 140737488351232 := Nat.mul_le_mul_right _ (by omega)
        rw [HSN.out, hz]
        first | (rw [IntWalk.wrap64_in _ (by omega)]; push_cast; rfl) | (rw [IntWalk.i64_in _ (by omega)]; push_cast; rfl)
    | zero =>
      obtain rfl : k = c.strs.length := by omega
      have hltz : ¬ ((c.strs.length : Nat) : Int) < (c.strs.length : Int) := by omega
      rw [List.take_length] at hS
      clear hk
      go_upto_region 7 with fail
      obtain ⟨w2, hw2⟩ : ∃ w2, w2 = wr := ⟨_, rfl⟩
      rw [← hw2] at hE q2 hsz ⊢
      have HE2 := Lib.hid (HX1.out.trans_ hE.out)
      have t0 := hE.out.cell_ p0
      have t1 := hE.out.cell_ p1
      have t3 := hE.out.cell_ p3
      have hlP2 : P1 < w2.heap.size := cell_lt t0
      clear hw2 p0 p1 p2 p3 hE hsz hlP
      go_loopg [5, 3] (c.funcs.length) (fun r i n wr => ∃ (k : Nat) (z : Int), k + r = c.funcs.length ∧ i = .int .i64 (k : Int) ∧ n = .int .i64 z ∧ Hid (smallC c = true → z = ((sumS c.strs + sumF (c.funcs.take k) : Nat) : Int)) ∧ Hid (Ext w2 wr))
      case atStart => exact ⟨0, _, by omega, rfl, rfl, fun hsm => by rw [hS.out hsm]; simp [sumF], Ext.refl _⟩
      case round =>
        obtain ⟨k, z, hk, rfl, rfl, hF, hE⟩ := hrel
        clear hS
        have q0 := hE.out.cell_ t0
        have q1 := hE.out.cell_ t1
        have q2 := hE.out.cell_ q2
        have q3 := hE.out.cell_ t3
        have hsz := hE.out.size
        clear t0 t1 t3
        cases gk with
        | succ r =>
          have hlt : k < c.funcs.length := by omega
          have hltz : (k : Int) < (c.funcs.length : Int) := by omega
          obtain ⟨fb, fo, va, vc, hfa, c0, -, -, -, -, c5, -, -⟩ := fn_cellsR (HR.out.ext (HE2.out.trans_ hE.out)) hlt
          simp only at hfa
          subst hfa
          have hsn := sumF_snoc c.funcs k hlt
          obtain ⟨z5, z6, -⟩ := HZ.out.fns _ (List.getElem_mem hlt)
          unfold szR at z5 z6
          have hle := sumF_le c.funcs (fun f hf => ⟨(HZ.out.fns f hf).1, (HZ.out.fns f hf).2.1⟩) k (by omega)
          have hle2 := sumS_le c.strs HZ.out.strs c.strs.length (Nat.le_refl _)
          rw [List.take_length] at hle2
          have HLE := Lib.hid hle
          have HLE2 := Lib.hid hle2
          generalize c.funcs[k].ops.length = x at *
          generalize c.funcs[k].name = y at *
          have HK := Lib.hid hk
          have HSN := Lib.hid hsn
          clear hk hsn hle hle2
          go_wp2
          go_quiet (fail)
          go_wp2
          go_roundg r
          case measure => omega
          case rel =>
            refine ⟨k + 1, _, by have := HK.out; omega, by go_num, rfl, fun hsm => ?_, hE.out.drewN_ _⟩
            have hz := hF.out hsm
            have hb := HLE.out
            have hb1 := HLE2.out
            obtain ⟨h1, -, h3, -⟩ := small_parts hsm
            have hb2 : k * 281474976702464 ≤ 100 * 281474976702464 := Nat.mul_le_mul_right _ (by omega)
            have hb3 : c.strs.length * 140737488351232 ≤ 300 * 140737488351232 := Nat.mul_le_mul_right _ (by omega)
            rw [HSN.out, hz]
            first
              | (rw [IntWalk.i64_in ((((sumS c.strs + sumF (c.funcs.take k) : Nat)) : Int) + (x : Int)) (by omega), IntWalk.i64_in _ (by omega)]; push_cast; omega)
              | (rw [IntWalk.wrap64_in ((((sumS c.strs + sumF (c.funcs.take k) : Nat)) : Int) + (x : Int)) (by omega), IntWalk.wrap64_in _ (by omega)]; push_cast; omega)
        | zero =>
          obtain rfl : k = c.funcs.length := by omega
          have hltz : ¬ ((c.funcs.length : Nat) : Int) < (c.funcs.length : Int) := by omega
          rw [List.take_length] at hF
          clear hk
          have hfin : Ext w wr := HE2.out.trans_ hE.out
          have HFIN := Lib.hid hfin
          clear hfin
          cases hsm : smallC c with
          | true =>
            obtain rfl := hF.out hsm
            obtain ⟨h1, h2, h3, h4⟩ := small_parts hsm
            have g1 : decide ((c.funcs.length : Int) ≤ 100) = true := decide_eq_true (by omega)
            have g2 : decide ((c.ints.length : Int) ≤ 300) = true := decide_eq_true (by omega)
            have g3 : decide ((c.strs.length : Int) ≤ 300) = true := decide_eq_true (by omega)
            have g4 : decide ((c.names.length : Int) ≤ 300) = true := decide_eq_true (by omega)
            by_cases hn : sumS c.strs + sumF c.funcs ≤ 2000
            · obtain rfl : RES = true := by rw [HRES.out]; unfold tameB; rw [hsm, decide_eq_true hn]; rfl
              clear HRES
              have g0 : decide ((((sumS c.strs + sumF c.funcs : Nat)) : Int) ≤ 2000) = true := decide_eq_true (by omega)
              clear hF hsm hn h1 h2 h3 h4
              generalize (((sumS c.strs + sumF c.funcs : Nat)) : Int) = z at *
              go_wp2
              go_ret
              exact ⟨by simp_all, HFIN.out⟩
            · obtain rfl : RES = false := by rw [HRES.out]; unfold tameB; rw [hsm, decide_eq_false hn]; rfl
              clear HRES
              have g0 : decide ((((sumS c.strs + sumF c.funcs : Nat)) : Int) ≤ 2000) = false := decide_eq_false (by omega)
              clear hF hsm hn h1 h2 h3 h4
              generalize (((sumS c.strs + sumF c.funcs : Nat)) : Int) = z at *
              go_wp2
              go_ret
              exact ⟨by simp_all, HFIN.out⟩
          | false =>
            obtain rfl : RES = false := by rw [HRES.out, tame_big hsm]
            clear hF HRES
            by_cases g0' : z ≤ 2000
            · have g0 : decide (z ≤ 2000) = true := decide_eq_true g0'
              clear g0'
              by_cases g1' : c.funcs.length ≤ 100
              · have g1 : decide ((c.funcs.length : Int) ≤ 100) = true := decide_eq_true (by omega)
                by_cases g2' : c.ints.length ≤ 300
                · have g2 : decide ((c.ints.length : Int) ≤ 300) = true := decide_eq_true (by omega)
                  by_cases g3' : c.strs.length ≤ 300
                  · have g3 : decide ((c.strs.length : Int) ≤ 300) = true := decide_eq_true (by omega)
                    have g4 : decide ((c.names.length : Int) ≤ 300) = false := decide_eq_false (fun q => by
                      have : smallC c = true := by simp [smallC]; omega
                      rw [hsm] at this; cases this)
                    clear hsm g1' g2' g3'
                    go_wp2
                    go_ret
                    exact ⟨by simp_all, HFIN.out⟩
                  · have g3 : decide ((c.strs.length : Int) ≤ 300) = false := decide_eq_false (by omega)
                    clear hsm g1' g2' g3'
                    go_wp2
                    go_ret
                    exact ⟨by simp_all, HFIN.out⟩
                · have g2 : decide ((c.ints.length : Int) ≤ 300) = false := decide_eq_false (by omega)
                  clear hsm g1' g2'
                  go_wp2
                  go_ret
                  exact ⟨by simp_all, HFIN.out⟩
              · have g1 : decide ((c.funcs.length : Int) ≤ 100) = false := decide_eq_false (by omega)
                clear hsm g1'
                go_wp2
                go_ret
                exact ⟨by simp_all, HFIN.out⟩
            · have g0 : decide (z ≤ 2000) = false := decide_eq_false g0'
              clear g0' hsm
              go_wp2
              go_ret
              exact ⟨by simp_all, HFIN.out⟩
end Go.Proofs.YtgjjkllngopboaaDoor
