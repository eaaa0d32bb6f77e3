/- The walk of word.ToHead. -/
import Derived.Test.YtgjjkllngopboaaDoorJCa02
import Derived.Test.YtgjjkllngopboaaDoorJCa01
import Derived.Deep.LoopGhost
import Derived.Deep.Cut
namespace Go.Proofs.YtgjjkllngopboaaDoor
open Go.RowKit
set_option linter.unusedVariables false
set_option linter.unusedSimpArgs false
/-- A memory. -/
structure Mem where
  half : Int
  old : Int
  card : Int
  W : List Int
  used : Int
  top : Int
  oldTop : Int
  roots : List Int
  weak : List Int
  ids : List (Int × Int)
  cards : List Bool

/-- The numbers fit their kinds; lengths fit. -/
structure Mem.Ok (M : Mem) : Prop where
  half : -9223372036854775808 ≤ M.half ∧ M.half ≤ 9223372036854775807
  old : -9223372036854775808 ≤ M.old ∧ M.old ≤ 9223372036854775807
  card : -9223372036854775808 ≤ M.card ∧ M.card ≤ 9223372036854775807
  used : -9223372036854775808 ≤ M.used ∧ M.used ≤ 9223372036854775807
  top : -9223372036854775808 ≤ M.top ∧ M.top ≤ 9223372036854775807
  oldTop : -9223372036854775808 ≤ M.oldTop ∧ M.oldTop ≤ 9223372036854775807
  W : ∀ x ∈ M.W, 0 ≤ x ∧ x ≤ 18446744073709551615
  roots : ∀ x ∈ M.roots, 0 ≤ x ∧ x ≤ 18446744073709551615
  weak : ∀ x ∈ M.weak, 0 ≤ x ∧ x ≤ 18446744073709551615
  ids : ∀ x ∈ M.ids, (0 ≤ x.1 ∧ x.1 ≤ 18446744073709551615) ∧ (-9223372036854775808 ≤ x.2 ∧ x.2 ≤ 9223372036854775807)
  lenW : M.W.length ≤ 9223372036854775807
  lenR : M.roots.length ≤ 9223372036854775807
  lenK : M.weak.length ≤ 9223372036854775807
  lenI : M.ids.length ≤ 9223372036854775807
  lenC : M.cards.length ≤ 9223372036854775807

/-- Words, pairs, bools as cells. -/
def wcells (l : List Int) : List Value := l.map fun x => Value.int .u64 x
def icells (l : List (Int × Int)) : List Value := l.flatMap fun x => [Value.int .u64 x.1, Value.int .i64 x.2]
def bcells (l : List Bool) : List Value := l.map fun x => Value.bool x

/-- The address of a slice reads as these cells. -/
def RSl (w : World) (a : Option Addr) (cs : List Value) : Prop :=
  ∀ j u, cs[j]? = some u → ∃ b off, a = some ⟨b, off, none⟩ ∧ w.cell? ⟨b, off + j, none⟩ = some u
theorem RSl.ext {w w' : World} {a : Option Addr} {cs : List Value} (h : RSl w a cs) (hx : Ext w w') : RSl w' a cs := fun j u hu => by
  obtain ⟨b, off, ha, hc⟩ := h j u hu
  exact ⟨b, off, ha, hx.cell_ hc⟩
theorem RSl.nil (w : World) (a : Option Addr) : RSl w a [] := fun j u h => by simp at h
/-- The cell at an index, in the walk's spelling. -/
theorem RSl.at_ {w : World} {b off : Nat} {cs : List Value} (h : RSl w (some ⟨b, off, none⟩) cs) {j : Nat} {u : Value} (hu : cs[j]? = some u) : w.cell? ⟨b, off + j, none⟩ = some u := by
  obtain ⟨b', off', ha, hc⟩ := h j u hu
  injection ha with ha; injection ha with h1 h2
  subst h1 h2; exact hc
theorem RSl.some_ {w : World} {a : Option Addr} {cs : List Value} (h : RSl w a cs) (hn : 0 < cs.length) : ∃ b off, a = some ⟨b, off, none⟩ := by
  obtain ⟨b, off, ha, _⟩ := h 0 cs[0] (by simp [hn])
  exact ⟨b, off, ha⟩

/-- Where a memory's slices lie: address and capacity. -/
structure Sls where
  W : Option Addr × Nat
  R : Option Addr × Nat
  K : Option Addr × Nat
  I : Option Addr × Nat
  C : Option Addr × Nat

/-- A world holds a memory at a place. -/
structure RMem (w : World) (b o : Nat) (M : Mem) (S : Sls) : Prop where
  half : w.cell? ⟨b, o, none⟩ = some (.int .i64 M.half)
  old : w.cell? ⟨b, o + 1, none⟩ = some (.int .i64 M.old)
  card : w.cell? ⟨b, o + 2, none⟩ = some (.int .i64 M.card)
  W : w.cell? ⟨b, o + 3, none⟩ = some (.slice S.W.1 M.W.length S.W.2)
  used : w.cell? ⟨b, o + 4, none⟩ = some (.int .i64 M.used)
  top : w.cell? ⟨b, o + 5, none⟩ = some (.int .i64 M.top)
  oldTop : w.cell? ⟨b, o + 6, none⟩ = some (.int .i64 M.oldTop)
  roots : w.cell? ⟨b, o + 7, none⟩ = some (.slice S.R.1 M.roots.length S.R.2)
  weak : w.cell? ⟨b, o + 8, none⟩ = some (.slice S.K.1 M.weak.length S.K.2)
  ids : w.cell? ⟨b, o + 9, none⟩ = some (.slice S.I.1 M.ids.length S.I.2)
  cards : w.cell? ⟨b, o + 10, none⟩ = some (.slice S.C.1 M.cards.length S.C.2)
  rW : RSl w S.W.1 (wcells M.W)
  rR : RSl w S.R.1 (wcells M.roots)
  rK : RSl w S.K.1 (wcells M.weak)
  rI : RSl w S.I.1 (icells M.ids)
  rC : RSl w S.C.1 (bcells M.cards)
  capW : M.W.length ≤ S.W.2
  capR : M.roots.length ≤ S.R.2
  capK : M.weak.length ≤ S.K.2
  capI : M.ids.length ≤ S.I.2
  capC : M.cards.length ≤ S.C.2
  nilW : S.W.1 = none → S.W.2 = 0
  nilR : S.R.1 = none → S.R.2 = 0
  nilK : S.K.1 = none → S.K.2 = 0
  nilI : S.I.1 = none → S.I.2 = 0
  nilC : S.C.1 = none → S.C.2 = 0
  ok : M.Ok

theorem RMem.ext {w w' : World} {b o : Nat} {M : Mem} {S : Sls} (h : RMem w b o M S) (hx : Ext w w') : RMem w' b o M S :=
  ⟨hx.cell_ h.half, hx.cell_ h.old, hx.cell_ h.card, hx.cell_ h.W, hx.cell_ h.used, hx.cell_ h.top, hx.cell_ h.oldTop, hx.cell_ h.roots, hx.cell_ h.weak, hx.cell_ h.ids, hx.cell_ h.cards,
    h.rW.ext hx, h.rR.ext hx, h.rK.ext hx, h.rI.ext hx, h.rC.ext hx, h.capW, h.capR, h.capK, h.capI, h.capC, h.nilW, h.nilR, h.nilK, h.nilI, h.nilC, h.ok⟩
theorem RMem.lt {w : World} {b o : Nat} {M : Mem} {S : Sls} (h : RMem w b o M S) : b < w.heap.size := cell_lt h.half
def opCells : List OpP → List Value
  | [] => []
  | o :: l => .string o.name :: .int .i64 o.a :: opCells l
theorem opCells_len : ∀ l : List OpP, (opCells l).length = 2 * l.length
  | [] => rfl
  | o :: l => by simp only [opCells, List.length_cons, opCells_len l]; omega
theorem opCells_at : ∀ (l : List OpP) (i : Nat) (h : i < l.length), (opCells l)[i * 2]? = some (.string l[i].name) ∧ (opCells l)[i * 2 + 1]? = some (.int .i64 l[i].a)
  | [], _, h => by simp at h
  | o :: l, 0, _ => ⟨rfl, rfl⟩
  | o :: l, i + 1, h => by
    have := opCells_at l i (by simpa using h)
    rw [show (i + 1) * 2 = i * 2 + 1 + 1 by omega]
    exact this
/-- Where a function's ops lie. -/
abbrev OpsV := Option Addr × Nat
def fnCells : List (FnP × OpsV) → List Value
  | [] => []
  | x :: l => .string x.1.name :: .int .i64 x.1.params :: .int .i64 x.1.locals :: .int .i64 x.1.cells :: .int .i64 x.1.frees :: .slice x.2.1 x.1.ops.length x.2.2 :: fnCells l
theorem fnCells_len : ∀ l : List (FnP × OpsV), (fnCells l).length = 6 * l.length
  | [] => rfl
  | x :: l => by simp only [fnCells, List.length_cons, fnCells_len l]; omega
theorem fnCells_at : ∀ (l : List (FnP × OpsV)) (i : Nat) (h : i < l.length),
    (fnCells l)[i * 6]? = some (.string l[i].1.name) ∧ (fnCells l)[i * 6 + 1]? = some (.int .i64 l[i].1.params) ∧ (fnCells l)[i * 6 + 2]? = some (.int .i64 l[i].1.locals) ∧
    (fnCells l)[i * 6 + 3]? = some (.int .i64 l[i].1.cells) ∧ (fnCells l)[i * 6 + 4]? = some (.int .i64 l[i].1.frees) ∧ (fnCells l)[i * 6 + 5]? = some (.slice l[i].2.1 l[i].1.ops.length l[i].2.2)
  | [], _, h => by simp at h
  | x :: l, 0, _ => ⟨rfl, rfl, rfl, rfl, rfl, rfl⟩
  | x :: l, i + 1, h => by
    have := fnCells_at l i (by simpa using h)
    rw [show (i + 1) * 6 = i * 6 + 1 + 1 + 1 + 1 + 1 + 1 by omega]
    exact this
/-- Where code's slices lie. -/
structure CodeV where
  F : OpsV
  I : OpsV
  S : OpsV
  N : OpsV
  fs : List OpsV
def codeV (c : CodeP) (V : CodeV) : Value := .agg #[.slice V.F.1 c.funcs.length V.F.2, .slice V.I.1 c.ints.length V.I.2, .slice V.S.1 c.strs.length V.S.2, .slice V.N.1 c.names.length V.N.2]
def withV (c : CodeP) (V : CodeV) : List (FnP × OpsV) := c.funcs.zip V.fs
structure RCode (w : World) (c : CodeP) (V : CodeV) : Prop where
  len : V.fs.length = c.funcs.length
  F : RSl w V.F.1 (fnCells (withV c V))
  I : RSl w V.I.1 (c.ints.map fun x => Value.int .i64 x)
  S : RSl w V.S.1 (c.strs.map Value.string)
  N : RSl w V.N.1 (c.names.map Value.string)
  ops : ∀ x ∈ withV c V, RSl w x.2.1 (opCells x.1.ops)
  count : countP c + c.funcs.length + c.ints.length + c.strs.length + c.names.length ≤ 1000000000000000000
theorem RCode.ext {w w' : World} {c : CodeP} {V : CodeV} (h : RCode w c V) (hx : Ext w w') : RCode w' c V :=
  ⟨h.len, h.F.ext hx, h.I.ext hx, h.S.ext hx, h.N.ext hx, fun x hm => (h.ops x hm).ext hx, h.count⟩
theorem withV_len {w : World} {c : CodeP} {V : CodeV} (h : RCode w c V) : (withV c V).length = c.funcs.length := by
  unfold withV; rw [List.length_zip, h.len, Nat.min_self]
theorem withV_fst {w : World} {c : CodeP} {V : CodeV} (h : RCode w c V) (k : Nat) (hk : k < c.funcs.length) : ((withV c V)[k]'(by rw [withV_len h]; exact hk)).1 = c.funcs[k] := by
  unfold withV; simp
/-- The ops of the first k functions. -/
def countK (c : CodeP) (k : Nat) : Nat := ((c.funcs.take k).map fun f => f.ops.length).sum
theorem countK_snoc (c : CodeP) (k : Nat) (hk : k < c.funcs.length) : countK c (k + 1) = countK c k + c.funcs[k].ops.length := by
  unfold countK
  rw [List.take_add_one, List.getElem?_eq_getElem hk, List.map_append, List.sum_append]
  rfl
theorem countK_all (c : CodeP) : countK c c.funcs.length = countP c := by
  unfold countK countP
  rw [List.take_length]
theorem countK_le (c : CodeP) (k : Nat) : countK c k ≤ countP c := by
  unfold countK countP
  have e : (c.funcs.map fun f => f.ops.length) = (c.funcs.take k).map (fun f => f.ops.length) ++ (c.funcs.drop k).map (fun f => f.ops.length) := by
    rw [← List.map_append, List.take_append_drop]
  rw [e, List.sum_append]
  omega
theorem empty_no {s : ByteArray} (h : s ≠ ⟨#[]⟩) : s.toList.isEmpty = false := by
  rw [ByteArray.toList_eq]
  obtain ⟨⟨l⟩⟩ := s
  cases l with
  | nil => exact absurd rfl h
  | cons a l => rfl
theorem str_no {s : ByteArray} {l : List UInt8} (h : s ≠ ⟨l.toArray⟩) : (s.toList == l) = false := by
  rw [ByteArray.toList_eq, beq_eq_false_iff_ne]
  intro e
  obtain ⟨⟨m⟩⟩ := s
  exact h (by rw [← e])
theorem namedW {P : Program} {c : Code} {Q : Exit → Act → World → Prop} {a : Act} {W : World} (h : ∀ W9, W9 = W → Code.wp P c Q a W9) : Code.wp P c Q a W := h W rfl
set_option maxRecDepth 100000 in
set_option maxHeartbeats 4000000 in
theorem count_any (c : CodeP) (V : CodeV) (w : World) (hR : RCode w c V) :
    Calls Tryd.prog 11 #[codeV c V] w fun e w' => e = .returned (.int .i64 (countP c : Int)) ∧ Ext w w' := by
  have hcn := hR.count
  have HR := Lib.hid hR
  clear hR
  unfold codeV
  go_enter Tryd.func11, Tryd.ntmps11
  go_upto_region 2 with fail
  obtain ⟨B, hB⟩ : ∃ B, B = w.heap.size := ⟨_, rfl⟩
  refine namedW (fun W3 hW3 => ?_)
  have f0 : W3.cell? ⟨B, 0, none⟩ = some (.slice V.F.1 c.funcs.length V.F.2) := by rw [hW3, hB, World.cell?_alloc_new]; rfl
  have hX3 : Ext w W3 := by rw [hW3]; exact (Ext.refl _).alloc_ _
  rw [← hB]
  have HX3 := Lib.hid hX3
  have hBz := cell_lt f0
  simp only at hBz
  clear hW3 hX3 hB
  obtain ⟨fa, hfa⟩ : ∃ fa, V.F.1 = fa := ⟨_, rfl⟩
  have r0 := HR.out.F
  rw [hfa] at f0 r0
  have HFA := Lib.hid hfa
  have HR0 := Lib.hid r0
  clear hfa r0
  go_upto_region 3 with fail
  clear f0
  go_loopg [3, 9] (c.funcs.length) (fun r n i wr => ∃ k : Nat, k + r = c.funcs.length ∧ i = .int .i64 (k : Int) ∧ n = .int .i64 (countK c k : Int) ∧ Hid (Ext W3 wr))
  case atStart => exact ⟨0, by omega, rfl, rfl, by first | exact Ext.refl _ | exact (Ext.refl _).drew_⟩
  case round =>
    obtain ⟨k, hk, rfl, rfl, hE⟩ := hrel
    have hsz := hE.out.size
    cases gk with
    | succ r =>
      have hlt : k < c.funcs.length := by omega
      have hltz : (k : Int) < (c.funcs.length : Int) := by omega
      have hat := fnCells_at (withV c V) k (by rw [withV_len HR.out]; exact hlt)
      have hfs := withV_fst HR.out k hlt
      obtain ⟨fb, fo, hfe⟩ := HR0.out.some_ (by rw [fnCells_len, withV_len HR.out]; omega)
      subst hfe
      obtain ⟨oa, oc, v0, v1, v2, v3, v4, c0, c1, c2, c3, c4, c5⟩ : ∃ oa oc v0 v1 v2 v3 v4, wr.cell? ⟨fb, fo + k * 6, none⟩ = some (.string v0) ∧ wr.cell? ⟨fb, fo + k * 6 + 1, none⟩ = some (.int .i64 v1) ∧ wr.cell? ⟨fb, fo + k * 6 + 2, none⟩ = some (.int .i64 v2) ∧ wr.cell? ⟨fb, fo + k * 6 + 3, none⟩ = some (.int .i64 v3) ∧ wr.cell? ⟨fb, fo + k * 6 + 4, none⟩ = some (.int .i64 v4) ∧ wr.cell? ⟨fb, fo + k * 6 + 5, none⟩ = some (.slice oa c.funcs[k].ops.length oc) := by
        have hr := ((HR0.out.ext HX3.out).ext hE.out)
        have c0 := hr.at_ hat.1
        have c1 := hr.at_ hat.2.1
        have c2 := hr.at_ hat.2.2.1
        have c3 := hr.at_ hat.2.2.2.1
        have c4 := hr.at_ hat.2.2.2.2.1
        have c5 := hr.at_ hat.2.2.2.2.2
        rw [hfs, ← Nat.add_assoc] at c5
        rw [← Nat.add_assoc] at c1 c2 c3 c4
        exact ⟨_, _, _, _, _, _, _, c0, c1, c2, c3, c4, c5⟩
      have hsn := countK_snoc c k hlt
      have hle := countK_le c (k + 1)
      rw [hsn] at hle
      generalize c.funcs[k].ops.length = x at *
      generalize countK c k = s at *
      have HK := Lib.hid hk
      have HSN := Lib.hid hsn
      clear hk hsn hlt hat hfs
      go_wp2
      go_roundg r
      case measure => omega
      case rel =>
        refine ⟨k + 1, by have := HK.out; omega, by go_num, ?_, by first | exact hE.out.alloc_ _ | exact (hE.out.alloc_ _).drew_⟩
        rw [HSN.out]
        go_num
    | zero =>
      obtain rfl : k = c.funcs.length := by omega
      have hltz : ¬ ((c.funcs.length : Nat) : Int) < (c.funcs.length : Int) := by omega
      rw [countK_all]
      clear hk
      go_wp2
      go_ret
      exact ⟨rfl, HX3.out.trans_ hE.out⟩
end Go.Proofs.YtgjjkllngopboaaDoor
