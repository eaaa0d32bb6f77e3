/- A memory among the arguments: what its reading tells of the world. -/
import Derived.Test.YtbbiaepgenbloaaGreatDoorJHa08
import Derived.ProofKit
import Derived.Deep.Fields
import Derived.Deep.SlicePairs
import Derived.OpenShut
import Derived.Test.YtbbiaepgenbloaaGreatDoorJHd02
import Derived.Lib.SmallJoins
import Derived.Deep.LoopGhost
import Derived.Test.YtbbiaepgenbloaaGreatDoorRows
import Derived.Test.YtbbiaepgenbloaaGreatDoorJHb01
import Derived.Test.YtbbiaepgenbloaaGreatDoorJHd01
import Derived.Test.YtbbiaepgenbloaaGreatDoorJHa41
import Derived.Test.YtbbiaepgenbloaaGreatDoorJHa40
namespace Go.Proofs.YtbbiaepgenbloaaGreatDoor
open Go.ChangeShapes Go.WideShapes Go.RowKit Go.Deep
set_option linter.unusedVariables false
set_option linter.unusedSimpArgs false

section
variable {H : Type} {enc : TypeId × Value → H} {w : World} {base : Nat} {spare : Nat → Bool} {held : Bool}

theorem rsl_of (a : Addr) (cs : List Value) (h : ∀ i v, cs[i]? = some v → w.cell? (a.add i) = some v) : RSl w (some a) cs := fun j u hu => by
  obtain ⟨b, off, spot⟩ := a
  obtain ⟨hj, _⟩ := List.getElem?_eq_some_iff.1 hu
  have h0 := h 0 (cs[0]'(by omega)) (by simp)
  have hs : spot = none := by simpa [Addr.add] using World.cell?_spot h0
  subst hs
  have hj0 := h j u hu
  refine ⟨b, off, rfl, ?_⟩
  by_cases e : j = 0
  · subst e; simpa [Addr.add] using hj0
  · simpa [Addr.add, e] using hj0
theorem read_u64s {fuel : Nat} {v : Value} {x : DataW H × List MemPlace} (h : DataW.trod enc Tryz.prog w base spare held fuel 61 [v] = some x) :
    ∃ a c l, v = .slice a l.length c ∧ RSl w a (wcells l) ∧ l.length ≤ c ∧ (a = none → c = 0) ∧ c ≤ 9223372036854775807 ∧ ∀ z ∈ l, 0 ≤ z ∧ z ≤ 18446744073709551615 := by
  rcases open_ints (e := 63) (k := .u64) (by kernel_rfl) (by kernel_rfl) (by kernel_rfl) h with ⟨hcs, _⟩ | ⟨a, len, cap, zs, hcs, _, hl, hm, hz, _, hcell, hwf⟩
  · obtain rfl := List.singleton_inj.1 hcs
    exact ⟨none, 0, [], rfl, RSl.nil _ _, Nat.le_refl _, fun _ => rfl, by omega, by simp⟩
  · obtain rfl := List.singleton_inj.1 hcs
    have hle : len ≤ zs.length := by rw [hz]; split <;> omega
    have hln : (zs.take len).length = len := by simp; omega
    refine ⟨some a, cap, zs.take len, by rw [hln], rsl_of a _ fun i v hi => ?_, by rw [hln]; exact hl, (fun e => by cases e), by unfold maxLen at hm; omega, fun z hz' => ?_⟩
    · obtain ⟨hi', hv⟩ := List.getElem?_eq_some_iff.1 hi
      simp only [wcells, List.length_map, hln] at hi'
      rw [hcell i (by omega), ← hv]
      simp [wcells, List.getD_eq_getElem?_getD, show i < zs.length by omega]
    · exact wf_u64 (hwf z (List.mem_of_mem_take hz'))
theorem read_bools {fuel : Nat} {v : Value} {x : DataW H × List MemPlace} (h : DataW.trod enc Tryz.prog w base spare held fuel 66 [v] = some x) :
    ∃ a c l, v = .slice a l.length c ∧ RSl w a (bcells l) ∧ l.length ≤ c ∧ (a = none → c = 0) ∧ c ≤ 9223372036854775807 := by
  rcases open_slice1 (e := 4) (by kernel_rfl) (by kernel_rfl) h with ⟨hcs, _⟩ | ⟨a, len, cap, m, n, V, D, Pl, hcs, _, hl, hm, hmm, _, hx⟩
  · obtain rfl := List.singleton_inj.1 hcs
    exact ⟨none, 0, [], rfl, RSl.nil _ _, Nat.le_refl _, fun _ => rfl, by omega⟩
  · obtain rfl := List.singleton_inj.1 hcs
    have hle : len ≤ m := by rw [hmm]; split <;> omega
    have hb : ∀ i, i < m → ∃ q : Bool, V i = .bool q := fun i hi => by
      obtain ⟨q, hq, _⟩ := DataW.trod_bool (by kernel_rfl) (hx i hi).2
      exact ⟨q, List.singleton_inj.1 hq⟩
    obtain ⟨B, hB⟩ := choose_lt (α := Bool) (p := fun i q => V i = .bool q) hb
    have hln : ((List.range len).map B).length = len := by simp
    refine ⟨some a, cap, (List.range len).map B, by rw [hln], rsl_of a _ fun i v hi => ?_, by rw [hln]; exact hl, (fun e => by cases e), by unfold maxLen at hm; omega⟩
    obtain ⟨hi', hv⟩ := List.getElem?_eq_some_iff.1 hi
    simp only [bcells, List.length_map, List.length_range] at hi'
    rw [(hx i (by omega)).1, hB i (by omega), ← hv]
    simp [bcells]
theorem rsl_ids (a : Addr) (l : List (Int × Int)) (h : ∀ (i : Nat) (hi : i < l.length), w.cell? (a.add (i * 2)) = some (.int .u64 l[i].1) ∧ w.cell? (a.add (i * 2 + 1)) = some (.int .i64 l[i].2)) : RSl w (some a) (icells l) :=
  rsl_of a _ fun i v hv => by
    obtain ⟨hi, _⟩ := List.getElem?_eq_some_iff.1 hv
    rw [icells_len] at hi
    obtain ⟨h1, h2⟩ := icells_at l (i / 2) (by omega)
    obtain ⟨h3, h4⟩ := h (i / 2) (by omega)
    rcases Nat.mod_two_eq_zero_or_one i with e | e
    · have e2 : i / 2 * 2 = i := by omega
      rw [e2] at h1 h3
      rw [hv] at h1; rw [h3, h1]
    · have e2 : i / 2 * 2 + 1 = i := by omega
      rw [e2] at h2 h4
      rw [hv] at h2; rw [h4, h2]
end
end Go.Proofs.YtbbiaepgenbloaaGreatDoor
/- Acts among the arguments: how they lie there, and the law's brief. -/
namespace Go.Proofs.YtbbiaepgenbloaaGreatDoor
open Go.ChangeShapes Go.WideShapes Go.RowKit Go.Deep Go.Joins
set_option linter.unusedVariables false
set_option linter.unusedSimpArgs false

structure ActP where
  nm : ByteArray
  a : Int
  b : Int
  c : Int
  n : Int
  s : ByteArray
instance : Inhabited ActP := ⟨⟨⟨#[]⟩, 0, 0, 0, 0, ⟨#[]⟩⟩⟩
def AtAct (w : World) (g o : Nat) (x : ActP) : Prop :=
  w.cell? ⟨g, o, none⟩ = some (.string x.nm) ∧ w.cell? ⟨g, o + 1, none⟩ = some (.int .i64 x.a) ∧ w.cell? ⟨g, o + 2, none⟩ = some (.int .i64 x.b) ∧ w.cell? ⟨g, o + 3, none⟩ = some (.int .i64 x.c) ∧
    w.cell? ⟨g, o + 4, none⟩ = some (.int .i64 x.n) ∧ w.cell? ⟨g, o + 5, none⟩ = some (.string x.s)
structure RActs (w : World) (A : Option Addr) (l : List ActP) : Prop where
  at_ : ∀ (i : Nat) (h : i < l.length), ∃ g o, A = some ⟨g, o, none⟩ ∧ AtAct w g (o + i * 6) l[i]
  nums : ∀ x ∈ l, I64 x.a ∧ I64 x.b ∧ I64 x.c
  len : l.length ≤ 9223372036854775807
theorem RActs.ext {w w' : World} {A : Option Addr} {l : List ActP} (h : RActs w A l) (hx : Ext w w') : RActs w' A l :=
  ⟨fun i hi => by
    obtain ⟨g, o, e, h0, h1, h2, h3, h4, h5⟩ := h.at_ i hi
    exact ⟨g, o, e, hx.cell_ h0, hx.cell_ h1, hx.cell_ h2, hx.cell_ h3, hx.cell_ h4, hx.cell_ h5⟩, h.nums, h.len⟩
section
variable {H : Type} {enc : TypeId × Value → H} {P : Program} {w : World} {base : Nat} {spare : Nat → Bool} {held : Bool}
theorem open_six {t : TypeId} {f0 f1 f2 f3 f4 f5 : Field} {fuel : Nat} {cs : List Value} {x : DataW H × List MemPlace} (ht : P.underlying t = some (.struct #[f0, f1, f2, f3, f4, f5])) (hone : oneCellFields P #[f0, f1, f2, f3, f4, f5] = true) (hC : P.cellsOf t = 6)
    (h : DataW.trod enc P w base spare held fuel t cs = some x) :
    ∃ (v0 v1 v2 v3 v4 v5 : Value) (y0 y1 y2 y3 y4 y5 : DataW H × List MemPlace) (n : Nat), cs = [v0, v1, v2, v3, v4, v5] ∧ x.1 = .agg [y0.1, y1.1, y2.1, y3.1, y4.1, y5.1] ∧
      DataW.trod enc P w base spare held n f0.type [v0] = some y0 ∧ DataW.trod enc P w base spare held n f1.type [v1] = some y1 ∧ DataW.trod enc P w base spare held n f2.type [v2] = some y2 ∧
      DataW.trod enc P w base spare held n f3.type [v3] = some y3 ∧ DataW.trod enc P w base spare held n f4.type [v4] = some y4 ∧ DataW.trod enc P w base spare held n f5.type [v5] = some y5 := by
  obtain ⟨xs, n, _, rfl, hl, hlen, hf⟩ := DataW.trod_struct ht h
  rw [hC] at hl
  obtain ⟨o0, k0⟩ := hone_of hone 0 f0 rfl
  obtain ⟨o1, k1⟩ := hone_of hone 1 f1 rfl
  obtain ⟨o2, k2⟩ := hone_of hone 2 f2 rfl
  obtain ⟨o3, k3⟩ := hone_of hone 3 f3 rfl
  obtain ⟨o4, k4⟩ := hone_of hone 4 f4 rfl
  obtain ⟨o5, k5⟩ := hone_of hone 5 f5 rfl
  match xs, hlen, cs, hl with
  | [y0, y1, y2, y3, y4, y5], _, [v0, v1, v2, v3, v4, v5], _ =>
    exact ⟨v0, v1, v2, v3, v4, v5, y0, y1, y2, y3, y4, y5, n, rfl, by simp, by simpa [o0, k0] using hf 0 f0 rfl, by simpa [o1, k1] using hf 1 f1 rfl, by simpa [o2, k2] using hf 2 f2 rfl, by simpa [o3, k3] using hf 3 f3 rfl, by simpa [o4, k4] using hf 4 f4 rfl, by simpa [o5, k5] using hf 5 f5 rfl⟩
theorem read_acts {fuel : Nat} {v : Value} {x : DataW H × List MemPlace} (h : DataW.trod enc Tryz.prog w base spare held fuel 43 [v] = some x) :
    ∃ (a : Option Addr) (c : Nat) (l : List ActP), v = .slice a l.length c ∧ RActs w a l := by
  rcases open_slice (e := 48) (by kernel_rfl) h with ⟨hcs, _⟩ | ⟨a, len, cap, m, n, D, Pl, hcs, _, hl, hm, hmm, hx0, hx⟩
  · obtain rfl := List.singleton_inj.1 hcs
    exact ⟨none, 0, [], rfl, ⟨fun i hi => by simp at hi, by simp, by simp⟩⟩
  · obtain rfl := List.singleton_inj.1 hcs
    have hle : len ≤ m := by rw [hmm]; split <;> omega
    have hb : ∀ i, i < len → ∃ q : ActP, (w.cell? (a.add (i * 6)) = some (.string q.nm) ∧ w.cell? (a.add (i * 6 + 1)) = some (.int .i64 q.a) ∧ w.cell? (a.add (i * 6 + 2)) = some (.int .i64 q.b) ∧
        w.cell? (a.add (i * 6 + 3)) = some (.int .i64 q.c) ∧ w.cell? (a.add (i * 6 + 4)) = some (.int .i64 q.n) ∧ w.cell? (a.add (i * 6 + 5)) = some (.string q.s)) ∧ I64 q.a ∧ I64 q.b ∧ I64 q.c := fun i hi => by
      obtain ⟨cs', h1, h2⟩ := hx i (by omega)
      rw [show Tryz.prog.cellsOf 48 = 6 by kernel_rfl] at h1
      obtain ⟨_, hlen, hcell⟩ := World.cells?_some h1
      obtain ⟨v0, v1, v2, v3, v4, v5, y0, y1, y2, y3, y4, y5, k, rfl, hdx, t0, t1, t2, t3, t4, t5⟩ := open_six (Tryz.underlying48) (by kernel_rfl) (by kernel_rfl) h2
      obtain ⟨s0, e0, d0, _⟩ := DataW.trod_string (by kernel_rfl) t0
      obtain ⟨n1, e1, _, w1⟩ := DataW.trod_int (k := .i64) (by kernel_rfl) t1
      obtain ⟨n2, e2, _, w2⟩ := DataW.trod_int (k := .i64) (by kernel_rfl) t2
      obtain ⟨n3, e3, _, w3⟩ := DataW.trod_int (k := .i64) (by kernel_rfl) t3
      obtain ⟨n4, e4, _, w4⟩ := DataW.trod_int (k := .i64) (by kernel_rfl) t4
      obtain ⟨s5, e5, d5, _⟩ := DataW.trod_string (by kernel_rfl) t5
      obtain rfl := List.singleton_inj.1 e0
      obtain rfl := List.singleton_inj.1 e1
      obtain rfl := List.singleton_inj.1 e2
      obtain rfl := List.singleton_inj.1 e3
      obtain rfl := List.singleton_inj.1 e4
      obtain rfl := List.singleton_inj.1 e5
      have c0 := hcell 0 (by omega)
      have c1 := hcell 1 (by omega)
      have c2 := hcell 2 (by omega)
      have c3 := hcell 3 (by omega)
      have c4 := hcell 4 (by omega)
      have c5 := hcell 5 (by omega)
      rw [add_add] at c0 c1 c2 c3 c4 c5
      exact ⟨⟨s0, n1, n2, n3, n4, s5⟩, ⟨by simpa using c0, by simpa using c1, by simpa using c2, by simpa using c3, by simpa using c4, by simpa using c5⟩, wf_i64 w1, wf_i64 w2, wf_i64 w3⟩
    obtain ⟨B, hB⟩ := choose_lt hb
    have hln : ((List.range len).map B).length = len := by simp
    refine ⟨some a, cap, (List.range len).map B, by rw [hln], ⟨fun i hi => ?_, fun z hz => ?_, by rw [hln]; unfold maxLen at hm; omega⟩⟩
    · rw [hln] at hi
      obtain ⟨⟨h0, h1, h2, h3, h4, h5⟩, -⟩ := hB i hi
      obtain ⟨g, o, spot⟩ := a
      have hs : spot = none := by simpa [Addr.add] using World.cell?_spot (hB 0 (by omega)).1.1
      subst hs
      have e : ((List.range len).map B)[i]'(by rw [hln]; exact hi) = B i := by simp
      rw [e]
      have h0' : w.cell? ⟨g, o + i * 6, none⟩ = some (.string (B i).nm) := by
        by_cases e : i = 0
        · subst e; simpa [Addr.add] using h0
        · simpa [Addr.add, show ¬ i * 6 = 0 by omega] using h0
      exact ⟨g, o, rfl, h0', by simpa [Addr.add, Nat.add_assoc] using h1, by simpa [Addr.add, Nat.add_assoc] using h2, by simpa [Addr.add, Nat.add_assoc] using h3, by simpa [Addr.add, Nat.add_assoc] using h4, by simpa [Addr.add, Nat.add_assoc] using h5⟩
    · obtain ⟨i, hi, rfl⟩ := List.mem_map.1 hz
      exact (hB i (List.mem_range.1 hi)).2
end
end Go.Proofs.YtbbiaepgenbloaaGreatDoor
/- The law's brief. -/
namespace Go.Proofs.YtbbiaepgenbloaaGreatDoor
open Go.RowKit
set_option linter.unusedVariables false
set_option linter.unusedSimpArgs false

/-- What brief adds up; none: a list that is too long. -/
def briefG : Int → List ActP → Option Int
  | m, [] => some m
  | m, x :: l => if x.nm = ⟨#[109, 97, 107, 101]⟩ ∧ 300 < x.c ∧ x.c ≤ 4096 then none else briefG (wrap64 (m + (x.s.size : Int))) l
def briefE (n : Nat) : Option Int → Bool
  | none => false
  | some m => decide ((n : Int) ≤ 120) && decide (m ≤ 3000)
def briefB (l : List ActP) : Bool := briefE l.length (briefG 0 l)
theorem briefB_len {l : List ActP} (h : briefB l = true) : l.length ≤ 120 := by
  unfold briefB at h
  cases hg : briefG 0 l with
  | none => rw [hg] at h; cases h
  | some m =>
    rw [hg] at h
    have := of_decide_eq_true (Bool.and_eq_true_iff.1 h).1
    omega
set_option maxRecDepth 100000 in
set_option maxHeartbeats 4000000 in
theorem brief_walk (l : List ActP) (A : Option Addr) (C : Nat) (w : World) (h : RActs w A l) :
    Calls Tryz.prog 20 #[.slice A l.length C] w fun e w' => e = .returned (.bool (briefB l)) ∧ Ext w w' := by
  have HR := Lib.hid h
  have hln := h.len
  clear h
  go_enter Tryz.func20, Tryz.ntmps20
  go_upto_region 3 with fail
  go_loopg [3, 4] (l.length) (fun r n i wr => ∃ (k : Nat) (m : Int), k + r = l.length ∧ i = .int .i64 (k : Int) ∧ n = .int .i64 m ∧ Hid (briefB l = briefE l.length (briefG m (l.drop k))) ∧ Hid (Ext w wr))
  case atStart => exact ⟨0, 0, by omega, rfl, rfl, rfl, Ext.refl _⟩
  case round =>
    obtain ⟨k, m, hk, rfl, rfl, hG, hE⟩ := hrel
    have hsz := hE.out.size
    cases gk with
    | succ r =>
      have hlt : k < l.length := by omega
      have hltz : (k : Int) < (l.length : Int) := by omega
      obtain ⟨g, o, hfe, c0, c1, c2, c3, c4, c5⟩ := (HR.out.ext hE.out).at_ k hlt
      subst hfe
      have hdr : l.drop k = l[k] :: l.drop (k + 1) := List.drop_eq_getElem_cons hlt
      rw [hdr] at hG
      clear hdr
      generalize l[k] = x at *
      have HK := Lib.hid hk
      by_cases hm : x.nm = ⟨#[109, 97, 107, 101]⟩
      · rw [hm] at c0
        by_cases h1 : 300 < x.c
        · by_cases h2 : x.c ≤ 4096
          · go_wp2
            go_ret
            rw [hG.out]; unfold briefG; rw [if_pos ⟨hm, by omega, by omega⟩]; exact ⟨rfl, hE.out⟩
          · go_wp2
            go_roundg r
            case measure => omega
            case rel => exact ⟨k + 1, _, by have := HK.out; omega, by go_num, rfl, by have hg := hG.out; unfold briefG at hg; rw [if_neg (fun q => absurd q.2 (by omega))] at hg; exact hg, hE.out⟩
        · go_wp2
          go_roundg r
          case measure => omega
          case rel => exact ⟨k + 1, _, by have := HK.out; omega, by go_num, rfl, by have hg := hG.out; unfold briefG at hg; rw [if_neg (fun q => absurd q.2 (by omega))] at hg; exact hg, hE.out⟩
      · have hm2 : (x.nm.toList == [109, 97, 107, 101]) = false := not_lit hm
        go_wp2
        go_roundg r
        case measure => omega
        case rel => exact ⟨k + 1, _, by have := HK.out; omega, by go_num, rfl, by have hg := hG.out; unfold briefG at hg; rw [if_neg (fun q => hm q.1)] at hg; exact hg, hE.out⟩
    | zero =>
      obtain rfl : k = l.length := by omega
      have hb : briefB l = (decide ((l.length : Int) ≤ 120) && decide (m ≤ 3000)) := by have hg := hG.out; rw [List.drop_length] at hg; exact hg
      have HBE := Lib.hid hb
      clear hb hG
      have hltz : ¬ ((l.length : Nat) : Int) < (l.length : Int) := by omega
      clear hk
      by_cases h1 : (l.length : Int) ≤ 120
      · by_cases h2 : m ≤ 3000
        · go_wp2
          go_ret
          rw [HBE.out, decide_eq_true (show (l.length : Int) ≤ 120 by omega), decide_eq_true (show m ≤ 3000 by omega)]; exact ⟨rfl, hE.out⟩
        · go_wp2
          go_ret
          rw [HBE.out, decide_eq_true (show (l.length : Int) ≤ 120 by omega), decide_eq_false (show ¬ m ≤ 3000 by omega)]; exact ⟨rfl, hE.out⟩
      · go_wp2
        go_ret
        rw [HBE.out, decide_eq_false (show ¬ (l.length : Int) ≤ 120 by omega)]; exact ⟨rfl, hE.out⟩
end Go.Proofs.YtbbiaepgenbloaaGreatDoor
/- The law HeapCounts, walked. -/
namespace Go.Proofs.YtbbiaepgenbloaaGreatDoor
open Go.RowKit
set_option linter.unusedVariables false
set_option linter.unusedSimpArgs false

structure CntEnd (M : Mem) (nx old : Int) (V : Int) : Prop where
  code : majorC M = 0
  top : (majorH M).top = 0
  oldTop : (majorH M).oldTop = V
  live : ((liveM (majorH M) : Nat) : Int) = V
  le : V ≤ old
  inv : HInv (majorH M) nx
  few : Few (majorH M)
theorem cnt_end {M : Mem} {nx old : Int} {R k : Nat} (h : AI M nx old R k) (hl : (liveM M : Int) ≤ M.old) (hR : R ≤ 1000000) (hk : k ≤ 1000) : CntEnd M nx old (liveM M : Int) := by
  obtain ⟨i1, i2⟩ := majorH_inv h.inv
  have e : majorH M = majM M := by unfold majorH; rw [if_pos hl]
  have hf : Full M := ⟨h.inv.ok, h.inv.chk, hl⟩
  refine ⟨by unfold majorC; rw [if_pos hl], by rw [e]; rfl, by rw [e]; rfl, by rw [e, hf.live], by rw [← h.old]; exact hl, i1, i1.few ?_ ?_ ?_⟩
  · rw [i2.roots, h.roots]; exact hR
  · rw [i2.weak]; have := h.weak; omega
  · have := i2.ids; have := h.ids; omega
theorem newHM_ai (half old card : Int) (n : Nat) (h : newOK half old card = true) (hn : n ≤ 5000) : AI (newHM half old card n) 1 old n 0 := by
  refine ⟨newHM_inv half old card n h hn, rfl, ?_, ?_, ?_, by omega⟩ <;> simp [newHM, newM]
def farC (l : List ActP) (half old roots : Int) : Bool := !briefB l || decide (2000 < half) || decide (2000 < old) || decide (20 < roots)
set_option maxRecDepth 100000 in
set_option maxHeartbeats 8000000 in
theorem heapCounts_any (half old card roots : Int) (A : Option Addr) (C : Nat) (l : List ActP) (w : World) (E : Nat → Addr) (hE : G4 E w) (hT : Tabs w) (hR : RActs w A l) :
    Calls Tryz.prog 6 #[.int .i64 half, .int .i64 old, .int .i64 card, .int .i64 roots, .slice A l.length C] w fun e w' => e = .returned (.bool true) ∧ Ext w w' := by
  have HE := Lib.hid hE
  have HT := Lib.hid hT
  have HR := Lib.hid hR
  clear hE hT hR
  go_enter Tryz.func6, Tryz.ntmps6
  go_upto_region 2 with (go_at_call 8; refine (hold_walk E _ HE.out HT.out).mono ?_; rintro e w1 ⟨rfl, hq⟩; have HX1 := Lib.hid hq; clear hq)
  go_cut [38] from 20 to 38 (fun c wx => c = .bool (farC l half old roots) ∧ Hid (Ext w wx))
  case first =>
    have hbe : ∃ br, briefB l = br := ⟨_, rfl⟩
    obtain ⟨br, hbr⟩ := hbe
    cases br <;> by_cases a1 : 2000 < half <;> by_cases a3 : 2000 < old <;> by_cases a5 : 20 < roots
    all_goals
      have hfb : farC l half old roots = (!briefB l || decide (2000 < half) || decide (2000 < old) || decide (20 < roots)) := rfl
      simp only [hbr, a1, a3, a5, decide_true, decide_false, Bool.true_and, Bool.and_true, Bool.and_false, Bool.false_and, Bool.or_false, Bool.false_or, Bool.true_or, Bool.or_true, Bool.not_true, Bool.not_false] at hfb
      have HFB := Lib.hid hfb
      have HBR := Lib.hid hbr
      clear hfb hbr
      go_wp2_with (go_at_call 20; refine (brief_walk l A C _ (HR.out.ext HX1.out)).mono ?_; rintro e w2 ⟨he, hq⟩; rw [HBR.out] at he; subst he; have HX2 : Hid (Ext w w2) := HX1.out.trans_ hq; clear hq)
      go_meet
      case rel => exact ⟨(by first | (rw [HFB.out]; done) | (rw [HFB.out, decide_eq_false (show ¬ 2000 < half by omega), decide_eq_false (show ¬ 2000 < old by omega), decide_eq_false (show ¬ 20 < roots by omega)]; rfl)), HX2.out⟩
  case rest =>
    obtain ⟨rfl, HX2⟩ := hcut
    cases hfar : farC l half old roots with
    | true =>
      go_wp2
      go_ret
      exact ⟨rfl, HX2.out⟩
    | false =>
      have hfz : l.length ≤ 120 ∧ half ≤ 2000 ∧ old ≤ 2000 ∧ roots ≤ 20 := by
        unfold farC at hfar
        simp only [Bool.or_eq_false_iff, Bool.not_eq_false', decide_eq_false_iff_not] at hfar
        obtain ⟨⟨⟨g1, g2⟩, g3⟩, g4⟩ := hfar
        exact ⟨briefB_len g1, by omega, by omega, by omega⟩
      obtain ⟨z1, z2, z3, z4⟩ := hfz
      clear hfar
      cases hval : validH half old card 2 roots with
      | false =>
        have HVAL := Lib.hid hval
        clear hval
        go_wp2_with (go_at_call 9; refine (hnew_no half old card 2 roots HVAL.out _ E (HE.out.ext HX2.out)).mono ?_; rintro e w3 ⟨rfl, hq⟩; have HX3 : Hid (Ext w w3) := HX2.out.trans_ hq; clear hq)
        go_ret
        exact ⟨rfl, HX3.out⟩
      | true =>
        unfold validH at hval
        simp only [Bool.and_eq_true, decide_eq_true_eq] at hval
        obtain ⟨⟨⟨⟨hok, t0⟩, t1⟩, r0⟩, r1⟩ := hval
        obtain ⟨n, rfl⟩ : ∃ n : Nat, roots = (n : Int) := ⟨roots.toNat, by omega⟩
        have hn5 : n ≤ 5000 := by omega
        have HOK := Lib.hid hok
        have HAI := Lib.hid (newHM_ai half old card n hok hn5)
        have HLN := Lib.hid z1
        have HN := Lib.hid z4
        have HRL := Lib.hid HR.out.len
        clear hok t0 t1 r0 r1 z1 z2 z3 z4
        go_upto_region 8 with (go_at_call 9; refine (hnew_yes half old card 2 n HOK.out (by omega) hn5 _).mono ?_; rintro e w3 ⟨hb, b, S0, rfl, h1, hq⟩; have HH3 := Lib.hid h1; have HX3 : Hid (Ext w w3) := HX2.out.trans_ hq; clear h1 hq)
        have HGB := Lib.hid ((HE.out.ext HX2.out).gb)
        have HZ : Hid (w.heap.size ≤ wc.heap.size) := HX2.out.size
        go_loopg [14] (l.length) (fun r i wr => ∃ (k : Nat) (M : Mem) (S : Sls) (nx : Int), k + r = l.length ∧ i = .int .i64 (k : Int) ∧ Hid (OHeap wr wc.heap.size hb b M S 2 nx) ∧ Hid (AI M nx old n k) ∧ Hid (Ext w wr))
        case atStart => exact ⟨0, _, S0, 1, by omega, rfl, HH3.out, HAI.out, HX3.out⟩
        case round =>
          obtain ⟨k, M, S, nx, hk, rfl, hO, hA, hX⟩ := hrel
          have hln := HLN.out
          cases gk with
          | succ r =>
            have hlt : k < l.length := by omega
            have hltz : (k : Int) < (l.length : Int) := by omega
            obtain ⟨g, o, hfe, c0, c1, c2, c3, c4, c5⟩ := (HR.out.ext hX.out).at_ k hlt
            have hnum := HR.out.nums l[k] (List.getElem_mem hlt)
            subst hfe
            generalize l[k] = x at *
            have HNUM := Lib.hid hnum
            have HK := Lib.hid hk
            have hk1 : k ≤ 1000 := by omega
            clear hnum
            go_wp2_with (go_at_call 21; refine (act_walk hO.out hA.out (HE.out.ext hX.out) (by omega) HGB.out x.nm x.a x.b x.c x.n x.s HNUM.out hk1).mono ?_; rintro e w4 ⟨v1, v2, v3, M2, S2, nx2, rfl, h1, h2, h3⟩; have H4 := Lib.hid h1; have H5 := Lib.hid h3; have HX4 : Hid (Ext w w4) := HStep.extB hX.out HZ.out hO.out h2; clear h1 h2 h3)
            go_roundg r
            case measure => omega
            case rel => exact ⟨k + 1, M2, S2, nx2, by have := HK.out; omega, by go_num, H4.out, H5.out, HX4.out⟩
          | zero =>
            obtain rfl : k = l.length := by omega
            have hltz : ¬ ((l.length : Nat) : Int) < (l.length : Int) := by omega
            have hk1 : l.length ≤ 1000 := by omega
            clear hk
            by_cases hl : (liveM M : Int) ≤ M.old
            · have HC := Lib.hid (cnt_end hA.out hl (by have := HN.out; omega) hk1)
              have hv := HC.out.le
              clear hl
              generalize (liveM M : Int) = V at *
              go_wp2_with (first
                | (go_at_call 12; refine (hMajor_walk _ hO.out hA.out.inv.ok (HE.out.ext hX.out) hA.out.inv.chk).mono ?_; rintro e w4 ⟨he, S4, h1, h2⟩; rw [HC.out.code, show errC E 0 = .nilIface from rfl] at he; subst he; have H4 := Lib.hid h1; have HX4 : Hid (Ext w w4) := HStep.extB hX.out HZ.out hO.out h2; clear h1 h2)
                | (go_at_call 17; refine (words_walk _ H4.out).mono ?_; rintro e w5 ⟨he, hq⟩; rw [HC.out.top, HC.out.oldTop] at he; subst he; have HX5 : Hid (Ext w4 w5) := hq; clear hq)
                | (go_at_call 22; refine (snap_walk _ ((H4.out.ext HX5.out).mem.mem HC.out.inv.ok) (H4.out.ext HX5.out).ptr HC.out.few).mono ?_; rintro e w6 ⟨b6, S6, rfl, h1, h2⟩; have H6 := Lib.hid h1; have HX6 : Hid (Ext w w6) := (HX4.out.trans_ HX5.out).trans_ h2; clear h1 h2)
                | (go_at_call 23; refine (live_walk (E := E) _ (H6.out.mem HC.out.inv.ok) (HE.out.ext HX6.out).toG3 HC.out.inv.chk).mono ?_; rintro e w7 ⟨he, hq⟩; rw [HC.out.live] at he; subst he; have HX7 : Hid (Ext w w7) := HX6.out.trans_ hq; clear hq))
              go_ret
              exact ⟨rfl, HX7.out⟩
            · have hc : majorC M = 6 := by unfold majorC; rw [if_neg hl]
              obtain ⟨ea, hv⟩ : ∃ ea, errC E 6 = errV ea := ⟨_, rfl⟩
              have HC := Lib.hid hc
              have HV := Lib.hid hv
              clear hc hv hl
              go_wp2_with (go_at_call 12; refine (hMajor_walk _ hO.out hA.out.inv.ok (HE.out.ext hX.out) hA.out.inv.chk).mono ?_; rintro e w4 ⟨he, S4, h1, h2⟩; rw [HC.out, HV.out] at he; subst he; have HX4 : Hid (Ext w w4) := HStep.extB hX.out HZ.out hO.out h2; clear h1 h2)
              go_ret
              exact ⟨rfl, HX4.out⟩
end Go.Proofs.YtbbiaepgenbloaaGreatDoor
/- The law HeapCounts: its contract: whatever it is given it answers true, and leaves what was there. -/
namespace Go.Proofs.YtbbiaepgenbloaaGreatDoor.HeapCounts
open Go.ChangeShapes Go.WideShapes Go.ChangeAt Go.RowKit
open Go.ChangeMaps (open_string)
set_option linter.unusedVariables false
set_option linter.unusedSimpArgs false

set_option maxRecDepth 100000 in
theorem contract (H : Type) (enc : TypeId × Value → H) (W : World) (base : Nat) (args : Array Value) (ds gs : List (DataW H)) (before : List MemPlace)
    (hval : ∀ (j : Nat) t v, Tryz.f6.params[j]? = some t → args[j]? = some v → Value.okWide Tryz.prog W .any base t v)
    (hW : DataW.Whole enc Tryz.prog Tryz.f6.params.toList Rows.heapCountsSpec.vars false W args.toList ds gs before)
    (hsz : (DataW.weightsEach Tryz.prog (Tryz.f6.params.toList ++ (OpenSpec.ofChange Rows.heapCountsSpec).bare.plain.varTypes Tryz.prog) (ds ++ gs)).all (· ≤ reachBytes) = true) (hL : laidMetH Tryz.prog Rows.heapCountsRow.laid W) :
    Calls Tryz.prog 6 args W fun e W' => ∃ v, e = .returned v ∧ Rows.heapCountsSpec.post enc Tryz.prog Tryz.f6 false true false false W args v W' := by
  have hW' := hW
  obtain ⟨p, q, hA0, hV, rfl, hfz, hnd⟩ := hW
  have hA : DataW.TrodAll enc Tryz.prog W 0 (fun _ => true) true Tryz.f6.params.toList args.toList ds p := hA0
  rw [Tryz.params6] at hA hval
  obtain ⟨v0, vs0, d0, ds0, p0, q0, hargs, rfl, rfl, h0, r0⟩ := trodAll_cons hA
  obtain ⟨v1, vs1, d1, ds1, p1, q1, rfl, rfl, rfl, h1, r1⟩ := trodAll_cons r0
  obtain ⟨v2, vs2, d2, ds2, p2, q2, rfl, rfl, rfl, h2, r2⟩ := trodAll_cons r1
  obtain ⟨v3, vs3, d3, ds3, p3, q3, rfl, rfl, rfl, h3, r3⟩ := trodAll_cons r2
  obtain ⟨v4, vs4, d4, ds4, p4, q4, rfl, rfl, rfl, h4, r4⟩ := trodAll_cons r3
  obtain ⟨rfl, rfl, rfl⟩ := trodAll_nil r4
  obtain rfl : args = #[v0, v1, v2, v3, v4] := by cases args; simp_all
  obtain ⟨rfl, rfl⟩ := trodVars_none hV
  obtain ⟨x0, rfl, rfl, rfl, w0⟩ := open_int Tryz.underlying3 (hval 0 3 v0 rfl rfl) h0
  obtain ⟨x1, rfl, rfl, rfl, w1⟩ := open_int Tryz.underlying3 (hval 1 3 v1 rfl rfl) h1
  obtain ⟨x2, rfl, rfl, rfl, w2⟩ := open_int Tryz.underlying3 (hval 2 3 v2 rfl rfl) h2
  obtain ⟨x3, rfl, rfl, rfl, w3⟩ := open_int Tryz.underlying3 (hval 3 3 v3 rfl rfl) h3
  obtain ⟨pa4, pl4, pc4, rfl⟩ := okWide_slice Tryz.underlying43 (hval 4 43 v4 rfl rfl)
  obtain ⟨fuel4, hh4⟩ := id h4
  obtain ⟨a4, c4, x4, e4, hR4⟩ := read_acts hh4
  obtain ⟨rfl, rfl, rfl⟩ := Value.slice.inj e4
  obtain ⟨E, hE⟩ := g4_of_laid (W := W) (hL.filter fun x => laid4.any (·.1 == x.1))
  have hT : Tabs W := tabs_of_laid (hL.filter fun x => x.1 == "math/bits.deBruijn64tab" || x.1 == "internal/strconv.uint64pow10")
  clear hA0
  refine (heapCounts_any x0 x1 x2 x3 pa4 pc4 x4 W E hE hT hR4).mono fun e W' ⟨he, hg⟩ => ?_
  subst he
  exact ⟨_, rfl, law_post rfl rfl hW' (by simp [Rows.heapCountsSpec]) (by decide +kernel) hg⟩
end Go.Proofs.YtbbiaepgenbloaaGreatDoor.HeapCounts
/- The law HeapCounts: its row's step, out of the contract; an input that fits. -/
namespace Go.Proofs.YtbbiaepgenbloaaGreatDoor.HeapCounts
open Go.ChangeShapes Go.WideShapes Go.ChangeAt Go.RowKit

theorem laid_met (os : Os) : laidMetH Tryz.prog Rows.heapCountsRow.laid ((World.doorLaid Tryz.prog 200 os).forCall (fun _ _ => 0) ⟨#[], #[.int .i64 0, .int .i64 0, .int .i64 0, .int .i64 0, .slice none 0 0], []⟩).memory :=
  laidMetH_of_parts3 (fuel := 8) (laidMet_of_run' 8 (by kernel_rfl) (by kernel_rfl)) (by kernel_rfl) (by kernel_rfl)
theorem reads (os : Os) {H : Type} (enc : TypeId × Value → H) : ∃ places, DataW.whole enc Tryz.prog ((World.doorLaid Tryz.prog 200 os).forCall (fun _ _ => 0) ⟨#[], #[.int .i64 0, .int .i64 0, .int .i64 0, .int .i64 0, .slice none 0 0], []⟩).memory Tryz.f6.params.toList Rows.heapCountsSpec.vars false #[.int .i64 0, .int .i64 0, .int .i64 0, .int .i64 0, .slice none 0 0].toList 8 = some ([.lit (.int .i64 0), .lit (.int .i64 0), .lit (.int .i64 0), .lit (.int .i64 0), .nil], [], places) :=
  ⟨[], by kernel_rfl⟩

set_option maxRecDepth 100000 in
theorem lifted (os : Os) (started : os.Started) (H : Type) (enc : TypeId × Value → H) (F : Stop.Interp) :
    ReturnsInHanded {} Tryz.checked os 6 .any ((OpenSpec.ofChange Rows.heapCountsSpec).preRow enc Tryz.prog Tryz.f6 Rows.heapCountsRow.domain false Rows.heapCountsRow.laid) (((OpenSpec.ofChange Rows.heapCountsSpec).at F).post enc Tryz.prog Tryz.f6 false true false false) := by
  obtain ⟨places, hx⟩ := reads os enc
  refine returnsInHanded_of_row (C := Tryz.checked) (s := OpenSpec.ofChange Rows.heapCountsSpec) own started (by kernel_rfl) Tryz.func6
    (witness_row_atRef (enc := enc) (C := Tryz.checked) false (World.doorLaid Tryz.prog 200 os) #[.int .i64 0, .int .i64 0, .int .i64 0, .int .i64 0, .slice none 0 0] rfl (by kernel_rfl) (by kernel_rfl) (by kernel_rfl)
      (OpenSpec.preRow_of_cond 8 hx (by kernel_rfl) (fun k hk => by cases hk) (by kernel_rfl) (laid_met os))) ?_
  intro W base args ds gs before hval hW _ _ hsz hL _ _
  exact contract H enc W base args ds gs before hval hW hsz hL
end Go.Proofs.YtbbiaepgenbloaaGreatDoor.HeapCounts
