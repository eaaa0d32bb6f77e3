/- A builder among worlds. -/
import Derived.Test.YtecbbbaafcoliaaGreatDoorJYd01
import Derived.Lib.OthersKept
import Derived.RangeFuncNested
import Derived.RangeFuncLeaves
import Derived.RangeFuncBox
import Derived.Shelf.Abstract
import Derived.Shelf.RegionOpen
import Derived.Maps.AppendAt
import Derived.WalkKit
import Derived.OwnWalkIn
import Derived.TacticsInMore
import Derived.LoopNIn
import Derived.LoopIn
import Derived.Test.YtecbbbaafcoliaaGreatDoorJYa08
import Derived.Test.YtecbbbaafcoliaaGreatDoorJYa22
import Derived.Test.YtecbbbaafcoliaaGreatDoorJYa01
import Derived.Shelf.SlSortCmp.NoneTotal
import Derived.Test.YtecbbbaafcoliaaGreatDoorJYa28
import Derived.Test.YtecbbbaafcoliaaGreatDoorJYa20
import Derived.Test.YtecbbbaafcoliaaGreatDoorJYa33
namespace Go.Proofs.YtecbbbaafcoliaaGreatDoor
open Go.RowKit
set_option linter.unusedVariables false
set_option linter.unusedSimpArgs false

theorem Bld.lt {B b : Nat} {s : ByteArray} {w : World} (h : Bld B b s w) : b < w.heap.size := by
  rcases h with h | h <;> exact h.lt
theorem Bld.ext {B b : Nat} {s : ByteArray} {w w' : World} (h : Bld B b s w) (hx : Ext w w') : Bld B b s w' := by
  have key : ∀ p, Lib.BuilderAtF 114 5 B b p (Lib.strCells s) w → Lib.BuilderAtF 114 5 B b p (Lib.strCells s) w' := fun p hp => by
    have hl := hp.lt
    obtain ⟨hB, v, hb, hown, hne⟩ := hp
    obtain ⟨q1, q2, q3, q4, q5⟩ := hx
    exact ⟨hB, v, by rw [q5 b hl]; exact hb, hown.kept (row := none) ⟨q1, q2, q3, q4, fun k hk _ => q5 k hk⟩ (by cases hv : v.ownBlock <;> simp), hne⟩
  rcases h with h | h
  · exact Or.inl (key _ h)
  · exact Or.inr (key _ h)
theorem bld_new (w : World) : Bld w.heap.size w.heap.size ⟨#[]⟩ (w.alloc (.cells #[.pointer none, .slice none 0 0] 114)) := Lib.IsBuilderF.of (Lib.fresh_isBuilder _ _ w)
/-- What a write to a builder leaves: all below it; all that are no bytes. -/
structure Wrote (b : Nat) (w w' : World) : Prop where
  below : Below b w w'
  others : Lib.OthersKept 5 (some b) w w'
open Go.RowKit Go.Shelf
attribute [local go_sem] Oper.semAt_some

theorem cells_new (W : World) (cs : List Value) (t : TypeId) : ∀ j u, cs[j]? = some u → (W.alloc (.cells cs.toArray t)).cell? ((⟨W.heap.size, 0, none⟩ : Addr).add j) = some u := fun j u hu => by
  have h := (rsl_block (World.alloc_heap_new W (.cells cs.toArray t))).at_ hu
  rw [Nat.zero_add] at h
  rw [Addr.add_lit, Nat.zero_add]
  exact h
def idV (x : Int × Int) : Value := .agg #[.int .u64 x.1, .int .i64 x.2]
theorem valuesI_in (F : Fence) (n : Nat) (h5 : F.fn 76) (hro : F.round = none) (a : Option Addr) (len cap : Nat) (w : World) :
    CallsIn F n Tryz.prog 76 #[.slice a len cap] w fun e w' => e = .returned (.func (.func 110) #[] #[.pointer (some ⟨w.heap.size, 0, none⟩)]) ∧ w' = w.alloc (.cells #[.slice a len cap] 54) := by
  refine callsIn_of_wp Tryz.func76 rfl h5 ?_ hro
  simp only [Tryz.ntmps76, List.size_toArray, List.length_cons, List.length_nil, Nat.reduceAdd, Nat.reduceSub, Array.replicate_succ, Array.replicate_zero, List.push_toArray, List.append_toArray, List.nil_append, List.cons_append]
  gi_wp2
  go_ret
  exact ⟨rfl, rfl⟩
set_option maxRecDepth 100000 in
set_option maxHeartbeats 2000000 in
/-- The iterator, whatever the rounds, so they keep what lay below n₀. -/
theorem values1_in (F : Fence) (n : Nat) (h7 : F.fn 110) (hro : F.round = none) (hn : 1 ≤ n) (l Bs n₀ b off cap : Nat) (ids : List (Int × Int)) (hlen : ids.length ≤ 1000000) (hb : b < n₀) (J Jx : List (Int × Int) → World → Prop)
    (hY : ∀ pre x W, J pre W → pre.length < ids.length → YieldAt F (n - 1) Tryz.prog l #[idV x] W fun e W' =>
      (e = .returned (.bool true) ∧ J (pre ++ [x]) W' ∧ Below n₀ W W') ∨ (e = .returned (.bool false) ∧ Jx (pre ++ [x]) W'))
    (W : World) (hJ : AbidesFrom W.heap.size J) (hn₀ : n₀ ≤ W.heap.size) (hBs : W.cell? ⟨Bs, 0, none⟩ = some (.slice (some ⟨b, off, none⟩) ids.length cap)) (hc : RSl W (some ⟨b, off, none⟩) (icells ids)) (h0 : J [] W) :
    CallsIn F n Tryz.prog 110 #[.func (.yield l) #[] #[], .pointer (some ⟨Bs, 0, none⟩)] W fun e W' => (∃ v, e = .returned v) ∧
      (J ids W' ∨ (∃ k, k ≤ ids.length ∧ Jx (ids.take k) W')) := by
  refine callsIn_of_wp Tryz.func110 rfl h7 ?_ hro
  simp only [Tryz.ntmps110, List.size_toArray, List.length_cons, List.length_nil, Nat.reduceAdd, Nat.reduceSub, Array.replicate_succ, Array.replicate_zero, List.push_toArray, List.append_toArray, List.nil_append, List.cons_append]
  gi_wp2
  gi_loopw [7] (fun i wr => ∃ k : Nat, k ≤ ids.length ∧ i = .int .i64 k ∧ J (ids.take k) wr ∧ Below n₀ W wr)
    (fun i _ => ids.length - (intOf i).toNat)
  case atStart => exact ⟨0, Nat.zero_le _, rfl, h0, Below.refl _ _⟩
  case round =>
    obtain ⟨k, hk, rfl, hJs, hnx⟩ := hrel
    by_cases hlt : k < ids.length
    · obtain ⟨p0, p1⟩ := icells_at ids k hlt
      have c0 := hc.at_ p0
      have c1 := hc.at_ p1
      rw [← Nat.add_assoc] at c1
      have d0 := (hnx.cell (p := ⟨b, off + k * 2, none⟩) hb).trans c0
      have d1 := (hnx.cell (p := ⟨b, off + k * 2 + 1, none⟩) hb).trans c1
      have hJ2 : J (ids.take k) (wr.alloc (.cells #[.int .u64 ids[k].1, .int .i64 ids[k].2] 68)) := hJ _ _ _ none hJs (World.grownBy_alloc wr _ none) (fun r e => by cases e)
      obtain ⟨fn, tmps, assign, body, hy, hR⟩ := hY _ ids[k] _ hJ2 (by rw [List.length_take]; omega)
      unfold idV at hy
      have htk : ids.take (k + 1) = ids.take k ++ [ids[k]] := by rw [List.take_add_one, List.getElem?_eq_getElem hlt]; rfl
      have hltz : (k : Int) < (ids.length : Int) := by omega
      have HTK := Lib.hid htk
      clear htk p0 p1 c0 c1
      generalize ids[k] = x at *
      gi_wp2
      refine hR.mono ?_
      rintro e W3 (⟨rfl, hJ3, hk3⟩ | ⟨rfl, hJx3⟩)
      · gi_wp2
        go_roundw
        case rel => exact ⟨k + 1, by omega, by simp, by rw [HTK.out]; exact hJ3, (hnx.alloc (Nat.le_trans hn₀ hnx.size) _).trans hk3⟩
        case measure => simp [intOf]; omega
      · gi_wp2
        refine bodyPost_ret (results_none rfl _ _ _) rfl ?_
        exact ⟨⟨_, rfl⟩, .inr ⟨k + 1, by omega, by rw [HTK.out]; exact hJx3⟩⟩
    · obtain rfl : k = ids.length := by omega
      rw [List.take_length] at hJs
      gi_wp2
      go_end0
      exact ⟨⟨_, rfl⟩, .inl hJs⟩
set_option maxRecDepth 100000 in
set_option maxHeartbeats 1000000 in
/-- .. at the nil slice: no round. -/
theorem values1_nil (F : Fence) (n : Nat) (h7 : F.fn 110) (hro : F.round = none) (l Bs cap : Nat) (a : Option Addr) (J : List (Int × Int) → World → Prop) (W : World) (hBs : W.cell? ⟨Bs, 0, none⟩ = some (.slice a 0 cap)) (h0 : J [] W) :
    CallsIn F n Tryz.prog 110 #[.func (.yield l) #[] #[], .pointer (some ⟨Bs, 0, none⟩)] W fun e W' => (∃ v, e = .returned v) ∧ J [] W' := by
  refine callsIn_of_wp Tryz.func110 rfl h7 ?_ hro
  simp only [Tryz.ntmps110, List.size_toArray, List.length_cons, List.length_nil, Nat.reduceAdd, Nat.reduceSub, Array.replicate_succ, Array.replicate_zero, List.push_toArray, List.append_toArray, List.nil_append, List.cons_append]
  gi_wp2
  gi_loopw [7] (fun i wr => i = .int .i64 0 ∧ J [] wr) (fun _ _ => 0)
  case atStart => exact ⟨rfl, h0⟩
  case round =>
    obtain ⟨rfl, hJs⟩ := hrel
    gi_wp2
    go_end0
    exact ⟨⟨_, rfl⟩, hJs⟩
/-- slices.Values's value, AT 'Kp := Below n₀'. -/
theorem valuesI_stops (F : Fence) (n : Nat) (h7 : F.fn 110) (hro : F.round = none) (hn : 1 ≤ n) (Bs n₀ : Nat) (a : Option Addr) (cap : Nat) (ids : List (Int × Int)) (hlen : ids.length ≤ 1000000) (w : World) (hBs : Bs < w.heap.size) (hn₀ : n₀ ≤ w.heap.size) (hbl : ∀ b off, a = some ⟨b, off, none⟩ → 0 < ids.length → b < n₀)
    (hc : w.cell? ⟨Bs, 0, none⟩ = some (.slice a ids.length cap)) (hI : RSl w a (icells ids)) :
    SeqStopsK F n Tryz.prog 110 #[.pointer (some ⟨Bs, 0, none⟩)] (fun x : Int × Int => #[idV x]) (Below n₀) (fun ys => ys = ids) (fun _ => True) ids.length w := fun l J Jx W hW hJ _ hY h0 => by
  have hc' := (hW.cell (p := ⟨Bs, 0, none⟩) hBs).trans hc
  by_cases he : ids = []
  · subst he
    exact (values1_nil F n h7 hro l Bs cap a J W hc' h0).mono fun e W' ⟨he, hj⟩ => ⟨he, .inl ⟨_, rfl, hj⟩⟩
  · have hpos : 0 < ids.length := List.length_pos_iff.2 he
    obtain ⟨p0, -⟩ := icells_at ids 0 hpos
    obtain ⟨b, off, rfl, c0⟩ := hI _ _ p0
    refine (values1_in F n h7 hro hn l Bs n₀ b off cap ids hlen (hbl b off rfl hpos) J Jx hY W hJ (Nat.le_trans hn₀ hW.size) hc' (hI.ext hW) h0).mono ?_
    rintro e W' ⟨he, hj | ⟨k, -, hj⟩⟩
    · exact ⟨he, .inl ⟨_, rfl, hj⟩⟩
    · exact ⟨he, .inr ⟨_, trivial, hj⟩⟩
set_option maxRecDepth 100000 in
set_option maxHeartbeats 2000000 in
/-- slices.AppendSeq(nil, ..). -/
theorem appendSeqI_in (F : Fence) (n : Nat) (h11 : F.fn 141) (h7 : F.fn 110) (hro : F.round = none) (hn : 3 ≤ n) (Bs : Nat) (a : Option Addr) (cap : Nat) (ids : List (Int × Int)) (hlen : ids.length ≤ 1000000) (w : World) (hBs : Bs < w.heap.size)
    (hc : w.cell? ⟨Bs, 0, none⟩ = some (.slice a ids.length cap)) (hI : RSl w a (icells ids)) :
    CallsIn F n Tryz.prog 141 #[.slice none 0 0, .func (.func 110) #[] #[.pointer (some ⟨Bs, 0, none⟩)]] w fun e w' => ∃ v, e = .returned v ∧ w'.ownsRow w.heap.size 68 2 v ids.length (icells ids) ∧ Below w.heap.size w w' := by
  have h1 : 1 ≤ n := by omega
  obtain ⟨i0, hi, hz0, hz1, hz2⟩ := info_parts infoM
  refine callsIn_of_wp_marks Tryz.func141 rfl h11 ?_ hro
  simp only [Tryz.ntmps141, List.size_toArray, List.length_cons, List.length_nil, Nat.reduceAdd, Nat.reduceSub, Array.replicate_succ, Array.replicate_zero, List.push_toArray, List.append_toArray, List.nil_append, List.cons_append]
  gi_wp2
  have bS := Boxed.new w 54 (.slice none 0 0)
  have hB0 : Below w.heap.size w (w.alloc (.cells #[.slice none 0 0] 54)) := (Below.refl _ w).alloc (Nat.le_refl _) _
  have hsz : (w.alloc (.cells #[.slice none 0 0] 54)).heap.size = w.heap.size + 1 := by simp
  obtain ⟨W0, hW0⟩ : ∃ W0, w.alloc (.cells #[.slice none 0 0] 54) = W0 := ⟨_, rfl⟩
  rw [hW0] at bS hB0 hsz ⊢
  clear hW0
  refine wpIn_rangeFunc_ownH hro h1 (gf := 110) (lb := #[.pointer (some ⟨Bs, 0, none⟩)]) rfl h7 (enters_of Tryz.func110 (by kernel_rfl) rfl)
    (valuesI_stops F (n - 1) h7 hro (by omega) Bs w.heap.size a cap ids hlen W0 (by omega) (by omega) (fun b off e hp => by
      subst e
      obtain ⟨p0, -⟩ := icells_at ids 0 hp
      have c0 := hI.at_ p0
      have := cell_lt c0
      simpa using this) ((hB0.cell (p := ⟨Bs, 0, none⟩) hBs).trans hc) (hI.ext hB0)) belowK_t (belowK_b (by omega)) (Below.refl _ _) (fun _ => rfl)
    (fun pre W => (∃ v, Boxed W w.heap.size 54 v ∧ W.ownsRow w.heap.size 68 2 v pre.length (icells pre) ∧ True) ∧ Below w.heap.size w W)
    (fun _ _ _ => False)
    (OwnFrom.and (Own.from (holdsRow_own w.heap.size w.heap.size 54 68 2 (fun pre : List (Int × Int) => pre.length) (fun pre => icells pre) (fun _ _ => True)) _) (ownFrom_below (Nat.le_refl _) (by omega)))
    (fun _ _ _ _ _ hs _ _ => hs)
    ⟨⟨_, bS, World.ownsRow_nil _ _ _ _, trivial⟩, hB0⟩
    (fun x a' W => ∃ Bx, w.heap.size < Bx ∧ W.heap[Bx]? = some (.cells #[.int .u64 x.1, .int .i64 x.2] 68 (0, 0)) ∧ a' = { tmps := #[.slice none 0 0, .func (.func 110) #[] #[.pointer (some ⟨Bs, 0, none⟩)], .pointer (some ⟨w.heap.size, 0, none⟩), undef, .slice none 0 0, .pointer (some ⟨Bx, 0, none⟩), .func (.func 110) #[] #[.pointer (some ⟨Bs, 0, none⟩)], idV x, undef, undef, undef, undef, undef], defers := [] })
    (fun x a' _ X Y row hs hg hr => by
      obtain ⟨Bx, h1, h2, h3⟩ := hs
      refine ⟨Bx, h1, (hg.block Bx (Array.getElem?_eq_some_iff.1 h2).1 (fun e' => ?_)).trans h2, h3⟩
      obtain ⟨-, o, ho, hc⟩ := hr Bx e'.symm
      rw [h2] at ho
      cases ho
      cases hc)
    ?assign ?body ?done ?stop
  case assign =>
    rintro l pre x W K ⟨⟨v, bS1, hr1, -⟩, hB1⟩ hK
    unfold idV
    gi_wp2
    have hlt := bS1.lt
    exact hK _ _ ((KeepsOthers.alloc _ _).from _) ((Below.refl _ W).alloc hB1.size _) ⟨⟨v, bS1.alloc _, hr1.alloc _, trivial⟩, hB1.alloc hB1.size _⟩ ⟨W.heap.size, hlt, World.alloc_heap_new _ _, rfl⟩
  case body =>
    rintro l pre x a' W hl ⟨r, hr⟩ ⟨⟨v, bS1, hr1, -⟩, hB1⟩ ⟨Bx, hBx, bX, rfl⟩ hlt
    have cS := bS1.cell
    have x0 : W.cell? ⟨Bx, 0, none⟩ = some (.int .u64 x.1) := by simp [World.cell?, bX]
    have x1 : W.cell? ⟨Bx, 1, none⟩ = some (.int .i64 x.2) := by simp [World.cell?, bX]
    have hBW := hB1.size
    unfold idV
    gi_wp2_with (gi_at_builtin; refine wpListIn_append_own _ rfl _ _ 54 rfl w.heap.size 68 i0 (.agg #[.int .u64 0, .int .i64 0]) 2 16 undM hi hz0 hz1 hz2 rfl (by decide) _ _ _ rfl (hr1.alloc _) ⟨W.heap.size, 0, none⟩ 1 1 [.int .u64 x.1, .int .i64 x.2] rfl rfl (cells_new _ [.int .u64 x.1, .int .i64 x.2] _) (by simp [Value.oneCell']) (by unfold maxLen; omega) (by omega) (by simp; omega) ?_; intro v' w1 hown' hgrow _; obtain ⟨g', cap', rfl⟩ := ownsRow_succ hown'; obtain ⟨hv1, hv2, hr2, hk2, hb2⟩ := bS1.appended (by decide) hr1 hB1.size (Nat.le_refl _) hown' hgrow; have hc1 := hv1.cell; have hf1 := hv1.frozen)
    refine ⟨hk2.from _, hb2, ⟨⟨_, hv2, ?_, trivial⟩, hB1.trans hb2⟩⟩
    rw [icells_snoc2, List.length_append]
    exact hr2
  case done =>
    rintro D zs W hD rfl ⟨⟨v, bS1, hr1, -⟩, hB1⟩ hK
    have cS := bS1.cell
    gi_wp2
    refine ⟨by simp, .inl ⟨_, _, rfl, run_takeDeferred hK, ?_⟩⟩
    exact ⟨_, results_tmp rfl _ _ _, _, rfl, ownsRow_putObj hr1 _ hK rfl, hB1.trans (belowK_b (w := w) (Nat.le_refl _) W D _ _ (by omega) hK rfl rfl)⟩
  case stop =>
    rintro D c pre W _ _ h _
    exact h.elim
set_option maxHeartbeats 1000000 in
/-- slices.Collect. -/
theorem collectI_in (F : Fence) (n : Nat) (h8 : F.fn 108) (h11 : F.fn 141) (h7 : F.fn 110) (hro : F.round = none) (hn : 4 ≤ n) (Bs : Nat) (a : Option Addr) (cap : Nat) (ids : List (Int × Int)) (hlen : ids.length ≤ 1000000) (w : World) (hBs : Bs < w.heap.size)
    (hc : w.cell? ⟨Bs, 0, none⟩ = some (.slice a ids.length cap)) (hI : RSl w a (icells ids)) :
    CallsIn F n Tryz.prog 108 #[.func (.func 110) #[] #[.pointer (some ⟨Bs, 0, none⟩)]] w fun e w' => ∃ v, e = .returned v ∧ w'.ownsRow w.heap.size 68 2 v ids.length (icells ids) ∧ Below w.heap.size w w' := by
  have h1 : 1 ≤ n := by omega
  refine callsIn_of_wp Tryz.func108 rfl h8 ?_ hro
  simp only [Tryz.ntmps108, List.size_toArray, List.length_cons, List.length_nil, Nat.reduceAdd, Nat.reduceSub, Array.replicate_succ, Array.replicate_zero, List.push_toArray, List.append_toArray, List.nil_append, List.cons_append]
  gi_wp2_with (gi_at_call 141; refine (appendSeqI_in F (n - 1) h11 h7 hro (by omega) Bs a cap ids hlen _ hBs hc hI).mono ?_; rintro e w1 ⟨v, rfl, hrow, hb⟩)
  go_ret
  exact ⟨v, rfl, hrow, hb⟩
theorem collectI_any (Bs : Nat) (a : Option Addr) (cap : Nat) (ids : List (Int × Int)) (hlen : ids.length ≤ 1000000) (w : World) (hBs : Bs < w.heap.size)
    (hc : w.cell? ⟨Bs, 0, none⟩ = some (.slice a ids.length cap)) (hI : RSl w a (icells ids)) :
    Calls Tryz.prog 108 #[.func (.func 110) #[] #[.pointer (some ⟨Bs, 0, none⟩)]] w fun e w' => ∃ a c, e = .returned (.slice a ids.length c) ∧ w'.ownsRow w.heap.size 68 2 (.slice a ids.length c) ids.length (icells ids) ∧ Ext w w' := by
  refine (callsIn_wide (n := 4)).1 ((collectI_in _ 4 trivial trivial trivial rfl (by omega) Bs a cap ids hlen w hBs hc hI).mono ?_)
  rintro e w' ⟨v, rfl, hrow, hb⟩
  have hv : ∃ a c, v = .slice a ids.length c := by
    rcases hrow.2 with ⟨rfl, h0⟩ | ⟨g, cp, cur, rfl, -⟩
    · exact ⟨none, 0, by rw [h0]⟩
    · exact ⟨_, _, rfl⟩
  obtain ⟨a, c, rfl⟩ := hv
  exact ⟨a, c, rfl, hrow, hb⟩
theorem valuesI_any (a : Option Addr) (len cap : Nat) (w : World) : Calls Tryz.prog 76 #[.slice a len cap] w fun e w' => e = .returned (.func (.func 110) #[] #[.pointer (some ⟨w.heap.size, 0, none⟩)]) ∧ w' = w.alloc (.cells #[.slice a len cap] 54) :=
  (callsIn_wide (n := 1)).1 (valuesI_in _ 1 trivial rfl a len cap w)
open Go.Shelf Go.RowKit Go.Sort

def sortRenI : Ren where
  f := fun x => match x with
    | 6 => 109
    | 15 => 95
    | 14 => 142
    | 28 => 129
    | 29 => 130
    | 20 => 155
    | 21 => 156
    | 22 => 157
    | 23 => 158
    | 24 => 159
    | 25 => 160
    | 26 => 161
    | 27 => 162
    | 46 => 166
    | 47 => 146
    | 48 => 147
    | 49 => 167
    | 50 => 168
    | 57 => 169
    | n => n
  t := fun x => match x with
    | 22 => 54
    | 24 => 68
    | 25 => 123
    | 3 => 3
    | 39 => 130
    | 0 => 0
    | 53 => 181
    | 55 => 51
    | 4 => 4
    | 46 => 175
    | 45 => 174
    | 50 => 100
    | 5 => 5
    | 9 => 9
    | 66 => 207
    | 70 => 210
    | 76 => 221
    | 77 => 87
    | n => n
  g := fun n => n
set_option maxRecDepth 100000 in
theorem sortLI : SlLaysF0.n6 Tryz.prog sortRenI where
  mixed := by kernel_rfl
  f6 := Exists.intro "slices.SortFunc[[]nurserypy/mem.ID,nurserypy/mem.ID]" ⟨by decide, by kernel_rfl⟩
  f14 := Exists.intro "slices.pdqsortCmpFunc[nurserypy/mem.ID]" ⟨by decide, by kernel_rfl⟩
  f15 := by kernel_rfl
  f20 := Exists.intro "slices.insertionSortCmpFunc[nurserypy/mem.ID]" ⟨by decide, by kernel_rfl⟩
  f21 := Exists.intro "slices.heapSortCmpFunc[nurserypy/mem.ID]" ⟨by decide, by kernel_rfl⟩
  f22 := Exists.intro "slices.breakPatternsCmpFunc[nurserypy/mem.ID]" ⟨by decide, by kernel_rfl⟩
  f23 := Exists.intro "slices.choosePivotCmpFunc[nurserypy/mem.ID]" ⟨by decide, by kernel_rfl⟩
  f24 := Exists.intro "slices.reverseRangeCmpFunc[nurserypy/mem.ID]" ⟨by decide, by kernel_rfl⟩
  f25 := Exists.intro "slices.partialInsertionSortCmpFunc[nurserypy/mem.ID]" ⟨by decide, by kernel_rfl⟩
  f26 := Exists.intro "slices.partitionEqualCmpFunc[nurserypy/mem.ID]" ⟨by decide, by kernel_rfl⟩
  f27 := Exists.intro "slices.partitionCmpFunc[nurserypy/mem.ID]" ⟨by decide, by kernel_rfl⟩
  f28 := by kernel_rfl
  f29 := by kernel_rfl
  f46 := Exists.intro "slices.siftDownCmpFunc[nurserypy/mem.ID]" ⟨by decide, by kernel_rfl⟩
  f47 := by kernel_rfl
  f48 := by kernel_rfl
  f49 := Exists.intro "slices.medianAdjacentCmpFunc[nurserypy/mem.ID]" ⟨by decide, by kernel_rfl⟩
  f50 := Exists.intro "slices.medianCmpFunc[nurserypy/mem.ID]" ⟨by decide, by kernel_rfl⟩
  f57 := Exists.intro "slices.order2CmpFunc[nurserypy/mem.ID]" ⟨by decide, by kernel_rfl⟩
  t0 := by kernel_rfl
  a0 := fun w => by kernel_rfl
  z0 := fun w => by kernel_rfl
  v0 := fun w => by kernel_rfl
  t3 := by kernel_rfl
  a3 := fun w => by kernel_rfl
  z3 := fun w => by kernel_rfl
  v3 := fun w => by kernel_rfl
  t4 := by kernel_rfl
  a4 := fun w => by kernel_rfl
  z4 := fun w => by kernel_rfl
  v4 := fun w => by kernel_rfl
  t5 := by kernel_rfl
  a5 := fun w => by kernel_rfl
  z5 := fun w => by kernel_rfl
  v5 := fun w => by kernel_rfl
  t9 := by kernel_rfl
  a9 := fun w => by kernel_rfl
  z9 := fun w => by kernel_rfl
  v9 := fun w => by kernel_rfl
  t22 := by kernel_rfl
  a22 := fun w => by kernel_rfl
  z22 := fun w => by kernel_rfl
  v22 := fun w => by kernel_rfl
  t25 := by kernel_rfl
  a25 := fun w => by kernel_rfl
  z25 := fun w => by kernel_rfl
  v25 := fun w => by kernel_rfl
  t39 := by kernel_rfl
  a39 := fun w => by kernel_rfl
  z39 := fun w => by kernel_rfl
  v39 := fun w => by kernel_rfl
  t45 := by kernel_rfl
  a45 := fun w => by kernel_rfl
  z45 := fun w => by kernel_rfl
  v45 := fun w => by kernel_rfl
  t46 := by kernel_rfl
  a46 := fun w => by kernel_rfl
  z46 := fun w => by kernel_rfl
  v46 := fun w => by kernel_rfl
  t50 := by kernel_rfl
  a50 := fun w => by kernel_rfl
  z50 := fun w => by kernel_rfl
  v50 := fun w => by kernel_rfl
  t53 := by kernel_rfl
  a53 := fun w => by kernel_rfl
  z53 := fun w => by kernel_rfl
  v53 := fun w => by kernel_rfl
  t55 := by kernel_rfl
  a55 := fun w => by kernel_rfl
  z55 := fun w => by kernel_rfl
  v55 := fun w => by kernel_rfl
  t66 := by kernel_rfl
  a66 := fun w => by kernel_rfl
  z66 := fun w => by kernel_rfl
  v66 := fun w => by kernel_rfl
  t70 := by kernel_rfl
  a70 := fun w => by kernel_rfl
  z70 := fun w => by kernel_rfl
  v70 := fun w => by kernel_rfl
  t76 := by kernel_rfl
  a76 := fun w => by kernel_rfl
  z76 := fun w => by kernel_rfl
  v76 := fun w => by kernel_rfl
  t77 := by kernel_rfl
  a77 := fun w => by kernel_rfl
  z77 := fun w => by kernel_rfl
  v77 := fun w => by kernel_rfl
/-- The numbers, sorted. -/
def sortI (ids : List (Int × Int)) : List (Int × Int) := ids.mergeSort fun x y => decide (x.2 ≤ y.2)
theorem sortI_perm (ids : List (Int × Int)) : (sortI ids).Perm ids := List.mergeSort_perm _ _
theorem sortI_len (ids : List (Int × Int)) : (sortI ids).length = ids.length := (sortI_perm ids).length_eq
theorem sortI_le (ids : List (Int × Int)) : (sortI ids).Pairwise fun x y => x.2 ≤ y.2 := by
  have h := List.pairwise_mergeSort (le := fun x y : Int × Int => decide (x.2 ≤ y.2)) (fun a b c h1 h2 => by simp at *; omega) (fun a b => by simp; omega) ids
  exact h.imp fun q => by simpa using q
theorem nextS_min (ids : List (Int × Int)) (last : Int) : ∀ k : Nat, k ≤ ids.length → (nextS ids last k = -1 ∧ ∀ j, j < k → ¬ last < (ids.getD j (0, 0)).2) ∨ (∃ i : Nat, i < k ∧ nextS ids last k = (i : Int) ∧ last < (ids.getD i (0, 0)).2 ∧ ∀ j, j < k → last < (ids.getD j (0, 0)).2 → (ids.getD i (0, 0)).2 ≤ (ids.getD j (0, 0)).2)
  | 0, _ => Or.inl ⟨rfl, fun j hj => by omega⟩
  | k + 1, h => by
    unfold nextS
    rcases nextS_min ids last k (by omega) with ⟨q1, q2⟩ | ⟨i, q1, q2, q3, q4⟩
    · rw [q1]
      by_cases hb : last < (ids.getD k (0, 0)).2
      · have : nextB ids last (-1) k = true := by unfold nextB; rw [decide_eq_true hb]; rfl
        rw [if_pos this]
        refine Or.inr ⟨k, by omega, rfl, hb, fun j hj hl => ?_⟩
        by_cases e : j = k
        · subst e; exact Int.le_refl _
        · exact absurd hl (q2 j (by omega))
      · have : nextB ids last (-1) k = false := by unfold nextB; rw [decide_eq_false hb]; rfl
        rw [if_neg (by rw [this]; decide)]
        refine Or.inl ⟨rfl, fun j hj => ?_⟩
        by_cases e : j = k
        · subst e; exact hb
        · exact q2 j (by omega)
    · rw [q2]
      have e0 : decide ((i : Int) < 0) = false := decide_eq_false (by omega)
      by_cases hb : last < (ids.getD k (0, 0)).2 ∧ (ids.getD k (0, 0)).2 < (ids.getD i (0, 0)).2
      · have : nextB ids last (i : Int) k = true := by unfold nextB; rw [decide_eq_true hb.1, e0, Int.toNat_natCast, decide_eq_true hb.2]; rfl
        rw [if_pos this]
        refine Or.inr ⟨k, by omega, rfl, hb.1, fun j hj hl => ?_⟩
        by_cases e : j = k
        · subst e; exact Int.le_refl _
        · have := q4 j (by omega) hl
          omega
      · have : nextB ids last (i : Int) k = false := by
          unfold nextB
          rw [e0, Int.toNat_natCast]
          by_cases h1 : last < (ids.getD k (0, 0)).2
          · rw [decide_eq_true h1, decide_eq_false (fun h2 => hb ⟨h1, h2⟩)]; rfl
          · rw [decide_eq_false h1]; rfl
        rw [if_neg (by rw [this]; decide)]
        refine Or.inr ⟨i, by omega, rfl, q3, fun j hj hl => ?_⟩
        by_cases e : j = k
        · subst e; omega
        · exact q4 j (by omega) hl
theorem idsS_from (ids : List (Int × Int)) (l : List Ob) (hnd : (ids.map (·.2)).Nodup) : ∀ (B A : List (Int × Int)) (f : Nat) (last : Int) (out : ByteArray), (A ++ B).Perm ids → (A ++ B).Pairwise (fun x y => x.2 ≤ y.2) → (∀ x ∈ A, x.2 ≤ last) → (∀ x ∈ B, last < x.2) → B.length < f →
    idsS ids l f last out = B.foldl (fun o x => idLine l x o) out
  | B, A, 0, _, _, _, _, _, _, h => by omega
  | [], A, f + 1, last, out, hp, hs, hA, hB, hf => by
    unfold idsS
    rcases nextS_min ids last ids.length (Nat.le_refl _) with ⟨q1, q2⟩ | ⟨i, q1, q2, q3, q4⟩
    · rw [q1, if_pos (by decide)]; rfl
    · exfalso
      have hm : ids.getD i (0, 0) ∈ A := by
        have h := hp.mem_iff.2 (show ids.getD i (0, 0) ∈ ids from by rw [List.getD_eq_getElem?_getD, List.getElem?_eq_getElem q1]; exact List.getElem_mem q1)
        simpa using h
      have := hA _ hm
      omega
  | b :: B, A, f + 1, last, out, hp, hs, hA, hB, hf => by
    unfold idsS
    have hbm : b ∈ ids := hp.mem_iff.1 (by simp)
    obtain ⟨jb, hjb, ejb⟩ := List.getElem_of_mem hbm
    have hgb : ids.getD jb (0, 0) = b := by rw [List.getD_eq_getElem?_getD, List.getElem?_eq_getElem hjb, ejb]; rfl
    rcases nextS_min ids last ids.length (Nat.le_refl _) with ⟨q1, q2⟩ | ⟨i, q1, q2, q3, q4⟩
    · exfalso
      have := q2 jb hjb
      rw [hgb] at this
      exact this (hB b (by simp))
    · have hm : ids.getD i (0, 0) ∈ ids := by rw [List.getD_eq_getElem?_getD, List.getElem?_eq_getElem q1]; exact List.getElem_mem q1
      have hle := q4 jb hjb (by rw [hgb]; exact hB b (by simp))
      rw [hgb] at hle
      have hge : b.2 ≤ (ids.getD i (0, 0)).2 := by
        have hmm := hp.mem_iff.2 hm
        rcases List.mem_append.1 hmm with q | q
        · have := hA _ q; omega
        · rcases List.mem_cons.1 q with q | q
          · rw [q]; exact Int.le_refl _
          · have h2 := (List.pairwise_append.1 hs).2.1
            exact (List.pairwise_cons.1 h2).1 _ q
      have he : ids.getD i (0, 0) = b := nodup_map_inj hnd hm hbm (by omega)
      rw [q2, if_neg (by omega), Int.toNat_natCast, he, List.foldl_cons]
      have hlt : ∀ x ∈ B, b.2 < x.2 := fun x hx => by
        have h2 := (List.pairwise_append.1 hs).2.1
        have h3 := (List.pairwise_cons.1 h2).1 x hx
        rcases Int.lt_or_le b.2 x.2 with q | q
        · exact q
        · exfalso
          have hxm : x ∈ ids := hp.mem_iff.1 (by simp [hx])
          have hnd2 : ((A ++ b :: B).map (·.2)).Nodup := (hp.map _).nodup_iff.2 hnd
          rw [List.map_append, List.map_cons] at hnd2
          have h4 := (List.nodup_append.1 hnd2).2.1
          rw [List.nodup_cons] at h4
          exact h4.1 (List.mem_map.2 ⟨x, hx, by omega⟩)
      exact idsS_from ids l hnd B (A ++ [b]) f b.2 _ (by simpa using hp) (by simpa using hs) (fun x hx => by
        rcases List.mem_append.1 hx with q | q
        · have := hA x q
          have := hB b (by simp)
          omega
        · rw [List.mem_singleton.1 q]; exact Int.le_refl _) hlt (by simp at hf; omega)
/-- CHOSEN ONE BY ONE, OR SORTED. -/
theorem idsS_sort (ids : List (Int × Int)) (l : List Ob) (hnd : (ids.map (·.2)).Nodup) (hp : ∀ x ∈ ids, 0 < x.2) (out : ByteArray) : idsS ids l (ids.length + 1) 0 out = (sortI ids).foldl (fun o x => idLine l x o) out :=
  idsS_from ids l hnd (sortI ids) [] _ 0 out (by simpa using sortI_perm ids) (by simpa using sortI_le ids) (fun x hx => by simp at hx) (fun x hx => hp x ((sortI_perm ids).mem_iff.1 hx)) (by rw [sortI_len]; omega)
open Go.Shelf Go.RowKit Go.Sort

abbrev A63 := Fin 9223372036854775808
/-- Whose number it is. -/
def atOf (ids : List (Int × Int)) (s : Int) : Int := ((ids.find? fun x => x.2 == s).map (·.1)).getD 0
def encI (ids : List (Int × Int)) (a : A63) : List Value := [.int .u64 (atOf ids a.val), .int .i64 (a.val : Int)]
def cfN (x y : A63) : Int := (x.val : Int) - (y.val : Int)
theorem lt_cfN (x y : A63) : ltOf cfN x y = decide (x.val < y.val) := by
  unfold ltOf cfN
  by_cases h : x.val < y.val
  · rw [decide_eq_true h]; simp; omega
  · rw [decide_eq_false h]; simp; omega
theorem swoN : SWO (ltOf cfN) where
  irrefl x := by rw [lt_cfN]; simp
  trans x y z h1 h2 := by
    rw [lt_cfN] at *
    simp at *
    omega
  ntrans x y z h1 h2 := by
    rw [lt_cfN] at *
    simp at *
    omega
theorem totN (x y : A63) (h1 : ltOf cfN x y = false) (h2 : ltOf cfN y x = false) : x = y := by
  rw [lt_cfN] at h1 h2
  simp at h1 h2
  apply Fin.ext
  omega
set_option maxRecDepth 100000 in
set_option maxHeartbeats 400000 in
theorem cmpI_any (u v : Int) (x y : A63) (w : World) :
    Calls Tryz.prog 77 #[.agg #[.int .u64 u, .int .i64 (x.val : Int)], .agg #[.int .u64 v, .int .i64 (y.val : Int)]] w fun e w' => e = .returned (.int .i64 (cfN x y)) ∧ w' = (w.alloc (.cells #[.int .u64 u, .int .i64 (x.val : Int)] 68)).alloc (.cells #[.int .u64 v, .int .i64 (y.val : Int)] 68) := by
  have hx := x.isLt
  have hy := y.isLt
  unfold cfN
  have i2 : IntKind.i64.wrap ((x.val : Int) - (y.val : Int)) = (x.val : Int) - (y.val : Int) := IntWalk.i64_in _ (by omega)
  generalize x.val = x at *
  generalize y.val = y at *
  go_enter Tryz.func77, Tryz.ntmps77
  go_wp2
  go_ret
  exact ⟨rfl, rfl⟩
theorem cmpI_lays (ids : List (Int × Int)) (blk off size : Nat) (w : World) : CmpLays Tryz.prog 77 #[] (encI ids) 2 cfN blk off size w := fun m os dk hdk x y => by
  refine (cmpI_any (atOf ids x.val) (atOf ids y.val) x y _).mono ?_
  rintro e w' ⟨rfl, rfl⟩
  refine ⟨rfl, 0, #[.cells #[.int .u64 (atOf ids x.val), .int .i64 (x.val : Int)] 68 (0, 0)] ++ #[.cells #[.int .u64 (atOf ids y.val), .int .i64 (y.val : Int)] 68 (0, 0)], ?_⟩
  rw [alloc_eq_grow, alloc_eq_grow, grow_grow]
  rfl
theorem flat_icells (ids : List (Int × Int)) (d : List A63) : (flatK (encI ids) 2 d.toArray).toList = icells (d.map fun a => (atOf ids a.val, (a.val : Int))) := by
  have hl : (icells (d.map fun a => (atOf ids a.val, (a.val : Int)))).length = d.length * 2 := by
    unfold icells
    induction d with
    | nil => rfl
    | cons x d ih => rw [List.map_cons, List.flatMap_cons, List.length_append, ih, List.length_cons]; simp; omega
  refine List.ext_getElem (by rw [Array.length_toList, size_flatK, hl]; simp) fun t h1 h2 => ?_
  have ht : t < d.length * 2 := by rw [hl] at h2; exact h2
  have e1 : (flatK (encI ids) 2 d.toArray).toList[t] = (flatK (encI ids) 2 d.toArray)[t]! := by
    rw [Array.getElem_toList, getElem!_pos]
  rw [e1, get_flatK _ _ _ _ (by simpa using ht)]
  have hi : t / 2 < d.length := by omega
  have hd : d.toArray[t / 2]! = d[t / 2] := by rw [getElem!_pos _ _ (by simpa using hi)]; simp
  rw [hd]
  obtain ⟨p0, p1⟩ := icells_at (d.map fun a => (atOf ids a.val, (a.val : Int))) (t / 2) (by simpa using hi)
  rw [List.getElem_map] at p0 p1
  rcases Nat.mod_two_eq_zero_or_one t with q | q
  · have ht2 : t / 2 * 2 = t := by omega
    rw [ht2, List.getElem?_eq_getElem h2] at p0
    rw [q]
    injection p0 with p0
    rw [p0]; rfl
  · have ht2 : t / 2 * 2 + 1 = t := by omega
    rw [ht2, List.getElem?_eq_getElem h2] at p1
    rw [q]
    injection p1 with p1
    rw [p1]; rfl
def l63 (ids : List (Int × Int)) (h : ∀ x ∈ ids, 1 ≤ x.2 ∧ x.2 ≤ 9223372036854775807) : List A63 := ids.pmap (fun x hx => ⟨x.2.toNat, by have := hx.1; have := hx.2; omega⟩) h
theorem atOf_in {ids : List (Int × Int)} (hnd : (ids.map (·.2)).Nodup) {x : Int × Int} (hx : x ∈ ids) : atOf ids x.2 = x.1 := by
  unfold atOf
  cases hf : ids.find? fun y => y.2 == x.2 with
  | none =>
    have := List.find?_eq_none.1 hf x hx
    simp at this
  | some y =>
    have h1 := List.mem_of_find?_eq_some hf
    have h2 := List.find?_some hf
    have : y = x := nodup_map_inj hnd h1 hx (by simpa using h2)
    rw [this]; rfl
theorem l63_back (ids : List (Int × Int)) (h : ∀ x ∈ ids, 1 ≤ x.2 ∧ x.2 ≤ 9223372036854775807) (hnd : (ids.map (·.2)).Nodup) : (l63 ids h).map (fun a => (atOf ids a.val, (a.val : Int))) = ids := by
  unfold l63
  rw [List.map_pmap]
  have : ∀ (l : List (Int × Int)) (hl : ∀ x ∈ l, 1 ≤ x.2 ∧ x.2 ≤ 9223372036854775807), (∀ x ∈ l, x ∈ ids) → l.pmap (fun x hx => (atOf ids ((x.2.toNat : Nat) : Int), ((x.2.toNat : Nat) : Int))) hl = l := fun l => by
    induction l with
    | nil => intro _ _; rfl
    | cons x l ih =>
      intro hl hm
      rw [List.pmap_cons, ih _ fun y hy => hm y (by simp [hy])]
      have e : ((x.2.toNat : Nat) : Int) = x.2 := by have := (hl x (by simp)).1; omega
      rw [e, atOf_in hnd (hm x (by simp))]
  exact this ids h fun x hx => hx
theorem l63_sort (ids : List (Int × Int)) (h : ∀ x ∈ ids, 1 ≤ x.2 ∧ x.2 ≤ 9223372036854775807) (hnd : (ids.map (·.2)).Nodup) : ((l63 ids h).mergeSort fun x y => !ltOf cfN y x).map (fun a => (atOf ids a.val, (a.val : Int))) = sortI ids := by
  unfold sortI
  rw [List.map_mergeSort (s := fun x y : Int × Int => decide (x.2 ≤ y.2)) (fun a _ c _ => by
    rw [lt_cfN]
    by_cases q : c.val < a.val
    · rw [decide_eq_true q, decide_eq_false (by simp; omega)]; rfl
    · rw [decide_eq_false q, decide_eq_true (by simp; omega)]; rfl), l63_back ids h hnd]
def SortIPost (w : World) (base : Nat) (a : Option Addr) (c : Nat) (ids : List (Int × Int)) (e : Ending) (w' : World) : Prop :=
  e = .returned (.tuple #[]) ∧ w'.ownsRow base 68 2 (.slice a ids.length c) ids.length (icells (sortI ids)) ∧ Keep (fun k => (Value.slice a ids.length c).ownBlock = some k) w w'
theorem sortI_any (base : Nat) (a : Option Addr) (c : Nat) (ids : List (Int × Int)) (h1 : ids.length ≤ 1000000) (hb : ∀ x ∈ ids, 1 ≤ x.2 ∧ x.2 ≤ 9223372036854775807) (hnd : (ids.map (·.2)).Nodup) (w : World)
    (hO : w.ownsRow base 68 2 (.slice a ids.length c) ids.length (icells ids)) :
    Calls Tryz.prog 109 #[.slice a ids.length c, .func (.func 77) #[] #[]] w (SortIPost w base a c ids) := by
  by_cases he : ids = []
  · subst he
    refine (AnyF.slices_SortFunc_none (P := Tryz.prog) (ρ := sortRenI) { sortLI with } a c _ w).mono ?_
    rintro e w' ⟨rfl, rfl⟩
    have e : sortI [] = [] := by simp [sortI]
    exact ⟨rfl, by rw [e]; exact hO, Keep.refl _ _⟩
  · have hpos : 0 < ids.length := List.length_pos_iff.2 he
    have hO2 := hO
    obtain ⟨q1, q2⟩ := hO
    rcases q2 with ⟨-, q2⟩ | ⟨g, cap, cur, hv, hbg, hg, q3, q4, q5, q6⟩
    · omega
    · injection hv with hv1 hv2 hv3
      subst hv1 hv3
      have hlt : g < w.heap.size := by
        rcases Nat.lt_or_ge g w.heap.size with z | z
        · exact z
        · simp [Array.getElem?_eq_none z] at hg
      have hsz : (l63 ids hb).toArray.size = ids.length := by simp [l63]
      have hfl := flat_icells ids (l63 ids hb)
      rw [l63_back ids hb hnd] at hfl
      have hfs : (flatK (encI ids) 2 (l63 ids hb).toArray).size = ids.length * 2 := by rw [size_flatK, hsz]
      have hcz : ids.length * 2 ≤ cur.size := by omega
      have hH : HoldsK (encI ids) 2 w g 0 (l63 ids hb).toArray := fun j hj => by
        rw [hfs] at hj
        refine ⟨?_, by simp [World.frozen?, hg]⟩
        have hj2 : j < cur.size := by omega
        have hj3 : j < (flatK (encI ids) 2 (l63 ids hb).toArray).size := by rw [hfs]; exact hj
        have hc : w.cell? ⟨g, 0 + j, none⟩ = some cur[j] := by simp [World.cell?, hg, hj2]
        rw [hc, getElem!_pos (flatK (encI ids) 2 (l63 ids hb).toArray) j hj3]
        have h5 : (cur.toList.take (ids.length * 2))[j]? = (flatK (encI ids) 2 (l63 ids hb).toArray).toList[j]? := by rw [hfl, q6]
        rw [List.getElem?_take, if_pos hj, Array.getElem?_toList, Array.getElem?_toList, Array.getElem?_eq_getElem hj2, Array.getElem?_eq_getElem hj3] at h5
        exact h5
      have eg : ∀ args w, (callFunc 77 args).run Tryz.prog w = .ok (.enter 77 args) w := enters_of Tryz.func77 (by kernel_rfl) rfl
      have hS := AnyQ.slices_SortFunc_total sortLI 2 (fun w => by kernel_rfl) (fun w => by kernel_rfl) (encI ids) (fun _ => rfl) (fun x v hv => by
        unfold encI at hv
        simp at hv
        rcases hv with rfl | rfl <;> rfl) cfN swoN 77 #[] g 0 c (l63 ids hb).toArray w eg (cmpI_lays ids g 0 _ w) hH hlt (by rw [hsz]; omega) totN
      rw [hsz] at hS
      refine hS.mono ?_
      rintro e w' ⟨rfl, n, os, rfl⟩
      obtain ⟨D, hD⟩ : ∃ D, D = ((l63 ids hb).toArray.toList.mergeSort fun x y => !ltOf cfN y x) := ⟨_, rfl⟩
      have hDl : D.length = ids.length := by rw [hD, List.length_mergeSort]; simp [l63]
      have hDm : D.map (fun a => (atOf ids a.val, (a.val : Int))) = sortI ids := by rw [hD]; exact l63_sort ids hb hnd
      have hF := flat_icells ids D
      rw [hDm] at hF
      rw [← hD]
      have hFs : (flatK (encI ids) 2 D.toArray).size = ids.length * 2 := by rw [size_flatK]; simp [hDl]
      have hk := keep_sortWorld id w g 0 n (flatK (encI ids) 2 D.toArray) os
      have hb2 := block_sortWorld id w g 0 n (flatK (encI ids) 2 D.toArray) os hg
      refine ⟨rfl, ?_, hk.sub fun k hk => by subst hk; rfl⟩
      refine ⟨by rw [← hF, Array.length_toList, hFs], Or.inr ⟨g, c, _, rfl, hbg, hb2, q3, q4, by simp [putCells]; exact q5, ?_⟩⟩
      rw [← hF]
      apply List.ext_getElem?
      intro i
      rw [List.getElem?_take]
      by_cases hi : i < ids.length * 2
      · have hic : i < cur.size := by omega
        have hiF : i < (flatK (encI ids) 2 D.toArray).size := by rw [hFs]; exact hi
        rw [if_pos hi, Array.getElem?_toList, Array.getElem?_toList]
        unfold putCells
        rw [Array.getElem?_mapIdx, Array.getElem?_eq_getElem hic, Array.getElem?_eq_getElem hiF]
        simp only [Option.map_some]
        rw [if_pos ⟨by omega, by omega⟩, Nat.sub_zero, getElem!_pos (flatK (encI ids) 2 D.toArray) i hiF]
        rfl
      · rw [if_neg hi, List.getElem?_eq_none (by rw [Array.length_toList, hFs]; omega)]
end Go.Proofs.YtecbbbaafcoliaaGreatDoor
