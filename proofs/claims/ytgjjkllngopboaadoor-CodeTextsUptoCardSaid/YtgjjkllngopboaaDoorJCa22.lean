/- plain.Code over nil and over the seven package-level errors: their numbers. -/
import Derived.Test.YtgjjkllngopboaaDoorJCa21
import Derived.Deep.CutRange
import Derived.Test.YtgjjkllngopboaaDoorCards
import Derived.Test.YtgjjkllngopboaaDoorTie
import Derived.Test.YtgjjkllngopboaaDoorJCa01
import Derived.ProofKit
import Derived.OpenShut
import Derived.LaidLaws
import Derived.LaidSub
import Derived.LaidMore
import Derived.Deep.DeepHandedRow
import Derived.Deep.DeepWitnessRowRef
namespace Go.Proofs.YtgjjkllngopboaaDoor
open Go.RowKit
set_option linter.unusedVariables false
set_option linter.unusedSimpArgs false

/-- The seven package-level errors: their places; each is another one. -/
structure ErrEnv (E : Nat → Addr) (w : World) : Prop where
  text : w.cell? ⟨2, 0, none⟩ = some (errV (E 0))
  bound : w.cell? ⟨0, 0, none⟩ = some (errV (E 1))
  shape : w.cell? ⟨1, 0, none⟩ = some (errV (E 2))
  name : w.cell? ⟨3, 0, none⟩ = some (errV (E 3))
  place : w.cell? ⟨4, 0, none⟩ = some (errV (E 4))
  full : w.cell? ⟨5, 0, none⟩ = some (errV (E 5))
  nothing : w.cell? ⟨6, 0, none⟩ = some (errV (E 6))
  etype : GEType w
  blk : ∀ i, i < 7 → ∃ c t, w.heap[(E i).block]? = some (.cells c t (0, 0))
  ne : ∀ i j, i < 7 → j < 7 → i ≠ j → E i ≠ E j

theorem ErrEnv.g4 {E : Nat → Addr} {w : World} (h : ErrEnv E w) : G4 E w := ⟨⟨h.bound, h.shape, h.place⟩, h.full⟩
theorem ErrEnv.g3 {E : Nat → Addr} {w : World} (h : ErrEnv E w) : G3 E w := h.g4.toG3
theorem block_lt {w : World} {b : Nat} {o : Obj} (h : w.heap[b]? = some o) : b < w.heap.size := by
  rcases Nat.lt_or_ge b w.heap.size with g | g
  · exact g
  · simp [Array.getElem?_eq_none g] at h
theorem Ext.block_ {w w' : World} (h : Ext w w') {b : Nat} {o : Obj} (hb : w.heap[b]? = some o) : w'.heap[b]? = some o := by
  rw [Below.block h b (block_lt hb)]; exact hb
theorem ErrEnv.ext {E : Nat → Addr} {w w' : World} (h : ErrEnv E w) (hx : Ext w w') : ErrEnv E w' :=
  ⟨hx.cell_ h.text, hx.cell_ h.bound, hx.cell_ h.shape, hx.cell_ h.name, hx.cell_ h.place, hx.cell_ h.full, hx.cell_ h.nothing, hx.cell_ h.etype,
    fun i hi => let ⟨c, t, hc⟩ := h.blk i hi; ⟨c, t, hx.block_ hc⟩, h.ne⟩

theorem code_nil (w : World) : Calls Tryd.prog 30 #[.nilIface] w fun e w' => e = .returned (.tuple #[.int .i64 0, .int .i64 (-1)]) ∧ w' = w := by
  go_enter Tryd.func30, Tryd.ntmps30
  go_wp2_with fail
  go_ret2
  exact ⟨rfl, rfl⟩

set_option maxRecDepth 100000 in
set_option maxHeartbeats 4000000 in
theorem code_env {E : Nat → Addr} {w : World} (h : ErrEnv E w) (k : Nat) (hk : k < 7) :
    Calls Tryd.prog 30 #[errV (E k)] w fun e w' => e = .returned (.tuple #[.int .i64 (k + 1), .int .i64 (-1)]) ∧ Ext w w' := by
  have l0 := cell_lt h.text
  have l1 := cell_lt h.bound
  have l2 := cell_lt h.shape
  have l3 := cell_lt h.name
  have l4 := cell_lt h.place
  have l5 := cell_lt h.full
  have l6 := cell_lt h.nothing
  simp only at l0 l1 l2 l3 l4 l5 l6
  have H := Lib.hid h
  clear h
  go_enter Tryd.func30, Tryd.ntmps30
  go_wp2_with (first
    | (go_at_call 41; refine (as_miss _ _ _ (((Ext.refl w).alloc_ _).cell_ H.out.etype)).mono ?_; rintro e w1 ⟨rfl, hb⟩; have h1 := H.out.ext (((Ext.refl w).alloc_ _).trans_ hb); have hz : w.heap.size < w1.heap.size := (by have := hb.size; simp only [World.size_alloc] at this; omega); have c0 := h1.text; have c1 := h1.bound; have c2 := h1.shape; have c3 := h1.name; have c4 := h1.place; have c5 := h1.full; have c6 := h1.nothing))
  have hx : Ext w (w1.alloc (.cells #[errV (E 0), errV (E 1), errV (E 2), errV (E 3), errV (E 4), errV (E 5), errV (E 6)] 39)) := (((Ext.refl w).alloc_ _).trans_ hb).alloc_ _
  have h2 := Lib.hid (h1.ext ((Ext.refl w1).alloc_ (.cells #[errV (E 0), errV (E 1), errV (E 2), errV (E 3), errV (E 4), errV (E 5), errV (E 6)] 39)))
  have hcell : ∀ j, j < 7 → (w1.alloc (.cells #[errV (E 0), errV (E 1), errV (E 2), errV (E 3), errV (E 4), errV (E 5), errV (E 6)] 39)).cell? ⟨w1.heap.size, j, none⟩ = some (errV (E j)) := by
    intro j hj
    rw [World.cell?_alloc_new]
    match j, hj with
    | 0, _ => rfl
    | 1, _ => rfl
    | 2, _ => rfl
    | 3, _ => rfl
    | 4, _ => rfl
    | 5, _ => rfl
    | 6, _ => rfl
  clear h1 hb hz c0 c1 c2 c3 c4 c5 c6 l0 l1 l2 l3 l4 l5 l6
  generalize w1.heap.size = nb at *
  generalize (w1.alloc (.cells #[errV (E 0), errV (E 1), errV (E 2), errV (E 3), errV (E 4), errV (E 5), errV (E 6)] 39)) = W at *
  have HC := Lib.hid hcell
  clear hcell
  go_loop [3, 25] (fun c i => ∃ j : Nat, j ≤ k ∧ c = .int .i64 (-1) ∧ i = .int .i64 j) (fun _ i => 7 - (intOf i).toNat)
  case atStart => exact ⟨0, Nat.zero_le _, rfl, rfl⟩
  case round =>
    obtain ⟨j, hj, rfl, rfl⟩ := hrel
    have hc := HC.out j (by omega)
    by_cases hjk : k = j
    · subst hjk
      go_wp2_with (first
        | (go_at_call 42; refine (is_same _ _).mono ?_; rintro e w' ⟨rfl, rfl⟩))
      go_ret2
      exact ⟨rfl, hx⟩
    · have hd : j < k := by omega
      obtain ⟨ca, ta, ha⟩ := h2.out.blk k hk
      obtain ⟨cb, tb, hb⟩ := h2.out.blk j (by omega)
      have hne := h2.out.ne k j hk (by omega) hjk
      have Ha := Lib.hid ha
      have Hb := Lib.hid hb
      clear ha hb
      go_wp2_with (first
        | (go_at_call 42; refine (is_other _ _ _ _ _ _ _ hne Ha.out Hb.out).mono ?_; rintro e w' ⟨rfl, rfl⟩))
      go_round
      case rel => exact ⟨j + 1, by omega, rfl, by go_num⟩
      case measure => simp [intOf]; omega

theorem coded_nil (c : Int) (w : World) : Calls Tryd.prog 16 #[.nilIface, .int .i64 c] w fun e w' => e = .returned (.bool (0 == c)) ∧ w' = w := by
  rcases hc : (0 == c) with _ | _
  all_goals
    go_enter Tryd.func16, Tryd.ntmps16
    go_wp2_with (go_at_call 30; refine (code_nil _).mono ?_; rintro e w' ⟨rfl, rfl⟩)
    go_ret
    exact ⟨rfl, rfl⟩
theorem coded_env {E : Nat → Addr} {w : World} (h : ErrEnv E w) (k : Nat) (hk : k < 7) (c : Int) :
    Calls Tryd.prog 16 #[errV (E k), .int .i64 c] w fun e w' => e = .returned (.bool ((k + 1 : Int) == c)) ∧ Ext w w' := by
  have H := Lib.hid h
  clear h
  rcases hc : ((k + 1 : Int) == c) with _ | _
  all_goals
    go_enter Tryd.func16, Tryd.ntmps16
    go_wp2_with (go_at_call 30; refine (code_env H.out k hk).mono ?_; rintro e w' ⟨rfl, hb⟩)
    go_ret
    exact ⟨rfl, hb⟩
theorem infoI64 : (Tryd.prog.info? 2).map (fun i => (i.zero, i.size, i.bytes)) = some (some (.int .i64 0), 1, 8) := by kernel_rfl
theorem undI64s : Tryd.prog.underlying 23 = some (.slice 2) := by kernel_rfl
theorem infoStr : (Tryd.prog.info? 9).map (fun i => (i.zero, i.size, i.bytes)) = some (some (.string ⟨#[]⟩), 1, 16) := by kernel_rfl
theorem undStrs : Tryd.prog.underlying 24 = some (.slice 9) := by kernel_rfl
theorem infoOp : (Tryd.prog.info? 48).map (fun i => (i.zero, i.size, i.bytes)) = some (some (.agg #[.string ⟨#[]⟩, .int .i64 0]), 2, 24) := by kernel_rfl
theorem undOps : Tryd.prog.underlying 44 = some (.slice 48) := by kernel_rfl
theorem infoFn : (Tryd.prog.info? 46).map (fun i => (i.zero, i.size, i.bytes)) = some (some (.agg #[.string ⟨#[]⟩, .int .i64 0, .int .i64 0, .int .i64 0, .int .i64 0, .slice none 0 0]), 6, 72) := by kernel_rfl
theorem undFns : Tryd.prog.underlying 30 = some (.slice 46) := by kernel_rfl
theorem makeI64 (n : Nat) (h : n ≤ 100000) (W : World) : (Instr.makeSlice 23 (.int .i64 (n : Int)) (.int .i64 (n : Int))).run Tryd.prog W = .ok (.slice (some ⟨W.heap.size, 0, none⟩) n n) (W.alloc (.cells (madeCells #[.int .i64 0] n) 2)) := by
  obtain ⟨i0, hii, hz0, hz1, hz2⟩ := info_parts infoI64
  have := run_make (P := Tryd.prog) W 23 2 i0 _ undI64s hii hz0 .i64 .i64 (n : Int) (n : Int) (by omega) (Int.le_refl _) (by rw [hz2]; omega) (by omega)
  rw [hz1, Int.toNat_natCast, Nat.mul_one] at this
  exact this
theorem makeStrs (n : Nat) (h : n ≤ 100000) (W : World) : (Instr.makeSlice 24 (.int .i64 (n : Int)) (.int .i64 (n : Int))).run Tryd.prog W = .ok (.slice (some ⟨W.heap.size, 0, none⟩) n n) (W.alloc (.cells (madeCells #[.string ⟨#[]⟩] n) 9)) := by
  obtain ⟨i0, hii, hz0, hz1, hz2⟩ := info_parts infoStr
  have := run_make (P := Tryd.prog) W 24 9 i0 _ undStrs hii hz0 .i64 .i64 (n : Int) (n : Int) (by omega) (Int.le_refl _) (by rw [hz2]; omega) (by omega)
  rw [hz1, Int.toNat_natCast, Nat.mul_one] at this
  exact this
theorem makeOps (n : Nat) (h : n ≤ 100000) (W : World) : (Instr.makeSlice 44 (.int .i64 (n : Int)) (.int .i64 (n : Int))).run Tryd.prog W = .ok (.slice (some ⟨W.heap.size, 0, none⟩) n n) (W.alloc (.cells (madeCells #[.string ⟨#[]⟩, .int .i64 0] (n * 2)) 48)) := by
  obtain ⟨i0, hii, hz0, hz1, hz2⟩ := info_parts infoOp
  have := run_make (P := Tryd.prog) W 44 48 i0 _ undOps hii hz0 .i64 .i64 (n : Int) (n : Int) (by omega) (Int.le_refl _) (by rw [hz2]; omega) (by omega)
  rw [hz1, Int.toNat_natCast] at this
  exact this
theorem made_one (v : Value) (n : Nat) : (madeCells #[v] n).toList = List.replicate n v := by
  apply List.ext_getElem?
  intro i
  simp only [madeCells, Array.getElem?_toList, Array.getElem?_map, Array.getElem?_range, List.getElem?_replicate]
  split
  · simp [Nat.mod_one]
  · rfl
theorem made_ops (n : Nat) : (madeCells #[.string ⟨#[]⟩, .int .i64 0] (n * 2)).toList = opCells (List.replicate n ⟨⟨#[]⟩, 0⟩) := by
  apply List.ext_getElem?
  intro i
  simp only [madeCells, Array.getElem?_toList, Array.getElem?_map, Array.getElem?_range]
  by_cases h : i < n * 2
  · rw [if_pos h]
    have hat := opCells_at (List.replicate n ⟨⟨#[]⟩, 0⟩) (i / 2) (by simp; omega)
    rcases Nat.mod_two_eq_zero_or_one i with e | e
    · have : i / 2 * 2 = i := by omega
      rw [this] at hat
      rw [hat.1]
      simp [e]
    · have : i / 2 * 2 + 1 = i := by omega
      rw [this] at hat
      rw [hat.2]
      simp [e]
  · rw [if_neg h]
    rw [List.getElem?_eq_none (by rw [opCells_len]; simp; omega)]
    rfl
theorem opCells_set : ∀ (L : List OpP) (j : Nat) (s : ByteArray) (h : j < L.length), (opCells L).set (j * 2) (.string s) = opCells (L.set j ⟨s, L[j].a⟩)
  | [], _, _, h => by simp at h
  | o :: L, 0, s, _ => rfl
  | o :: L, j + 1, s, h => by
    have := opCells_set L j s (by simpa using h)
    rw [show (j + 1) * 2 = j * 2 + 1 + 1 by omega]
    simp only [opCells, List.set_cons_succ, List.getElem_cons_succ, this]
/-- Steps so far. -/
def stepsSo (n j : Nat) : List OpP := List.replicate j ⟨n_step, 0⟩ ++ List.replicate (n - j) ⟨⟨#[]⟩, 0⟩
theorem stepsSo_len (n j : Nat) (h : j ≤ n) : (stepsSo n j).length = n := by simp [stepsSo]; omega
theorem stepsSo_next (n j : Nat) (h : j < n) : (stepsSo n j).set j ⟨n_step, ((stepsSo n j)[j]'(by rw [stepsSo_len n j (by omega)]; exact h)).a⟩ = stepsSo n (j + 1) := by
  have ha : ((stepsSo n j)[j]'(by rw [stepsSo_len n j (by omega)]; exact h)).a = 0 := by
    unfold stepsSo
    rw [List.getElem_append_right (by simp)]
    simp
  rw [ha]
  unfold stepsSo
  obtain ⟨d, hd⟩ : ∃ d, n - j = d + 1 := ⟨n - j - 1, by omega⟩
  have hd2 : n - (j + 1) = d := by omega
  rw [hd, hd2, List.set_append_right _ _ (by simp)]
  simp only [List.length_replicate, Nat.sub_self, List.replicate_succ (n := d), List.set_cons_zero]
  rw [List.replicate_succ' (n := j), List.append_assoc]
  rfl
theorem stepsSo_halt (n : Nat) : (stepsSo (n + 1) (n + 1)).set n ⟨n_halt, ((stepsSo (n + 1) (n + 1))[n]'(by rw [stepsSo_len _ _ (Nat.le_refl _)]; omega)).a⟩ = opsW n := by
  have ha : ((stepsSo (n + 1) (n + 1))[n]'(by rw [stepsSo_len _ _ (Nat.le_refl _)]; omega)).a = 0 := by
    unfold stepsSo
    rw [List.getElem_append_left (by simp)]
    simp
  rw [ha]
  unfold stepsSo opsW
  rw [Nat.sub_self, List.replicate_zero, List.append_nil, List.replicate_succ', List.set_append_right _ _ (by simp)]
  simp
theorem two_blk (w : World) (o1 o2 : Obj) : ((w.alloc o1).alloc o2).heap[w.heap.size]? = some o1 ∧ ((w.alloc o1).alloc o2).heap[w.heap.size + 1]? = some o2 := by
  have s1 : (w.alloc o1).heap.size = w.heap.size + 1 := by simp
  have a1 := heap_alloc_new w o1
  have a2 := heap_alloc_new (w.alloc o1) o2
  rw [s1] at a2
  exact ⟨by rw [Below.block ((Ext.refl _).alloc_ o2) _ (by rw [s1]; omega)]; exact a1, a2⟩
theorem keepH {w w' : World} {k : Nat} {o : Obj} (h : w.heap[k]? = some o) (hx : Ext w w') : w'.heap[k]? = some o := by
  have hl : k < w.heap.size := by
    rcases Nat.lt_or_ge k w.heap.size with g | g
    · exact g
    · simp [Array.getElem?_eq_none g] at h
  rw [Below.block hx k hl]; exact h
/-- The functions laid so far: the steps', and those that return. -/
def wPairs (q ob n : Nat) (Lv : List OpsV) : List (FnP × OpsV) := (fnW q, (some ⟨ob, 0, none⟩, n)) :: Lv.map fun v => (fnR, v)
structure LaidW (w W : World) (C gi gn ob n q i k : Nat) (av : Option Addr) (ac : Nat) (Lv : List OpsV) : Prop where
  ext : Ext w W
  hC : w.heap.size ≤ C
  c : W.heap[C]? = some (.cells #[.slice av (Lv.length + 1) ac, .slice (some ⟨gi, 0, none⟩) i i, .slice none 0 0, .slice (some ⟨gn, 0, none⟩) k k] 32 (0, 0))
  fgi : W.heap[gi]? = some (.cells (madeCells #[.int .i64 0] i) 2 (0, 0))
  fgn : W.heap[gn]? = some (.cells (madeCells #[.string ⟨#[]⟩] k) 9 (0, 0))
  fob : W.heap[ob]? = some (.cells (opCells (opsW q)).toArray 48 (0, 0))
  row : W.ownsRow w.heap.size 46 6 (.slice av (Lv.length + 1) ac) (Lv.length + 1) (fnCells (wPairs q ob n Lv))
  ops : ∀ v ∈ Lv, ∃ b, v = (some ⟨b, 0, none⟩, 2) ∧ W.heap[b]? = some (.cells (opCells fnR.ops).toArray 48 (0, 0))
theorem fnCells_app : ∀ (a b : List (FnP × OpsV)), fnCells (a ++ b) = fnCells a ++ fnCells b
  | [], b => rfl
  | x :: a, b => by simp only [List.cons_append, fnCells, fnCells_app a b]
theorem own_type {W : World} {B : Nat} {e t : TypeId} {size : Nat} {v : Value} {n : Nat} {xs : List Value} (h : W.ownsRow B e size v n xs) {x : Nat} {cur : Array Value} (hx : W.heap[x]? = some (.cells cur t (0, 0))) (hne : t ≠ e) : v.ownBlock ≠ some x := fun e1 => by
  rcases h.2 with ⟨rfl, _⟩ | ⟨g, cap, cur', rfl, _, hg, _⟩
  · cases e1
  · injection e1 with e1
    simp only at e1
    subst e1
    rw [hg] at hx
    injection hx with hx
    injection hx with _ hx
    exact hne hx.symm
theorem LaidW.next {w W W1 W2 : World} {C gi gn ob n q i k : Nat} {av a2 : Option Addr} {ac c2 : Nat} {Lv : List OpsV} (h : LaidW w W C gi gn ob n q i k av ac Lv) (hX : Ext W W1) (b : Nat) (hb : W1.heap[b]? = some (.cells (opCells fnR.ops).toArray 48 (0, 0)))
    (hO : W2.ownsRow w.heap.size 46 6 (.slice a2 (Lv.length + 1 + 1) c2) (Lv.length + 1 + 1) (fnCells (wPairs q ob n Lv) ++ fnCells [(fnR, (some ⟨b, 0, none⟩, 2))])) (hG : W1.grownBy W2 (Value.slice av (Lv.length + 1) ac).ownBlock) :
    LaidW w (W2.setCell ⟨C, 0, none⟩ (.slice a2 (Lv.length + 1 + 1) c2)) C gi gn ob n q i k a2 c2 (Lv ++ [(some ⟨b, 0, none⟩, 2)]) := by
  have hrow1 : W1.ownsRow w.heap.size 46 6 (.slice av (Lv.length + 1) ac) (Lv.length + 1) (fnCells (wPairs q ob n Lv)) := own_extB h.row hX
  have key : ∀ (x : Nat) (cur : Array Value) (t : TypeId), t ≠ 46 → W1.heap[x]? = some (.cells cur t (0, 0)) → W2.heap[x]? = some (.cells cur t (0, 0)) := fun x cur t hne hx => by
    have h1 := own_type hrow1 hx hne
    rw [hG.block x (lt_of_block hx) (fun e => h1 e.symm)]
    exact hx
  have hC2 := key C _ _ (by decide) (keepH h.c hX)
  have key2 : ∀ (x : Nat) (cur : Array Value) (t : TypeId), t ≠ 46 → t ≠ 32 → W1.heap[x]? = some (.cells cur t (0, 0)) → (W2.setCell ⟨C, 0, none⟩ (.slice a2 (Lv.length + 1 + 1) c2)).heap[x]? = some (.cells cur t (0, 0)) := fun x cur t hne hne2 hx => by
    rw [heap_setCell_other W2 ⟨C, 0, none⟩ x _ (fun e => by
      have h2 := key x cur t hne hx
      simp only at e
      rw [e, hC2] at h2
      injection h2 with h2
      injection h2 with _ h2
      exact hne2 h2.symm)]
    exact key x cur t hne hx
  have hlen : (Lv ++ [((some ⟨b, 0, none⟩ : Option Addr), 2)]).length = Lv.length + 1 := by simp
  refine ⟨?_, h.hC, ?_, key2 gi _ _ (by decide) (by decide) (keepH h.fgi hX), key2 gn _ _ (by decide) (by decide) (keepH h.fgn hX), key2 ob _ _ (by decide) (by decide) (keepH h.fob hX), ?_, fun v hv => ?_⟩
  · exact (Ext.set_ (Below.grown (h.ext.trans_ hX) hG (h.ext.trans_ hX).size fun g hg => (h.row.lt g hg).1) (p := ⟨C, 0, none⟩) h.hC _)
  · rw [hlen]
    have := heap_setCell_same W2 C 0 _ _ (.slice a2 (Lv.length + 1 + 1) c2) hC2
    rw [this]
    rfl
  · rw [hlen]
    have e : wPairs q ob n (Lv ++ [((some ⟨b, 0, none⟩ : Option Addr), 2)]) = wPairs q ob n Lv ++ [(fnR, (some ⟨b, 0, none⟩, 2))] := by simp [wPairs]
    rw [e, fnCells_app]
    exact own_set hO (own_type hO hC2 (by decide)) _
  · rcases List.mem_append.1 hv with hv | hv
    · obtain ⟨b', rfl, hb'⟩ := h.ops v hv
      exact ⟨b', rfl, key2 b' _ _ (by decide) (by decide) (keepH hb' hX)⟩
    · obtain rfl := List.mem_singleton.1 hv
      exact ⟨b, rfl, key2 b _ _ (by decide) (by decide) hb⟩
theorem LaidW.c2 {w W W1 W2 : World} {C gi gn ob n q i k : Nat} {av : Option Addr} {ac : Nat} {Lv : List OpsV} (h : LaidW w W C gi gn ob n q i k av ac Lv) (hX : Ext W W1) (hG : W1.grownBy W2 (Value.slice av (Lv.length + 1) ac).ownBlock) :
    W2.heap[C]? = some (.cells #[.slice av (Lv.length + 1) ac, .slice (some ⟨gi, 0, none⟩) i i, .slice none 0 0, .slice (some ⟨gn, 0, none⟩) k k] 32 (0, 0)) := by
  have hrow1 : W1.ownsRow w.heap.size 46 6 (.slice av (Lv.length + 1) ac) (Lv.length + 1) (fnCells (wPairs q ob n Lv)) := own_extB h.row hX
  have hx := keepH h.c hX
  have h1 := own_type hrow1 hx (by decide)
  rw [hG.block C (lt_of_block hx) (fun e => h1 e.symm)]
  exact hx
theorem rsl_cells2 (w : World) (o : Obj) (e : TypeId) (a : Array Value) : RSl ((w.alloc o).alloc (.cells a e)) (some ⟨w.heap.size + 1, 0, none⟩) a.toList := by
  have := rsl_cells (w.alloc o) e a
  have s1 : (w.alloc o).heap.size = w.heap.size + 1 := by simp
  rw [s1] at this
  exact this
theorem row_rsl' {w : World} {B : Nat} {e : TypeId} {size : Nat} {a : Option Addr} {n c : Nat} {xs : List Value} (h : w.ownsRow B e size (.slice a n c) n xs) : RSl w a xs := by
  rcases h.2 with ⟨h1, h2⟩ | ⟨g, cap, cur, h1, _, hg, hc, _, _, ht⟩
  · subst h2
    have : xs = [] := List.eq_nil_of_length_eq_zero (by simpa using h.1)
    subst this
    exact RSl.nil _ _
  · injection h1 with h1 _ h3
    subst h1
    refine fun j u hu => ⟨g, 0, rfl, ?_⟩
    rw [Nat.zero_add, cell_of_row w g j cur _ _ hg]
    rw [← ht, List.getElem?_take] at hu
    split at hu
    · simpa using hu
    · cases hu
/-- The code that has been laid. -/
theorem LaidW.code {w W : World} {C gi gn ob n q i k : Nat} {av : Option Addr} {ac : Nat} {Lv : List OpsV} (h : LaidW w W C gi gn ob n q i k av ac Lv) (hq : q + 1 = n) (hn : n ≤ 25000) (hl : Lv.length ≤ 500) (hi : i ≤ 2500) (hk : k ≤ 2500) :
    RCode W (codeW q Lv.length i k) ⟨(av, ac), (some ⟨gi, 0, none⟩, i), (none, 0), (some ⟨gn, 0, none⟩, k), (some ⟨ob, 0, none⟩, n) :: Lv⟩ := by
  have hwv : withV (codeW q Lv.length i k) ⟨(av, ac), (some ⟨gi, 0, none⟩, i), (none, 0), (some ⟨gn, 0, none⟩, k), (some ⟨ob, 0, none⟩, n) :: Lv⟩ = wPairs q ob n Lv := by
    unfold withV codeW wPairs
    simp only [List.zip_cons_cons, List.cons.injEq, true_and]
    apply List.ext_getElem?
    intro j
    simp only [List.getElem?_zip_eq_some, List.getElem?_map]
    by_cases hj : j < Lv.length
    · rw [List.zip_eq_zipWith, List.getElem?_zipWith]
      simp [hj]
    · rw [List.getElem?_eq_none (by simp; omega), List.getElem?_eq_none (by omega)]
      rfl
  refine ⟨by simp [codeW], ?_, ?_, RSl.nil _ _, ?_, fun x hx => ?_, ?_⟩
  · rw [hwv]
    exact (row_rsl' h.row)
  · refine rsl_blk h.fgi ?_
    rw [made_one]
    simp [codeW]
  · refine rsl_blk h.fgn ?_
    rw [made_one]
    simp [codeW]
  · rw [hwv] at hx
    rcases List.mem_cons.1 hx with rfl | hx
    · exact rsl_blk h.fob (by simp; rfl)
    · obtain ⟨v, hv, rfl⟩ := List.mem_map.1 hx
      obtain ⟨b, rfl, hb⟩ := h.ops v hv
      exact rsl_blk hb (by simp)
  · rw [countW]
    simp [codeW]
    omega
theorem ver2 {gb gs : Addr} {e : Ending} {w' : World} (h : ((2 : Int), (-1 : Int)) = (0, -1) ∧ e = .returned .nilIface ∨ ((2 : Int), (-1 : Int)) = (2, -1) ∧ e = .returned (errV gb) ∨ ((2 : Int), (-1 : Int)) = (3, -1) ∧ e = .returned (errV gs) ∨
    ∃ (i x : Nat), ((2 : Int), (-1 : Int)) = (3, (i : Int)) ∧ e = .returned (.iface 82 (.pointer (some ⟨x, 0, none⟩))) ∧ w'.cell? ⟨x, 0, none⟩ = some (.int .i64 (i : Int)) ∧ w'.cell? ⟨x, 1, none⟩ = some (errV gs)) : e = .returned (errV gb) := by
  rcases h with h | h | h | ⟨i, x, h, _⟩
  · simp at h
  · exact h.2
  · simp at h
  · simp at h
theorem ver0 {gb gs : Addr} {e : Ending} {w' : World} (h : ((0 : Int), (-1 : Int)) = (0, -1) ∧ e = .returned .nilIface ∨ ((0 : Int), (-1 : Int)) = (2, -1) ∧ e = .returned (errV gb) ∨ ((0 : Int), (-1 : Int)) = (3, -1) ∧ e = .returned (errV gs) ∨
    ∃ (i x : Nat), ((0 : Int), (-1 : Int)) = (3, (i : Int)) ∧ e = .returned (.iface 82 (.pointer (some ⟨x, 0, none⟩))) ∧ w'.cell? ⟨x, 0, none⟩ = some (.int .i64 (i : Int)) ∧ w'.cell? ⟨x, 1, none⟩ = some (errV gs)) : e = .returned .nilIface := by
  rcases h with h | h | h | ⟨i, x, h, _⟩
  · exact h.2
  · simp at h
  · simp at h
  · simp at h
theorem packW {w2 wx : World} {C gi gn i k : Nat} {p : Value} (h0 : p = .pointer (some ⟨C, 0, none⟩)) (h2 : wx.heap[C]? = some (.cells #[.slice none 0 0, .slice (some ⟨gi, 0, none⟩) i i, .slice none 0 0, .slice (some ⟨gn, 0, none⟩) k k] 32 (0, 0)))
    (h3 : wx.heap[gi]? = some (.cells (madeCells #[.int .i64 0] i) 2 (0, 0))) (h4 : wx.heap[gn]? = some (.cells (madeCells #[.string ⟨#[]⟩] k) 9 (0, 0))) (h1 : Ext w2 wx) (h5 : w2.heap.size ≤ C) (h6 : gi ≠ C) (h7 : gn ≠ C) :
    ∃ (C gi gn : Nat), p = .pointer (some ⟨C, 0, none⟩) ∧ Hid (Ext w2 wx) ∧ w2.heap.size ≤ C ∧ Hid (wx.heap[C]? = some (.cells #[.slice none 0 0, .slice (some ⟨gi, 0, none⟩) i i, .slice none 0 0, .slice (some ⟨gn, 0, none⟩) k k] 32 (0, 0))) ∧
    Hid (wx.heap[gi]? = some (.cells (madeCells #[.int .i64 0] i) 2 (0, 0))) ∧ Hid (wx.heap[gn]? = some (.cells (madeCells #[.string ⟨#[]⟩] k) 9 (0, 0))) ∧ gi ≠ C ∧ gn ≠ C ∧ C < wx.heap.size :=
  ⟨C, gi, gn, h0, h1, h5, h2, h3, h4, h6, h7, lt_of_block h2⟩
set_option maxRecDepth 100000 in
set_option maxHeartbeats 16000000 in
theorem codeWide_any (x0 x1 x2 x3 : Int) (w : World) (E : Nat → Addr) (hE : ErrEnv E w) (hP : Pow w) :
    Calls Tryd.prog 5 #[.int .i64 x0, .int .i64 x1, .int .i64 x2, .int .i64 x3] w fun e w' => e = .returned (.bool true) ∧ Ext w w' := by
  have hh := halt_walk _ _ w hE.bound hE.shape hP
  have HH := Lib.hid hh
  have HE := Lib.hid hE
  clear hh hE hP
  by_cases a0 : x0 < 1
  · have z0 : decide (x0 < 1) = true := decide_eq_true a0
    clear a0
    go_enter Tryd.func5, Tryd.ntmps5
    go_wp2_with (go_at_call 6; refine HH.out.mono ?_; rintro e w2 ⟨rfl, hq⟩; have HX2 := Lib.hid hq; clear hq)
    go_ret
    exact ⟨rfl, HX2.out⟩
  have z0 : decide (x0 < 1) = false := decide_eq_false a0
  by_cases a1 : 25000 < x0
  · have z1 : decide (25000 < x0) = true := decide_eq_true a1
    clear a0 a1
    go_enter Tryd.func5, Tryd.ntmps5
    go_wp2_with (go_at_call 6; refine HH.out.mono ?_; rintro e w2 ⟨rfl, hq⟩; have HX2 := Lib.hid hq; clear hq)
    go_ret
    exact ⟨rfl, HX2.out⟩
  have z1 : decide (25000 < x0) = false := decide_eq_false a1
  by_cases a2 : x1 < 1
  · have z2 : decide (x1 < 1) = true := decide_eq_true a2
    clear a0 a1 a2
    go_enter Tryd.func5, Tryd.ntmps5
    go_wp2_with (go_at_call 6; refine HH.out.mono ?_; rintro e w2 ⟨rfl, hq⟩; have HX2 := Lib.hid hq; clear hq)
    go_ret
    exact ⟨rfl, HX2.out⟩
  have z2 : decide (x1 < 1) = false := decide_eq_false a2
  by_cases a3 : 500 < x1
  · have z3 : decide (500 < x1) = true := decide_eq_true a3
    clear a0 a1 a2 a3
    go_enter Tryd.func5, Tryd.ntmps5
    go_wp2_with (go_at_call 6; refine HH.out.mono ?_; rintro e w2 ⟨rfl, hq⟩; have HX2 := Lib.hid hq; clear hq)
    go_ret
    exact ⟨rfl, HX2.out⟩
  have z3 : decide (500 < x1) = false := decide_eq_false a3
  by_cases b0 : x2 < 0
  · have y0 : decide (x2 < 0) = true := decide_eq_true b0
    clear a0 a1 a2 a3 b0
    go_enter Tryd.func5, Tryd.ntmps5
    go_wp2_with (go_at_call 6; refine HH.out.mono ?_; rintro e w2 ⟨rfl, hq⟩; have HX2 := Lib.hid hq; clear hq)
    go_ret
    exact ⟨rfl, HX2.out⟩
  have y0 : decide (x2 < 0) = false := decide_eq_false b0
  by_cases b1 : 2500 < x2
  · have y1 : decide (2500 < x2) = true := decide_eq_true b1
    clear a0 a1 a2 a3 b0 b1
    go_enter Tryd.func5, Tryd.ntmps5
    go_wp2_with (go_at_call 6; refine HH.out.mono ?_; rintro e w2 ⟨rfl, hq⟩; have HX2 := Lib.hid hq; clear hq)
    go_ret
    exact ⟨rfl, HX2.out⟩
  have y1 : decide (2500 < x2) = false := decide_eq_false b1
  by_cases b2 : x3 < 0
  · have y2 : decide (x3 < 0) = true := decide_eq_true b2
    clear a0 a1 a2 a3 b0 b1 b2
    go_enter Tryd.func5, Tryd.ntmps5
    go_wp2_with (go_at_call 6; refine HH.out.mono ?_; rintro e w2 ⟨rfl, hq⟩; have HX2 := Lib.hid hq; clear hq)
    go_ret
    exact ⟨rfl, HX2.out⟩
  have y2 : decide (x3 < 0) = false := decide_eq_false b2
  by_cases b3 : 2500 < x3
  · have y3 : decide (2500 < x3) = true := decide_eq_true b3
    clear a0 a1 a2 a3 b0 b1 b2 b3
    go_enter Tryd.func5, Tryd.ntmps5
    go_wp2_with (go_at_call 6; refine HH.out.mono ?_; rintro e w2 ⟨rfl, hq⟩; have HX2 := Lib.hid hq; clear hq)
    go_ret
    exact ⟨rfl, HX2.out⟩
  have y3 : decide (2500 < x3) = false := decide_eq_false b3
  obtain ⟨n, rfl⟩ : ∃ n : Nat, x0 = (n : Int) := ⟨x0.toNat, by omega⟩
  obtain ⟨m, rfl⟩ : ∃ m : Nat, x1 = (m : Int) := ⟨x1.toNat, by omega⟩
  obtain ⟨i, rfl⟩ : ∃ i : Nat, x2 = (i : Int) := ⟨x2.toNat, by omega⟩
  obtain ⟨k, rfl⟩ : ∃ k : Nat, x3 = (k : Int) := ⟨x3.toNat, by omega⟩
  have hn : n ≤ 25000 := by omega
  have hm : m ≤ 500 := by omega
  have hn1 : 1 ≤ n := by omega
  have hm1 : 1 ≤ m := by omega
  have hi : i ≤ 2500 := by omega
  have hk : k ≤ 2500 := by omega
  clear a0 a1 a2 a3 b0 b1 b2 b3
  have mk1 := makeI64 i (by omega)
  have mk2 := makeStrs k (by omega)
  have mk3 := makeOps n (by omega)
  go_enter Tryd.func5, Tryd.ntmps5
  go_upto_region 6 with (go_at_call 6; refine HH.out.mono ?_; rintro e w2 ⟨rfl, hq⟩; have HX2 := Lib.hid hq; clear hq)
  clear z0 z1 z2 z3 y0 y1 y2 y3
  go_cut [10] from 49 to 53 (fun p wx => ∃ (C gi gn : Nat), p = .pointer (some ⟨C, 0, none⟩) ∧ Hid (Ext w2 wx) ∧ w2.heap.size ≤ C ∧ Hid (wx.heap[C]? = some (.cells #[.slice none 0 0, .slice (some ⟨gi, 0, none⟩) i i, .slice none 0 0, .slice (some ⟨gn, 0, none⟩) k k] 32 (0, 0))) ∧
    Hid (wx.heap[gi]? = some (.cells (madeCells #[.int .i64 0] i) 2 (0, 0))) ∧ Hid (wx.heap[gn]? = some (.cells (madeCells #[.string ⟨#[]⟩] k) 9 (0, 0))) ∧ gi ≠ C ∧ gn ≠ C ∧ C < wx.heap.size)
  case first =>
    go_region
    all_goals
      go_wp2_with fail
      go_meet
      case rel =>
        apply packW
        case h0 => rfl
        case h2 => first | exact (three_blk w2 _ _ _).1 | exact (three_blk w2 _ _ _).2.1 | exact (three_blk w2 _ _ _).2.2
        case h3 => first | exact (three_blk w2 _ _ _).1 | exact (three_blk w2 _ _ _).2.1 | exact (three_blk w2 _ _ _).2.2
        case h4 => first | exact (three_blk w2 _ _ _).1 | exact (three_blk w2 _ _ _).2.1 | exact (three_blk w2 _ _ _).2.2
        case h1 => exact ((((Ext.refl w2).alloc_ _).alloc_ _).alloc_ _).drew_
        case h5 => omega
        case h6 => omega
        case h7 => omega
  case rest =>
    obtain ⟨C, gi, gn, rfl, hX3, hC, hbC, hbi, hbn, hiC, hnC, hCl⟩ := hcut
    go_upto_region 9 with fail
    obtain ⟨ob, hob⟩ : ∃ ob, ob = wc.heap.size := ⟨_, rfl⟩
    obtain ⟨Fb, hFb⟩ : ∃ Fb, Fb = wc.heap.size + 1 := ⟨_, rfl⟩
    refine namedW (fun w4 hw4 => ?_)
    obtain ⟨t1, t2⟩ := two_blk wc (.cells (madeCells #[.string ⟨#[]⟩, .int .i64 0] (n * 2)) 48) (.cells #[.string ⟨#[]⟩, .int .i64 0, .int .i64 0, .int .i64 0, .int .i64 0, .slice (some ⟨wc.heap.size, 0, none⟩) n n] 46)
    rw [← hw4] at t1 t2
    have hX4 : Ext wc w4 := by rw [hw4]; exact ((Ext.refl wc).alloc_ _).alloc_ _
    rw [← hFb, ← hob]
    rw [← hob] at t1 t2
    rw [show ob + 1 = Fb by omega] at t2
    have u1 : w4.heap[ob]? = some (.cells (opCells (stepsSo n 0)).toArray 48 (0, 0)) := by
      rw [t1, show stepsSo n 0 = List.replicate n ⟨⟨#[]⟩, 0⟩ by simp [stepsSo], ← made_ops]
    have HX4 := Lib.hid (hX3.out.trans_ hX4)
    have HBC := Lib.hid (keepH hbC.out hX4)
    have HBI := Lib.hid (keepH hbi.out hX4)
    have HBN := Lib.hid (keepH hbn.out hX4)
    have HU1 := Lib.hid u1
    have HT2 := Lib.hid t2
    have hoF : ob ≠ Fb := by omega
    have hCo : C ≠ ob := by omega
    have hCF : C ≠ Fb := by omega
    have hwo : w2.heap.size ≤ ob := by have := hX3.out.size; omega
    have hio : gi ≠ ob := by have := lt_of_block hbi.out; omega
    have hno : gn ≠ ob := by have := lt_of_block hbn.out; omega
    have hwF : w2.heap.size ≤ Fb := by omega
    clear hw4 t1 t2 u1 hX4 hob hFb hX3 hbC hbi hbn mk1 mk2 mk3
    go_loopg [12] n (fun r ii wr => ∃ j : Nat, j + r = n ∧ ii = .int .i64 (j : Int) ∧ Hid (wr.heap[ob]? = some (.cells (opCells (stepsSo n j)).toArray 48 (0, 0))) ∧ Hid (Keep (· = ob) w4 wr))
    case atStart => exact ⟨0, by omega, rfl, HU1.out, Keep.refl _ _⟩
    case round =>
      clear HU1
      obtain ⟨j, hj, rfl, hb, hK⟩ := hrel
      have hF := hK.out.block Fb (lt_of_block HT2.out) (fun e => hoF e.symm)
      have hF2 : wr.heap[Fb]? = some (.cells #[.string ⟨#[]⟩, .int .i64 0, .int .i64 0, .int .i64 0, .int .i64 0, .slice (some ⟨ob, 0, none⟩) n n] 46 (0, 0)) := hF.trans HT2.out
      have f5 := cellRow hF2 5 _ rfl
      have hlen := stepsSo_len n j (by omega)
      have hfro : ∀ o, wr.frozen? ⟨ob, o, none⟩ = false := fun o => by simp [World.frozen?, hb.out]
      cases gk with
      | succ r =>
        have hjn : j < n := by omega
        have hjz : (j : Int) < (n : Int) := by omega
        have hat := opCells_at (stepsSo n j) j (by rw [hlen]; exact hjn)
        have c0 : wr.cell? ⟨ob, j * 2, none⟩ = some (.string ((stepsSo n j)[j]'(by rw [hlen]; exact hjn)).name) := by
          rw [cell_of_row _ _ _ _ _ _ hb.out]; simpa using hat.1
        have hf0 := hfro (j * 2)
        have hnext : Hid ((wr.setCell ⟨ob, j * 2, none⟩ (.string n_step)).heap[ob]? = some (.cells (opCells (stepsSo n (j + 1))).toArray 48 (0, 0))) := by
          have h1 := heap_setCell_same wr ob (j * 2) _ _ (.string n_step) hb.out
          show _ = _
          rw [h1]
          congr 2
          rw [← stepsSo_next n j hjn, ← opCells_set]
          simp
        have HKn := Lib.hid (hK.out.set_ (p := ⟨ob, j * 2, none⟩) (Or.inl rfl) (.string n_step))
        generalize ((stepsSo n j)[j]'(by rw [hlen]; exact hjn)).name = nm0 at *
        have HJ := Lib.hid hj
        clear hat hj hb hK hF hF2 hlen hfro
        go_wp2
        go_roundg r
        case measure => omega
        case rel => exact ⟨j + 1, by have := HJ.out; omega, by go_num, hnext.out, HKn.out⟩
      | zero =>
        obtain rfl : n = j := by omega
        obtain ⟨q, hq⟩ : ∃ q, q + 1 = n := ⟨n - 1, by omega⟩
        have e1 : IntKind.i64.wrap ((n : Int) - 1) = (q : Int) := by rw [IntWalk.i64_in _ (by omega)]; omega
        have qz : (q : Int) < (n : Int) := by omega
        have qn : q < n := by omega
        have hltz : ¬ (n : Int) < (n : Int) := by omega
        have hat := opCells_at (stepsSo n n) q (by rw [hlen]; exact qn)
        have c0 : wr.cell? ⟨ob, q * 2, none⟩ = some (.string ((stepsSo n n)[q]'(by rw [hlen]; exact qn)).name) := by
          rw [cell_of_row _ _ _ _ _ _ hb.out]; simpa using hat.1
        have hf0 := hfro (q * 2)
        have hnext : Hid ((wr.setCell ⟨ob, q * 2, none⟩ (.string n_halt)).heap[ob]? = some (.cells (opCells (opsW q)).toArray 48 (0, 0))) := by
          have h1 := heap_setCell_same wr ob (q * 2) _ _ (.string n_halt) hb.out
          show _ = _
          rw [h1]
          congr 2
          subst hq
          rw [← stepsSo_halt q, ← opCells_set]
          simp
        have HKn := Lib.hid (hK.out.set_ (p := ⟨ob, q * 2, none⟩) (Or.inl rfl) (.string n_halt))
        generalize ((stepsSo n n)[q]'(by rw [hlen]; exact qn)).name = nm0 at *
        have HQ := Lib.hid hq
        clear hat hj hb hK hF hF2 hlen hfro hq
        go_upto_region 13 with fail
        obtain ⟨w5, hw5⟩ : ∃ w5, w5 = wr.setCell ⟨ob, q * 2, none⟩ (.string n_halt) := ⟨_, rfl⟩
        change Code.wp _ _ _ _ (wr.setCell ⟨ob, q * 2, none⟩ (.string n_halt))
        rw [← hw5] at hnext HKn ⊢
        have d1 : w5.heap[Fb]? = some (.cells #[.string ⟨#[]⟩, .int .i64 0, .int .i64 0, .int .i64 0, .int .i64 0, .slice (some ⟨ob, 0, none⟩) n n] 46 (0, 0)) := (HKn.out.block Fb (lt_of_block HT2.out) (fun e => hoF e.symm)).trans HT2.out
        have d2 : w5.heap[C]? = some (.cells #[.slice none 0 0, .slice (some ⟨gi, 0, none⟩) i i, .slice none 0 0, .slice (some ⟨gn, 0, none⟩) k k] 32 (0, 0)) := (HKn.out.block C (lt_of_block HBC.out) (fun e => hCo e)).trans HBC.out
        have d3 : w5.heap[gi]? = some (.cells (madeCells #[.int .i64 0] i) 2 (0, 0)) := (HKn.out.block gi (lt_of_block HBI.out) (fun e => hio e)).trans HBI.out
        have d4 : w5.heap[gn]? = some (.cells (madeCells #[.string ⟨#[]⟩] k) 9 (0, 0)) := (HKn.out.block gn (lt_of_block HBN.out) (fun e => hno e)).trans HBN.out
        have hX5 : Ext w2 w5 := HX4.out.keep HKn.out (fun b hb => by rw [hb]; exact hwo)
        have HX5 := Lib.hid hX5
        have v0 := cellRow d1 0 _ rfl
        have v1 := cellRow d1 1 _ rfl
        have v2 := cellRow d1 2 _ rfl
        have v3 := cellRow d1 3 _ rfl
        have v4 := cellRow d1 4 _ rfl
        have v5 := cellRow d1 5 _ rfl
        have u0 := cellRow d2 0 _ rfl
        have lC := lt_of_block d2
        have lF := lt_of_block d1
        have hs5 := hX5.size
        have D2 := Lib.hid d2
        have D3 := Lib.hid d3
        have D4 := Lib.hid d4
        clear hw5 d1 d2 d3 d4 hX5 f5 c0 hf0 e1 qz HKn HBC HBI HBN HT2 HX4 hltz
        obtain ⟨i0, hii, hz0, hz1, hz2⟩ := info_parts infoFn
        go_wp2_with (at_builtin; refine wpList_append_src rfl _ _ 30 rfl w2.heap.size 46 i0 (.agg #[.string ⟨#[]⟩, .int .i64 0, .int .i64 0, .int .i64 0, .int .i64 0, .slice none 0 0]) 6 72 undFns hii hz0 hz1 hz2 rfl (by decide) (.slice none 0 0) 0 [] rfl (World.ownsRow_nil _ _ _ _) (some ⟨w5.heap.size, 0, none⟩) 1 1 [.string ⟨#[]⟩, .int .i64 0, .int .i64 0, .int .i64 0, .int .i64 0, .slice (some ⟨ob, 0, none⟩) n n] rfl (fun h => by cases h) (Nat.le_refl _) rfl (rsl_cells w5 _ _) (by intro u hu; simp at hu; rcases hu with rfl | rfl | rfl <;> rfl) (by unfold maxLen; omega) (by omega) (by simp; omega) ?_; intro a1 c1 w6 hO6 hG6 hv6; have hX56 : Ext w5 w6 := grown_extB ((Ext.refl w5).alloc_ _) hG6 (fun g hg => by cases hg); have HX56 := Lib.hid hX56; have HO6 := Lib.hid hO6; have u0 := hX56.cell_ u0; have hfC : w6.frozen? ⟨C, 0, none⟩ = false := (by have := keepH D2.out hX56; simp [World.frozen?, this]); have hs6 := hX56.size; clear hO6 hG6 hv6 hX56)
        have hL0 : LaidW w2 (w6.setCell ⟨C, 0, none⟩ (.slice a1 1 c1)) C gi gn ob n q i k a1 c1 [] := by
          have hC6 := keepH D2.out HX56.out
          have k2 : ∀ (x : Nat) (cur : Array Value) (t : TypeId), t ≠ 32 → w5.heap[x]? = some (.cells cur t (0, 0)) → (w6.setCell ⟨C, 0, none⟩ (.slice a1 1 c1)).heap[x]? = some (.cells cur t (0, 0)) := fun x cur t hne hx => by
            have h2 := keepH hx HX56.out
            rw [heap_setCell_other w6 ⟨C, 0, none⟩ x _ (fun e => by
              simp only at e
              rw [e, hC6] at h2
              injection h2 with h2
              injection h2 with _ h2
              exact hne h2.symm)]
            exact h2
          have hrow : w6.ownsRow w2.heap.size 46 6 (.slice a1 1 c1) 1 (fnCells (wPairs q ob n [])) := by
            have e : fnCells (wPairs q ob n []) = [.string ⟨#[]⟩, .int .i64 0, .int .i64 0, .int .i64 0, .int .i64 0, .slice (some ⟨ob, 0, none⟩) n n] := by
              have : (fnW q).ops.length = n := by show (opsW q).length = n; rw [opsW_len]; exact HQ.out
              simp only [wPairs, fnCells, List.map_nil, this]
              rfl
            rw [e]
            simpa using HO6.out
          refine ⟨(HX5.out.trans_ HX56.out).set_ (p := ⟨C, 0, none⟩) hC _, hC, ?_, k2 gi _ _ (by decide) D3.out, k2 gn _ _ (by decide) D4.out, k2 ob _ _ (by decide) hnext.out, ?_, fun v hv => by cases hv⟩
          · rw [heap_setCell_same w6 C 0 _ _ (.slice a1 1 c1) hC6]
            rfl
          · exact own_set hrow (own_type hrow hC6 (by decide)) _
        have HL0 := Lib.hid hL0
        generalize w6.setCell ⟨C, 0, none⟩ (.slice a1 1 c1) = w7 at *
        clear hL0 u0 v0 v1 v2 v3 v4 v5 hfC HO6 HX56 hs6 hs5 lC lF D2 D3 D4 HX5 hnext
        obtain ⟨m1, hm2⟩ : ∃ m1, m1 + 1 = m := ⟨m - 1, by omega⟩
        have HM := Lib.hid hm2
        have hm3 : m1 ≤ 500 := by omega
        clear hm2
        go_loopg [13] m1 (fun r jj wx => ∃ (av : Option Addr) (ac : Nat) (Lv : List OpsV), Lv.length + r = m1 ∧ jj = .int .i64 ((Lv.length : Int) + 1) ∧ Hid (LaidW w2 wx C gi gn ob n q i k av ac Lv))
        case atStart => exact ⟨a1, c1, [], by simp, by simp, HL0.out⟩
        case round =>
          clear HL0
          obtain ⟨av, ac, Lv, hlr, rfl, hL⟩ := hrel
          have g0 := cellRow hL.out.c 0 _ rfl
          have g1 := cellRow hL.out.c 1 _ rfl
          have g2 := cellRow hL.out.c 2 _ rfl
          have g3 := cellRow hL.out.c 3 _ rfl
          have lC := lt_of_block hL.out.c
          have hfC : wr.frozen? ⟨C, 0, none⟩ = false := by simp [World.frozen?, hL.out.c]
          cases gk with
          | succ r =>
            have hjz : (Lv.length : Int) + 1 < (m : Int) := by have := HM.out; omega
            have hlv : Lv.length ≤ 500 := by omega
            have hbase : w2.heap.size ≤ wr.heap.size := hL.out.ext.size
            have HLR := Lib.hid hlr
            clear hlr
            have hrow := hL.out.row
            have HROW := Lib.hid hrow
            clear hrow
            go_wp2_with (at_builtin; refine wpList_append_src rfl _ _ 30 rfl w2.heap.size 46 i0 (.agg #[.string ⟨#[]⟩, .int .i64 0, .int .i64 0, .int .i64 0, .int .i64 0, .slice none 0 0]) 6 72 undFns hii hz0 hz1 hz2 rfl (by decide) (.slice av (Lv.length + 1) ac) (Lv.length + 1) (fnCells (wPairs q ob n Lv)) rfl (own_extB HROW.out (((Ext.refl wr).alloc_ _).alloc_ _)) (some ⟨wr.heap.size + 1, 0, none⟩) 1 1 [.string ⟨#[]⟩, .int .i64 0, .int .i64 0, .int .i64 0, .int .i64 0, .slice (some ⟨wr.heap.size, 0, none⟩) 2 2] rfl (fun h => by cases h) (Nat.le_refl _) rfl (rsl_cells2 wr _ _ _) (by intro u hu; simp at hu; rcases hu with rfl | rfl | rfl <;> rfl) (by unfold maxLen; omega) (by omega) (by simp; omega) ?_; intro a2 c2 w8 hO8 hG8 hv8; have hX81 : Ext wr ((wr.alloc (.cells #[.string ⟨#[99, 111, 110, 115, 116]⟩, .int .i64 0, .string ⟨#[114, 101, 116, 117, 114, 110]⟩, .int .i64 0] 48)).alloc (.cells #[.string ⟨#[]⟩, .int .i64 0, .int .i64 0, .int .i64 0, .int .i64 0, .slice (some ⟨wr.heap.size, 0, none⟩) 2 2] 46)) := ((Ext.refl wr).alloc_ _).alloc_ _; have hC8 := hL.out.c2 hX81 hG8; have u0 := cellRow hC8 0 _ rfl; have hfC8 : w8.frozen? ⟨C, 0, none⟩ = false := (by simp [World.frozen?, hC8]); have lC8 := lt_of_block hC8; have hLN := Lib.hid (hL.out.next hX81 wr.heap.size (two_blk wr _ _).1 hO8 hG8); clear hO8 hG8 hv8 hX81 hC8)
            go_roundg r
            case measure => omega
            case rel => exact ⟨a2, c2, _, by have := HLR.out; simp only [List.length_append, List.length_singleton]; omega, by simp only [List.length_append, List.length_singleton]; go_num, hLN.out⟩
          | zero =>
            obtain rfl : m1 = Lv.length := by omega
            have hjz : ¬ (Lv.length : Int) + 1 < (m : Int) := by have := HM.out; omega
            have hE2 := HE.out.ext (HX2.out.trans_ hL.out.ext)
            have hcode := hL.out.code HQ.out hn hm3 hi hk
            have hv := verify_walk (codeW q Lv.length i k) _ (E 1) (E 2) wr hcode hE2.bound hE2.shape (fun x hx y hy => by
              rcases List.mem_cons.1 hx with rfl | hx
              · injection hy with hy
                subst hy
                exact lt_of_block hL.out.fob
              · obtain ⟨b, rfl, hb⟩ := hL.out.ops x hx
                injection hy with hy
                subst hy
                exact lt_of_block hb)
            rw [verifyW] at hv
            have hcv : codeV (codeW q Lv.length i k) ⟨(av, ac), (some ⟨gi, 0, none⟩, i), (none, 0), (some ⟨gn, 0, none⟩, k), (some ⟨ob, 0, none⟩, n) :: Lv⟩ = .agg #[.slice av (Lv.length + 1) ac, .slice (some ⟨gi, 0, none⟩) i i, .slice none 0 0, .slice (some ⟨gn, 0, none⟩) k k] := by
              unfold codeV
              simp [codeW]
            rw [hcv] at hv
            have HEN := Lib.hid hE2
            have HEXT := Lib.hid (HX2.out.trans_ hL.out.ext)
            have w1' : IntKind.i64.wrap ((m : Int) - 1) = (Lv.length : Int) := by rw [IntWalk.i64_in _ (by omega)]; have := HM.out; omega
            have w2' : IntKind.i64.wrap (2 * (Lv.length : Int)) = 2 * (Lv.length : Int) := IntWalk.i64_in _ (by omega)
            have w3' : IntKind.i64.wrap ((n : Int) + 2 * (Lv.length : Int)) = (n : Int) + 2 * (Lv.length : Int) := IntWalk.i64_in _ (by omega)
            have w4' : IntKind.i64.wrap (2 * ((m : Int) - 1)) = 2 * (Lv.length : Int) := by rw [IntWalk.i64_in _ (by omega)]; have := HM.out; omega
            have w5' : (m : Int) - 1 = (Lv.length : Int) := by have := HM.out; omega
            by_cases hwide : 20000 < q + 1 + 2 * Lv.length ∨ 400 < Lv.length + 1 ∨ 2000 < i ∨ 2000 < k
            · rw [if_pos hwide] at hv
              have hv2 : Calls Tryd.prog 14 #[.agg #[.slice av (Lv.length + 1) ac, .slice (some ⟨gi, 0, none⟩) i i, .slice none 0 0, .slice (some ⟨gn, 0, none⟩) k k]] wr (fun e w' => e = .returned (errV (E 1)) ∧ Ext wr w') := hv.mono fun e w' h => by
                obtain ⟨h1, h2⟩ := h
                exact ⟨ver2 h2, h1⟩
              have HV := Lib.hid hv2
              clear hv hv2 hcv hcode hE2 hlr
              by_cases o1 : 20000 < (n : Int) + 2 * (Lv.length : Int)
              · have z1 : decide (20000 < (n : Int) + 2 * (Lv.length : Int)) = true := decide_eq_true o1
                clear o1 hwide
                go_wp2_with (first
                  | (go_at_call 14; refine HV.out.mono ?_; rintro e w9 ⟨rfl, hq⟩; have HX9 := Lib.hid hq; clear hq)
                  | (go_at_call 16; refine (coded_env (HEN.out.ext HX9.out) 1 (by omega) 2).mono ?_; rintro e w10 ⟨rfl, hq⟩; have HX10 := Lib.hid hq; clear hq))
                go_ret
                exact ⟨rfl, (HEXT.out.trans_ HX9.out).trans_ HX10.out⟩
              have z1 : decide (20000 < (n : Int) + 2 * (Lv.length : Int)) = false := decide_eq_false o1
              by_cases o2 : 400 < (m : Int)
              · have z2 : decide (400 < (m : Int)) = true := decide_eq_true o2
                clear o1 o2 hwide
                go_wp2_with (first
                  | (go_at_call 14; refine HV.out.mono ?_; rintro e w9 ⟨rfl, hq⟩; have HX9 := Lib.hid hq; clear hq)
                  | (go_at_call 16; refine (coded_env (HEN.out.ext HX9.out) 1 (by omega) 2).mono ?_; rintro e w10 ⟨rfl, hq⟩; have HX10 := Lib.hid hq; clear hq))
                go_ret
                exact ⟨rfl, (HEXT.out.trans_ HX9.out).trans_ HX10.out⟩
              have z2 : decide (400 < (m : Int)) = false := decide_eq_false o2
              by_cases o3 : 2000 < (i : Int)
              · have z3 : decide (2000 < (i : Int)) = true := decide_eq_true o3
                clear o1 o2 o3 hwide
                go_wp2_with (first
                  | (go_at_call 14; refine HV.out.mono ?_; rintro e w9 ⟨rfl, hq⟩; have HX9 := Lib.hid hq; clear hq)
                  | (go_at_call 16; refine (coded_env (HEN.out.ext HX9.out) 1 (by omega) 2).mono ?_; rintro e w10 ⟨rfl, hq⟩; have HX10 := Lib.hid hq; clear hq))
                go_ret
                exact ⟨rfl, (HEXT.out.trans_ HX9.out).trans_ HX10.out⟩
              have z3 : decide (2000 < (i : Int)) = false := decide_eq_false o3
              have z4 : decide (2000 < (k : Int)) = true := decide_eq_true (by have := HQ.out; have := HM.out; omega)
              clear o1 o2 o3 hwide
              go_wp2_with (first
                | (go_at_call 14; refine HV.out.mono ?_; rintro e w9 ⟨rfl, hq⟩; have HX9 := Lib.hid hq; clear hq)
                | (go_at_call 16; refine (coded_env (HEN.out.ext HX9.out) 1 (by omega) 2).mono ?_; rintro e w10 ⟨rfl, hq⟩; have HX10 := Lib.hid hq; clear hq))
              go_ret
              exact ⟨rfl, (HEXT.out.trans_ HX9.out).trans_ HX10.out⟩
            · rw [if_neg hwide] at hv
              have hv2 : Calls Tryd.prog 14 #[.agg #[.slice av (Lv.length + 1) ac, .slice (some ⟨gi, 0, none⟩) i i, .slice none 0 0, .slice (some ⟨gn, 0, none⟩) k k]] wr (fun e w' => e = .returned .nilIface ∧ Ext wr w') := hv.mono fun e w' h => by
                obtain ⟨h1, h2⟩ := h
                exact ⟨ver0 h2, h1⟩
              have HV := Lib.hid hv2
              have z1 : decide (20000 < (n : Int) + 2 * (Lv.length : Int)) = false := decide_eq_false (by have := HQ.out; omega)
              have z2 : decide (400 < (m : Int)) = false := decide_eq_false (by have := HM.out; omega)
              have z3 : decide (2000 < (i : Int)) = false := decide_eq_false (by omega)
              have z4 : decide (2000 < (k : Int)) = false := decide_eq_false (by omega)
              clear hv hv2 hcv hcode hE2 hlr hwide
              go_wp2_with (first
                | (go_at_call 14; refine HV.out.mono ?_; rintro e w9 ⟨rfl, hq⟩; have HX9 := Lib.hid hq; clear hq)
                | (go_at_call 16; refine (coded_nil 0 _).mono ?_; rintro e w10 ⟨rfl, hq⟩; subst hq))
              go_ret
              exact ⟨rfl, HEXT.out.trans_ HX9.out⟩
open Go.ChangeShapes Go.WideShapes Go.ChangeAt Go.RowKit

theorem own : ownKnob Tryd.prog.godebug = none := by kernel_rfl
theorem esStar : "*" ++ "errors.errorString" = "*errors.errorString" := by decide
theorem esRow (u : TypeId) (h : Tryd.prog.typeName? 3 u = some "*errors.errorString") : u = 159 :=
  typeName_ptr_named (nm := "errors.errorString") (by rw [esStar]; kernel_rfl) (by kernel_rfl) (by decide) u (by rw [esStar]; exact h)
theorem esCells : Tryd.prog.cellsOf 178 = 1 := by kernel_rfl
theorem strCells : Tryd.prog.cellsOf 9 = 1 := by kernel_rfl

/-- An error as errors.New makes it, as a datum. -/
abbrev errD (text : List UInt8) : DataW Unit := .iface "*errors.errorString" (.ptr (.agg [.lit (.string text)]))

set_option maxRecDepth 100000 in
/-- One listed error. -/
theorem one_of_laid {W : World} {n : String} {text : List UInt8} {g : Nat} (hg : Tryd.prog.globalNamed n = some g) (ht : (Tryd.prog.globals[g]?).map (·.type) = some 39)
    (h : laidMet Tryd.prog [(n, errD text)] W) : ∃ a s, W.cell? ⟨g, 0, none⟩ = some (errV a) ∧ W.cell? a = some (.string s) ∧ s.data.toList = text := by
  obtain ⟨ps, ⟨g0, t0, cs0, f0, p0, q0, hg0, ht0, hv0, hd0, _, e0⟩, hnd, hrows⟩ := h
  obtain rfl := Option.some.inj (hg.symm.trans hg0)
  obtain rfl := Option.some.inj (ht.symm.trans ht0)
  subst e0
  obtain ⟨l0⟩ := cs0
  have ok0 : ∀ u v, l0 = [.iface u v] → Value.okWide Tryd.prog W .any 0 u v := fun u v e => by
    subst e
    exact (hrows g 0 (by simp [MemPlace.row])).2 u v (by simpa using World.var?_cell hg0 hv0 0)
  obtain ⟨a0, s0, rfl, hc0, hs0, hz0, rfl⟩ := errorString_of_trod Tryd.underlying39 esRow Tryd.underlying159 Tryd.underlying178 rfl rfl Tryd.underlying9 esCells strCells hd0 ok0
  exact ⟨a0, s0, by simpa using World.var?_cell hg0 hv0 0, hc0, hs0⟩

set_option maxRecDepth 100000 in
/-- The block of a listed error. -/
theorem blk_of_laid {W : World} {n : String} {text : List UInt8} {g : Nat} (hg : Tryd.prog.globalNamed n = some g) (ht : (Tryd.prog.globals[g]?).map (·.type) = some 39)
    (h : laidMet Tryd.prog [(n, errD text)] W) {a : Addr} (ha : W.cell? ⟨g, 0, none⟩ = some (errV a)) : ∃ c t, W.heap[a.block]? = some (.cells c t (0, 0)) := by
  obtain ⟨ps, ⟨g0, t0, cs0, f0, p0, q0, hg0, ht0, hv0, hd0, _, e0⟩, hnd, hrows⟩ := h
  obtain rfl := Option.some.inj (hg.symm.trans hg0)
  obtain rfl := Option.some.inj (ht.symm.trans ht0)
  subst e0
  obtain ⟨l0⟩ := cs0
  have ok0 : ∀ u v, l0 = [.iface u v] → Value.okWide Tryd.prog W .any 0 u v := fun u v e => by
    subst e
    exact (hrows g 0 (by simp [MemPlace.row])).2 u v (by simpa using World.var?_cell hg0 hv0 0)
  obtain ⟨a0, s0, rfl, hc0, hs0, hz0, rfl⟩ := errorString_of_trod Tryd.underlying39 esRow Tryd.underlying159 Tryd.underlying178 rfl rfl Tryd.underlying9 esCells strCells hd0 ok0
  have e0 : W.cell? ⟨g, 0, none⟩ = some (errV a0) := by simpa using World.var?_cell hg0 hv0 0
  rw [e0] at ha
  have ea : a0 = a := by injection ha with ha; injection ha with _ ha; injection ha with ha; injection ha
  subst ea
  exact (hrows a0.block a0.off (by simp [MemPlace.row])).1

set_option maxRecDepth 100000 in
/-- Two listed errors are two. -/
theorem two_of_laid {W : World} {n m : String} {tn tm : List UInt8} {g k : Nat} (hg : Tryd.prog.globalNamed n = some g) (ht : (Tryd.prog.globals[g]?).map (·.type) = some 39)
    (hk : Tryd.prog.globalNamed m = some k) (hkt : (Tryd.prog.globals[k]?).map (·.type) = some 39)
    (h : laidMet Tryd.prog [(n, errD tn), (m, errD tm)] W) {a b : Addr} (ha : W.cell? ⟨g, 0, none⟩ = some (errV a)) (hb : W.cell? ⟨k, 0, none⟩ = some (errV b)) : a ≠ b := by
  obtain ⟨ps, ⟨g0, t0, cs0, f0, p0, q0, hg0, ht0, hv0, hd0, ⟨g1, t1, cs1, f1, p1, q1, hg1, ht1, hv1, hd1, hq1, e1⟩, e0⟩, hnd, hrows⟩ := h
  obtain rfl := Option.some.inj (hg.symm.trans hg0)
  obtain rfl := Option.some.inj (hk.symm.trans hg1)
  obtain rfl := Option.some.inj (ht.symm.trans ht0)
  obtain rfl := Option.some.inj (hkt.symm.trans ht1)
  have hq1' : q1 = [] := hq1
  subst hq1'
  subst e1
  subst e0
  obtain ⟨l0⟩ := cs0
  obtain ⟨l1⟩ := cs1
  have ok0 : ∀ u v, l0 = [.iface u v] → Value.okWide Tryd.prog W .any 0 u v := fun u v e => by
    subst e
    exact (hrows g 0 (by simp [MemPlace.row])).2 u v (by simpa using World.var?_cell hg0 hv0 0)
  have ok1 : ∀ u v, l1 = [.iface u v] → Value.okWide Tryd.prog W .any 0 u v := fun u v e => by
    subst e
    exact (hrows k 0 (by simp [MemPlace.row])).2 u v (by simpa using World.var?_cell hg1 hv1 0)
  obtain ⟨a0, s0, rfl, hc0, hs0, hz0, rfl⟩ := errorString_of_trod Tryd.underlying39 esRow Tryd.underlying159 Tryd.underlying178 rfl rfl Tryd.underlying9 esCells strCells hd0 ok0
  obtain ⟨a1, s1, rfl, hc1, hs1, hz1, rfl⟩ := errorString_of_trod Tryd.underlying39 esRow Tryd.underlying159 Tryd.underlying178 rfl rfl Tryd.underlying9 esCells strCells hd1 ok1
  have e0 : W.cell? ⟨g, 0, none⟩ = some (errV a0) := by simpa using World.var?_cell hg0 hv0 0
  have e1 : W.cell? ⟨k, 0, none⟩ = some (errV a1) := by simpa using World.var?_cell hg1 hv1 0
  rw [e0] at ha; rw [e1] at hb
  have ea : a0 = a := by injection ha with ha; injection ha with _ ha; injection ha with ha; injection ha
  have eb : a1 = b := by injection hb with hb; injection hb with _ hb; injection hb with hb; injection hb
  subst ea eb
  rintro rfl
  simp [MemPlace.row] at hnd

theorem gB : Tryd.prog.globalNamed "nurserypy/api.ErrBound" = some 0 := by kernel_rfl
theorem gBt : (Tryd.prog.globals[0]?).map (·.type) = some 39 := by kernel_rfl
theorem gS : Tryd.prog.globalNamed "nurserypy/api.ErrShape" = some 1 := by kernel_rfl
theorem gSt : (Tryd.prog.globals[1]?).map (·.type) = some 39 := by kernel_rfl
theorem gP : Tryd.prog.globalNamed "nurserypy/api.ErrPlace" = some 4 := by kernel_rfl
theorem gPt : (Tryd.prog.globals[4]?).map (·.type) = some 39 := by kernel_rfl
theorem gF : Tryd.prog.globalNamed "nurserypy/api.ErrFull" = some 5 := by kernel_rfl
theorem gFt : (Tryd.prog.globals[5]?).map (·.type) = some 39 := by kernel_rfl

theorem laidOut : laidOutB Tryd.prog = true := by kernel_rfl

/-- The arguments read behind the call as they did before. -/
theorem trodAll_stays {H : Type} {enc : TypeId × Value → H} {W W' : World} (hb : Ext W W') : ∀ {ts : List TypeId} {vs : List Value} {ds : List (DataW H)} {ps : List MemPlace},
    (∀ t ∈ ts, Tryd.prog.readableRec t = true ∧ t < Tryd.prog.types.size) → (∀ x ∈ ps, x.block < W.heap.size) →
    DataW.TrodAll enc Tryd.prog W 0 (fun _ => true) true ts vs ds ps → DataW.TrodAll enc Tryd.prog W' 0 (fun b => decide (b < W.heap.size)) true ts vs ds ps := by
  intro ts
  induction ts with
  | nil =>
    intro vs ds ps _ _ h
    obtain ⟨rfl, rfl, rfl⟩ := trodAll_nil h
    exact trodAll_mk0
  | cons t ts ih =>
    intro vs ds ps hr hlt h
    obtain ⟨v, vs', d, ds', p, q, rfl, rfl, rfl, h0, r0⟩ := trodAll_cons h
    have ht := hr t (by simp)
    exact trodAll_cons_mk (Below.trod laidOut ht.1 ht.2 h0 hb (fun x hx => hlt x (by simp [hx]))) (ih (fun t h => hr t (by simp [h])) (fun x hx => hlt x (by simp [hx])) r0)

/-- A law that answers true and leaves what was there. -/
theorem law_post {H : Type} {enc : TypeId × Value → H} {f : Func} {s : ChangeSpec} {W W' : World} {args : Array Value} {ds gs : List (DataW H)} {before : List MemPlace}
    (hrt : f.resultTypes = #[4]) (hsv : s.vars = []) (hW : DataW.Whole enc Tryd.prog f.params.toList s.vars false W args.toList ds gs before)
    (hfn : s.fn H (ds ++ gs) = { results := [.lit (.bool true)], args := ds }) (hr : ∀ t ∈ f.params.toList, Tryd.prog.readableRec t = true ∧ t < Tryd.prog.types.size) (hb : Ext W W') :
    s.post enc Tryd.prog f false true false false W args (.bool true) W' := by
  have hlt := fun x hx => hW.lt x hx
  obtain ⟨p, q, hA, hV, hpq, hfz, hnd⟩ := id hW
  rw [hsv] at hV
  obtain ⟨rfl, rfl⟩ := trodVars_none hV
  subst hpq
  refine ⟨ds, [], _, [], p, [], hW, ?_, ?_, ?_, ?_, fun h => by cases h⟩
  · rw [hfn, hrt]; exact trodAll_mk1 (shut_bool Tryd.underlying4 true)
  · rw [hfn]; exact trodAll_stays hb hr (fun x hx => by simpa using hlt x (by simp [hx])) hA
  · rw [hfn, hsv]; rfl
  · exact hb.frame _
end Go.Proofs.YtgjjkllngopboaaDoor
