/- A slice of the call's own from which values go in front and to which they come behind: where it stands, and what an append does to it. Over any program. -/
import Derived.Test.YtgjjkllngopboaaDoorJCa05
import Derived.ArgAppend
import Derived.Test.YtgjjkllngopboaaDoorJCa04
import Derived.Deep.CutRange
namespace Go.Proofs.YtgjjkllngopboaaDoor
open Go.RowKit
set_option linter.unusedVariables false
set_option linter.unusedSimpArgs false

/-- A slice whose row stands in a block of the call's own, from whatever place on. -/
def Tail (w : World) (B : Nat) (e : TypeId) (v : Value) (xs : List Value) : Prop :=
  (v = .slice none 0 0 ∧ xs = []) ∨
  ∃ g off cap cur, v = .slice (some ⟨g, off, none⟩) xs.length cap ∧ B ≤ g ∧ w.heap[g]? = some (.cells cur e (0, 0)) ∧ xs.length ≤ cap ∧ cap ≤ maxLen ∧ off + cap ≤ cur.size ∧ (cur.toList.drop off).take xs.length = xs

theorem Tail.nil (w : World) (B : Nat) (e : TypeId) : Tail w B e (.slice none 0 0) [] := Or.inl ⟨rfl, rfl⟩
theorem Tail.of_own {w : World} {B : Nat} {e : TypeId} {v : Value} {n : Nat} {xs : List Value} (h : w.ownsRow B e 1 v n xs) : Tail w B e v xs := by
  obtain ⟨h1, h2⟩ := h
  rcases h2 with ⟨rfl, rfl⟩ | ⟨g, cap, cur, rfl, q1, q2, q3, q4, q5, q6⟩
  · exact Or.inl ⟨rfl, List.eq_nil_of_length_eq_zero (by simpa using h1)⟩
  · obtain rfl : xs.length = n := by omega
    exact Or.inr ⟨g, 0, cap, cur, rfl, q1, q2, q3, q4, by omega, by simpa using q6⟩
theorem Tail.lt {w : World} {B : Nat} {e : TypeId} {v : Value} {xs : List Value} (h : Tail w B e v xs) {k : Nat} (hk : v.ownBlock = some k) : B ≤ k ∧ k < w.heap.size := by
  rcases h with ⟨rfl, _⟩ | ⟨g, off, cap, cur, rfl, q1, q2, _⟩
  · simp [Value.ownBlock] at hk
  · simp [Value.ownBlock] at hk
    subst hk
    exact ⟨q1, lt_of_block q2⟩
theorem Tail.kept {w w' : World} {B : Nat} {e : TypeId} {v : Value} {xs : List Value} (h : Tail w B e v xs) (hk : ∀ k, v.ownBlock = some k → w'.heap[k]? = w.heap[k]?) : Tail w' B e v xs := by
  rcases h with h | ⟨g, off, cap, cur, rfl, q1, q2, q⟩
  · exact Or.inl h
  · exact Or.inr ⟨g, off, cap, cur, rfl, q1, by rw [hk g rfl]; exact q2, q⟩
theorem Tail.keep {L : Nat → Prop} {w w' : World} {B : Nat} {e : TypeId} {v : Value} {xs : List Value} (h : Tail w B e v xs) (k : Keep L w w') (hl : ∀ g, v.ownBlock = some g → ¬ L g) : Tail w' B e v xs :=
  h.kept fun g hg => k.block g (h.lt hg).2 (hl g hg)
theorem Tail.ext {w w' : World} {B : Nat} {e : TypeId} {v : Value} {xs : List Value} (h : Tail w B e v xs) (k : Ext w w') : Tail w' B e v xs :=
  h.kept fun g hg => Below.block k g (h.lt hg).2
theorem Tail.slice {w : World} {B : Nat} {e : TypeId} {v : Value} {xs : List Value} (h : Tail w B e v xs) : ∃ a n c, v = .slice a n c := by
  rcases h with ⟨rfl, _⟩ | ⟨g, off, cap, cur, rfl, _⟩
  · exact ⟨_, _, _, rfl⟩
  · exact ⟨_, _, _, rfl⟩
/-- What is in front. -/
theorem Tail.head {w : World} {B : Nat} {e : TypeId} {v x : Value} {xs : List Value} (h : Tail w B e v (x :: xs)) :
    ∃ g off cap, v = .slice (some ⟨g, off, none⟩) (xs.length + 1) (cap + 1) ∧ w.cell? ⟨g, off, none⟩ = some x ∧ xs.length ≤ cap ∧ Tail w B e (.slice (some ⟨g, off + 1, none⟩) xs.length cap) xs := by
  rcases h with ⟨_, h⟩ | ⟨g, off, cap, cur, rfl, q1, q2, q3, q4, q5, q6⟩
  · cases h
  · simp only [List.length_cons] at q3 q6
    obtain ⟨c, rfl⟩ : ∃ c, cap = c + 1 := ⟨cap - 1, by omega⟩
    have hlen : off < cur.toList.length := by rw [Array.length_toList]; omega
    rw [List.drop_eq_getElem_cons hlen] at q6
    simp only [List.take_succ_cons, List.cons.injEq] at q6
    refine ⟨g, off, c, rfl, ?_, by omega, Or.inr ⟨g, off + 1, c, cur, rfl, q1, q2, by omega, by omega, by omega, q6.2⟩⟩
    rw [cell_of_row w g off cur e (0, 0) q2, ← q6.1]
    simp at hlen
    simp [hlen]
/-- What is in front, and the rest, as the program cuts it off. -/
theorem Tail.rest {P : Program} {t : TypeId} {w : World} {B : Nat} {e : TypeId} {v x : Value} {xs : List Value} (h : Tail w B e v (x :: xs)) (ht : P.underlying t = some (.slice e)) (hz : ∀ w, (sizeOf e).run P w = .ok 1 w) :
    ∃ g off cap A, v = .slice (some ⟨g, off, none⟩) (xs.length + 1) (cap + 1) ∧ w.cell? ⟨g, off, none⟩ = some x ∧ (∀ w' : World, (Instr.slice t (.slice (some ⟨g, off, none⟩) (xs.length + 1) (cap + 1)) (some (.int .i64 1)) none none).run P w' = .ok (.slice A xs.length cap) w') ∧
      Tail w B e (.slice A xs.length cap) xs ∧ (Value.slice A xs.length cap).ownBlock = some g := by
  have hb := h
  obtain ⟨g, off, cap, hv, hc, hl, hr⟩ := h.head
  have he : P.elem t = e := by simp [Program.elem, ht]
  have ht' : P.underlying t = some (.slice (P.elem t)) := by rw [he]; exact ht
  refine ⟨g, off, cap, if cap = 0 then some ⟨g, off, none⟩ else some ⟨g, off + 1, none⟩, hv, hc, fun w' => ?_, ?_, ?_⟩
  · rw [run_slice_l w' t (some ⟨g, off, none⟩) (xs.length + 1) (cap + 1) ht' .i64 1 (by omega) (by omega), he, hz]
    simp [Result.andThen, sliced, Addr.add]
  · split
    · rename_i h0
      subst h0
      obtain rfl : xs = [] := List.eq_nil_of_length_eq_zero (by omega)
      rcases hb with ⟨_, hb⟩ | ⟨g', off', cap', cur, hv', q1, q2, q3, q4, q5, q6⟩
      · cases hb
      · rw [hv] at hv'
        injection hv' with e1 _ e3
        injection e1 with e1
        injection e1 with e1 e2
        subst e1 e2
        exact Or.inr ⟨g, off, 0, cur, rfl, q1, q2, by simp, by omega, by omega, by simp⟩
    · exact hr
  · split <;> simp [Value.ownBlock]

section
variable {P : Program} {w : World}
/-- ONE VALUE MORE BEHIND. -/
theorem run_append_tail (t ty : TypeId) (B : Nat) (e : TypeId) (i : TypeInfo) (z : Value) (bytes : Nat) (ht : P.underlying t = some (.slice e)) (hi : P.info? e = some i) (hz : i.zero = some z)
    (hsize : i.size = 1) (hby : i.bytes = bytes) (hzs : z.cells.size = 1) (v : Value) (xs : List Value) (h : Tail w B e v xs) (ad : Addr) (c : Nat) (x : Value) (hx : w.cell? ad = some x) (h1 : x.oneCell' = true)
    (h63 : xs.length + 1 ≤ maxLen) (hbytes : (xs.length + 1) * bytes ≤ 140737488355328) (hB : B ≤ w.heap.size) :
    ∃ v' w', (Builtin.append_ #[t, t] ty #[v, .slice (some ad) 1 c]).run P w = .ok v' w' ∧ Tail w' B e v' (xs ++ [x]) ∧ w.grownBy w' v.ownBlock ∧ (∀ k, v'.ownBlock = some k → v.ownBlock = some k ∨ w.heap.size ≤ k) := by
  have hnews : ∀ j u, [x][j]? = some u → w.cell? (ad.add j) = some u := fun j u hj => by
    cases j with
    | zero =>
      simp at hj; subst hj
      have e : ad.add 0 = ad := by cases ad; unfold Addr.add; split <;> simp_all
      rw [e]; exact hx
    | succ j => simp at hj
  have h1' : ∀ u ∈ [x], u.oneCell' = true := fun u hu => by rw [List.mem_singleton.1 hu]; exact h1
  have new_ : ∀ (v' : Value) (w' : World), w'.ownsRow w.heap.size e 1 v' (xs.length + 1) (xs ++ [x]) → Tail w' B e v' (xs ++ [x]) ∧ ∀ k, v'.ownBlock = some k → w.heap.size ≤ k := fun v' w' ho => by
    rcases ho.2 with ⟨q1, q2⟩ | ⟨g, cap, cur, q1, q2, q⟩
    · omega
    · refine ⟨Tail.of_own (n := xs.length + 1) ⟨ho.1, Or.inr ⟨g, cap, cur, q1, by omega, q⟩⟩, fun k hk => ?_⟩
      rw [q1] at hk
      simp [Value.ownBlock] at hk
      omega
  rcases h with ⟨rfl, rfl⟩ | ⟨g, off, cap, cur, rfl, q1, q2, q3, q4, q5, q6⟩
  · obtain ⟨v', w', hr, ho, hg, -⟩ := run_append_own (P := P) w w.heap.size t ty e i z 1 bytes ht hi hz hsize hby hzs (by omega) (.slice none 0 0) 0 [] (World.ownsRow_nil w _ e 1) ad 1 c [x] rfl hnews h1' (by simpa using h63) (by simpa using hbytes) (Nat.le_refl _)
    obtain ⟨n1, n2⟩ := new_ v' w' (by simpa using ho)
    exact ⟨v', w', hr, n1, hg, fun k hk => Or.inr (n2 k hk)⟩
  · by_cases hroom : xs.length + 1 ≤ cap
    · have hcell : w.cell? ⟨g, off + xs.length, none⟩ = some (cur.getD (off + xs.length) default) := by
        rw [cell_of_row w g _ cur e (0, 0) q2, Array.getD_eq_getD_getElem?, Array.getElem?_eq_getElem (by omega)]; rfl
      have hr := run_append_room_cells (P := P) w t ty e i ht hi g off xs.length cap ad 1 c [x] (by simp [hsize]) hnews h1' hroom
        (fun j hj => by obtain rfl : j = 0 := by simpa using hj
                        rw [hsize, Nat.mul_one, Nat.add_zero, hcell]; rfl)
        (fun j hj => by simp [World.frozen?, q2])
      rw [hsize, Nat.mul_one] at hr
      refine ⟨_, _, hr, Or.inr ⟨g, off, cap, cur.setIfInBounds (off + xs.length) x, by simp, q1, ?_, by simpa using hroom, q4, by simpa using q5, ?_⟩, ?_, fun k hk => Or.inl hk⟩
      · simp only [World.setCells]
        exact heap_setCell_same w g _ cur e x q2
      · rw [Array.toList_setIfInBounds, List.drop_set, if_neg (by omega), List.length_append, List.length_singleton]
        have hl : cap ≤ (cur.toList.drop off).length := by rw [List.length_drop, Array.length_toList]; omega
        rw [show off + xs.length - off = xs.length by omega, List.take_add_one, List.take_set, List.set_eq_of_length_le (by rw [List.length_take]; omega), q6, List.getElem?_set_self (by omega)]
        rfl
      · simp only [World.setCells]
        exact ⟨rfl, rfl, rfl, by simp [World.setCell], fun k _ hk => heap_setCell_other w ⟨g, off + xs.length, none⟩ k x (fun e => hk (by simp [Value.ownBlock, e]))⟩
    · have holds : ∀ j u, xs[j]? = some u → w.cell? ((⟨g, off, none⟩ : Addr).add j) = some u := fun j u hu => by
        rw [Addr.add_lit, cell_of_row w g _ cur e (0, 0) q2]
        rw [← q6, List.getElem?_take] at hu
        split at hu
        · simpa using hu
        · cases hu
      obtain ⟨v', w', hr, ho, hg⟩ := run_append_arg_grows (P := P) w t ty e i z 1 bytes ht hi hz hsize hby hzs (by omega) ⟨g, off, none⟩ xs.length cap xs (by simp) holds ad 1 c [x] rfl hnews (by omega) h63 hbytes
      obtain ⟨n1, n2⟩ := new_ v' w' ho
      exact ⟨v', w', hr, n1, ⟨hg.os, hg.tape, hg.output, hg.size, fun k hk _ => hg.block k hk (by simp)⟩, fun k hk => Or.inr (n2 k hk)⟩
/-- An append whose run is known. -/
theorem wpList_append_known {ops : Array Oper} {rest : List Oper} {o : Oper} {a : Act} {Q : Exit → Act → World → Prop} (hgd : o.guard = none) (s x : Operand) (t : TypeId)
    (ho : o.op = .call { callee := .builtin .append, args := #[s, x], argTypes := #[t, t] }) (vs vx : Value) (hs : a.eval s = vs) (hx : a.eval x = vx) {v' : Value} {w' : World}
    (hr : (Builtin.append_ #[t, t] o.type #[vs, vx]).run P w = .ok v' w') (h : wpList P ops Q rest (a.put o.dst v') w') : wpList P ops Q (o :: rest) a w :=
  wpList_plain hgd fun _ hK => by
    unfold Oper.wp execOp
    simp only [ho, resolve, invoke, builtin, Sem.run_bind, Sem.run_pure, Result.andThen_ok, List.map_toArray, List.map_cons, List.map_nil, hs, hx, hr]
    exact hK _ _ h
end
/-- A field that is a slice: where it stands, its elements' type and size, its value, its cells. -/
structure Fld where
  off : Nat
  e : TypeId
  size : Nat
  a : Option Addr
  n : Nat
  c : Nat
  cs : List Value
def Fld.val (f : Fld) : Value := .slice f.a f.n f.c
structure OM (w : World) (B b : Nat) (nums : List (Nat × Int)) (L : List Fld) : Prop where
  hb : B ≤ b
  blk : ∃ cur t, w.heap[b]? = some (.cells cur t (0, 0))
  num : ∀ p ∈ nums, w.cell? ⟨b, p.1, none⟩ = some (.int .i64 p.2)
  fld : ∀ f ∈ L, w.cell? ⟨b, f.off, none⟩ = some f.val ∧ w.ownsRow B f.e f.size f.val f.n f.cs ∧ f.val.ownBlock ≠ some b
  apart : L.Pairwise fun f g => ∀ k, f.val.ownBlock = some k → g.val.ownBlock ≠ some k
  offs : (nums.map (·.1) ++ L.map (·.off)).Nodup

theorem OM.lt {w : World} {B b : Nat} {nums : List (Nat × Int)} {L : List Fld} (h : OM w B b nums L) : b < w.heap.size := by
  obtain ⟨cur, t, hc⟩ := h.blk
  rcases Nat.lt_or_ge b w.heap.size with g | g
  · exact g
  · simp [Array.getElem?_eq_none g] at hc
theorem OM.frozen {w : World} {B b : Nat} {nums : List (Nat × Int)} {L : List Fld} (h : OM w B b nums L) (j : Nat) : w.frozen? ⟨b, j, none⟩ = false := by
  obtain ⟨cur, t, hc⟩ := h.blk
  simp [World.frozen?, hc]
/-- A step that leaves all its blocks alone. -/
theorem OM.kept {w w' : World} {B b : Nat} {nums : List (Nat × Int)} {L : List Fld} (h : OM w B b nums L) (hk : ∀ k, k < w.heap.size → (k = b ∨ ∃ f ∈ L, f.val.ownBlock = some k) → w'.heap[k]? = w.heap[k]?) : OM w' B b nums L := by
  have hbk : w'.heap[b]? = w.heap[b]? := hk b h.lt (Or.inl rfl)
  refine ⟨h.hb, ?_, fun p hp => ?_, fun f hf => ⟨?_, ?_, (h.fld f hf).2.2⟩, h.apart, h.offs⟩
  · rw [hbk]; exact h.blk
  · rw [World.cell?_of_block (w := w) (a := ⟨b, p.1, none⟩) hbk]; exact h.num p hp
  · rw [World.cell?_of_block (w := w) (a := ⟨b, f.off, none⟩) hbk]; exact (h.fld f hf).1
  · obtain ⟨h1, h2⟩ := (h.fld f hf).2.1
    refine ⟨h1, ?_⟩
    rcases h2 with h2 | ⟨g, cap, cur, hv, hg, hh, r⟩
    · exact Or.inl h2
    · refine Or.inr ⟨g, cap, cur, hv, hg, ?_, r⟩
      rw [hk g (((h.fld f hf).2.1.lt g (by rw [hv]; rfl)).2) (Or.inr ⟨f, hf, by rw [hv]; rfl⟩)]
      exact hh
theorem OM.ext {w w' : World} {B b : Nat} {nums : List (Nat × Int)} {L : List Fld} (h : OM w B b nums L) (hx : Ext w w') : OM w' B b nums L := h.kept fun k hk _ => hx.block k hk
/-- An own row is where it was behind a store elsewhere. -/
theorem own_set {w : World} {B : Nat} {e : TypeId} {size : Nat} {v : Value} {n : Nat} {xs : List Value} (h : w.ownsRow B e size v n xs) {p : Addr} (hp : v.ownBlock ≠ some p.block) (u : Value) : (w.setCell p u).ownsRow B e size v n xs := by
  obtain ⟨h1, h2⟩ := h
  refine ⟨h1, ?_⟩
  rcases h2 with h2 | ⟨g, cap, cur, hv, hg, hh, r⟩
  · exact Or.inl h2
  · refine Or.inr ⟨g, cap, cur, hv, hg, ?_, r⟩
    rw [Below.heap_setCell _ _ _ _ (fun e => hp (by rw [hv]; exact congrArg some e))]
    exact hh
theorem cell_set_same {w : World} {b o : Nat} {x u : Value} (hc : w.cell? ⟨b, o, none⟩ = some x) : (w.setCell ⟨b, o, none⟩ u).cell? ⟨b, o, none⟩ = some u := by
  simp [hc, go_sem]
theorem cell_set_off {w : World} {b o o' : Nat} {u : Value} (h : o ≠ o') : (w.setCell ⟨b, o, none⟩ u).cell? ⟨b, o', none⟩ = w.cell? ⟨b, o', none⟩ :=
  World.cell?_setCell_other w _ _ u (fun e => h (by injection e))
theorem blk_set {w : World} {b o : Nat} {u : Value} (h : ∃ cur t, w.heap[b]? = some (.cells cur t (0, 0))) : ∃ cur t, (w.setCell ⟨b, o, none⟩ u).heap[b]? = some (.cells cur t (0, 0)) := by
  obtain ⟨cur, t, hc⟩ := h
  simp only [World.setCell, Array.getElem?_modify]
  simp [hc]
/-- A FIELD IS FILLED: an append onto the empty field, whose row is new, and the store of it. -/
theorem OM.fill {w w1 : World} {B b : Nat} {nums : List (Nat × Int)} {L1 L2 : List Fld} {f : Fld} (h : OM w B b nums (L1 ++ f :: L2)) (hf : f.a = none) (a' : Option Addr) (n' c' : Nat) (cs' : List Value)
    (hg : w.grownBy w1 none) (ho : w1.ownsRow B f.e f.size (.slice a' n' c') n' cs') (hnew : (Value.slice a' n' c').ownBlock = none ∨ (Value.slice a' n' c').ownBlock = some w.heap.size) :
    OM (w1.setCell ⟨b, f.off, none⟩ (.slice a' n' c')) B b nums (L1 ++ ⟨f.off, f.e, f.size, a', n', c', cs'⟩ :: L2) := by
  have h1 : OM w1 B b nums (L1 ++ f :: L2) := h.kept fun k hk _ => hg.block k hk (by simp)
  have hlt := h.lt
  have hnb : (Value.slice a' n' c').ownBlock ≠ some b := by
    rcases hnew with e | e
    · rw [e]; simp
    · rw [e]; simp; omega
  have hold : ∀ g ∈ L1 ++ f :: L2, ∀ k, g.val.ownBlock = some k → (Value.slice a' n' c').ownBlock ≠ some k := fun g hgm k hk => by
    have := ((h.fld g hgm).2.1.lt k hk).2
    rcases hnew with e | e
    · rw [e]; simp
    · rw [e]; simp; omega
  have hoffs := h.offs
  have hfoff : ∀ p ∈ nums, p.1 ≠ f.off := fun p hp e => by
    rw [List.nodup_append] at hoffs
    exact hoffs.2.2 p.1 (List.mem_map_of_mem hp) f.off (List.mem_map_of_mem (by simp)) e
  have hgoff : ∀ g ∈ L1 ++ L2, g.off ≠ f.off := fun g hgm e => by
    have := (List.nodup_append.1 hoffs).2.1
    simp only [List.map_append, List.map_cons] at this
    rw [List.nodup_append, List.nodup_cons] at this
    rcases List.mem_append.1 hgm with q | q
    · exact this.2.2 g.off (List.mem_map_of_mem q) f.off (by simp) e
    · exact this.2.1.1 (by rw [← e]; exact List.mem_map_of_mem q)
  refine ⟨h.hb, blk_set h1.blk, fun p hp => ?_, fun g hgm => ?_, ?_, ?_⟩
  · rw [cell_set_off (hfoff p hp).symm]; exact h1.num p hp
  · rcases List.mem_append.1 hgm with q | q
    · have q' : g ∈ L1 ++ f :: L2 := List.mem_append_left _ q
      refine ⟨?_, own_set (h1.fld g q').2.1 (h1.fld g q').2.2 _, (h1.fld g q').2.2⟩
      rw [cell_set_off (hgoff g (List.mem_append_left _ q)).symm]; exact (h1.fld g q').1
    · rcases List.mem_cons.1 q with rfl | q
      · exact ⟨cell_set_same (h1.fld f (by simp)).1, own_set ho hnb _, hnb⟩
      · have q' : g ∈ L1 ++ f :: L2 := by simp [q]
        refine ⟨?_, own_set (h1.fld g q').2.1 (h1.fld g q').2.2 _, (h1.fld g q').2.2⟩
        rw [cell_set_off (hgoff g (List.mem_append_right _ q)).symm]; exact (h1.fld g q').1
  · have hp := h.apart
    rw [List.pairwise_append, List.pairwise_cons] at hp ⊢
    obtain ⟨p1, ⟨p2, p3⟩, p4⟩ := hp
    refine ⟨p1, ⟨fun g hgm k hk => ?_, p3⟩, fun g hg1 g' hg' k hk => ?_⟩
    · intro e
      exact hold g (by simp [hgm]) k e hk
    · rcases List.mem_cons.1 hg' with rfl | hg'
      · exact hold g (by simp [hg1]) k hk
      · exact p4 g hg1 g' (by simp [hg']) k hk
  · simpa using hoffs
/-- The table of shapes as a map bears it. -/
def shapeV (x : Int × Int × ByteArray) : Value := .agg #[.int .i64 x.1, .int .i64 x.2.1, .string x.2.2]
def shapeE : List (ByteArray × Value) := shapeTab.map fun x => (x.1, shapeV x.2)
def shT (n : ByteArray) : Int := ((shapeP n).map (·.1)).getD 0
def shP (n : ByteArray) : Int := ((shapeP n).map (·.2.1)).getD 0
def shK (n : ByteArray) : ByteArray := ((shapeP n).map (·.2.2)).getD ⟨#[]⟩
theorem sget_shape (n : ByteArray) : sget shapeE n = (shapeP n).map shapeV := by
  unfold sget shapeE shapeP
  generalize shapeTab = l
  induction l with
  | nil => rfl
  | cons x l ih =>
    simp only [List.map_cons, List.find?_cons]
    cases decide (x.1 = n) with
    | true => rfl
    | false => exact ih
theorem shape_look (n : ByteArray) : (sget shapeE n).getD (.agg #[.int .i64 0, .int .i64 0, .string ⟨#[]⟩]) = .agg #[.int .i64 (shT n), .int .i64 (shP n), .string (shK n)] ∧ (sget shapeE n).isSome = (shapeP n).isSome := by
  rw [sget_shape]
  unfold shT shP shK
  cases shapeP n with
  | none => exact ⟨rfl, rfl⟩
  | some x => exact ⟨rfl, rfl⟩

/-- Numbers of ops as cells. -/
def natsV (l : List Nat) : List Value := l.map fun (i : Nat) => Value.int .i64 (i : Int)
/-- A state's three cells. -/
structure StAt (w : World) (sb i : Nat) (x : Option StP) (a : Option Addr) (c : Nat) : Prop where
  s0 : w.cell? ⟨sb, i * 3, none⟩ = some (.bool x.isSome)
  s1 : w.cell? ⟨sb, i * 3 + 1, none⟩ = some (.int .i64 ((x.map (·.1)).getD 0))
  s2 : w.cell? ⟨sb, i * 3 + 2, none⟩ = some (.slice a ((x.map (·.2)).getD []).length c)
  row : RInts w a c ((x.map (·.2)).getD [])
/-- Where a state's tries lie: apart from what turns. -/
def StFree (w : World) (K sb : Nat) (tv : Value) (a : Option Addr) : Prop := ∀ y, a = some y → y.block < w.heap.size ∧ y.block ≠ K ∧ y.block ≠ sb ∧ tv.ownBlock ≠ some y.block
theorem StFree.mono {w w' : World} {K sb : Nat} {tv : Value} {a : Option Addr} (h : StFree w K sb tv a) (hs : w.heap.size ≤ w'.heap.size) : StFree w' K sb tv a := fun y hy => ⟨Nat.lt_of_lt_of_le (h y hy).1 hs, (h y hy).2⟩
/-- The cells that come with a checker and never turn. -/
structure OChk (w : World) (B K sb mb : Nat) (c : CodeP) (V : CodeV) (f : FnP) (v : OpsV) (fb fo : Nat) (tv : Value) (g : GoP) : Prop where
  R : RChk w K c V f v fb fo
  k5 : w.cell? ⟨K, 5, none⟩ = some (.map (some mb))
  k6 : w.cell? ⟨K, 6, none⟩ = some (.slice (some ⟨sb, 0, none⟩) g.s.length g.s.length)
  k7 : w.cell? ⟨K, 7, none⟩ = some tv
  k8 : w.cell? ⟨K, 8, none⟩ = some (.bool g.ok)
  blkK : ∃ cur t, w.heap[K]? = some (.cells cur t (0, 0))
  blkS : ∃ cur t, w.heap[sb]? = some (.cells cur t (0, 0))
  map : MapS w mb shapeE
  ops : RSl w v.1 (opCells f.ops)
  todo : Tail w B 3 tv (natsV g.todo)
  st : ∀ i, i < g.s.length → ∃ a cp, StAt w sb i (seenP g.s i) a cp ∧ StFree w K sb tv a
  hK : B ≤ K
  hS : B ≤ sb
  hB : B ≤ w.heap.size
  ne : K ≠ sb
  nK : tv.ownBlock ≠ some K
  nS : tv.ownBlock ≠ some sb
  hf : fb < B
  hm : mb < B
  ho : ∀ y, v.1 = some y → y.block < B
/-- What a checker's step may turn. -/
def OwnC (K sb : Nat) (tv : Value) (k : Nat) : Prop := k = K ∨ k = sb ∨ tv.ownBlock = some k
theorem StAt.kept {w w' : World} {sb i : Nat} {x : Option StP} {a : Option Addr} {c : Nat} (h : StAt w sb i x a c) (hc : ∀ o v, w.cell? ⟨sb, i * 3 + o, none⟩ = some v → o < 3 → w'.cell? ⟨sb, i * 3 + o, none⟩ = some v) (hr : RInts w' a c ((x.map (·.2)).getD [])) : StAt w' sb i x a c :=
  ⟨hc 0 _ h.s0 (by omega), hc 1 _ h.s1 (by omega), hc 2 _ h.s2 (by omega), hr⟩
theorem RInts.cells {w w' : World} {a : Option Addr} {c : Nat} {l : List Int} (h : RInts w a c l) (hc : ∀ y, a = some y → w'.heap[y.block]? = w.heap[y.block]?) : RInts w' a c l :=
  ⟨fun j u hu => by
    obtain ⟨b, o, rfl, q⟩ := h.row j u hu
    exact ⟨b, o, rfl, by rw [World.cell?_of_block (w := w) (a := ⟨b, o + j, none⟩) (hc ⟨b, o, none⟩ rfl)]; exact q⟩, h.cap, h.nil⟩
theorem Keep.wide {L L' : Nat → Prop} {w w' : World} (h : Keep L w w') (hl : ∀ k, L k → L' k) : Keep L' w w' := ⟨h.os, h.tape, h.output, h.size, fun k hk hn => h.block k hk fun e => hn (hl k e)⟩
section
variable {w w' : World} {B K sb mb : Nat} {c : CodeP} {V : CodeV} {f : FnP} {v : OpsV} {fb fo : Nat} {tv : Value} {g : GoP}
theorem OChk.lt (h : OChk w B K sb mb c V f v fb fo tv g) : K < w.heap.size ∧ sb < w.heap.size := ⟨cell_lt h.k8, by
  obtain ⟨cur, t, hc⟩ := h.blkS
  exact lt_of_block hc⟩
theorem OChk.froK (h : OChk w B K sb mb c V f v fb fo tv g) (j : Nat) : w.frozen? ⟨K, j, none⟩ = false := by
  obtain ⟨cur, t, hc⟩ := h.blkK
  simp [World.frozen?, hc]
theorem OChk.froS (h : OChk w B K sb mb c V f v fb fo tv g) (j : Nat) : w.frozen? ⟨sb, j, none⟩ = false := by
  obtain ⟨cur, t, hc⟩ := h.blkS
  simp [World.frozen?, hc]
/-- A step that leaves all its blocks alone. -/
theorem OChk.kept (h : OChk w B K sb mb c V f v fb fo tv g) (hs : w.heap.size ≤ w'.heap.size) (hk : ∀ k, k < w.heap.size → w'.heap[k]? = w.heap[k]?) : OChk w' B K sb mb c V f v fb fo tv g := by
  have hc : ∀ b o u, w.cell? ⟨b, o, none⟩ = some u → w'.cell? ⟨b, o, none⟩ = some u := fun b o u q => by
    rw [World.cell?_of_block (w := w) (a := ⟨b, o, none⟩) (hk b (cell_lt q))]; exact q
  obtain ⟨l1, l2⟩ := h.lt
  refine ⟨⟨hc _ _ _ h.R.kF, hc _ _ _ h.R.kI, hc _ _ _ h.R.kS, hc _ _ _ h.R.kN, hc _ _ _ h.R.kf, hc _ _ _ h.R.f0, hc _ _ _ h.R.f1, hc _ _ _ h.R.f2, hc _ _ _ h.R.f3, hc _ _ _ h.R.f4, hc _ _ _ h.R.f5⟩,
    hc _ _ _ h.k5, hc _ _ _ h.k6, hc _ _ _ h.k7, hc _ _ _ h.k8, by rw [hk K l1]; exact h.blkK, by rw [hk sb l2]; exact h.blkS, h.map.of_block (hk mb h.map.lt),
    fun j u hu => ?_, h.todo.kept fun k hkk => hk k (h.todo.lt hkk).2, fun i hi => ?_, h.hK, h.hS, Nat.le_trans h.hB hs, h.ne, h.nK, h.nS, h.hf, h.hm, h.ho⟩
  · obtain ⟨b, o, e, q⟩ := h.ops j u hu
    exact ⟨b, o, e, hc _ _ _ q⟩
  · obtain ⟨a, cp, h1, h2⟩ := h.st i hi
    refine ⟨a, cp, h1.kept (fun o u q _ => hc _ _ _ q) ⟨fun j u hu => ?_, h1.row.cap, h1.row.nil⟩, h2.mono hs⟩
    obtain ⟨b, o, e, q⟩ := h1.row.row j u hu
    exact ⟨b, o, e, hc _ _ _ q⟩
theorem OChk.ext (h : OChk w B K sb mb c V f v fb fo tv g) (hx : Ext w w') : OChk w' B K sb mb c V f v fb fo tv g := h.kept hx.size fun k hk => hx.block k hk
/-- A store into the checker's own block, at 7 or 8. -/
theorem OChk.setK (h : OChk w B K sb mb c V f v fb fo tv g) (o : Nat) (ho : o = 7 ∨ o = 8) (u : Value) :
    RChk (w.setCell ⟨K, o, none⟩ u) K c V f v fb fo ∧ (w.setCell ⟨K, o, none⟩ u).cell? ⟨K, 5, none⟩ = some (.map (some mb)) ∧ (w.setCell ⟨K, o, none⟩ u).cell? ⟨K, 6, none⟩ = some (.slice (some ⟨sb, 0, none⟩) g.s.length g.s.length) ∧
    (∃ cur t, (w.setCell ⟨K, o, none⟩ u).heap[K]? = some (.cells cur t (0, 0))) ∧ (∃ cur t, (w.setCell ⟨K, o, none⟩ u).heap[sb]? = some (.cells cur t (0, 0))) ∧ MapS (w.setCell ⟨K, o, none⟩ u) mb shapeE ∧
    RSl (w.setCell ⟨K, o, none⟩ u) v.1 (opCells f.ops) ∧ Tail (w.setCell ⟨K, o, none⟩ u) B 3 tv (natsV g.todo) ∧
    (∀ i, i < g.s.length → ∃ a cp, StAt (w.setCell ⟨K, o, none⟩ u) sb i (seenP g.s i) a cp ∧ StFree (w.setCell ⟨K, o, none⟩ u) K sb tv a) := by
  have hb : ∀ k, k ≠ K → (w.setCell ⟨K, o, none⟩ u).heap[k]? = w.heap[k]? := fun k hk => heap_setCell_other w ⟨K, o, none⟩ k u hk
  have hc : ∀ b p x, b ≠ K → w.cell? ⟨b, p, none⟩ = some x → (w.setCell ⟨K, o, none⟩ u).cell? ⟨b, p, none⟩ = some x := fun b p x e q => by
    rw [World.cell?_of_block (w := w) (a := ⟨b, p, none⟩) (hb b e)]; exact q
  have hK : ∀ p x, p ≠ 7 → p ≠ 8 → w.cell? ⟨K, p, none⟩ = some x → (w.setCell ⟨K, o, none⟩ u).cell? ⟨K, p, none⟩ = some x := fun p x e1 e2 q => by
    rw [cell_set_off (by omega)]; exact q
  have e1 : fb ≠ K := by have := h.hf; have := h.hK; omega
  have e2 : mb ≠ K := by have := h.hm; have := h.hK; omega
  refine ⟨⟨hK _ _ (by omega) (by omega) h.R.kF, hK _ _ (by omega) (by omega) h.R.kI, hK _ _ (by omega) (by omega) h.R.kS, hK _ _ (by omega) (by omega) h.R.kN, hK _ _ (by omega) (by omega) h.R.kf,
    hc _ _ _ e1 h.R.f0, hc _ _ _ e1 h.R.f1, hc _ _ _ e1 h.R.f2, hc _ _ _ e1 h.R.f3, hc _ _ _ e1 h.R.f4, hc _ _ _ e1 h.R.f5⟩, hK _ _ (by omega) (by omega) h.k5, hK _ _ (by omega) (by omega) h.k6, blk_set h.blkK,
    by rw [hb sb (Ne.symm h.ne)]; exact h.blkS, h.map.of_block (hb mb e2), fun j x hx => ?_, h.todo.kept fun k hk => hb k (fun e => h.nK (by rw [hk, e])), fun i hi => ?_⟩
  · obtain ⟨b, p, e, q⟩ := h.ops j x hx
    have h1 : b < B := h.ho _ e
    have := h.hK
    exact ⟨b, p, e, hc _ _ _ (by omega) q⟩
  · obtain ⟨a, cp, h1, h2⟩ := h.st i hi
    exact ⟨a, cp, h1.kept (fun p x q _ => hc _ _ _ (Ne.symm h.ne) q) (h1.row.cells fun y hy => hb _ (h2 y hy).2.1), h2.mono (by simp [World.setCell])⟩
theorem OChk.bad (h : OChk w B K sb mb c V f v fb fo tv g) (b : Bool) : OChk (w.setCell ⟨K, 8, none⟩ (.bool b)) B K sb mb c V f v fb fo tv { g with ok := b } := by
  obtain ⟨q1, q2, q3, q4, q5, q6, q7, q8, q9⟩ := h.setK 8 (Or.inr rfl) (.bool b)
  exact ⟨q1, q2, q3, by rw [cell_set_off (by omega)]; exact h.k7, cell_set_same h.k8, q4, q5, q6, q7, q8, q9, h.hK, h.hS, by simpa [World.setCell] using h.hB, h.ne, h.nK, h.nS, h.hf, h.hm, h.ho⟩
/-- What is still to be gone through stands elsewhere: the field is stored anew. -/
theorem OChk.setTodo (h : OChk w B K sb mb c V f v fb fo tv g) {tv' : Value} {td : List Nat} (ht : Tail w B 3 tv' (natsV td)) (hn : tv'.ownBlock = tv.ownBlock) :
    OChk (w.setCell ⟨K, 7, none⟩ tv') B K sb mb c V f v fb fo tv' { g with todo := td } := by
  obtain ⟨q1, q2, q3, q4, q5, q6, q7, q8, q9⟩ := h.setK 7 (Or.inl rfl) tv'
  refine ⟨q1, q2, q3, cell_set_same h.k7, by rw [cell_set_off (by omega)]; exact h.k8, q4, q5, q6, q7, ht.kept fun k hk => heap_setCell_other w ⟨K, 7, none⟩ k tv' (fun e => h.nK (by rw [← hn, hk, e])), ?_, h.hK, h.hS, by simpa [World.setCell] using h.hB, h.ne,
    by rw [hn]; exact h.nK, by rw [hn]; exact h.nS, h.hf, h.hm, h.ho⟩
  unfold StFree at q9 ⊢
  rw [hn]
  exact q9
/-- The same behind an append: its row may be new. -/
theorem OChk.pushTodo {w1 : World} (h : OChk w B K sb mb c V f v fb fo tv g) {tv' : Value} {td : List Nat} (hg : w.grownBy w1 tv.ownBlock) (ht : Tail w1 B 3 tv' (natsV td))
    (hn : ∀ k, tv'.ownBlock = some k → tv.ownBlock = some k ∨ w.heap.size ≤ k) :
    OChk (w1.setCell ⟨K, 7, none⟩ tv') B K sb mb c V f v fb fo tv' { g with todo := td } := by
  obtain ⟨l1, l2⟩ := h.lt
  have hne : ∀ k, k < w.heap.size → tv.ownBlock ≠ some k → tv'.ownBlock ≠ some k := fun k hk hq e => by
    rcases hn k e with q | q
    · exact hq q
    · omega
  have nK' := hne K l1 h.nK
  have nS' := hne sb l2 h.nS
  have hb1 : ∀ k, k < w.heap.size → tv.ownBlock ≠ some k → w1.heap[k]? = w.heap[k]? := fun k hk hq => hg.block k hk (fun e => hq e.symm)
  have hb : ∀ k, k ≠ K → (w1.setCell ⟨K, 7, none⟩ tv').heap[k]? = w1.heap[k]? := fun k hk => heap_setCell_other w1 ⟨K, 7, none⟩ k tv' hk
  have hc : ∀ b p x, b ≠ K → tv.ownBlock ≠ some b → w.cell? ⟨b, p, none⟩ = some x → (w1.setCell ⟨K, 7, none⟩ tv').cell? ⟨b, p, none⟩ = some x := fun b p x e e2 q => by
    rw [World.cell?_of_block (w := w) (a := ⟨b, p, none⟩) ((hb b e).trans (hb1 b (cell_lt q) e2))]; exact q
  have hK1 : ∀ p x, w.cell? ⟨K, p, none⟩ = some x → w1.cell? ⟨K, p, none⟩ = some x := fun p x q => by
    rw [World.cell?_of_block (w := w) (a := ⟨K, p, none⟩) (hb1 K l1 h.nK)]; exact q
  have hK : ∀ p x, p ≠ 7 → w.cell? ⟨K, p, none⟩ = some x → (w1.setCell ⟨K, 7, none⟩ tv').cell? ⟨K, p, none⟩ = some x := fun p x e1 q => by
    rw [cell_set_off (Ne.symm e1)]; exact hK1 p x q
  have e1 : fb ≠ K := by have := h.hf; have := h.hK; omega
  have e2 : mb ≠ K := by have := h.hm; have := h.hK; omega
  have low : ∀ k, k < B → tv.ownBlock ≠ some k := fun k hk e => by have := (h.todo.lt e).1; omega
  have hfl := low fb h.hf
  refine ⟨⟨hK _ _ (by omega) h.R.kF, hK _ _ (by omega) h.R.kI, hK _ _ (by omega) h.R.kS, hK _ _ (by omega) h.R.kN, hK _ _ (by omega) h.R.kf,
    hc _ _ _ e1 hfl h.R.f0, hc _ _ _ e1 hfl h.R.f1, hc _ _ _ e1 hfl h.R.f2, hc _ _ _ e1 hfl h.R.f3, hc _ _ _ e1 hfl h.R.f4, hc _ _ _ e1 hfl h.R.f5⟩, hK _ _ (by omega) h.k5, hK _ _ (by omega) h.k6, cell_set_same (hK1 _ _ h.k7), hK _ _ (by omega) h.k8,
    blk_set (by rw [hb1 K l1 h.nK]; exact h.blkK), by rw [hb sb (Ne.symm h.ne), hb1 sb l2 h.nS]; exact h.blkS, h.map.of_block ((hb mb e2).trans (hb1 mb h.map.lt (low mb h.hm))), fun j x hx => ?_,
    ht.kept fun k hk => hb k (fun e => nK' (by rw [hk, e])), fun i hi => ?_, h.hK, h.hS, by have := h.hB; have := hg.size; simp only [World.setCell, Array.size_modify]; omega, h.ne, nK', nS', h.hf, h.hm, h.ho⟩
  · obtain ⟨b, p, e, q⟩ := h.ops j x hx
    have h1 := h.ho _ e
    have := h.hK
    exact ⟨b, p, e, hc _ _ _ (by have h2 : b < B := h1; omega) (low b h1) q⟩
  · obtain ⟨a, cp, h1, h2⟩ := h.st i hi
    refine ⟨a, cp, h1.kept (fun p x q _ => hc _ _ _ (Ne.symm h.ne) h.nS q) ?_, fun y hy => ?_⟩
    · refine ⟨fun j u hu => ?_, h1.row.cap, h1.row.nil⟩
      obtain ⟨b, o, e, q⟩ := h1.row.row j u hu
      obtain ⟨r0, r1, r2, r3⟩ := h2 _ e
      exact ⟨b, o, e, hc _ _ _ r1 r3 q⟩
    · obtain ⟨r0, r1, r2, r3⟩ := h2 y hy
      exact ⟨by have := hg.size; simp only [World.setCell, Array.size_modify]; omega, r1, r2, hne _ r0 r3⟩
/-- A state is laid. -/
theorem OChk.setSt (h : OChk w B K sb mb c V f v fb fo tv g) {i : Nat} (hi : i < g.s.length) (x : StP) {a : Option Addr} {cp : Nat} (hr : RInts w a cp x.2) (hfr : StFree w K sb tv a) :
    OChk (((w.setCell ⟨sb, i * 3, none⟩ (.bool true)).setCell ⟨sb, i * 3 + 1, none⟩ (.int .i64 x.1)).setCell ⟨sb, i * 3 + 2, none⟩ (.slice a x.2.length cp)) B K sb mb c V f v fb fo tv { g with s := g.s.set i (some x) } := by
  obtain ⟨l1, l2⟩ := h.lt
  obtain ⟨w', hw'⟩ : ∃ w', w' = ((w.setCell ⟨sb, i * 3, none⟩ (.bool true)).setCell ⟨sb, i * 3 + 1, none⟩ (.int .i64 x.1)).setCell ⟨sb, i * 3 + 2, none⟩ (.slice a x.2.length cp) := ⟨_, rfl⟩
  rw [← hw']
  have hsz : w'.heap.size = w.heap.size := by rw [hw']; simp [World.setCell]
  have hb : ∀ k, k ≠ sb → w'.heap[k]? = w.heap[k]? := fun k hk => by
    rw [hw', heap_setCell_other _ ⟨sb, i * 3 + 2, none⟩ k _ hk, heap_setCell_other _ ⟨sb, i * 3 + 1, none⟩ k _ hk, heap_setCell_other _ ⟨sb, i * 3, none⟩ k _ hk]
  have hc : ∀ b p u, b ≠ sb → w.cell? ⟨b, p, none⟩ = some u → w'.cell? ⟨b, p, none⟩ = some u := fun b p u e q => by
    rw [World.cell?_of_block (w := w) (a := ⟨b, p, none⟩) (hb b e)]; exact q
  have hs : ∀ p u, p ≠ i * 3 → p ≠ i * 3 + 1 → p ≠ i * 3 + 2 → w.cell? ⟨sb, p, none⟩ = some u → w'.cell? ⟨sb, p, none⟩ = some u := fun p u e0 e1 e2 q => by
    rw [hw', cell_set_off (Ne.symm e2), cell_set_off (Ne.symm e1), cell_set_off (Ne.symm e0)]; exact q
  obtain ⟨a0, c0, hst, -⟩ := h.st i hi
  have n0 : w'.cell? ⟨sb, i * 3, none⟩ = some (.bool true) := by
    rw [hw', cell_set_off (by omega), cell_set_off (by omega)]; exact cell_set_same hst.s0
  have n1 : w'.cell? ⟨sb, i * 3 + 1, none⟩ = some (.int .i64 x.1) := by
    rw [hw', cell_set_off (by omega)]; exact cell_set_same (x := .int .i64 (((seenP g.s i).map (·.1)).getD 0)) (by rw [cell_set_off (by omega)]; exact hst.s1)
  have n2 : w'.cell? ⟨sb, i * 3 + 2, none⟩ = some (.slice a x.2.length cp) := by
    rw [hw']; exact cell_set_same (x := .slice a0 (((seenP g.s i).map (·.2)).getD []).length c0) (by rw [cell_set_off (by omega), cell_set_off (by omega)]; exact hst.s2)
  have e1 : fb ≠ sb := by have := h.hf; have := h.hS; omega
  have e2 : mb ≠ sb := by have := h.hm; have := h.hS; omega
  have eK := h.ne
  refine ⟨⟨hc _ _ _ eK h.R.kF, hc _ _ _ eK h.R.kI, hc _ _ _ eK h.R.kS, hc _ _ _ eK h.R.kN, hc _ _ _ eK h.R.kf, hc _ _ _ e1 h.R.f0, hc _ _ _ e1 h.R.f1, hc _ _ _ e1 h.R.f2, hc _ _ _ e1 h.R.f3, hc _ _ _ e1 h.R.f4, hc _ _ _ e1 h.R.f5⟩,
    hc _ _ _ eK h.k5, by simp only [List.length_set]; exact hc _ _ _ eK h.k6, hc _ _ _ eK h.k7, hc _ _ _ eK h.k8, by rw [hb K eK]; exact h.blkK, by rw [hw']; exact blk_set (blk_set (blk_set h.blkS)), h.map.of_block (hb mb e2), fun j u hu => ?_,
    h.todo.kept fun k hk => hb k (fun e => h.nS (by rw [hk, e])), fun k hk => ?_, h.hK, h.hS, by rw [hsz]; exact h.hB, h.ne, h.nK, h.nS, h.hf, h.hm, h.ho⟩
  · obtain ⟨b, p, e, q⟩ := h.ops j u hu
    have h1 := h.ho _ e
    have := h.hS
    exact ⟨b, p, e, hc _ _ _ (by have h2 : b < B := h1; omega) q⟩
  · simp only [List.length_set] at hk
    rw [seenP_set hi]
    by_cases e : i = k
    · subst e
      rw [if_pos rfl]
      refine ⟨a, cp, ⟨n0, n1, n2, hr.cells fun y hy => hb _ (hfr y hy).2.2.1⟩, hfr.mono (Nat.le_of_eq hsz.symm)⟩
    · rw [if_neg e]
      obtain ⟨a1, c1, h1, h2⟩ := h.st k hk
      exact ⟨a1, c1, h1.kept (fun p u q hp => hs _ _ (by omega) (by omega) (by omega) q) (h1.row.cells fun y hy => hb _ (h2 y hy).2.2.1), h2.mono (Nat.le_of_eq hsz.symm)⟩
/-- No state's tries lie in this block. -/
def Stray (w : World) (sb n k : Nat) : Prop := ∀ i a m cp, i < n → w.cell? ⟨sb, i * 3 + 2, none⟩ = some (.slice (some a) m cp) → a.block ≠ k
theorem Stray.same {n k : Nat} (h : Stray w sb n k) (hb : w'.heap[sb]? = w.heap[sb]?) : Stray w' sb n k := fun i a m cp hi hc => by
  rw [World.cell?_of_block (w := w) (a := ⟨sb, i * 3 + 2, none⟩) hb] at hc
  exact h i a m cp hi hc
theorem OChk.stray (h : OChk w B K sb mb c V f v fb fo tv g) {k : Nat} (hk : w.heap.size ≤ k) : Stray w sb g.s.length k := fun i a m cp hi hc => by
  obtain ⟨a1, c1, h1, h2⟩ := h.st i hi
  have := h1.s2
  rw [hc] at this
  injection this with this
  injection this with this
  have := (h2 a this.symm).1
  omega
/-- A store into a block that has nothing to do with the checker. -/
theorem OChk.aside (h : OChk w B K sb mb c V f v fb fo tv g) {k : Nat} (hs : Stray w sb g.s.length k) (h1 : k ≠ K) (h2 : k ≠ sb) (h3 : tv.ownBlock ≠ some k) (h4 : B ≤ k) (o : Nat) (u : Value) : OChk (w.setCell ⟨k, o, none⟩ u) B K sb mb c V f v fb fo tv g := by
  have hb : ∀ j, j ≠ k → (w.setCell ⟨k, o, none⟩ u).heap[j]? = w.heap[j]? := fun j hj => heap_setCell_other w ⟨k, o, none⟩ j u hj
  have hc : ∀ b p x, b ≠ k → w.cell? ⟨b, p, none⟩ = some x → (w.setCell ⟨k, o, none⟩ u).cell? ⟨b, p, none⟩ = some x := fun b p x e q => by
    rw [World.cell?_of_block (w := w) (a := ⟨b, p, none⟩) (hb b e)]; exact q
  have e1 : fb ≠ k := by have := h.hf; omega
  have e2 : mb ≠ k := by have := h.hm; omega
  have eK := Ne.symm h1
  refine ⟨⟨hc _ _ _ eK h.R.kF, hc _ _ _ eK h.R.kI, hc _ _ _ eK h.R.kS, hc _ _ _ eK h.R.kN, hc _ _ _ eK h.R.kf, hc _ _ _ e1 h.R.f0, hc _ _ _ e1 h.R.f1, hc _ _ _ e1 h.R.f2, hc _ _ _ e1 h.R.f3, hc _ _ _ e1 h.R.f4, hc _ _ _ e1 h.R.f5⟩,
    hc _ _ _ eK h.k5, hc _ _ _ eK h.k6, hc _ _ _ eK h.k7, hc _ _ _ eK h.k8, by rw [hb K eK]; exact h.blkK, by rw [hb sb (Ne.symm h2)]; exact h.blkS, h.map.of_block (hb mb e2), fun j x hx => ?_,
    h.todo.kept fun j hj => hb j (fun e => h3 (by rw [hj, e])), fun i hi => ?_, h.hK, h.hS, by simpa [World.setCell] using h.hB, h.ne, h.nK, h.nS, h.hf, h.hm, h.ho⟩
  · obtain ⟨b, p, e, q⟩ := h.ops j x hx
    have h1 : b < B := h.ho _ e
    exact ⟨b, p, e, hc _ _ _ (by omega) q⟩
  · obtain ⟨a, cp, h1, h2'⟩ := h.st i hi
    exact ⟨a, cp, h1.kept (fun p x q _ => hc _ _ _ (Ne.symm h2) q) (h1.row.cells fun y hy => hb _ (hs i y _ _ hi (by rw [← hy]; exact h1.s2))), h2'.mono (by simp [World.setCell])⟩
end
theorem limit_any (K : Nat) (c : CodeP) (V : CodeV) (f : FnP) (v : OpsV) (fb fo : Nat) (h : FnOK c f) (nm : ByteArray) (w : World) (hK : RChk w K c V f v fb fo) :
    Calls Tryd.prog 61 #[.pointer (some ⟨K, 0, none⟩), .string (shK nm)] w fun e w' => e = .returned (.int .i64 (limitP c f (shK nm))) ∧ Ext w w' := by
  have hk : ∀ x ∈ shapeTab, x.2.2.2 = a_const ∨ x.2.2.2 = a_int ∨ x.2.2.2 = a_str ∨ x.2.2.2 = a_name ∨ x.2.2.2 = a_local ∨ x.2.2.2 = a_cell ∨ x.2.2.2 = a_func ∨ x.2.2.2 = a_op ∨ x.2.2.2 = a_many ∨ x.2.2.2 = ⟨#[]⟩ := by decide
  have h1 : shK nm = a_const ∨ shK nm = a_int ∨ shK nm = a_str ∨ shK nm = a_name ∨ shK nm = a_local ∨ shK nm = a_cell ∨ shK nm = a_func ∨ shK nm = a_op ∨ shK nm = a_many ∨ shK nm = ⟨#[]⟩ := by
    unfold shK shapeP
    cases hq : shapeTab.find? (fun x => decide (x.1 = nm)) with
    | none => simp
    | some y => simpa using hk y (List.mem_of_find?_eq_some hq)
  generalize shK nm = k at h1
  rcases h1 with rfl | rfl | rfl | rfl | rfl | rfl | rfl | rfl | rfl | rfl
  · exact limit_const K c V f v fb fo h w hK
  · exact limit_int K c V f v fb fo h w hK
  · exact limit_str K c V f v fb fo h w hK
  · exact limit_name K c V f v fb fo h w hK
  · exact limit_local K c V f v fb fo h w hK
  · exact limit_cell K c V f v fb fo h w hK
  · exact limit_func K c V f v fb fo h w hK
  · exact limit_op K c V f v fb fo h w hK
  · exact limit_many K c V f v fb fo h w hK
  · exact limit_none K c V f v fb fo h w hK
theorem RChk.ext {w w' : World} {K : Nat} {c : CodeP} {V : CodeV} {f : FnP} {v : OpsV} {fb fo : Nat} (h : RChk w K c V f v fb fo) (hx : Ext w w') : RChk w' K c V f v fb fo :=
  ⟨hx.cell_ h.kF, hx.cell_ h.kI, hx.cell_ h.kS, hx.cell_ h.kN, hx.cell_ h.kf, hx.cell_ h.f0, hx.cell_ h.f1, hx.cell_ h.f2, hx.cell_ h.f3, hx.cell_ h.f4, hx.cell_ h.f5⟩
theorem limit_le (c : CodeP) (f : FnP) (h : FnOK c f) (k : ByteArray) : limitP c f k ≤ 1000001 := by
  obtain ⟨⟨l0, l1⟩, ⟨c0, c1⟩, ⟨f0, f1⟩, o1, i1, s1, n1, u1⟩ := h
  unfold limitP
  repeat' split
  all_goals omega
/-- What a round of form asks first: is an op bad by itself? -/
def badB (c : CodeP) (f : FnP) (first : Bool) (op : OpP) : Bool :=
  !(shapeP op.name).isSome || decide (op.a < 0) || decide (limitP c f (shK op.name) ≤ op.a) || ((decide (op.name = n_halt) && !first) || (decide (op.name = n_return) && first))
theorem form1_eq (c : CodeP) (f : FnP) (first : Bool) (left : Int) (op : OpP) :
    form1 c f first left op = (!badB c f first op && (decide (op.name = n_take) == decide (0 < left)) && !(decide (shK op.name = a_op) && decide ((opAt f.ops op.a.toNat).name = n_take))) := by
  have e1 : kindP op = shK op.name := rfl
  have e2 : decide (limitP c f (shK op.name) ≤ op.a) = !decide (op.a < limitP c f (shK op.name)) := by
    by_cases h : op.a < limitP c f (shK op.name) <;> simp [h] <;> omega
  have e3 : decide (op.a < 0) = !decide (0 ≤ op.a) := by
    by_cases h : 0 ≤ op.a <;> simp [h] <;> omega
  unfold form1 badB
  rw [e1, e2, e3]
  simp only [Bool.not_or, Bool.not_not, Bool.and_assoc]
end Go.Proofs.YtgjjkllngopboaaDoor
