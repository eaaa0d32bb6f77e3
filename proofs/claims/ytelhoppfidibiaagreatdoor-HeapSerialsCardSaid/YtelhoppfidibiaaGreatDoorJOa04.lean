/- What a step may turn: the world but for some blocks. What a set of addresses is as a map. -/
import Derived.Test.YtelhoppfidibiaaGreatDoorJOa03
import Derived.Maps.AppendAt
import Derived.Laws.AppendOwnNone
import Derived.Deep.RegionLaw
import Derived.ArgAppend
import Derived.IntWalk
namespace Go.Proofs.YtelhoppfidibiaaGreatDoor
open Go.RowKit
set_option linter.unusedVariables false
set_option linter.unusedSimpArgs false

/-- The world as it was, but for blocks of L and new ones. -/
structure Keep (L : Nat → Prop) (w w' : World) : Prop where
  os : w'.os = w.os
  tape : w'.tape = w.tape
  output : w'.output = w.output
  size : w.heap.size ≤ w'.heap.size
  block : ∀ k, k < w.heap.size → ¬ L k → w'.heap[k]? = w.heap[k]?

theorem Keep.refl (L : Nat → Prop) (w : World) : Keep L w w := ⟨rfl, rfl, rfl, Nat.le_refl _, fun _ _ _ => rfl⟩
theorem Keep.trans {L : Nat → Prop} {a b c : World} (h : Keep L a b) (k : Keep L b c) : Keep L a c :=
  ⟨k.os.trans h.os, k.tape.trans h.tape, k.output.trans h.output, Nat.le_trans h.size k.size, fun i hi hl => (k.block i (Nat.lt_of_lt_of_le hi h.size) hl).trans (h.block i hi hl)⟩
/-- A later step may turn whatever is new, too. -/
theorem Keep.then_ {L L' : Nat → Prop} {a b c : World} (h : Keep L a b) (k : Keep L' b c) (hl : ∀ i, i < a.heap.size → L' i → L i) : Keep L a c :=
  ⟨k.os.trans h.os, k.tape.trans h.tape, k.output.trans h.output, Nat.le_trans h.size k.size, fun i hi hn => (k.block i (Nat.lt_of_lt_of_le hi h.size) (fun e => hn (hl i hi e))).trans (h.block i hi hn)⟩
theorem Keep.of_ext {L : Nat → Prop} {w w' : World} (h : Ext w w') : Keep L w w' := ⟨h.os, h.tape, h.output, h.size, fun k hk _ => h.block k hk⟩
theorem Keep.ext_ {L : Nat → Prop} {a b c : World} (h : Keep L a b) (k : Ext b c) : Keep L a c := h.trans (Keep.of_ext k)
theorem Keep.alloc_ {L : Nat → Prop} {a b : World} (h : Keep L a b) (o : Obj) : Keep L a (b.alloc o) := h.ext_ ((Ext.refl b).alloc_ o)
theorem Keep.drew_ {L : Nat → Prop} {a b : World} (h : Keep L a b) : Keep L a b.drew := h.ext_ (Ext.refl b).drew_
theorem Keep.drewN_ {L : Nat → Prop} {a b : World} (h : Keep L a b) (n : Nat) : Keep L a (b.drewN n) := h.ext_ (ext_drewN b n)
theorem Keep.set_ {L : Nat → Prop} {a b : World} (h : Keep L a b) {p : Addr} (hp : L p.block ∨ a.heap.size ≤ p.block) (u : Value) : Keep L a (b.setCell p u) :=
  ⟨h.os, h.tape, h.output, by simpa [World.setCell] using h.size, fun k hk hl => by
    rw [Below.heap_setCell _ _ _ _ (fun e => by subst e; rcases hp with hp | hp; exact hl hp; omega)]
    exact h.block k hk hl⟩
theorem Keep.of_but {w w' : World} {b : Nat} (h : But b w w') : Keep (· = b) w w' := ⟨h.os, h.tape, h.output, Nat.le_of_eq h.size.symm, fun k _ hl => h.block k hl⟩
theorem Keep.of_grown {L : Nat → Prop} {w w' : World} {row : Option Nat} (h : w.grownBy w' row) (hr : ∀ k, row = some k → L k ∨ w.heap.size ≤ k) : Keep L w w' :=
  ⟨h.os, h.tape, h.output, h.size, fun k hk hl => h.block k hk (fun e => by rcases hr k e.symm with g | g; exact hl g; omega)⟩
theorem Keep.below {L : Nat → Prop} {w w' : World} {B : Nat} (h : Keep L w w') (hB : B ≤ w.heap.size) (hl : ∀ k, k < B → ¬ L k) : Below B w w' :=
  ⟨h.os, h.tape, h.output, h.size, fun k hk => h.block k (by omega) (hl k hk)⟩
theorem Ext.keep {L : Nat → Prop} {a b c : World} (h : Ext a b) (k : Keep L b c) (hl : ∀ i, L i → a.heap.size ≤ i) : Ext a c :=
  Below.trans h (k.below h.size fun i hi e => by have := hl i e; omega)
theorem Keep.cell {L : Nat → Prop} {w w' : World} (h : Keep L w w') {p : Addr} {v : Value} (hp : ¬ L p.block) (hc : w.cell? p = some v) : w'.cell? p = some v := by
  rw [World.cell?_of_block (w := w) (h.block p.block (cell_lt hc) hp)]; exact hc
theorem Keep.frozen {L : Nat → Prop} {w w' : World} (h : Keep L w w') {p : Addr} (hp : ¬ L p.block) (hlt : p.block < w.heap.size) : w'.frozen? p = w.frozen? p :=
  World.frozen?_of_block (w := w) (h.block p.block hlt hp)
theorem MapI.keep {L : Nat → Prop} {w w' : World} {b : Nat} {q : IntKind} {es : List (Int × Value)} (h : MapI w b q es) (k : Keep L w w') (hb : ¬ L b) : MapI w' b q es :=
  h.of_block (k.block b h.lt hb)
theorem RSl.keep {L : Nat → Prop} {w w' : World} {a : Option Addr} {cs : List Value} (h : RSl w a cs) (k : Keep L w w') (hl : ∀ x, a = some x → ¬ L x.block) : RSl w' a cs := fun j u hu => by
  obtain ⟨b, off, ha, hc⟩ := h j u hu
  exact ⟨b, off, ha, k.cell (p := ⟨b, off + j, none⟩) (hl ⟨b, off, none⟩ ha) hc⟩

/-- A map that bears true at these keys, and nothing else. -/
def SMap (w : World) (b : Nat) (q : IntKind) (st : List Int) : Prop :=
  ∃ es, MapI w b q es ∧ ∀ k : Int, mget es k = if st.contains k = true then some (.bool true) else none
theorem SMap.keep {L : Nat → Prop} {w w' : World} {b : Nat} {q : IntKind} {st : List Int} (h : SMap w b q st) (k : Keep L w w') (hb : ¬ L b) : SMap w' b q st := by
  obtain ⟨es, hm, hg⟩ := h
  exact ⟨es, hm.keep k hb, hg⟩
theorem SMap.ext {w w' : World} {b : Nat} {q : IntKind} {st : List Int} (h : SMap w b q st) (k : Ext w w') : SMap w' b q st := by
  obtain ⟨es, hm, hg⟩ := h
  exact ⟨es, hm.ext k, hg⟩
theorem SMap.lt {w : World} {b : Nat} {q : IntKind} {st : List Int} (h : SMap w b q st) : b < w.heap.size := by
  obtain ⟨es, hm, _⟩ := h
  exact hm.lt
theorem SMap.made (w : World) (q : IntKind) : SMap (w.alloc (.map #[] 0)) w.heap.size q [] := ⟨[], MapI.made w q, fun k => by simp [mget]⟩
theorem SMap.put {w' : World} {b : Nat} {q : IntKind} {es : List (Int × Value)} {st : List Int} (a : Int) (hg : ∀ k : Int, mget es k = if st.contains k = true then some (.bool true) else none)
    (h : MapI w' b q (mput es a (.bool true))) : SMap w' b q (st ++ [a]) :=
  ⟨_, h, fun k => by
    by_cases e : k = a
    · subst e; rw [mget_mput_same]; simp
    · rw [mget_mput_other _ _ _ _ e, hg k]
      have : (k == a) = false := by simpa using e
      simp [List.contains_eq_any_beq, this, e]⟩

/-- A slice expression over words, whatever world: where the part lies, and what it reads as. -/
theorem run_part {P : Program} {t e : TypeId} (ht : P.underlying t = some (.slice e)) (hz : ∀ w, (sizeOf e).run P w = .ok 1 w) (b off len cap l h : Nat) (i j : Int) (hi : i = (l : Int)) (hj : j = (h : Int)) (hl : l ≤ h) (hh : h ≤ cap) :
    ∃ A C, (∀ w' : World, (Instr.slice t (.slice (some ⟨b, off, none⟩) len cap) (some (.int .i64 i)) (some (.int .i64 j)) none).run P w' = .ok (.slice A (h - l) C) w') ∧ h - l ≤ C ∧ A ≠ none ∧
      ∀ (w : World) (cs : List Value), RSl w (some ⟨b, off, none⟩) cs → RSl w A ((cs.drop l).take (h - l)) := by
  have he : P.elem t = e := by simp [Program.elem, ht]
  have ht' : P.underlying t = some (.slice (P.elem t)) := by rw [he]; exact ht
  refine ⟨if cap = l then some ⟨b, off, none⟩ else some ⟨b, off + l, none⟩, cap - l, fun w' => ?_, by omega, ?_, fun w cs hR => ?_⟩
  · subst hi hj
    rw [run_slice_lh w' t (some ⟨b, off, none⟩) len cap ht' .i64 .i64 (l : Int) (h : Int) (by omega) (by omega) (by omega), he, hz]
    simp [Result.andThen, sliced, Addr.add]
    split
    · rfl
    · split
      · rename_i h0; subst h0; simp
      · rfl
  · split <;> simp
  · split
    · have : h - l = 0 := by omega
      rw [this, List.take_zero]
      exact RSl.nil _ _
    · intro k u hu
      rw [List.getElem?_take] at hu
      split at hu
      · rw [List.getElem?_drop] at hu
        obtain ⟨b', off', ha, hc⟩ := hR _ _ hu
        injection ha with ha
        injection ha with h1 h2
        subst h1 h2
        exact ⟨b, off + l, rfl, by rw [show off + l + k = off + (l + k) by omega]; exact hc⟩
      · cases hu

/-- Shape facts, for the walks. -/
structure Shp (M : Mem) : Prop where
  h1 : 1 ≤ M.half
  h2 : M.half ≤ 65536
  o1 : 1 ≤ M.old
  o2 : M.old ≤ 65536
  c1 : 1 ≤ M.card
  c2 : M.card ≤ 1024
  w : (M.W.length : Int) = 2 * M.half + M.old
  u1 : 0 ≤ M.used
  u2 : M.used ≤ 1
  t1 : 0 ≤ M.top
  t2 : M.top ≤ M.half
  p1 : 0 ≤ M.oldTop
  p2 : M.oldTop ≤ M.old
  cl : (M.cards.length : Int) = (M.old + M.card - 1) / M.card
theorem shp_of {M : Mem} (h : shapeB M = true) : Shp M := by
  simp only [shapeB, Bool.and_eq_true, inR_true, beq_iff_eq] at h
  obtain ⟨⟨⟨⟨⟨⟨⟨⟨a1, a2⟩, b1, b2⟩, c1, c2⟩, d⟩, e1, e2⟩, f1, f2⟩, g1, g2⟩, k⟩ := h
  exact ⟨a1, a2, b1, b2, c1, c2, d, e1, e2, f1, f2, g1, g2, k⟩
/-- Where the half in use begins. -/
def Mem.base (M : Mem) : Nat := (M.used * M.half).toNat
theorem Shp.base {M : Mem} (h : Shp M) : M.used * M.half = (M.base : Int) ∧ 0 ≤ M.used * M.half ∧ M.used * M.half ≤ M.half := by
  obtain ⟨h1, h2, _, _, _, _, _, u1, u2, _, _, _, _, _⟩ := h
  have hu : M.used = 0 ∨ M.used = 1 := by omega
  unfold Mem.base
  rcases hu with e | e <;> rw [e] <;> omega
/-- The card of a place in the old space. -/
theorem Shp.card {M : Mem} (h : Shp M) (a : Int) (h1 : 2 * M.half ≤ a) (h2 : a < 2 * M.half + M.old) :
    0 ≤ (a - 2 * M.half) / M.card ∧ (a - 2 * M.half) / M.card < (M.cards.length : Int) := by
  have c1 := h.c1
  rw [h.cl]
  refine ⟨Int.ediv_nonneg (by omega) (by omega), ?_⟩
  have h3 : (a - 2 * M.half) / M.card ≤ (M.old - 1) / M.card := Int.ediv_le_ediv (by omega) (by omega)
  have h4 : (M.old + M.card - 1) / M.card = (M.old - 1) / M.card + 1 := by
    rw [show M.old + M.card - 1 = (M.old - 1) + 1 * M.card by omega, Int.add_mul_ediv_right _ _ (by omega)]
  omega
section
variable {P : Program} {w : World}

theorem run_append_src (t ty : TypeId) (base : Nat) (e : TypeId) (i : TypeInfo) (z : Value) (size bytes : Nat) (ht : P.underlying t = some (.slice e)) (hi : P.info? e = some i) (hz : i.zero = some z)
    (hsize : i.size = size) (hby : i.bytes = bytes) (hzs : z.cells.size = size) (hsz : 0 < size)
    (v : Value) (n : Nat) (xs : List Value) (hown : w.ownsRow base e size v n xs)
    (ad : Option Addr) (m c : Nat) (news : List Value) (hnil : ad = none → c = 0) (hmc : m ≤ c) (hl : news.length = m * size) (hR : RSl w ad news) (h1 : ∀ u ∈ news, u.oneCell' = true)
    (h63 : n + m ≤ maxLen) (hbytes : (n + m) * bytes ≤ 140737488355328) (hbase : base ≤ w.heap.size) :
    ∃ a' c' w', (Builtin.append_ #[t, t] ty #[v, .slice ad m c]).run P w = .ok (.slice a' (n + m) c') w' ∧
      w'.ownsRow base e size (.slice a' (n + m) c') (n + m) (xs ++ news) ∧ w.grownBy w' v.ownBlock ∧ ((Value.slice a' (n + m) c').ownBlock = v.ownBlock ∨ (Value.slice a' (n + m) c').ownBlock = some w.heap.size) := by
  cases ad with
  | none =>
    obtain rfl := hnil rfl
    obtain rfl : m = 0 := by omega
    obtain rfl : news = [] := List.eq_nil_of_length_eq_zero (by simpa using hl)
    have hr := run_append_owned_none (P := P) (w := w) base t ty e i size ht hi v n xs hown
    have hv : ∃ a' c', v = .slice a' n c' := by
      rcases hown.2 with ⟨rfl, rfl⟩ | ⟨g, cap, cur, rfl, _⟩
      · exact ⟨_, _, rfl⟩
      · exact ⟨_, _, rfl⟩
    obtain ⟨a', c', rfl⟩ := hv
    exact ⟨a', c', w, hr, by simpa using hown, ⟨rfl, rfl, rfl, Nat.le_refl _, fun _ _ _ => rfl⟩, Or.inl rfl⟩
  | some p =>
    have hnews : ∀ j u, news[j]? = some u → w.cell? (p.add j) = some u := fun j u hu => by
      obtain ⟨b, off, hp, hc⟩ := hR j u hu
      injection hp with hp
      subst hp
      have e : (⟨b, off, none⟩ : Addr).add j = ⟨b, off + j, none⟩ := by unfold Addr.add; split <;> simp_all
      rw [e]; exact hc
    obtain ⟨v', w', hr, h2, h3, _, h5⟩ := run_append_own_at (P := P) w base t ty e i z size bytes ht hi hz hsize hby hzs hsz v n xs hown p m c news hl hnews h1 h63 hbytes hbase
    have hv : ∃ a' c', v' = .slice a' (n + m) c' := by
      rcases h2.2 with ⟨rfl, h0⟩ | ⟨g, cap, cur, rfl, _⟩
      · rw [h0]; exact ⟨_, _, rfl⟩
      · exact ⟨_, _, rfl⟩
    obtain ⟨a', c', rfl⟩ := hv
    exact ⟨a', c', w', hr, h2, h3, h5⟩

theorem wp_append_src {o : Oper} {a : Act} {K : Act → World → Prop} {Q : Exit → Act → World → Prop} (s x : Operand) (t : TypeId)
    (ho : o.op = .call { callee := .builtin .append, args := #[s, x], argTypes := #[t, t] })
    (base : Nat) (e : TypeId) (i : TypeInfo) (z : Value) (size bytes : Nat) (ht : P.underlying t = some (.slice e)) (hi : P.info? e = some i) (hz : i.zero = some z)
    (hsize : i.size = size) (hby : i.bytes = bytes) (hzs : z.cells.size = size) (hsz : 0 < size)
    (v : Value) (n : Nat) (xs : List Value) (hs : a.eval s = v) (hown : w.ownsRow base e size v n xs)
    (ad : Option Addr) (m c : Nat) (news : List Value) (hx : a.eval x = .slice ad m c) (hnil : ad = none → c = 0) (hmc : m ≤ c) (hl : news.length = m * size) (hR : RSl w ad news) (h1 : ∀ u ∈ news, u.oneCell' = true)
    (h63 : n + m ≤ maxLen) (hbytes : (n + m) * bytes ≤ 140737488355328) (hbase : base ≤ w.heap.size)
    (h : ∀ a' c' w', w'.ownsRow base e size (.slice a' (n + m) c') (n + m) (xs ++ news) → w.grownBy w' v.ownBlock → ((Value.slice a' (n + m) c').ownBlock = v.ownBlock ∨ (Value.slice a' (n + m) c').ownBlock = some w.heap.size) →
      K (a.put o.dst (.slice a' (n + m) c')) w') : o.wp P a w K Q := by
  obtain ⟨a', c', w', hr, h2, h3, h4⟩ := run_append_src (P := P) (w := w) t o.type base e i z size bytes ht hi hz hsize hby hzs hsz v n xs hown ad m c news hnil hmc hl hR h1 h63 hbytes hbase
  unfold Oper.wp execOp
  simp only [ho, resolve, invoke, builtin, Sem.run_bind, Sem.run_pure, Result.andThen_ok, List.map_toArray, List.map_cons, List.map_nil, hs, hx, hr]
  exact h a' c' w' h2 h3 h4

theorem wpList_append_src {ops : Array Oper} {rest : List Oper} {o : Oper} {a : Act} {Q : Exit → Act → World → Prop} (hgd : o.guard = none) (s x : Operand) (t : TypeId)
    (ho : o.op = .call { callee := .builtin .append, args := #[s, x], argTypes := #[t, t] })
    (base : Nat) (e : TypeId) (i : TypeInfo) (z : Value) (size bytes : Nat) (ht : P.underlying t = some (.slice e)) (hi : P.info? e = some i) (hz : i.zero = some z)
    (hsize : i.size = size) (hby : i.bytes = bytes) (hzs : z.cells.size = size) (hsz : 0 < size)
    (v : Value) (n : Nat) (xs : List Value) (hs : a.eval s = v) (hown : w.ownsRow base e size v n xs)
    (ad : Option Addr) (m c : Nat) (news : List Value) (hx : a.eval x = .slice ad m c) (hnil : ad = none → c = 0) (hmc : m ≤ c) (hl : news.length = m * size) (hR : RSl w ad news) (h1 : ∀ u ∈ news, u.oneCell' = true)
    (h63 : n + m ≤ maxLen) (hbytes : (n + m) * bytes ≤ 140737488355328) (hbase : base ≤ w.heap.size)
    (h : ∀ a' c' w', w'.ownsRow base e size (.slice a' (n + m) c') (n + m) (xs ++ news) → w.grownBy w' v.ownBlock → ((Value.slice a' (n + m) c').ownBlock = v.ownBlock ∨ (Value.slice a' (n + m) c').ownBlock = some w.heap.size) →
      wpList P ops Q rest (a.put o.dst (.slice a' (n + m) c')) w') : wpList P ops Q (o :: rest) a w :=
  wpList_plain hgd fun _ hK => wp_append_src s x t ho base e i z size bytes ht hi hz hsize hby hzs hsz v n xs hs hown ad m c news hx hnil hmc hl hR h1 h63 hbytes hbase fun a' c' w' h2 h3 h4 => hK _ _ (h a' c' w' h2 h3 h4)

theorem step_append_src {ops : Array Oper} {o : Oper} {a : Act} {K : Act → World → Prop} {Q : Exit → Act → World → Prop} {E : Prop} (hgd : o.guard = none) (s x : Operand) (t : TypeId)
    (ho : o.op = .call { callee := .builtin .append, args := #[s, x], argTypes := #[t, t] })
    (base : Nat) (e : TypeId) (i : TypeInfo) (z : Value) (size bytes : Nat) (ht : P.underlying t = some (.slice e)) (hi : P.info? e = some i) (hz : i.zero = some z)
    (hsize : i.size = size) (hby : i.bytes = bytes) (hzs : z.cells.size = size) (hsz : 0 < size)
    (v : Value) (n : Nat) (xs : List Value) (hs : a.eval s = v) (hown : w.ownsRow base e size v n xs)
    (ad : Option Addr) (m c : Nat) (news : List Value) (hx : a.eval x = .slice ad m c) (hnil : ad = none → c = 0) (hmc : m ≤ c) (hl : news.length = m * size) (hR : RSl w ad news) (h1 : ∀ u ∈ news, u.oneCell' = true)
    (h63 : n + m ≤ maxLen) (hbytes : (n + m) * bytes ≤ 140737488355328) (hbase : base ≤ w.heap.size)
    (h : ∀ a' c' w', w'.ownsRow base e size (.slice a' (n + m) c') (n + m) (xs ++ news) → w.grownBy w' v.ownBlock → ((Value.slice a' (n + m) c').ownBlock = v.ownBlock ∨ (Value.slice a' (n + m) c').ownBlock = some w.heap.size) →
      K (a.put o.dst (.slice a' (n + m) c')) w') : if Region.wanted o (yielded ops a.tmps) = true then Oper.wp P o a w K Q else E := by
  have hw : Region.wanted o (yielded ops a.tmps) = true := by simp [Region.wanted, hgd]
  rw [if_pos hw]
  exact wp_append_src s x t ho base e i z size bytes ht hi hz hsize hby hzs hsz v n xs hs hown ad m c news hx hnil hmc hl hR h1 h63 hbytes hbase h
end
/-- A slice whose row stands in a block of the call's own, from whatever place on. -/
def Tail (w : World) (B : Nat) (e : TypeId) (v : Value) (xs : List Value) : Prop :=
  (v = .slice none 0 0 ∧ xs = []) ∨
  ∃ g off cap cur, v = .slice (some ⟨g, off, none⟩) xs.length cap ∧ B ≤ g ∧ w.heap[g]? = some (.cells cur e (0, 0)) ∧ xs.length ≤ cap ∧ cap ≤ maxLen ∧ off + cap ≤ cur.size ∧ (cur.toList.drop off).take xs.length = xs

theorem Tail.nil (w : World) (B : Nat) (e : TypeId) : Tail w B e (.slice none 0 0) [] := Or.inl ⟨rfl, rfl⟩
theorem Tail.of_own {w : World} {B : Nat} {e : TypeId} {v : Value} {n : Nat} {xs : List Value} (h : w.ownsRow B e 1 v n xs) : Tail w B e v xs := by
  obtain ⟨h1, h2⟩ := h
  rcases h2 with ⟨rfl, rfl⟩ | ⟨g, cap, cur, rfl, q1, q2, q3, q4, q5, q6⟩
  · exact Or.inl ⟨rfl, List.eq_nil_of_length_eq_zero (by simpa using h1)⟩
  · obtain rfl : xs.length = n := by omega
    exact Or.inr ⟨g, 0, cap, cur, rfl, q1, q2, q3, q4, by omega, by simpa using q6⟩
theorem Tail.lt {w : World} {B : Nat} {e : TypeId} {v : Value} {xs : List Value} (h : Tail w B e v xs) {k : Nat} (hk : v.ownBlock = some k) : B ≤ k ∧ k < w.heap.size := by
  rcases h with ⟨rfl, _⟩ | ⟨g, off, cap, cur, rfl, q1, q2, _⟩
  · simp [Value.ownBlock] at hk
  · simp [Value.ownBlock] at hk
    subst hk
    exact ⟨q1, lt_of_block q2⟩
theorem Tail.kept {w w' : World} {B : Nat} {e : TypeId} {v : Value} {xs : List Value} (h : Tail w B e v xs) (hk : ∀ k, v.ownBlock = some k → w'.heap[k]? = w.heap[k]?) : Tail w' B e v xs := by
  rcases h with h | ⟨g, off, cap, cur, rfl, q1, q2, q⟩
  · exact Or.inl h
  · exact Or.inr ⟨g, off, cap, cur, rfl, q1, by rw [hk g rfl]; exact q2, q⟩
theorem Tail.keep {L : Nat → Prop} {w w' : World} {B : Nat} {e : TypeId} {v : Value} {xs : List Value} (h : Tail w B e v xs) (k : Keep L w w') (hl : ∀ g, v.ownBlock = some g → ¬ L g) : Tail w' B e v xs :=
  h.kept fun g hg => k.block g (h.lt hg).2 (hl g hg)
theorem Tail.ext {w w' : World} {B : Nat} {e : TypeId} {v : Value} {xs : List Value} (h : Tail w B e v xs) (k : Ext w w') : Tail w' B e v xs :=
  h.kept fun g hg => Below.block k g (h.lt hg).2
theorem Tail.slice {w : World} {B : Nat} {e : TypeId} {v : Value} {xs : List Value} (h : Tail w B e v xs) : ∃ a n c, v = .slice a n c := by
  rcases h with ⟨rfl, _⟩ | ⟨g, off, cap, cur, rfl, _⟩
  · exact ⟨_, _, _, rfl⟩
  · exact ⟨_, _, _, rfl⟩
/-- What is in front. -/
theorem Tail.head {w : World} {B : Nat} {e : TypeId} {v x : Value} {xs : List Value} (h : Tail w B e v (x :: xs)) :
    ∃ g off cap, v = .slice (some ⟨g, off, none⟩) (xs.length + 1) (cap + 1) ∧ w.cell? ⟨g, off, none⟩ = some x ∧ xs.length ≤ cap ∧ Tail w B e (.slice (some ⟨g, off + 1, none⟩) xs.length cap) xs := by
  rcases h with ⟨_, h⟩ | ⟨g, off, cap, cur, rfl, q1, q2, q3, q4, q5, q6⟩
  · cases h
  · simp only [List.length_cons] at q3 q6
    obtain ⟨c, rfl⟩ : ∃ c, cap = c + 1 := ⟨cap - 1, by omega⟩
    have hlen : off < cur.toList.length := by rw [Array.length_toList]; omega
    rw [List.drop_eq_getElem_cons hlen] at q6
    simp only [List.take_succ_cons, List.cons.injEq] at q6
    refine ⟨g, off, c, rfl, ?_, by omega, Or.inr ⟨g, off + 1, c, cur, rfl, q1, q2, by omega, by omega, by omega, q6.2⟩⟩
    rw [cell_of_row w g off cur e (0, 0) q2, ← q6.1]
    simp at hlen
    simp [hlen]
/-- What is in front, and the rest, as the program cuts it off. -/
theorem Tail.rest {P : Program} {t : TypeId} {w : World} {B : Nat} {e : TypeId} {v x : Value} {xs : List Value} (h : Tail w B e v (x :: xs)) (ht : P.underlying t = some (.slice e)) (hz : ∀ w, (sizeOf e).run P w = .ok 1 w) :
    ∃ g off cap A, v = .slice (some ⟨g, off, none⟩) (xs.length + 1) (cap + 1) ∧ w.cell? ⟨g, off, none⟩ = some x ∧ (∀ w' : World, (Instr.slice t (.slice (some ⟨g, off, none⟩) (xs.length + 1) (cap + 1)) (some (.int .i64 1)) none none).run P w' = .ok (.slice A xs.length cap) w') ∧
      Tail w B e (.slice A xs.length cap) xs ∧ (Value.slice A xs.length cap).ownBlock = some g := by
  have hb := h
  obtain ⟨g, off, cap, hv, hc, hl, hr⟩ := h.head
  have he : P.elem t = e := by simp [Program.elem, ht]
  have ht' : P.underlying t = some (.slice (P.elem t)) := by rw [he]; exact ht
  refine ⟨g, off, cap, if cap = 0 then some ⟨g, off, none⟩ else some ⟨g, off + 1, none⟩, hv, hc, fun w' => ?_, ?_, ?_⟩
  · rw [run_slice_l w' t (some ⟨g, off, none⟩) (xs.length + 1) (cap + 1) ht' .i64 1 (by omega) (by omega), he, hz]
    simp [Result.andThen, sliced, Addr.add]
  · split
    · rename_i h0
      subst h0
      obtain rfl : xs = [] := List.eq_nil_of_length_eq_zero (by omega)
      rcases hb with ⟨_, hb⟩ | ⟨g', off', cap', cur, hv', q1, q2, q3, q4, q5, q6⟩
      · cases hb
      · rw [hv] at hv'
        injection hv' with e1 _ e3
        injection e1 with e1
        injection e1 with e1 e2
        subst e1 e2
        exact Or.inr ⟨g, off, 0, cur, rfl, q1, q2, by simp, by omega, by omega, by simp⟩
    · exact hr
  · split <;> simp [Value.ownBlock]

section
variable {P : Program} {w : World}
/-- ONE VALUE MORE BEHIND. -/
theorem run_append_tail (t ty : TypeId) (B : Nat) (e : TypeId) (i : TypeInfo) (z : Value) (bytes : Nat) (ht : P.underlying t = some (.slice e)) (hi : P.info? e = some i) (hz : i.zero = some z)
    (hsize : i.size = 1) (hby : i.bytes = bytes) (hzs : z.cells.size = 1) (v : Value) (xs : List Value) (h : Tail w B e v xs) (ad : Addr) (c : Nat) (x : Value) (hx : w.cell? ad = some x) (h1 : x.oneCell' = true)
    (h63 : xs.length + 1 ≤ maxLen) (hbytes : (xs.length + 1) * bytes ≤ 140737488355328) (hB : B ≤ w.heap.size) :
    ∃ v' w', (Builtin.append_ #[t, t] ty #[v, .slice (some ad) 1 c]).run P w = .ok v' w' ∧ Tail w' B e v' (xs ++ [x]) ∧ w.grownBy w' v.ownBlock ∧ (∀ k, v'.ownBlock = some k → v.ownBlock = some k ∨ w.heap.size ≤ k) := by
  have hnews : ∀ j u, [x][j]? = some u → w.cell? (ad.add j) = some u := fun j u hj => by
    cases j with
    | zero =>
      simp at hj; subst hj
      have e : ad.add 0 = ad := by cases ad; unfold Addr.add; split <;> simp_all
      rw [e]; exact hx
    | succ j => simp at hj
  have h1' : ∀ u ∈ [x], u.oneCell' = true := fun u hu => by rw [List.mem_singleton.1 hu]; exact h1
  have new_ : ∀ (v' : Value) (w' : World), w'.ownsRow w.heap.size e 1 v' (xs.length + 1) (xs ++ [x]) → Tail w' B e v' (xs ++ [x]) ∧ ∀ k, v'.ownBlock = some k → w.heap.size ≤ k := fun v' w' ho => by
    rcases ho.2 with ⟨q1, q2⟩ | ⟨g, cap, cur, q1, q2, q⟩
    · omega
    · refine ⟨Tail.of_own (n := xs.length + 1) ⟨ho.1, Or.inr ⟨g, cap, cur, q1, by omega, q⟩⟩, fun k hk => ?_⟩
      rw [q1] at hk
      simp [Value.ownBlock] at hk
      omega
  rcases h with ⟨rfl, rfl⟩ | ⟨g, off, cap, cur, rfl, q1, q2, q3, q4, q5, q6⟩
  · obtain ⟨v', w', hr, ho, hg, -⟩ := run_append_own (P := P) w w.heap.size t ty e i z 1 bytes ht hi hz hsize hby hzs (by omega) (.slice none 0 0) 0 [] (World.ownsRow_nil w _ e 1) ad 1 c [x] rfl hnews h1' (by simpa using h63) (by simpa using hbytes) (Nat.le_refl _)
    obtain ⟨n1, n2⟩ := new_ v' w' (by simpa using ho)
    exact ⟨v', w', hr, n1, hg, fun k hk => Or.inr (n2 k hk)⟩
  · by_cases hroom : xs.length + 1 ≤ cap
    · have hcell : w.cell? ⟨g, off + xs.length, none⟩ = some (cur.getD (off + xs.length) default) := by
        rw [cell_of_row w g _ cur e (0, 0) q2, Array.getD_eq_getD_getElem?, Array.getElem?_eq_getElem (by omega)]; rfl
      have hr := run_append_room_cells (P := P) w t ty e i ht hi g off xs.length cap ad 1 c [x] (by simp [hsize]) hnews h1' hroom
        (fun j hj => by obtain rfl : j = 0 := by simpa using hj
                        rw [hsize, Nat.mul_one, Nat.add_zero, hcell]; rfl)
        (fun j hj => by simp [World.frozen?, q2])
      rw [hsize, Nat.mul_one] at hr
      refine ⟨_, _, hr, Or.inr ⟨g, off, cap, cur.setIfInBounds (off + xs.length) x, by simp, q1, ?_, by simpa using hroom, q4, by simpa using q5, ?_⟩, ?_, fun k hk => Or.inl hk⟩
      · simp only [World.setCells]
        exact heap_setCell_same w g _ cur e x q2
      · rw [Array.toList_setIfInBounds, List.drop_set, if_neg (by omega), List.length_append, List.length_singleton]
        have hl : cap ≤ (cur.toList.drop off).length := by rw [List.length_drop, Array.length_toList]; omega
        rw [show off + xs.length - off = xs.length by omega, List.take_add_one, List.take_set, List.set_eq_of_length_le (by rw [List.length_take]; omega), q6, List.getElem?_set_self (by omega)]
        rfl
      · simp only [World.setCells]
        exact ⟨rfl, rfl, rfl, by simp [World.setCell], fun k _ hk => heap_setCell_other w ⟨g, off + xs.length, none⟩ k x (fun e => hk (by simp [Value.ownBlock, e]))⟩
    · have holds : ∀ j u, xs[j]? = some u → w.cell? ((⟨g, off, none⟩ : Addr).add j) = some u := fun j u hu => by
        rw [Addr.add_lit, cell_of_row w g _ cur e (0, 0) q2]
        rw [← q6, List.getElem?_take] at hu
        split at hu
        · simpa using hu
        · cases hu
      obtain ⟨v', w', hr, ho, hg⟩ := run_append_arg_grows (P := P) w t ty e i z 1 bytes ht hi hz hsize hby hzs (by omega) ⟨g, off, none⟩ xs.length cap xs (by simp) holds ad 1 c [x] rfl hnews (by omega) h63 hbytes
      obtain ⟨n1, n2⟩ := new_ v' w' ho
      exact ⟨v', w', hr, n1, ⟨hg.os, hg.tape, hg.output, hg.size, fun k hk _ => hg.block k hk (by simp)⟩, fun k hk => Or.inr (n2 k hk)⟩
/-- An append whose run is known. -/
theorem wpList_append_known {ops : Array Oper} {rest : List Oper} {o : Oper} {a : Act} {Q : Exit → Act → World → Prop} (hgd : o.guard = none) (s x : Operand) (t : TypeId)
    (ho : o.op = .call { callee := .builtin .append, args := #[s, x], argTypes := #[t, t] }) (vs vx : Value) (hs : a.eval s = vs) (hx : a.eval x = vx) {v' : Value} {w' : World}
    (hr : (Builtin.append_ #[t, t] o.type #[vs, vx]).run P w = .ok v' w') (h : wpList P ops Q rest (a.put o.dst v') w') : wpList P ops Q (o :: rest) a w :=
  wpList_plain hgd fun _ hK => by
    unfold Oper.wp execOp
    simp only [ho, resolve, invoke, builtin, Sem.run_bind, Sem.run_pure, Result.andThen_ok, List.map_toArray, List.map_cons, List.map_nil, hs, hx, hr]
    exact hK _ _ h
end
/-- Is a kind raw? Does an address lie in the old space? Does a word point into the nursery? Is a word a field? -/
def rawB (k : Int) : Bool := decide (k < 8)
def oldB (M : Mem) (a : Int) : Bool := decide (2 * M.half ≤ a)
def youngB (M : Mem) (a : Int) : Bool := (kindW a == 0) && (a != 0) && !oldB M (placeW a)
def inSt (st : List Int) (a : Int) : Bool := st.contains a
def fldB (st : List Int) (a : Int) : Bool :=
  if kindW a = 0 then a == 0 || inSt st (placeW a) else if kindW a = 1 then true else if kindW a = 2 then decide (a / 4 ≤ 2) else false
def cardB (M : Mem) (a : Int) : Bool := M.cards.getD ((a - 2 * M.half) / M.card).toNat false

theorem raw_any (k : Int) (w : World) : Calls Tryz.prog 89 #[.int .i64 k] w fun e w' => e = .returned (.bool (rawB k)) ∧ w' = w := by
  unfold rawB
  go_enter Tryz.func89, Tryz.ntmps89
  go_wp2
  go_ret
  exact ⟨rfl, rfl⟩
theorem base_any (w : World) (b o : Nat) (M : Mem) (S : Sls) (hM : RMem w b o M S) (hs : Shp M) :
    Calls Tryz.prog 133 #[.pointer (some ⟨b, o, none⟩)] w fun e w' => e = .returned (.int .i64 (M.base : Int)) ∧ ∃ n, w' = w.drewN n := by
  obtain ⟨hb, b0, b1⟩ := hs.base
  have h2 := hs.h2
  have c1 := hM.used
  have c2 := hM.half
  have e1 : IntKind.i64.wrap (M.used * M.half) = M.used * M.half := IntWalk.i64_in _ (by omega)
  rw [← hb]
  clear hb hM hs
  go_enter Tryz.func133, Tryz.ntmps133
  go_wp2
  go_quiet (fail)
  go_wp2
  go_ret
  exact ⟨rfl, _, rfl⟩
theorem inOld_any (a : Int) (w : World) (b o : Nat) (M : Mem) (S : Sls) (hM : RMem w b o M S) (hs : Shp M) :
    Calls Tryz.prog 101 #[.pointer (some ⟨b, o, none⟩), .int .i64 a] w fun e w' => e = .returned (.bool (oldB M a)) ∧ w' = w := by
  have h1 := hs.h1
  have h2 := hs.h2
  have c2 := hM.half
  clear hM hs
  unfold oldB
  go_enter Tryz.func101, Tryz.ntmps101
  go_wp2
  go_ret
  exact ⟨rfl, rfl⟩
theorem young_any (a : Int) (h0 : 0 ≤ a) (h1 : a ≤ 18446744073709551615) (w : World) (b o : Nat) (M : Mem) (S : Sls) (hM : RMem w b o M S) (hs : Shp M) :
    Calls Tryz.prog 110 #[.pointer (some ⟨b, o, none⟩), .int .u64 a] w fun e w' => e = .returned (.bool (youngB M a)) ∧ w' = w := by
  by_cases hk : kindW a = 0
  · have k1 : (kindW a == 0) = true := by simpa using hk
    by_cases hz : a = 0
    · have k2 : (a != 0) = false := by simpa using hz
      have e : youngB M a = false := by simp [youngB, k2]
      rw [e]
      clear hk hz
      go_enter Tryz.func110, Tryz.ntmps110
      go_wp2_with (first
        | (go_at_call 103; refine (kind_any _ h0 h1 _).mono ?_; rintro e w' ⟨rfl, rfl⟩))
      go_ret
      exact ⟨rfl, rfl⟩
    · have k2 : (a != 0) = true := by simpa using hz
      have e : youngB M a = !oldB M (placeW a) := by simp [youngB, k1, k2]
      rw [e]
      clear hk hz
      go_enter Tryz.func110, Tryz.ntmps110
      go_wp2_with (first
        | (go_at_call 103; refine (kind_any _ h0 h1 _).mono ?_; rintro e w' ⟨rfl, rfl⟩)
        | (go_at_call 104; refine (place_any _ h0 h1 _).mono ?_; rintro e w' ⟨rfl, rfl⟩)
        | (go_at_call 101; refine (inOld_any _ _ b o M S hM hs).mono ?_; rintro e w' ⟨rfl, rfl⟩))
      go_ret
      exact ⟨rfl, rfl⟩
  · have k1 : (kindW a == 0) = false := by simpa using hk
    have e : youngB M a = false := by simp [youngB, k1]
    rw [e]
    clear hk
    go_enter Tryz.func110, Tryz.ntmps110
    go_wp2_with (first
      | (go_at_call 103; refine (kind_any _ h0 h1 _).mono ?_; rintro e w' ⟨rfl, rfl⟩))
    go_ret
    exact ⟨rfl, rfl⟩
theorem bcells_at (l : List Bool) (j : Nat) (h : j < l.length) : (bcells l)[j]? = some (.bool (l.getD j false)) := by
  simp [bcells, List.getD_eq_getElem?_getD, h]
theorem marked_any (a : Int) (w : World) (b o : Nat) (M : Mem) (S : Sls) (hM : RMem w b o M S) (hs : Shp M) (ha : 2 * M.half ≤ a) (hb : a < 2 * M.half + M.old) :
    Calls Tryz.prog 143 #[.pointer (some ⟨b, o, none⟩), .int .i64 a] w fun e w' => e = .returned (.bool (cardB M a)) ∧ ∃ n, w' = w.drewN n := by
  obtain ⟨i0, i1⟩ := hs.card a ha hb
  have h1 := hs.h1
  have h2 := hs.h2
  have o2 := hs.o2
  have cc1 := hs.c1
  have cc2 := hs.c2
  have c1 := hM.cards
  have c2 := hM.half
  have c3 := hM.card
  unfold cardB
  have hq : (a - 2 * M.half).tdiv M.card = (a - 2 * M.half) / M.card := Int.tdiv_eq_ediv_of_nonneg (by omega)
  obtain ⟨J, hJ⟩ : ∃ J : Nat, (a - 2 * M.half) / M.card = (J : Int) := ⟨((a - 2 * M.half) / M.card).toNat, by omega⟩
  rw [hJ] at hq i1 i0 ⊢
  have hJl : J < M.cards.length := by omega
  obtain ⟨cb, co, hC, hcell⟩ := hM.rC J _ (bcells_at M.cards J hJl)
  rw [hC] at c1
  rw [Int.toNat_natCast]
  have e0 : IntKind.i64.wrap (2 * M.half) = 2 * M.half := IntWalk.i64_in _ (by omega)
  have e1 : IntKind.i64.wrap (a - 2 * M.half) = a - 2 * M.half := IntWalk.i64_in _ (by omega)
  have hcap := hM.capC
  have hcl : M.cards.length ≤ 9223372036854775807 := hM.ok.lenC
  have e2 : IntKind.i64.wrap ((J : Nat) : Int) = (J : Int) := IntWalk.i64_in _ (by omega)
  have hne : (M.card == 0) = false := by simp; omega
  have hjj : (J : Int) < (M.cards.length : Int) := by omega
  clear hJ hC hM hs
  go_enter Tryz.func143, Tryz.ntmps143
  go_wp2
  go_quiet (fail)
  go_wp2
  go_ret
  refine ⟨?_, _, rfl⟩
  simp [List.getD_eq_getElem?_getD, hJl]
end Go.Proofs.YtelhoppfidibiaaGreatDoor
