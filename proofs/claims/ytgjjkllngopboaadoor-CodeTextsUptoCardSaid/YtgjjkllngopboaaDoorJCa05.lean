/- append of whatever slice onto a row of the call's own: as a step of a region that draws, and at a plain region's list. Over any program. -/
import Derived.Test.YtgjjkllngopboaaDoorJCa03
import Derived.Maps.AppendAt
import Derived.Laws.AppendOwnNone
import Derived.Deep.RegionLaw
import Derived.Test.YtgjjkllngopboaaDoorJCa02
import Derived.Lib.LazyBuf
import Derived.Deep.LoopGhost
namespace Go.Proofs.YtgjjkllngopboaaDoor
open Go.RowKit
set_option linter.unusedVariables false
set_option linter.unusedSimpArgs false

section
variable {P : Program} {w : World}

theorem run_append_src (t ty : TypeId) (base : Nat) (e : TypeId) (i : TypeInfo) (z : Value) (size bytes : Nat) (ht : P.underlying t = some (.slice e)) (hi : P.info? e = some i) (hz : i.zero = some z)
    (hsize : i.size = size) (hby : i.bytes = bytes) (hzs : z.cells.size = size) (hsz : 0 < size)
    (v : Value) (n : Nat) (xs : List Value) (hown : w.ownsRow base e size v n xs)
    (ad : Option Addr) (m c : Nat) (news : List Value) (hnil : ad = none → c = 0) (hmc : m ≤ c) (hl : news.length = m * size) (hR : RSl w ad news) (h1 : ∀ u ∈ news, u.oneCell' = true)
    (h63 : n + m ≤ maxLen) (hbytes : (n + m) * bytes ≤ 140737488355328) (hbase : base ≤ w.heap.size) :
    ∃ a' c' w', (Builtin.append_ #[t, t] ty #[v, .slice ad m c]).run P w = .ok (.slice a' (n + m) c') w' ∧
      w'.ownsRow base e size (.slice a' (n + m) c') (n + m) (xs ++ news) ∧ w.grownBy w' v.ownBlock ∧ ((Value.slice a' (n + m) c').ownBlock = v.ownBlock ∨ (Value.slice a' (n + m) c').ownBlock = some w.heap.size) := by
  cases ad with
  | none =>
    obtain rfl := hnil rfl
    obtain rfl : m = 0 := by omega
    obtain rfl : news = [] := List.eq_nil_of_length_eq_zero (by simpa using hl)
    have hr := run_append_owned_none (P := P) (w := w) base t ty e i size ht hi v n xs hown
    have hv : ∃ a' c', v = .slice a' n c' := by
      rcases hown.2 with ⟨rfl, rfl⟩ | ⟨g, cap, cur, rfl, _⟩
      · exact ⟨_, _, rfl⟩
      · exact ⟨_, _, rfl⟩
    obtain ⟨a', c', rfl⟩ := hv
    exact ⟨a', c', w, hr, by simpa using hown, ⟨rfl, rfl, rfl, Nat.le_refl _, fun _ _ _ => rfl⟩, Or.inl rfl⟩
  | some p =>
    have hnews : ∀ j u, news[j]? = some u → w.cell? (p.add j) = some u := fun j u hu => by
      obtain ⟨b, off, hp, hc⟩ := hR j u hu
      injection hp with hp
      subst hp
      have e : (⟨b, off, none⟩ : Addr).add j = ⟨b, off + j, none⟩ := by unfold Addr.add; split <;> simp_all
      rw [e]; exact hc
    obtain ⟨v', w', hr, h2, h3, _, h5⟩ := run_append_own_at (P := P) w base t ty e i z size bytes ht hi hz hsize hby hzs hsz v n xs hown p m c news hl hnews h1 h63 hbytes hbase
    have hv : ∃ a' c', v' = .slice a' (n + m) c' := by
      rcases h2.2 with ⟨rfl, h0⟩ | ⟨g, cap, cur, rfl, _⟩
      · rw [h0]; exact ⟨_, _, rfl⟩
      · exact ⟨_, _, rfl⟩
    obtain ⟨a', c', rfl⟩ := hv
    exact ⟨a', c', w', hr, h2, h3, h5⟩

theorem wp_append_src {o : Oper} {a : Act} {K : Act → World → Prop} {Q : Exit → Act → World → Prop} (s x : Operand) (t : TypeId)
    (ho : o.op = .call { callee := .builtin .append, args := #[s, x], argTypes := #[t, t] })
    (base : Nat) (e : TypeId) (i : TypeInfo) (z : Value) (size bytes : Nat) (ht : P.underlying t = some (.slice e)) (hi : P.info? e = some i) (hz : i.zero = some z)
    (hsize : i.size = size) (hby : i.bytes = bytes) (hzs : z.cells.size = size) (hsz : 0 < size)
    (v : Value) (n : Nat) (xs : List Value) (hs : a.eval s = v) (hown : w.ownsRow base e size v n xs)
    (ad : Option Addr) (m c : Nat) (news : List Value) (hx : a.eval x = .slice ad m c) (hnil : ad = none → c = 0) (hmc : m ≤ c) (hl : news.length = m * size) (hR : RSl w ad news) (h1 : ∀ u ∈ news, u.oneCell' = true)
    (h63 : n + m ≤ maxLen) (hbytes : (n + m) * bytes ≤ 140737488355328) (hbase : base ≤ w.heap.size)
    (h : ∀ a' c' w', w'.ownsRow base e size (.slice a' (n + m) c') (n + m) (xs ++ news) → w.grownBy w' v.ownBlock → ((Value.slice a' (n + m) c').ownBlock = v.ownBlock ∨ (Value.slice a' (n + m) c').ownBlock = some w.heap.size) →
      K (a.put o.dst (.slice a' (n + m) c')) w') : o.wp P a w K Q := by
  obtain ⟨a', c', w', hr, h2, h3, h4⟩ := run_append_src (P := P) (w := w) t o.type base e i z size bytes ht hi hz hsize hby hzs hsz v n xs hown ad m c news hnil hmc hl hR h1 h63 hbytes hbase
  unfold Oper.wp execOp
  simp only [ho, resolve, invoke, builtin, Sem.run_bind, Sem.run_pure, Result.andThen_ok, List.map_toArray, List.map_cons, List.map_nil, hs, hx, hr]
  exact h a' c' w' h2 h3 h4

theorem wpList_append_src {ops : Array Oper} {rest : List Oper} {o : Oper} {a : Act} {Q : Exit → Act → World → Prop} (hgd : o.guard = none) (s x : Operand) (t : TypeId)
    (ho : o.op = .call { callee := .builtin .append, args := #[s, x], argTypes := #[t, t] })
    (base : Nat) (e : TypeId) (i : TypeInfo) (z : Value) (size bytes : Nat) (ht : P.underlying t = some (.slice e)) (hi : P.info? e = some i) (hz : i.zero = some z)
    (hsize : i.size = size) (hby : i.bytes = bytes) (hzs : z.cells.size = size) (hsz : 0 < size)
    (v : Value) (n : Nat) (xs : List Value) (hs : a.eval s = v) (hown : w.ownsRow base e size v n xs)
    (ad : Option Addr) (m c : Nat) (news : List Value) (hx : a.eval x = .slice ad m c) (hnil : ad = none → c = 0) (hmc : m ≤ c) (hl : news.length = m * size) (hR : RSl w ad news) (h1 : ∀ u ∈ news, u.oneCell' = true)
    (h63 : n + m ≤ maxLen) (hbytes : (n + m) * bytes ≤ 140737488355328) (hbase : base ≤ w.heap.size)
    (h : ∀ a' c' w', w'.ownsRow base e size (.slice a' (n + m) c') (n + m) (xs ++ news) → w.grownBy w' v.ownBlock → ((Value.slice a' (n + m) c').ownBlock = v.ownBlock ∨ (Value.slice a' (n + m) c').ownBlock = some w.heap.size) →
      wpList P ops Q rest (a.put o.dst (.slice a' (n + m) c')) w') : wpList P ops Q (o :: rest) a w :=
  wpList_plain hgd fun _ hK => wp_append_src s x t ho base e i z size bytes ht hi hz hsize hby hzs hsz v n xs hs hown ad m c news hx hnil hmc hl hR h1 h63 hbytes hbase fun a' c' w' h2 h3 h4 => hK _ _ (h a' c' w' h2 h3 h4)

theorem step_append_src {ops : Array Oper} {o : Oper} {a : Act} {K : Act → World → Prop} {Q : Exit → Act → World → Prop} {E : Prop} (hgd : o.guard = none) (s x : Operand) (t : TypeId)
    (ho : o.op = .call { callee := .builtin .append, args := #[s, x], argTypes := #[t, t] })
    (base : Nat) (e : TypeId) (i : TypeInfo) (z : Value) (size bytes : Nat) (ht : P.underlying t = some (.slice e)) (hi : P.info? e = some i) (hz : i.zero = some z)
    (hsize : i.size = size) (hby : i.bytes = bytes) (hzs : z.cells.size = size) (hsz : 0 < size)
    (v : Value) (n : Nat) (xs : List Value) (hs : a.eval s = v) (hown : w.ownsRow base e size v n xs)
    (ad : Option Addr) (m c : Nat) (news : List Value) (hx : a.eval x = .slice ad m c) (hnil : ad = none → c = 0) (hmc : m ≤ c) (hl : news.length = m * size) (hR : RSl w ad news) (h1 : ∀ u ∈ news, u.oneCell' = true)
    (h63 : n + m ≤ maxLen) (hbytes : (n + m) * bytes ≤ 140737488355328) (hbase : base ≤ w.heap.size)
    (h : ∀ a' c' w', w'.ownsRow base e size (.slice a' (n + m) c') (n + m) (xs ++ news) → w.grownBy w' v.ownBlock → ((Value.slice a' (n + m) c').ownBlock = v.ownBlock ∨ (Value.slice a' (n + m) c').ownBlock = some w.heap.size) →
      K (a.put o.dst (.slice a' (n + m) c')) w') : if Region.wanted o (yielded ops a.tmps) = true then Oper.wp P o a w K Q else E := by
  have hw : Region.wanted o (yielded ops a.tmps) = true := by simp [Region.wanted, hgd]
  rw [if_pos hw]
  exact wp_append_src s x t ho base e i z size bytes ht hi hz hsize hby hzs hsz v n xs hs hown ad m c news hx hnil hmc hl hR h1 h63 hbytes hbase h
end
/-- The word at a place. -/
def wat (W : List Int) (i : Nat) : Int := W.getD i 0
/-- An object: where it is, its header. -/
structure Ob where
  a : Nat
  w : Int
/-- How many fields it has. -/
def Ob.n (o : Ob) : Nat := (hSize o.w).toNat

/-- The objects of a part; false: they do not just fill it. -/
def objs (W : List Int) (to : Nat) : Nat → Nat → List Ob × Bool
  | 0, _ => ([], true)
  | f + 1, a =>
    if a < to then
      if isHd (wat W a) && decide (a + 1 + (hSize (wat W a)).toNat ≤ to) then
        (⟨a, wat W a⟩ :: (objs W to f (a + 1 + (hSize (wat W a)).toNat)).1, (objs W to f (a + 1 + (hSize (wat W a)).toNat)).2)
      else ([], false)
    else ([], true)
def part (W : List Int) (a to : Nat) : List Ob × Bool := objs W to (to - a) a

/-- An object that lies in the words, within a part. -/
structure ObIn (W : List Int) (lo to : Nat) (o : Ob) : Prop where
  w : o.w = wat W o.a
  hd : isHd o.w = true
  lo : lo ≤ o.a
  to : o.a + 1 + o.n ≤ to
/-- The world as it was, but for blocks of L and new ones. -/
structure Keep (L : Nat → Prop) (w w' : World) : Prop where
  os : w'.os = w.os
  tape : w'.tape = w.tape
  output : w'.output = w.output
  size : w.heap.size ≤ w'.heap.size
  block : ∀ k, k < w.heap.size → ¬ L k → w'.heap[k]? = w.heap[k]?

theorem Keep.refl (L : Nat → Prop) (w : World) : Keep L w w := ⟨rfl, rfl, rfl, Nat.le_refl _, fun _ _ _ => rfl⟩
theorem Keep.trans {L : Nat → Prop} {a b c : World} (h : Keep L a b) (k : Keep L b c) : Keep L a c :=
  ⟨k.os.trans h.os, k.tape.trans h.tape, k.output.trans h.output, Nat.le_trans h.size k.size, fun i hi hl => (k.block i (Nat.lt_of_lt_of_le hi h.size) hl).trans (h.block i hi hl)⟩
/-- A later step may turn whatever is new, too. -/
theorem Keep.then_ {L L' : Nat → Prop} {a b c : World} (h : Keep L a b) (k : Keep L' b c) (hl : ∀ i, i < a.heap.size → L' i → L i) : Keep L a c :=
  ⟨k.os.trans h.os, k.tape.trans h.tape, k.output.trans h.output, Nat.le_trans h.size k.size, fun i hi hn => (k.block i (Nat.lt_of_lt_of_le hi h.size) (fun e => hn (hl i hi e))).trans (h.block i hi hn)⟩
theorem Keep.of_ext {L : Nat → Prop} {w w' : World} (h : Ext w w') : Keep L w w' := ⟨h.os, h.tape, h.output, h.size, fun k hk _ => h.block k hk⟩
theorem Keep.ext_ {L : Nat → Prop} {a b c : World} (h : Keep L a b) (k : Ext b c) : Keep L a c := h.trans (Keep.of_ext k)
theorem Keep.alloc_ {L : Nat → Prop} {a b : World} (h : Keep L a b) (o : Obj) : Keep L a (b.alloc o) := h.ext_ ((Ext.refl b).alloc_ o)
theorem Keep.drew_ {L : Nat → Prop} {a b : World} (h : Keep L a b) : Keep L a b.drew := h.ext_ (Ext.refl b).drew_
theorem Keep.drewN_ {L : Nat → Prop} {a b : World} (h : Keep L a b) (n : Nat) : Keep L a (b.drewN n) := h.ext_ (ext_drewN b n)
theorem Keep.set_ {L : Nat → Prop} {a b : World} (h : Keep L a b) {p : Addr} (hp : L p.block ∨ a.heap.size ≤ p.block) (u : Value) : Keep L a (b.setCell p u) :=
  ⟨h.os, h.tape, h.output, by simpa [World.setCell] using h.size, fun k hk hl => by
    rw [Below.heap_setCell _ _ _ _ (fun e => by subst e; rcases hp with hp | hp; exact hl hp; omega)]
    exact h.block k hk hl⟩
theorem Keep.of_grown {L : Nat → Prop} {w w' : World} {row : Option Nat} (h : w.grownBy w' row) (hr : ∀ k, row = some k → L k ∨ w.heap.size ≤ k) : Keep L w w' :=
  ⟨h.os, h.tape, h.output, h.size, fun k hk hl => h.block k hk (fun e => by rcases hr k e.symm with g | g; exact hl g; omega)⟩
theorem Keep.below {L : Nat → Prop} {w w' : World} {B : Nat} (h : Keep L w w') (hB : B ≤ w.heap.size) (hl : ∀ k, k < B → ¬ L k) : Below B w w' :=
  ⟨h.os, h.tape, h.output, h.size, fun k hk => h.block k (by omega) (hl k hk)⟩
theorem Ext.keep {L : Nat → Prop} {a b c : World} (h : Ext a b) (k : Keep L b c) (hl : ∀ i, L i → a.heap.size ≤ i) : Ext a c :=
  Below.trans h (k.below h.size fun i hi e => by have := hl i e; omega)
theorem Keep.cell {L : Nat → Prop} {w w' : World} (h : Keep L w w') {p : Addr} {v : Value} (hp : ¬ L p.block) (hc : w.cell? p = some v) : w'.cell? p = some v := by
  rw [World.cell?_of_block (w := w) (h.block p.block (cell_lt hc) hp)]; exact hc
theorem Keep.frozen {L : Nat → Prop} {w w' : World} (h : Keep L w w') {p : Addr} (hp : ¬ L p.block) (hlt : p.block < w.heap.size) : w'.frozen? p = w.frozen? p :=
  World.frozen?_of_block (w := w) (h.block p.block hlt hp)
theorem MapI.keep {L : Nat → Prop} {w w' : World} {b : Nat} {q : IntKind} {es : List (Int × Value)} (h : MapI w b q es) (k : Keep L w w') (hb : ¬ L b) : MapI w' b q es :=
  h.of_block (k.block b h.lt hb)
theorem RSl.keep {L : Nat → Prop} {w w' : World} {a : Option Addr} {cs : List Value} (h : RSl w a cs) (k : Keep L w w') (hl : ∀ x, a = some x → ¬ L x.block) : RSl w' a cs := fun j u hu => by
  obtain ⟨b, off, ha, hc⟩ := h j u hu
  exact ⟨b, off, ha, k.cell (p := ⟨b, off + j, none⟩) (hl ⟨b, off, none⟩ ha) hc⟩

/-- A map that bears true at these keys, and nothing else. -/
def SMap (w : World) (b : Nat) (q : IntKind) (st : List Int) : Prop :=
  ∃ es, MapI w b q es ∧ ∀ k : Int, mget es k = if st.contains k = true then some (.bool true) else none
theorem SMap.keep {L : Nat → Prop} {w w' : World} {b : Nat} {q : IntKind} {st : List Int} (h : SMap w b q st) (k : Keep L w w') (hb : ¬ L b) : SMap w' b q st := by
  obtain ⟨es, hm, hg⟩ := h
  exact ⟨es, hm.keep k hb, hg⟩
theorem SMap.ext {w w' : World} {b : Nat} {q : IntKind} {st : List Int} (h : SMap w b q st) (k : Ext w w') : SMap w' b q st := by
  obtain ⟨es, hm, hg⟩ := h
  exact ⟨es, hm.ext k, hg⟩
theorem SMap.lt {w : World} {b : Nat} {q : IntKind} {st : List Int} (h : SMap w b q st) : b < w.heap.size := by
  obtain ⟨es, hm, _⟩ := h
  exact hm.lt
theorem SMap.made (w : World) (q : IntKind) : SMap (w.alloc (.map #[] 0)) w.heap.size q [] := ⟨[], MapI.made w q, fun k => by simp [mget]⟩
theorem SMap.put {w' : World} {b : Nat} {q : IntKind} {es : List (Int × Value)} {st : List Int} (a : Int) (hg : ∀ k : Int, mget es k = if st.contains k = true then some (.bool true) else none)
    (h : MapI w' b q (mput es a (.bool true))) : SMap w' b q (st ++ [a]) :=
  ⟨_, h, fun k => by
    by_cases e : k = a
    · subst e; rw [mget_mput_same]; simp
    · rw [mget_mput_other _ _ _ _ e, hg k]
      have : (k == a) = false := by simpa using e
      simp [List.contains_eq_any_beq, this, e]⟩

/-- Shape facts, for the walks. -/
structure Shp (M : Mem) : Prop where
  h1 : 1 ≤ M.half
  h2 : M.half ≤ 65536
  o1 : 1 ≤ M.old
  o2 : M.old ≤ 65536
  c1 : 1 ≤ M.card
  c2 : M.card ≤ 1024
  w : (M.W.length : Int) = 2 * M.half + M.old
  u1 : 0 ≤ M.used
  u2 : M.used ≤ 1
  t1 : 0 ≤ M.top
  t2 : M.top ≤ M.half
  p1 : 0 ≤ M.oldTop
  p2 : M.oldTop ≤ M.old
  cl : (M.cards.length : Int) = (M.old + M.card - 1) / M.card
/-- Where the half in use begins. -/
def Mem.base (M : Mem) : Nat := (M.used * M.half).toNat
theorem Shp.base {M : Mem} (h : Shp M) : M.used * M.half = (M.base : Int) ∧ 0 ≤ M.used * M.half ∧ M.used * M.half ≤ M.half := by
  obtain ⟨h1, h2, _, _, _, _, _, u1, u2, _, _, _, _, _⟩ := h
  have hu : M.used = 0 ∨ M.used = 1 := by omega
  unfold Mem.base
  rcases hu with e | e <;> rw [e] <;> omega
/-- The card of a place in the old space. -/
theorem Shp.card {M : Mem} (h : Shp M) (a : Int) (h1 : 2 * M.half ≤ a) (h2 : a < 2 * M.half + M.old) :
    0 ≤ (a - 2 * M.half) / M.card ∧ (a - 2 * M.half) / M.card < (M.cards.length : Int) := by
  have c1 := h.c1
  rw [h.cl]
  refine ⟨Int.ediv_nonneg (by omega) (by omega), ?_⟩
  have h3 : (a - 2 * M.half) / M.card ≤ (M.old - 1) / M.card := Int.ediv_le_ediv (by omega) (by omega)
  have h4 : (M.old + M.card - 1) / M.card = (M.old - 1) / M.card + 1 := by
    rw [show M.old + M.card - 1 = (M.old - 1) + 1 * M.card by omega, Int.add_mul_ediv_right _ _ (by omega)]
  omega
theorem infoInt : (Tryd.prog.info? 3).map (fun i => (i.zero, i.size, i.bytes)) = some (some (.int .i64 0), 1, 8) := by kernel_rfl
theorem undInts : Tryd.prog.underlying 75 = some (.slice 3) := by kernel_rfl
/-- Ints as cells. -/
def ints (l : List Int) : List Value := l.map fun x => Value.int .i64 x
theorem ints_len (l : List Int) : (ints l).length = l.length := by simp [ints]
theorem ints_at (l : List Int) (k : Nat) (h : k < l.length) : (ints l)[k]? = some (.int .i64 (l.getD k 0)) := by
  simp [ints, List.getD_eq_getElem?_getD, h]
theorem ints_one (l : List Int) : ∀ u ∈ ints l, u.oneCell' = true := by
  intro u hu
  obtain ⟨x, _, rfl⟩ := List.mem_map.1 hu
  rfl
/-- A slice that reads as these ints. -/
structure RInts (w : World) (a : Option Addr) (c : Nat) (l : List Int) : Prop where
  row : RSl w a (ints l)
  cap : l.length ≤ c
  nil : a = none → c = 0
theorem RInts.ext {w w' : World} {a : Option Addr} {c : Nat} {l : List Int} (h : RInts w a c l) (hx : Ext w w') : RInts w' a c l := ⟨h.row.ext hx, h.cap, h.nil⟩
theorem RInts.nothing (w : World) : RInts w none 0 [] := ⟨RSl.nil _ _, Nat.le_refl _, fun _ => rfl⟩
theorem RInts.at_ {w : World} {a : Option Addr} {c : Nat} {l : List Int} (h : RInts w a c l) {k : Nat} (hk : k < l.length) : ∃ b o, a = some ⟨b, o, none⟩ ∧ w.cell? ⟨b, o + k, none⟩ = some (.int .i64 (l.getD k 0)) :=
  h.row k _ (ints_at l k hk)
theorem own_zero (W : World) (e : TypeId) (size : Nat) : (W.alloc (.cells #[] e)).ownsRow W.heap.size e size (.slice (some ⟨W.heap.size, 0, none⟩) 0 0) 0 [] :=
  ⟨by simp, Or.inr ⟨W.heap.size, 0, #[], rfl, Nat.le_refl _, heap_alloc_new W _, Nat.le_refl _, by unfold maxLen; omega, by simp, by simp⟩⟩
theorem owns_rints {w : World} {B : Nat} {e : TypeId} {a : Option Addr} {n c : Nat} {l : List Int} (h : w.ownsRow B e 1 (.slice a n c) n (ints l)) : RInts w a c l := by
  have h1 := h.1
  rw [ints_len] at h1
  rcases h.2 with ⟨h2, h3⟩ | ⟨g, cap, cur, h2, _, hg, hc, _, _, ht⟩
  · injection h2 with h2 _ h4
    subst h2 h4 h3
    obtain rfl : l = [] := List.eq_nil_of_length_eq_zero (by omega)
    exact RInts.nothing w
  · injection h2 with h2 _ h4
    subst h2 h4
    refine ⟨fun j u hu => ⟨g, 0, rfl, ?_⟩, by omega, fun e => by cases e⟩
    rw [Nat.zero_add, cell_of_row w g j cur _ _ hg]
    rw [← ht, List.getElem?_take] at hu
    split at hu
    · simpa using hu
    · cases hu
set_option maxRecDepth 100000 in
theorem cloneInts_any (a : Option Addr) (c : Nat) (l : List Int) (w : World) (hR : RInts w a c l) (hm : l.length ≤ 1000000) :
    Calls Tryd.prog 62 #[.slice a l.length c] w fun e w' => ∃ a' c', e = .returned (.slice a' l.length c') ∧ w'.ownsRow w.heap.size 3 1 (.slice a' l.length c') l.length (ints l) ∧ Ext w w' := by
  obtain ⟨i0, hi, hz0, hz1, hz2⟩ := info_parts infoInt
  obtain ⟨hR, hmc, hnil⟩ := hR
  have hl := ints_len l
  generalize hnews : ints l = news at *
  have h1 : ∀ u ∈ news, u.oneCell' = true := by rw [← hnews]; exact ints_one l
  clear hnews
  generalize l.length = m at *
  cases a with
  | none =>
    obtain rfl := hnil rfl
    obtain rfl : m = 0 := by omega
    obtain rfl : news = [] := List.eq_nil_of_length_eq_zero (by omega)
    have q : ∀ W, (binOp .eql 75 (.slice none 0 0) (.slice none 0 0)).run Tryd.prog W = .ok (.bool true) W := fun W => _root_.Go.run_eql_slice_nil W _ _ none 0 0 undInts
    go_enter Tryd.func62, Tryd.ntmps62
    go_wp2
    go_ret
    exact ⟨none, 0, rfl, World.ownsRow_nil _ _ _ _, Ext.refl w⟩
  | some p =>
    have HR := Lib.hid hR
    have H1 := Lib.hid h1
    clear hR h1 hnil
    have q : ∀ W, (binOp .eql 75 (.slice (some p) m c) (.slice none 0 0)).run Tryd.prog W = .ok (.bool false) W := fun W => _root_.Go.run_eql_slice_nil W _ _ (some p) m c undInts
    go_enter Tryd.func62, Tryd.ntmps62
    go_wp2_with (at_builtin; refine wpList_append_src rfl _ _ 75 rfl w.heap.size 3 i0 (.int .i64 0) 1 8 undInts hi hz0 hz1 hz2 rfl (by decide) _ 0 [] rfl (own_zero w _ _) (some p) m c news rfl (fun h => by cases h) hmc (by omega) (HR.out.ext ((Ext.refl w).alloc_ _)) H1.out (by unfold maxLen; omega) (by omega) (by simp) ?_)
    intro a2 c2 w2 hown hgrow hat
    have hx : Ext w w2 := Below.grown ((Ext.refl w).alloc_ _) hgrow (by simp) (fun g hg => Nat.le_of_eq (Option.some.inj (show some w.heap.size = some g from hg)))
    have HX := Lib.hid hx
    (try simp only [Nat.zero_add, List.nil_append] at hown)
    have HO := Lib.hid hown
    clear hown hgrow hat hx
    go_wp2
    go_ret
    exact ⟨a2, c2, by simp, HO.out, HX.out⟩
theorem take_eq_of {l l2 : List Int} {k : Nat} (h1 : k < l.length) (h2 : k < l2.length) (h : l.take k = l2.take k) (hk : l.getD k 0 = l2.getD k 0) : l.take (k + 1) = l2.take (k + 1) := by
  rw [List.take_add_one, List.take_add_one, h, List.getElem?_eq_getElem h1, List.getElem?_eq_getElem h2]
  simp only [List.getD_eq_getElem?_getD, List.getElem?_eq_getElem h1, List.getElem?_eq_getElem h2, Option.getD_some] at hk
  rw [hk]
set_option maxRecDepth 100000 in
set_option maxHeartbeats 2000000 in
theorem equalInts_any (a b : Option Addr) (c d : Nat) (l l2 : List Int) (w : World) (h1 : RInts w a c l) (h2 : RInts w b d l2) (hm : l.length ≤ 1000000) (hm2 : l2.length ≤ 1000000) :
    Calls Tryd.prog 63 #[.slice a l.length c, .slice b l2.length d] w fun e w' => e = .returned (.bool (decide (l = l2))) ∧ Ext w w' := by
  obtain ⟨R, hRR⟩ : ∃ R, R = decide (l = l2) := ⟨_, rfl⟩
  rw [← hRR]
  have HRR := Lib.hid hRR
  clear hRR
  by_cases hl : l.length = l2.length
  · have H1 := Lib.hid h1
    have H2 := Lib.hid h2
    have HL := Lib.hid hl
    rw [← hl]
    clear h1 h2 hl
    go_enter Tryd.func63, Tryd.ntmps63
    go_wp2
    go_loopg [13] (l.length) (fun r i wr => ∃ k : Nat, k + r = l.length ∧ i = .int .i64 (k : Int) ∧ Hid (l.take k = l2.take k) ∧ Hid (Ext w wr))
    case atStart => exact ⟨0, by omega, rfl, rfl, Ext.refl w⟩
    case round =>
      obtain ⟨k, hk, rfl, hT, hE⟩ := hrel
      cases gk with
      | succ r =>
        have hlt : k < l.length := by omega
        have hltz : (k : Int) < (l.length : Int) := by omega
        obtain ⟨ab, ao, ha, ca⟩ := (H1.out.ext hE.out).at_ hlt
        obtain ⟨bb, bo, hb, cb⟩ := (H2.out.ext hE.out).at_ (k := k) (by have := HL.out; omega)
        subst ha hb
        by_cases hx : l.getD k 0 = l2.getD k 0
        · have hT2 := take_eq_of hlt (by have := HL.out; omega) hT.out hx
          have HT2 := Lib.hid hT2
          rw [← hx] at cb
          generalize l.getD k 0 = x at *
          generalize l2.getD k 0 = y at *
          clear hT2 hx hT
          have HK := Lib.hid hk
          clear hk
          go_wp2
          go_region
          go_wp2
          go_roundg r
          case measure => omega
          case rel => exact ⟨k + 1, by have := HK.out; omega, by go_num, HT2.out, by first | exact hE.out.drew_ | exact hE.out⟩
        · have hne : l ≠ l2 := fun e => hx (by rw [e])
          obtain rfl : R = false := by rw [HRR.out]; simpa using hne
          generalize l.getD k 0 = x at *
          generalize l2.getD k 0 = y at *
          clear hT hne
          go_wp2
          go_region
          go_wp2
          go_ret
          exact ⟨rfl, by first | exact hE.out.drew_ | exact hE.out⟩
      | zero =>
        obtain rfl : k = l.length := by omega
        have he : l = l2 := by
          have := hT.out
          rw [List.take_length, HL.out, List.take_length] at this
          exact this
        have hltz : ¬ ((l.length : Nat) : Int) < (l.length : Int) := by omega
        obtain rfl : R = true := by rw [HRR.out]; simpa using he
        clear hT he hk
        go_wp2
        go_ret
        exact ⟨rfl, hE.out⟩
  · obtain rfl : R = false := by rw [HRR.out]; simpa using fun e : l = l2 => hl (by rw [e])
    have hne : ¬ (l.length : Int) = (l2.length : Int) := by omega
    clear h1 h2
    go_enter Tryd.func63, Tryd.ntmps63
    go_wp2
    go_ret
    exact ⟨rfl, Ext.refl w⟩
end Go.Proofs.YtgjjkllngopboaaDoor
