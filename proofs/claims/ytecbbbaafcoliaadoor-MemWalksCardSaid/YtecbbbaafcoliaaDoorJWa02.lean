/- The walk of word.ToHead. -/
import Derived.Test.YtecbbbaafcoliaaDoorJWa01
import Derived.Maps.AppendAt
import Derived.Laws.AppendOwnNone
import Derived.Deep.RegionLaw
namespace Go.Proofs.YtecbbbaafcoliaaDoor
open Go.RowKit
set_option linter.unusedVariables false
set_option linter.unusedSimpArgs false

/-- The numbers that ToHead makes of a word. -/
theorem toHead_bits (a : Int) (h0 : 0 ≤ a) (h1 : a ≤ 18446744073709551615) :
    wrap64 (bits .and .u64 (a / 4) 255) = hKind a ∧ wrap64 (bits .and .u64 (a / 1024) 15) = hAge a ∧ wrap64 (bits .and .u64 (a / 16384) 1) = hMark a ∧ wrap64 (bits .and .u64 (a / 65536) 8191) = hSize a % 8192 := by
  rw [and255 _ (by omega) (by omega), and15 _ (by omega) (by omega), and1 _ (by omega) (by omega), and8191 _ (by omega) (by omega)]
  rw [IntWalk.wrap64_in _ (by omega), IntWalk.wrap64_in _ (by omega), IntWalk.wrap64_in _ (by omega), IntWalk.wrap64_in _ (by omega)]
  exact ⟨rfl, rfl, rfl, rfl⟩
theorem toHead_yes (a : Int) (h0 : 0 ≤ a) (h1 : a ≤ 18446744073709551615) (h : isHd a = true) (w : World) :
    Calls Tryd.prog 67 #[.int .u64 a] w fun e w' => e = .returned (.tuple #[.agg #[.int .i64 (hKind a), .int .i64 (hAge a), .int .i64 (hMark a), .int .i64 (hSize a)], .nilIface]) ∧ Ext w w' := by
  obtain ⟨b1, b2, b3, b4⟩ := toHead_bits a h0 h1
  have hin := hd_in a h0
  have hsz : hSize a ≤ 4096 := ((isHd_iff a).1 h).2.2
  have b5 : hSize a % 8192 = hSize a := by omega
  rw [b5] at b4
  have hbk := headW_back a h
  have k1 : inB (hKind a) 255 = true := inB_true.2 (by omega)
  have k2 : inB (hAge a) 15 = true := inB_true.2 (by omega)
  have k3 : inB (hMark a) 1 = true := inB_true.2 (by omega)
  have k4 : inB (hSize a) 4096 = true := inB_true.2 (by omega)
  clear hin hsz b5 h
  go_enter Tryd.func67, Tryd.ntmps67
  go_wp2_with (go_at_call 93; refine (ofHead_yes _ _ _ _ k1 k2 k3 k4 _).mono ?_; rintro e w' ⟨rfl, hb⟩; obtain ⟨hc, hf, hz⟩ := hb.three; simp at hz)
  have q0 : w'.cell? ⟨w.heap.size, 0, none⟩ = some (.int .i64 0) := by rw [hc _ _ (by simp; omega)]; simp [go_sem]
  have q1 : w'.cell? ⟨w.heap.size, 1, none⟩ = some (.int .i64 0) := by rw [hc _ _ (by simp; omega)]; simp [go_sem]
  have q2 : w'.cell? ⟨w.heap.size, 2, none⟩ = some (.int .i64 0) := by rw [hc _ _ (by simp; omega)]; simp [go_sem]
  have q3 : w'.cell? ⟨w.heap.size, 3, none⟩ = some (.int .i64 0) := by rw [hc _ _ (by simp; omega)]; simp [go_sem]
  exact bodyPost_ret (v := .tuple #[.agg #[.int .i64 (hKind a), .int .i64 (hAge a), .int .i64 (hMark a), .int .i64 (hSize a)], .nilIface]) (by simp [results, Tryd.results67, go_sem, q0, q1, q2, q3]) rfl
    ⟨rfl, by repeat (first | exact (((Ext.refl _).alloc_ _).alloc_ _).trans_ hb | refine Ext.set_ ?_ (by simp) _)⟩
set_option maxHeartbeats 1000000 in
theorem toHead_no (a : Int) (h0 : 0 ≤ a) (h1 : a ≤ 18446744073709551615) (h : isHd a = false) (w : World) (b s : Addr) (gb : GBound w b) (gs : GShape w s) :
    Calls Tryd.prog 67 #[.int .u64 a] w fun e w' => e = .returned (.tuple #[.agg #[.int .i64 0, .int .i64 0, .int .i64 0, .int .i64 0], errV s]) ∧ Ext w w' := by
  have hlb := cell_lt gb
  have hls := cell_lt gs
  simp only at hlb hls
  obtain ⟨b1, b2, b3, b4⟩ := toHead_bits a h0 h1
  have hin := hd_in a h0
  have k1 : inB (hKind a) 255 = true := inB_true.2 (by omega)
  have k2 : inB (hAge a) 15 = true := inB_true.2 (by omega)
  have k3 : inB (hMark a) 1 = true := inB_true.2 (by omega)
  by_cases k4 : inB (hSize a % 8192) 4096 = true
  · have hne : headW (hKind a) (hAge a) (hMark a) (hSize a % 8192) ≠ a := fun e => by
      rw [headW_only a e (inB_true.1 k4).2] at h; cases h
    have hne' : (headW (hKind a) (hAge a) (hMark a) (hSize a % 8192) != a) = true := by simpa using hne
    clear hin h hne
    go_enter Tryd.func67, Tryd.ntmps67
    go_wp2_with (go_at_call 93; refine (ofHead_yes _ _ _ _ k1 k2 k3 k4 _).mono ?_; rintro e w' ⟨rfl, hb⟩; obtain ⟨hc, hf, hz⟩ := hb.three; simp at hz)
    have q0 : w'.cell? ⟨w.heap.size, 0, none⟩ = some (.int .i64 0) := by rw [hc _ _ (by simp; omega)]; simp [go_sem]
    have q1 : w'.cell? ⟨w.heap.size, 1, none⟩ = some (.int .i64 0) := by rw [hc _ _ (by simp; omega)]; simp [go_sem]
    have q2 : w'.cell? ⟨w.heap.size, 2, none⟩ = some (.int .i64 0) := by rw [hc _ _ (by simp; omega)]; simp [go_sem]
    have q3 : w'.cell? ⟨w.heap.size, 3, none⟩ = some (.int .i64 0) := by rw [hc _ _ (by simp; omega)]; simp [go_sem]
    have q4 : w'.frozen? ⟨w.heap.size, 0, none⟩ = false := by rw [hf _ _ (by simp; omega)]; simp [go_sem]
    have q5 : w'.frozen? ⟨w.heap.size, 1, none⟩ = false := by rw [hf _ _ (by simp; omega)]; simp [go_sem]
    have q6 : w'.frozen? ⟨w.heap.size, 2, none⟩ = false := by rw [hf _ _ (by simp; omega)]; simp [go_sem]
    have q7 : w'.frozen? ⟨w.heap.size, 3, none⟩ = false := by rw [hf _ _ (by simp; omega)]; simp [go_sem]
    go_region
    all_goals go_wp2
    all_goals refine bodyPost_ret (v := .tuple #[.agg #[.int .i64 0, .int .i64 0, .int .i64 0, .int .i64 0], errV s]) (by simp [results, Tryd.results67, go_sem, q0, q1, q2, q3]) rfl ⟨rfl, ?_⟩
    all_goals repeat (first | exact (((Ext.refl _).alloc_ _).alloc_ _).trans_ hb | refine Ext.drew_ ?_ | refine Ext.set_ ?_ (by simp) _)
  · have k4' : inB (hSize a % 8192) 4096 = false := by simpa using k4
    clear hin h k4
    go_enter Tryd.func67, Tryd.ntmps67
    go_wp2_with (go_at_call 93; refine (ofHead_no _ _ _ _ (by simp [k4']) _ b ((((Ext.refl w).alloc_ _).alloc_ _).cell_ gb)).mono ?_; rintro e w' ⟨rfl, hb⟩; obtain ⟨hc, hf, hz⟩ := hb.three; simp at hz)
    have q0 : w'.cell? ⟨w.heap.size, 0, none⟩ = some (.int .i64 0) := by rw [hc _ _ (by simp; omega)]; simp [go_sem]
    have q1 : w'.cell? ⟨w.heap.size, 1, none⟩ = some (.int .i64 0) := by rw [hc _ _ (by simp; omega)]; simp [go_sem]
    have q2 : w'.cell? ⟨w.heap.size, 2, none⟩ = some (.int .i64 0) := by rw [hc _ _ (by simp; omega)]; simp [go_sem]
    have q3 : w'.cell? ⟨w.heap.size, 3, none⟩ = some (.int .i64 0) := by rw [hc _ _ (by simp; omega)]; simp [go_sem]
    have q4 : w'.frozen? ⟨w.heap.size, 0, none⟩ = false := by rw [hf _ _ (by simp; omega)]; simp [go_sem]
    have q5 : w'.frozen? ⟨w.heap.size, 1, none⟩ = false := by rw [hf _ _ (by simp; omega)]; simp [go_sem]
    have q6 : w'.frozen? ⟨w.heap.size, 2, none⟩ = false := by rw [hf _ _ (by simp; omega)]; simp [go_sem]
    have q7 : w'.frozen? ⟨w.heap.size, 3, none⟩ = false := by rw [hf _ _ (by simp; omega)]; simp [go_sem]
    go_region
    all_goals go_wp2
    all_goals refine bodyPost_ret (v := .tuple #[.agg #[.int .i64 0, .int .i64 0, .int .i64 0, .int .i64 0], errV s]) (by simp [results, Tryd.results67, go_sem, q0, q1, q2, q3]) rfl ⟨rfl, ?_⟩
    all_goals repeat (first | exact (((Ext.refl _).alloc_ _).alloc_ _).trans_ hb | refine Ext.drew_ ?_ | refine Ext.set_ ?_ (by simp) _)
end Go.Proofs.YtecbbbaafcoliaaDoor
/- A memory as data, and how a world holds one: read alone. Both struct types (the program's, the reference's) have the same eleven cells. -/
namespace Go.Proofs.YtecbbbaafcoliaaDoor
open Go.RowKit
set_option linter.unusedVariables false
set_option linter.unusedSimpArgs false

/-- A memory. -/
structure Mem where
  half : Int
  old : Int
  card : Int
  W : List Int
  used : Int
  top : Int
  oldTop : Int
  roots : List Int
  weak : List Int
  ids : List (Int × Int)
  cards : List Bool

/-- The numbers fit their kinds; lengths fit. -/
structure Mem.Ok (M : Mem) : Prop where
  half : -9223372036854775808 ≤ M.half ∧ M.half ≤ 9223372036854775807
  old : -9223372036854775808 ≤ M.old ∧ M.old ≤ 9223372036854775807
  card : -9223372036854775808 ≤ M.card ∧ M.card ≤ 9223372036854775807
  used : -9223372036854775808 ≤ M.used ∧ M.used ≤ 9223372036854775807
  top : -9223372036854775808 ≤ M.top ∧ M.top ≤ 9223372036854775807
  oldTop : -9223372036854775808 ≤ M.oldTop ∧ M.oldTop ≤ 9223372036854775807
  W : ∀ x ∈ M.W, 0 ≤ x ∧ x ≤ 18446744073709551615
  roots : ∀ x ∈ M.roots, 0 ≤ x ∧ x ≤ 18446744073709551615
  weak : ∀ x ∈ M.weak, 0 ≤ x ∧ x ≤ 18446744073709551615
  ids : ∀ x ∈ M.ids, (0 ≤ x.1 ∧ x.1 ≤ 18446744073709551615) ∧ (-9223372036854775808 ≤ x.2 ∧ x.2 ≤ 9223372036854775807)
  lenW : M.W.length ≤ 9223372036854775807
  lenR : M.roots.length ≤ 9223372036854775807
  lenK : M.weak.length ≤ 9223372036854775807
  lenI : M.ids.length ≤ 9223372036854775807
  lenC : M.cards.length ≤ 9223372036854775807

/-- Words, pairs, bools as cells. -/
def wcells (l : List Int) : List Value := l.map fun x => Value.int .u64 x
def icells (l : List (Int × Int)) : List Value := l.flatMap fun x => [Value.int .u64 x.1, Value.int .i64 x.2]
def bcells (l : List Bool) : List Value := l.map fun x => Value.bool x

/-- The address of a slice reads as these cells. -/
def RSl (w : World) (a : Option Addr) (cs : List Value) : Prop :=
  ∀ j u, cs[j]? = some u → ∃ b off, a = some ⟨b, off, none⟩ ∧ w.cell? ⟨b, off + j, none⟩ = some u
theorem RSl.ext {w w' : World} {a : Option Addr} {cs : List Value} (h : RSl w a cs) (hx : Ext w w') : RSl w' a cs := fun j u hu => by
  obtain ⟨b, off, ha, hc⟩ := h j u hu
  exact ⟨b, off, ha, hx.cell_ hc⟩
theorem RSl.nil (w : World) (a : Option Addr) : RSl w a [] := fun j u h => by simp at h
/-- The cell at an index, in the walk's spelling. -/
theorem RSl.at_ {w : World} {b off : Nat} {cs : List Value} (h : RSl w (some ⟨b, off, none⟩) cs) {j : Nat} {u : Value} (hu : cs[j]? = some u) : w.cell? ⟨b, off + j, none⟩ = some u := by
  obtain ⟨b', off', ha, hc⟩ := h j u hu
  injection ha with ha; injection ha with h1 h2
  subst h1 h2; exact hc
theorem RSl.some_ {w : World} {a : Option Addr} {cs : List Value} (h : RSl w a cs) (hn : 0 < cs.length) : ∃ b off, a = some ⟨b, off, none⟩ := by
  obtain ⟨b, off, ha, _⟩ := h 0 cs[0] (by simp [hn])
  exact ⟨b, off, ha⟩

/-- Where a memory's slices lie: address and capacity. -/
structure Sls where
  W : Option Addr × Nat
  R : Option Addr × Nat
  K : Option Addr × Nat
  I : Option Addr × Nat
  C : Option Addr × Nat

/-- A world holds a memory at a place. -/
structure RMem (w : World) (b o : Nat) (M : Mem) (S : Sls) : Prop where
  half : w.cell? ⟨b, o, none⟩ = some (.int .i64 M.half)
  old : w.cell? ⟨b, o + 1, none⟩ = some (.int .i64 M.old)
  card : w.cell? ⟨b, o + 2, none⟩ = some (.int .i64 M.card)
  W : w.cell? ⟨b, o + 3, none⟩ = some (.slice S.W.1 M.W.length S.W.2)
  used : w.cell? ⟨b, o + 4, none⟩ = some (.int .i64 M.used)
  top : w.cell? ⟨b, o + 5, none⟩ = some (.int .i64 M.top)
  oldTop : w.cell? ⟨b, o + 6, none⟩ = some (.int .i64 M.oldTop)
  roots : w.cell? ⟨b, o + 7, none⟩ = some (.slice S.R.1 M.roots.length S.R.2)
  weak : w.cell? ⟨b, o + 8, none⟩ = some (.slice S.K.1 M.weak.length S.K.2)
  ids : w.cell? ⟨b, o + 9, none⟩ = some (.slice S.I.1 M.ids.length S.I.2)
  cards : w.cell? ⟨b, o + 10, none⟩ = some (.slice S.C.1 M.cards.length S.C.2)
  rW : RSl w S.W.1 (wcells M.W)
  rR : RSl w S.R.1 (wcells M.roots)
  rK : RSl w S.K.1 (wcells M.weak)
  rI : RSl w S.I.1 (icells M.ids)
  rC : RSl w S.C.1 (bcells M.cards)
  capW : M.W.length ≤ S.W.2
  capR : M.roots.length ≤ S.R.2
  capK : M.weak.length ≤ S.K.2
  capI : M.ids.length ≤ S.I.2
  capC : M.cards.length ≤ S.C.2
  nilW : S.W.1 = none → S.W.2 = 0
  nilR : S.R.1 = none → S.R.2 = 0
  nilK : S.K.1 = none → S.K.2 = 0
  nilI : S.I.1 = none → S.I.2 = 0
  nilC : S.C.1 = none → S.C.2 = 0
  ok : M.Ok

theorem RMem.ext {w w' : World} {b o : Nat} {M : Mem} {S : Sls} (h : RMem w b o M S) (hx : Ext w w') : RMem w' b o M S :=
  ⟨hx.cell_ h.half, hx.cell_ h.old, hx.cell_ h.card, hx.cell_ h.W, hx.cell_ h.used, hx.cell_ h.top, hx.cell_ h.oldTop, hx.cell_ h.roots, hx.cell_ h.weak, hx.cell_ h.ids, hx.cell_ h.cards,
    h.rW.ext hx, h.rR.ext hx, h.rK.ext hx, h.rI.ext hx, h.rC.ext hx, h.capW, h.capR, h.capK, h.capI, h.capC, h.nilW, h.nilR, h.nilK, h.nilI, h.nilC, h.ok⟩
theorem RMem.lt {w : World} {b o : Nat} {M : Mem} {S : Sls} (h : RMem w b o M S) : b < w.heap.size := cell_lt h.half

/-- Is a number between two others? -/
def inR (a lo hi : Int) : Bool := decide (lo ≤ a) && decide (a ≤ hi)
theorem inR_true {a lo hi : Int} : inR a lo hi = true ↔ lo ≤ a ∧ a ≤ hi := by simp [inR]
theorem inR_false {a lo hi : Int} : inR a lo hi = false ↔ ¬ (lo ≤ a ∧ a ≤ hi) := by
  rw [← inR_true]; cases inR a lo hi <;> simp

/-- Lengths and tops are right. -/
def shapeB (M : Mem) : Bool :=
  inR M.half 1 65536 && inR M.old 1 65536 && inR M.card 1 1024 && ((M.W.length : Int) == 2 * M.half + M.old) && inR M.used 0 1 && inR M.top 0 M.half && inR M.oldTop 0 M.old && ((M.cards.length : Int) == (M.old + M.card - 1) / M.card)
end Go.Proofs.YtecbbbaafcoliaaDoor
/- append of whatever slice onto a row of the call's own: as a step of a region that draws, and at a plain region's list. Over any program. -/
namespace Go.Proofs.YtecbbbaafcoliaaDoor
open Go.RowKit
set_option linter.unusedVariables false
set_option linter.unusedSimpArgs false

section
variable {P : Program} {w : World}

theorem run_append_src (t ty : TypeId) (base : Nat) (e : TypeId) (i : TypeInfo) (z : Value) (size bytes : Nat) (ht : P.underlying t = some (.slice e)) (hi : P.info? e = some i) (hz : i.zero = some z)
    (hsize : i.size = size) (hby : i.bytes = bytes) (hzs : z.cells.size = size) (hsz : 0 < size)
    (v : Value) (n : Nat) (xs : List Value) (hown : w.ownsRow base e size v n xs)
    (ad : Option Addr) (m c : Nat) (news : List Value) (hnil : ad = none → c = 0) (hmc : m ≤ c) (hl : news.length = m * size) (hR : RSl w ad news) (h1 : ∀ u ∈ news, u.oneCell' = true)
    (h63 : n + m ≤ maxLen) (hbytes : (n + m) * bytes ≤ 140737488355328) (hbase : base ≤ w.heap.size) :
    ∃ a' c' w', (Builtin.append_ #[t, t] ty #[v, .slice ad m c]).run P w = .ok (.slice a' (n + m) c') w' ∧
      w'.ownsRow base e size (.slice a' (n + m) c') (n + m) (xs ++ news) ∧ w.grownBy w' v.ownBlock ∧ ((Value.slice a' (n + m) c').ownBlock = v.ownBlock ∨ (Value.slice a' (n + m) c').ownBlock = some w.heap.size) := by
  cases ad with
  | none =>
    obtain rfl := hnil rfl
    obtain rfl : m = 0 := by omega
    obtain rfl : news = [] := List.eq_nil_of_length_eq_zero (by simpa using hl)
    have hr := run_append_owned_none (P := P) (w := w) base t ty e i size ht hi v n xs hown
    have hv : ∃ a' c', v = .slice a' n c' := by
      rcases hown.2 with ⟨rfl, rfl⟩ | ⟨g, cap, cur, rfl, _⟩
      · exact ⟨_, _, rfl⟩
      · exact ⟨_, _, rfl⟩
    obtain ⟨a', c', rfl⟩ := hv
    exact ⟨a', c', w, hr, by simpa using hown, ⟨rfl, rfl, rfl, Nat.le_refl _, fun _ _ _ => rfl⟩, Or.inl rfl⟩
  | some p =>
    have hnews : ∀ j u, news[j]? = some u → w.cell? (p.add j) = some u := fun j u hu => by
      obtain ⟨b, off, hp, hc⟩ := hR j u hu
      injection hp with hp
      subst hp
      have e : (⟨b, off, none⟩ : Addr).add j = ⟨b, off + j, none⟩ := by unfold Addr.add; split <;> simp_all
      rw [e]; exact hc
    obtain ⟨v', w', hr, h2, h3, _, h5⟩ := run_append_own_at (P := P) w base t ty e i z size bytes ht hi hz hsize hby hzs hsz v n xs hown p m c news hl hnews h1 h63 hbytes hbase
    have hv : ∃ a' c', v' = .slice a' (n + m) c' := by
      rcases h2.2 with ⟨rfl, h0⟩ | ⟨g, cap, cur, rfl, _⟩
      · rw [h0]; exact ⟨_, _, rfl⟩
      · exact ⟨_, _, rfl⟩
    obtain ⟨a', c', rfl⟩ := hv
    exact ⟨a', c', w', hr, h2, h3, h5⟩

theorem wp_append_src {o : Oper} {a : Act} {K : Act → World → Prop} {Q : Exit → Act → World → Prop} (s x : Operand) (t : TypeId)
    (ho : o.op = .call { callee := .builtin .append, args := #[s, x], argTypes := #[t, t] })
    (base : Nat) (e : TypeId) (i : TypeInfo) (z : Value) (size bytes : Nat) (ht : P.underlying t = some (.slice e)) (hi : P.info? e = some i) (hz : i.zero = some z)
    (hsize : i.size = size) (hby : i.bytes = bytes) (hzs : z.cells.size = size) (hsz : 0 < size)
    (v : Value) (n : Nat) (xs : List Value) (hs : a.eval s = v) (hown : w.ownsRow base e size v n xs)
    (ad : Option Addr) (m c : Nat) (news : List Value) (hx : a.eval x = .slice ad m c) (hnil : ad = none → c = 0) (hmc : m ≤ c) (hl : news.length = m * size) (hR : RSl w ad news) (h1 : ∀ u ∈ news, u.oneCell' = true)
    (h63 : n + m ≤ maxLen) (hbytes : (n + m) * bytes ≤ 140737488355328) (hbase : base ≤ w.heap.size)
    (h : ∀ a' c' w', w'.ownsRow base e size (.slice a' (n + m) c') (n + m) (xs ++ news) → w.grownBy w' v.ownBlock → ((Value.slice a' (n + m) c').ownBlock = v.ownBlock ∨ (Value.slice a' (n + m) c').ownBlock = some w.heap.size) →
      K (a.put o.dst (.slice a' (n + m) c')) w') : o.wp P a w K Q := by
  obtain ⟨a', c', w', hr, h2, h3, h4⟩ := run_append_src (P := P) (w := w) t o.type base e i z size bytes ht hi hz hsize hby hzs hsz v n xs hown ad m c news hnil hmc hl hR h1 h63 hbytes hbase
  unfold Oper.wp execOp
  simp only [ho, resolve, invoke, builtin, Sem.run_bind, Sem.run_pure, Result.andThen_ok, List.map_toArray, List.map_cons, List.map_nil, hs, hx, hr]
  exact h a' c' w' h2 h3 h4

theorem wpList_append_src {ops : Array Oper} {rest : List Oper} {o : Oper} {a : Act} {Q : Exit → Act → World → Prop} (hgd : o.guard = none) (s x : Operand) (t : TypeId)
    (ho : o.op = .call { callee := .builtin .append, args := #[s, x], argTypes := #[t, t] })
    (base : Nat) (e : TypeId) (i : TypeInfo) (z : Value) (size bytes : Nat) (ht : P.underlying t = some (.slice e)) (hi : P.info? e = some i) (hz : i.zero = some z)
    (hsize : i.size = size) (hby : i.bytes = bytes) (hzs : z.cells.size = size) (hsz : 0 < size)
    (v : Value) (n : Nat) (xs : List Value) (hs : a.eval s = v) (hown : w.ownsRow base e size v n xs)
    (ad : Option Addr) (m c : Nat) (news : List Value) (hx : a.eval x = .slice ad m c) (hnil : ad = none → c = 0) (hmc : m ≤ c) (hl : news.length = m * size) (hR : RSl w ad news) (h1 : ∀ u ∈ news, u.oneCell' = true)
    (h63 : n + m ≤ maxLen) (hbytes : (n + m) * bytes ≤ 140737488355328) (hbase : base ≤ w.heap.size)
    (h : ∀ a' c' w', w'.ownsRow base e size (.slice a' (n + m) c') (n + m) (xs ++ news) → w.grownBy w' v.ownBlock → ((Value.slice a' (n + m) c').ownBlock = v.ownBlock ∨ (Value.slice a' (n + m) c').ownBlock = some w.heap.size) →
      wpList P ops Q rest (a.put o.dst (.slice a' (n + m) c')) w') : wpList P ops Q (o :: rest) a w :=
  wpList_plain hgd fun _ hK => wp_append_src s x t ho base e i z size bytes ht hi hz hsize hby hzs hsz v n xs hs hown ad m c news hx hnil hmc hl hR h1 h63 hbytes hbase fun a' c' w' h2 h3 h4 => hK _ _ (h a' c' w' h2 h3 h4)

theorem step_append_src {ops : Array Oper} {o : Oper} {a : Act} {K : Act → World → Prop} {Q : Exit → Act → World → Prop} {E : Prop} (hgd : o.guard = none) (s x : Operand) (t : TypeId)
    (ho : o.op = .call { callee := .builtin .append, args := #[s, x], argTypes := #[t, t] })
    (base : Nat) (e : TypeId) (i : TypeInfo) (z : Value) (size bytes : Nat) (ht : P.underlying t = some (.slice e)) (hi : P.info? e = some i) (hz : i.zero = some z)
    (hsize : i.size = size) (hby : i.bytes = bytes) (hzs : z.cells.size = size) (hsz : 0 < size)
    (v : Value) (n : Nat) (xs : List Value) (hs : a.eval s = v) (hown : w.ownsRow base e size v n xs)
    (ad : Option Addr) (m c : Nat) (news : List Value) (hx : a.eval x = .slice ad m c) (hnil : ad = none → c = 0) (hmc : m ≤ c) (hl : news.length = m * size) (hR : RSl w ad news) (h1 : ∀ u ∈ news, u.oneCell' = true)
    (h63 : n + m ≤ maxLen) (hbytes : (n + m) * bytes ≤ 140737488355328) (hbase : base ≤ w.heap.size)
    (h : ∀ a' c' w', w'.ownsRow base e size (.slice a' (n + m) c') (n + m) (xs ++ news) → w.grownBy w' v.ownBlock → ((Value.slice a' (n + m) c').ownBlock = v.ownBlock ∨ (Value.slice a' (n + m) c').ownBlock = some w.heap.size) →
      K (a.put o.dst (.slice a' (n + m) c')) w') : if Region.wanted o (yielded ops a.tmps) = true then Oper.wp P o a w K Q else E := by
  have hw : Region.wanted o (yielded ops a.tmps) = true := by simp [Region.wanted, hgd]
  rw [if_pos hw]
  exact wp_append_src s x t ho base e i z size bytes ht hi hz hsize hby hzs hsz v n xs hs hown ad m c news hx hnil hmc hl hR h1 h63 hbytes hbase h
end
end Go.Proofs.YtecbbbaafcoliaaDoor
/- Objects of a memory, plainly: what a part of the words holds. -/
namespace Go.Proofs.YtecbbbaafcoliaaDoor

/-- The word at a place. -/
def wat (W : List Int) (i : Nat) : Int := W.getD i 0
/-- An object: where it is, its header. -/
structure Ob where
  a : Nat
  w : Int
/-- How many fields it has. -/
def Ob.n (o : Ob) : Nat := (hSize o.w).toNat

/-- The objects of a part; false: they do not just fill it. -/
def objs (W : List Int) (to : Nat) : Nat → Nat → List Ob × Bool
  | 0, _ => ([], true)
  | f + 1, a =>
    if a < to then
      if isHd (wat W a) && decide (a + 1 + (hSize (wat W a)).toNat ≤ to) then
        (⟨a, wat W a⟩ :: (objs W to f (a + 1 + (hSize (wat W a)).toNat)).1, (objs W to f (a + 1 + (hSize (wat W a)).toNat)).2)
      else ([], false)
    else ([], true)
def part (W : List Int) (a to : Nat) : List Ob × Bool := objs W to (to - a) a

theorem objs_fuel (W : List Int) (to : Nat) : ∀ f g a : Nat, to - a ≤ f → to - a ≤ g → objs W to f a = objs W to g a
  | 0, 0, _, _, _ => rfl
  | 0, g + 1, a, h, _ => by
    have h1 : ¬ a < to := by omega
    simp [objs, h1]
  | f + 1, 0, a, _, h => by
    have h1 : ¬ a < to := by omega
    simp [objs, h1]
  | f + 1, g + 1, a, h1, h2 => by
    unfold objs
    split
    · split
      · rw [objs_fuel W to f g _ (by omega) (by omega)]
      · rfl
    · rfl
theorem part_done (W : List Int) (a to : Nat) (h : to ≤ a) : part W a to = ([], true) := by
  unfold part
  rw [show to - a = 0 by omega]; rfl
theorem part_bad (W : List Int) (a to : Nat) (h : a < to) (hb : (isHd (wat W a) && decide (a + 1 + (hSize (wat W a)).toNat ≤ to)) = false) : part W a to = ([], false) := by
  unfold part
  obtain ⟨k, hk⟩ : ∃ k, to - a = k + 1 := ⟨to - a - 1, by omega⟩
  rw [hk, objs, if_pos h, hb]; rfl
theorem part_next (W : List Int) (a to : Nat) (h1 : isHd (wat W a) = true) (h2 : a + 1 + (hSize (wat W a)).toNat ≤ to) :
    part W a to = (⟨a, wat W a⟩ :: (part W (a + 1 + (hSize (wat W a)).toNat) to).1, (part W (a + 1 + (hSize (wat W a)).toNat) to).2) := by
  unfold part
  obtain ⟨k, hk⟩ : ∃ k, to - a = k + 1 := ⟨to - a - 1, by omega⟩
  rw [hk, objs, if_pos (by omega), h1, decide_eq_true h2]
  simp only [Bool.and_self, if_true]
  rw [objs_fuel W to k (to - (a + 1 + (hSize (wat W a)).toNat)) _ (by omega) (by omega)]

/-- An object that lies in the words, within a part. -/
structure ObIn (W : List Int) (lo to : Nat) (o : Ob) : Prop where
  w : o.w = wat W o.a
  hd : isHd o.w = true
  lo : lo ≤ o.a
  to : o.a + 1 + o.n ≤ to
theorem objs_in (W : List Int) (to : Nat) : ∀ (f a : Nat) (o : Ob), o ∈ (objs W to f a).1 → ObIn W a to o
  | 0, a, o, h => by simp [objs] at h
  | f + 1, a, o, h => by
    unfold objs at h
    split at h
    · split at h
      · rename_i h1 h2
        simp only [Bool.and_eq_true, decide_eq_true_eq] at h2
        simp only [List.mem_cons] at h
        rcases h with rfl | h
        · exact ⟨rfl, h2.1, Nat.le_refl _, h2.2⟩
        · have := objs_in W to f _ o h
          exact ⟨this.w, this.hd, by have := this.lo; omega, this.to⟩
      · simp at h
    · simp at h
theorem part_in {W : List Int} {a to : Nat} {o : Ob} (h : o ∈ (part W a to).1) : ObIn W a to o := objs_in W to _ a o h
end Go.Proofs.YtecbbbaafcoliaaDoor
/- What a step may turn: the world but for some blocks. What a set of addresses is as a map. -/
namespace Go.Proofs.YtecbbbaafcoliaaDoor
open Go.RowKit
set_option linter.unusedVariables false
set_option linter.unusedSimpArgs false

/-- The world as it was, but for blocks of L and new ones. -/
structure Keep (L : Nat → Prop) (w w' : World) : Prop where
  os : w'.os = w.os
  tape : w'.tape = w.tape
  output : w'.output = w.output
  size : w.heap.size ≤ w'.heap.size
  block : ∀ k, k < w.heap.size → ¬ L k → w'.heap[k]? = w.heap[k]?

theorem Keep.refl (L : Nat → Prop) (w : World) : Keep L w w := ⟨rfl, rfl, rfl, Nat.le_refl _, fun _ _ _ => rfl⟩
theorem Keep.trans {L : Nat → Prop} {a b c : World} (h : Keep L a b) (k : Keep L b c) : Keep L a c :=
  ⟨k.os.trans h.os, k.tape.trans h.tape, k.output.trans h.output, Nat.le_trans h.size k.size, fun i hi hl => (k.block i (Nat.lt_of_lt_of_le hi h.size) hl).trans (h.block i hi hl)⟩
/-- A later step may turn whatever is new, too. -/
theorem Keep.then_ {L L' : Nat → Prop} {a b c : World} (h : Keep L a b) (k : Keep L' b c) (hl : ∀ i, i < a.heap.size → L' i → L i) : Keep L a c :=
  ⟨k.os.trans h.os, k.tape.trans h.tape, k.output.trans h.output, Nat.le_trans h.size k.size, fun i hi hn => (k.block i (Nat.lt_of_lt_of_le hi h.size) (fun e => hn (hl i hi e))).trans (h.block i hi hn)⟩
theorem Keep.of_ext {L : Nat → Prop} {w w' : World} (h : Ext w w') : Keep L w w' := ⟨h.os, h.tape, h.output, h.size, fun k hk _ => h.block k hk⟩
theorem Keep.ext_ {L : Nat → Prop} {a b c : World} (h : Keep L a b) (k : Ext b c) : Keep L a c := h.trans (Keep.of_ext k)
theorem Keep.alloc_ {L : Nat → Prop} {a b : World} (h : Keep L a b) (o : Obj) : Keep L a (b.alloc o) := h.ext_ ((Ext.refl b).alloc_ o)
theorem Keep.drew_ {L : Nat → Prop} {a b : World} (h : Keep L a b) : Keep L a b.drew := h.ext_ (Ext.refl b).drew_
theorem Keep.drewN_ {L : Nat → Prop} {a b : World} (h : Keep L a b) (n : Nat) : Keep L a (b.drewN n) := h.ext_ (ext_drewN b n)
theorem Keep.set_ {L : Nat → Prop} {a b : World} (h : Keep L a b) {p : Addr} (hp : L p.block ∨ a.heap.size ≤ p.block) (u : Value) : Keep L a (b.setCell p u) :=
  ⟨h.os, h.tape, h.output, by simpa [World.setCell] using h.size, fun k hk hl => by
    rw [Below.heap_setCell _ _ _ _ (fun e => by subst e; rcases hp with hp | hp; exact hl hp; omega)]
    exact h.block k hk hl⟩
theorem Keep.of_but {w w' : World} {b : Nat} (h : But b w w') : Keep (· = b) w w' := ⟨h.os, h.tape, h.output, Nat.le_of_eq h.size.symm, fun k _ hl => h.block k hl⟩
theorem Keep.of_grown {L : Nat → Prop} {w w' : World} {row : Option Nat} (h : w.grownBy w' row) (hr : ∀ k, row = some k → L k ∨ w.heap.size ≤ k) : Keep L w w' :=
  ⟨h.os, h.tape, h.output, h.size, fun k hk hl => h.block k hk (fun e => by rcases hr k e.symm with g | g; exact hl g; omega)⟩
theorem Keep.below {L : Nat → Prop} {w w' : World} {B : Nat} (h : Keep L w w') (hB : B ≤ w.heap.size) (hl : ∀ k, k < B → ¬ L k) : Below B w w' :=
  ⟨h.os, h.tape, h.output, h.size, fun k hk => h.block k (by omega) (hl k hk)⟩
theorem Ext.keep {L : Nat → Prop} {a b c : World} (h : Ext a b) (k : Keep L b c) (hl : ∀ i, L i → a.heap.size ≤ i) : Ext a c :=
  Below.trans h (k.below h.size fun i hi e => by have := hl i e; omega)
theorem Keep.cell {L : Nat → Prop} {w w' : World} (h : Keep L w w') {p : Addr} {v : Value} (hp : ¬ L p.block) (hc : w.cell? p = some v) : w'.cell? p = some v := by
  rw [World.cell?_of_block (w := w) (h.block p.block (cell_lt hc) hp)]; exact hc
theorem Keep.frozen {L : Nat → Prop} {w w' : World} (h : Keep L w w') {p : Addr} (hp : ¬ L p.block) (hlt : p.block < w.heap.size) : w'.frozen? p = w.frozen? p :=
  World.frozen?_of_block (w := w) (h.block p.block hlt hp)
theorem MapI.keep {L : Nat → Prop} {w w' : World} {b : Nat} {q : IntKind} {es : List (Int × Value)} (h : MapI w b q es) (k : Keep L w w') (hb : ¬ L b) : MapI w' b q es :=
  h.of_block (k.block b h.lt hb)
theorem RSl.keep {L : Nat → Prop} {w w' : World} {a : Option Addr} {cs : List Value} (h : RSl w a cs) (k : Keep L w w') (hl : ∀ x, a = some x → ¬ L x.block) : RSl w' a cs := fun j u hu => by
  obtain ⟨b, off, ha, hc⟩ := h j u hu
  exact ⟨b, off, ha, k.cell (p := ⟨b, off + j, none⟩) (hl ⟨b, off, none⟩ ha) hc⟩

/-- A map that bears true at these keys, and nothing else. -/
def SMap (w : World) (b : Nat) (q : IntKind) (st : List Int) : Prop :=
  ∃ es, MapI w b q es ∧ ∀ k : Int, mget es k = if st.contains k = true then some (.bool true) else none
theorem SMap.keep {L : Nat → Prop} {w w' : World} {b : Nat} {q : IntKind} {st : List Int} (h : SMap w b q st) (k : Keep L w w') (hb : ¬ L b) : SMap w' b q st := by
  obtain ⟨es, hm, hg⟩ := h
  exact ⟨es, hm.keep k hb, hg⟩
theorem SMap.ext {w w' : World} {b : Nat} {q : IntKind} {st : List Int} (h : SMap w b q st) (k : Ext w w') : SMap w' b q st := by
  obtain ⟨es, hm, hg⟩ := h
  exact ⟨es, hm.ext k, hg⟩
theorem SMap.lt {w : World} {b : Nat} {q : IntKind} {st : List Int} (h : SMap w b q st) : b < w.heap.size := by
  obtain ⟨es, hm, _⟩ := h
  exact hm.lt
theorem SMap.made (w : World) (q : IntKind) : SMap (w.alloc (.map #[] 0)) w.heap.size q [] := ⟨[], MapI.made w q, fun k => by simp [mget]⟩
theorem SMap.put {w' : World} {b : Nat} {q : IntKind} {es : List (Int × Value)} {st : List Int} (a : Int) (hg : ∀ k : Int, mget es k = if st.contains k = true then some (.bool true) else none)
    (h : MapI w' b q (mput es a (.bool true))) : SMap w' b q (st ++ [a]) :=
  ⟨_, h, fun k => by
    by_cases e : k = a
    · subst e; rw [mget_mput_same]; simp
    · rw [mget_mput_other _ _ _ _ e, hg k]
      have : (k == a) = false := by simpa using e
      simp [List.contains_eq_any_beq, this, e]⟩

/-- A slice expression over words, whatever world: where the part lies, and what it reads as. -/
theorem run_part {P : Program} {t e : TypeId} (ht : P.underlying t = some (.slice e)) (hz : ∀ w, (sizeOf e).run P w = .ok 1 w) (b off len cap l h : Nat) (i j : Int) (hi : i = (l : Int)) (hj : j = (h : Int)) (hl : l ≤ h) (hh : h ≤ cap) :
    ∃ A C, (∀ w' : World, (Instr.slice t (.slice (some ⟨b, off, none⟩) len cap) (some (.int .i64 i)) (some (.int .i64 j)) none).run P w' = .ok (.slice A (h - l) C) w') ∧ h - l ≤ C ∧ A ≠ none ∧
      ∀ (w : World) (cs : List Value), RSl w (some ⟨b, off, none⟩) cs → RSl w A ((cs.drop l).take (h - l)) := by
  have he : P.elem t = e := by simp [Program.elem, ht]
  have ht' : P.underlying t = some (.slice (P.elem t)) := by rw [he]; exact ht
  refine ⟨if cap = l then some ⟨b, off, none⟩ else some ⟨b, off + l, none⟩, cap - l, fun w' => ?_, by omega, ?_, fun w cs hR => ?_⟩
  · subst hi hj
    rw [run_slice_lh w' t (some ⟨b, off, none⟩) len cap ht' .i64 .i64 (l : Int) (h : Int) (by omega) (by omega) (by omega), he, hz]
    simp [Result.andThen, sliced, Addr.add]
    split
    · rfl
    · split
      · rename_i h0; subst h0; simp
      · rfl
  · split <;> simp
  · split
    · have : h - l = 0 := by omega
      rw [this, List.take_zero]
      exact RSl.nil _ _
    · intro k u hu
      rw [List.getElem?_take] at hu
      split at hu
      · rw [List.getElem?_drop] at hu
        obtain ⟨b', off', ha, hc⟩ := hR _ _ hu
        injection ha with ha
        injection ha with h1 h2
        subst h1 h2
        exact ⟨b, off + l, rfl, by rw [show off + l + k = off + (l + k) by omega]; exact hc⟩
      · cases hu

/-- Shape facts, for the walks. -/
structure Shp (M : Mem) : Prop where
  h1 : 1 ≤ M.half
  h2 : M.half ≤ 65536
  o1 : 1 ≤ M.old
  o2 : M.old ≤ 65536
  c1 : 1 ≤ M.card
  c2 : M.card ≤ 1024
  w : (M.W.length : Int) = 2 * M.half + M.old
  u1 : 0 ≤ M.used
  u2 : M.used ≤ 1
  t1 : 0 ≤ M.top
  t2 : M.top ≤ M.half
  p1 : 0 ≤ M.oldTop
  p2 : M.oldTop ≤ M.old
  cl : (M.cards.length : Int) = (M.old + M.card - 1) / M.card
theorem shp_of {M : Mem} (h : shapeB M = true) : Shp M := by
  simp only [shapeB, Bool.and_eq_true, inR_true, beq_iff_eq] at h
  obtain ⟨⟨⟨⟨⟨⟨⟨⟨a1, a2⟩, b1, b2⟩, c1, c2⟩, d⟩, e1, e2⟩, f1, f2⟩, g1, g2⟩, k⟩ := h
  exact ⟨a1, a2, b1, b2, c1, c2, d, e1, e2, f1, f2, g1, g2, k⟩
/-- Where the half in use begins. -/
def Mem.base (M : Mem) : Nat := (M.used * M.half).toNat
theorem Shp.base {M : Mem} (h : Shp M) : M.used * M.half = (M.base : Int) ∧ 0 ≤ M.used * M.half ∧ M.used * M.half ≤ M.half := by
  obtain ⟨h1, h2, _, _, _, _, _, u1, u2, _, _, _, _, _⟩ := h
  have hu : M.used = 0 ∨ M.used = 1 := by omega
  unfold Mem.base
  rcases hu with e | e <;> rw [e] <;> omega
/-- The card of a place in the old space. -/
theorem Shp.card {M : Mem} (h : Shp M) (a : Int) (h1 : 2 * M.half ≤ a) (h2 : a < 2 * M.half + M.old) :
    0 ≤ (a - 2 * M.half) / M.card ∧ (a - 2 * M.half) / M.card < (M.cards.length : Int) := by
  have c1 := h.c1
  rw [h.cl]
  refine ⟨Int.ediv_nonneg (by omega) (by omega), ?_⟩
  have h3 : (a - 2 * M.half) / M.card ≤ (M.old - 1) / M.card := Int.ediv_le_ediv (by omega) (by omega)
  have h4 : (M.old + M.card - 1) / M.card = (M.old - 1) / M.card + 1 := by
    rw [show M.old + M.card - 1 = (M.old - 1) + 1 * M.card by omega, Int.add_mul_ediv_right _ _ (by omega)]
  omega
end Go.Proofs.YtecbbbaafcoliaaDoor
/- A memory of the call's own: its cells and rows, of which none lies over another; what a step does to it. -/
namespace Go.Proofs.YtecbbbaafcoliaaDoor
open Go.RowKit
set_option linter.unusedVariables false
set_option linter.unusedSimpArgs false

/-- A field that is a slice: where it stands, its elements' type and size, its value, its cells. -/
structure Fld where
  off : Nat
  e : TypeId
  size : Nat
  a : Option Addr
  n : Nat
  c : Nat
  cs : List Value
def Fld.val (f : Fld) : Value := .slice f.a f.n f.c
structure OM (w : World) (B b : Nat) (nums : List (Nat × Int)) (L : List Fld) : Prop where
  hb : B ≤ b
  blk : ∃ cur t, w.heap[b]? = some (.cells cur t (0, 0))
  num : ∀ p ∈ nums, w.cell? ⟨b, p.1, none⟩ = some (.int .i64 p.2)
  fld : ∀ f ∈ L, w.cell? ⟨b, f.off, none⟩ = some f.val ∧ w.ownsRow B f.e f.size f.val f.n f.cs ∧ f.val.ownBlock ≠ some b
  apart : L.Pairwise fun f g => ∀ k, f.val.ownBlock = some k → g.val.ownBlock ≠ some k
  offs : (nums.map (·.1) ++ L.map (·.off)).Nodup

theorem OM.lt {w : World} {B b : Nat} {nums : List (Nat × Int)} {L : List Fld} (h : OM w B b nums L) : b < w.heap.size := by
  obtain ⟨cur, t, hc⟩ := h.blk
  rcases Nat.lt_or_ge b w.heap.size with g | g
  · exact g
  · simp [Array.getElem?_eq_none g] at hc
theorem OM.frozen {w : World} {B b : Nat} {nums : List (Nat × Int)} {L : List Fld} (h : OM w B b nums L) (j : Nat) : w.frozen? ⟨b, j, none⟩ = false := by
  obtain ⟨cur, t, hc⟩ := h.blk
  simp [World.frozen?, hc]
/-- A step that leaves all its blocks alone. -/
theorem OM.kept {w w' : World} {B b : Nat} {nums : List (Nat × Int)} {L : List Fld} (h : OM w B b nums L) (hk : ∀ k, k < w.heap.size → (k = b ∨ ∃ f ∈ L, f.val.ownBlock = some k) → w'.heap[k]? = w.heap[k]?) : OM w' B b nums L := by
  have hbk : w'.heap[b]? = w.heap[b]? := hk b h.lt (Or.inl rfl)
  refine ⟨h.hb, ?_, fun p hp => ?_, fun f hf => ⟨?_, ?_, (h.fld f hf).2.2⟩, h.apart, h.offs⟩
  · rw [hbk]; exact h.blk
  · rw [World.cell?_of_block (w := w) (a := ⟨b, p.1, none⟩) hbk]; exact h.num p hp
  · rw [World.cell?_of_block (w := w) (a := ⟨b, f.off, none⟩) hbk]; exact (h.fld f hf).1
  · obtain ⟨h1, h2⟩ := (h.fld f hf).2.1
    refine ⟨h1, ?_⟩
    rcases h2 with h2 | ⟨g, cap, cur, hv, hg, hh, r⟩
    · exact Or.inl h2
    · refine Or.inr ⟨g, cap, cur, hv, hg, ?_, r⟩
      rw [hk g (((h.fld f hf).2.1.lt g (by rw [hv]; rfl)).2) (Or.inr ⟨f, hf, by rw [hv]; rfl⟩)]
      exact hh
theorem OM.ext {w w' : World} {B b : Nat} {nums : List (Nat × Int)} {L : List Fld} (h : OM w B b nums L) (hx : Ext w w') : OM w' B b nums L := h.kept fun k hk _ => hx.block k hk
/-- An own row is where it was behind a store elsewhere. -/
theorem own_set {w : World} {B : Nat} {e : TypeId} {size : Nat} {v : Value} {n : Nat} {xs : List Value} (h : w.ownsRow B e size v n xs) {p : Addr} (hp : v.ownBlock ≠ some p.block) (u : Value) : (w.setCell p u).ownsRow B e size v n xs := by
  obtain ⟨h1, h2⟩ := h
  refine ⟨h1, ?_⟩
  rcases h2 with h2 | ⟨g, cap, cur, hv, hg, hh, r⟩
  · exact Or.inl h2
  · refine Or.inr ⟨g, cap, cur, hv, hg, ?_, r⟩
    rw [Below.heap_setCell _ _ _ _ (fun e => hp (by rw [hv]; exact congrArg some e))]
    exact hh
theorem cell_set_same {w : World} {b o : Nat} {x u : Value} (hc : w.cell? ⟨b, o, none⟩ = some x) : (w.setCell ⟨b, o, none⟩ u).cell? ⟨b, o, none⟩ = some u := by
  simp [hc, go_sem]
theorem cell_set_off {w : World} {b o o' : Nat} {u : Value} (h : o ≠ o') : (w.setCell ⟨b, o, none⟩ u).cell? ⟨b, o', none⟩ = w.cell? ⟨b, o', none⟩ :=
  World.cell?_setCell_other w _ _ u (fun e => h (by injection e))
theorem blk_set {w : World} {b o : Nat} {u : Value} (h : ∃ cur t, w.heap[b]? = some (.cells cur t (0, 0))) : ∃ cur t, (w.setCell ⟨b, o, none⟩ u).heap[b]? = some (.cells cur t (0, 0)) := by
  obtain ⟨cur, t, hc⟩ := h
  simp only [World.setCell, Array.getElem?_modify]
  simp [hc]
/-- A FIELD IS FILLED: an append onto the empty field, whose row is new, and the store of it. -/
theorem OM.fill {w w1 : World} {B b : Nat} {nums : List (Nat × Int)} {L1 L2 : List Fld} {f : Fld} (h : OM w B b nums (L1 ++ f :: L2)) (hf : f.a = none) (a' : Option Addr) (n' c' : Nat) (cs' : List Value)
    (hg : w.grownBy w1 none) (ho : w1.ownsRow B f.e f.size (.slice a' n' c') n' cs') (hnew : (Value.slice a' n' c').ownBlock = none ∨ (Value.slice a' n' c').ownBlock = some w.heap.size) :
    OM (w1.setCell ⟨b, f.off, none⟩ (.slice a' n' c')) B b nums (L1 ++ ⟨f.off, f.e, f.size, a', n', c', cs'⟩ :: L2) := by
  have h1 : OM w1 B b nums (L1 ++ f :: L2) := h.kept fun k hk _ => hg.block k hk (by simp)
  have hlt := h.lt
  have hnb : (Value.slice a' n' c').ownBlock ≠ some b := by
    rcases hnew with e | e
    · rw [e]; simp
    · rw [e]; simp; omega
  have hold : ∀ g ∈ L1 ++ f :: L2, ∀ k, g.val.ownBlock = some k → (Value.slice a' n' c').ownBlock ≠ some k := fun g hgm k hk => by
    have := ((h.fld g hgm).2.1.lt k hk).2
    rcases hnew with e | e
    · rw [e]; simp
    · rw [e]; simp; omega
  have hoffs := h.offs
  have hfoff : ∀ p ∈ nums, p.1 ≠ f.off := fun p hp e => by
    rw [List.nodup_append] at hoffs
    exact hoffs.2.2 p.1 (List.mem_map_of_mem hp) f.off (List.mem_map_of_mem (by simp)) e
  have hgoff : ∀ g ∈ L1 ++ L2, g.off ≠ f.off := fun g hgm e => by
    have := (List.nodup_append.1 hoffs).2.1
    simp only [List.map_append, List.map_cons] at this
    rw [List.nodup_append, List.nodup_cons] at this
    rcases List.mem_append.1 hgm with q | q
    · exact this.2.2 g.off (List.mem_map_of_mem q) f.off (by simp) e
    · exact this.2.1.1 (by rw [← e]; exact List.mem_map_of_mem q)
  refine ⟨h.hb, blk_set h1.blk, fun p hp => ?_, fun g hgm => ?_, ?_, ?_⟩
  · rw [cell_set_off (hfoff p hp).symm]; exact h1.num p hp
  · rcases List.mem_append.1 hgm with q | q
    · have q' : g ∈ L1 ++ f :: L2 := List.mem_append_left _ q
      refine ⟨?_, own_set (h1.fld g q').2.1 (h1.fld g q').2.2 _, (h1.fld g q').2.2⟩
      rw [cell_set_off (hgoff g (List.mem_append_left _ q)).symm]; exact (h1.fld g q').1
    · rcases List.mem_cons.1 q with rfl | q
      · exact ⟨cell_set_same (h1.fld f (by simp)).1, own_set ho hnb _, hnb⟩
      · have q' : g ∈ L1 ++ f :: L2 := by simp [q]
        refine ⟨?_, own_set (h1.fld g q').2.1 (h1.fld g q').2.2 _, (h1.fld g q').2.2⟩
        rw [cell_set_off (hgoff g (List.mem_append_right _ q)).symm]; exact (h1.fld g q').1
  · have hp := h.apart
    rw [List.pairwise_append, List.pairwise_cons] at hp ⊢
    obtain ⟨p1, ⟨p2, p3⟩, p4⟩ := hp
    refine ⟨p1, ⟨fun g hgm k hk => ?_, p3⟩, fun g hg1 g' hg' k hk => ?_⟩
    · intro e
      exact hold g (by simp [hgm]) k e hk
    · rcases List.mem_cons.1 hg' with rfl | hg'
      · exact hold g (by simp [hg1]) k hk
      · exact p4 g hg1 g' (by simp [hg']) k hk
  · simpa using hoffs
end Go.Proofs.YtecbbbaafcoliaaDoor
