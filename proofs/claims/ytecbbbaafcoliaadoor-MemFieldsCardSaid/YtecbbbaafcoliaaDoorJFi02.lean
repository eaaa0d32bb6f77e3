/- The walk of word.ToHead. -/
import Derived.Test.YtecbbbaafcoliaaDoorJFi01
import Derived.IntWalk
namespace Go.Proofs.YtecbbbaafcoliaaDoor
open Go.RowKit
set_option linter.unusedVariables false
set_option linter.unusedSimpArgs false

/-- The numbers that ToHead makes of a word. -/
theorem toHead_bits (a : Int) (h0 : 0 ≤ a) (h1 : a ≤ 18446744073709551615) :
    wrap64 (bits .and .u64 (a / 4) 255) = hKind a ∧ wrap64 (bits .and .u64 (a / 1024) 15) = hAge a ∧ wrap64 (bits .and .u64 (a / 16384) 1) = hMark a ∧ wrap64 (bits .and .u64 (a / 65536) 8191) = hSize a % 8192 := by
  rw [and255 _ (by omega) (by omega), and15 _ (by omega) (by omega), and1 _ (by omega) (by omega), and8191 _ (by omega) (by omega)]
  rw [IntWalk.wrap64_in _ (by omega), IntWalk.wrap64_in _ (by omega), IntWalk.wrap64_in _ (by omega), IntWalk.wrap64_in _ (by omega)]
  exact ⟨rfl, rfl, rfl, rfl⟩
theorem toHead_yes (a : Int) (h0 : 0 ≤ a) (h1 : a ≤ 18446744073709551615) (h : isHd a = true) (w : World) :
    Calls Tryd.prog 67 #[.int .u64 a] w fun e w' => e = .returned (.tuple #[.agg #[.int .i64 (hKind a), .int .i64 (hAge a), .int .i64 (hMark a), .int .i64 (hSize a)], .nilIface]) ∧ Ext w w' := by
  obtain ⟨b1, b2, b3, b4⟩ := toHead_bits a h0 h1
  have hin := hd_in a h0
  have hsz : hSize a ≤ 4096 := ((isHd_iff a).1 h).2.2
  have b5 : hSize a % 8192 = hSize a := by omega
  rw [b5] at b4
  have hbk := headW_back a h
  have k1 : inB (hKind a) 255 = true := inB_true.2 (by omega)
  have k2 : inB (hAge a) 15 = true := inB_true.2 (by omega)
  have k3 : inB (hMark a) 1 = true := inB_true.2 (by omega)
  have k4 : inB (hSize a) 4096 = true := inB_true.2 (by omega)
  clear hin hsz b5 h
  go_enter Tryd.func67, Tryd.ntmps67
  go_wp2_with (go_at_call 93; refine (ofHead_yes _ _ _ _ k1 k2 k3 k4 _).mono ?_; rintro e w' ⟨rfl, hb⟩; obtain ⟨hc, hf, hz⟩ := hb.three; simp at hz)
  have q0 : w'.cell? ⟨w.heap.size, 0, none⟩ = some (.int .i64 0) := by rw [hc _ _ (by simp; omega)]; simp [go_sem]
  have q1 : w'.cell? ⟨w.heap.size, 1, none⟩ = some (.int .i64 0) := by rw [hc _ _ (by simp; omega)]; simp [go_sem]
  have q2 : w'.cell? ⟨w.heap.size, 2, none⟩ = some (.int .i64 0) := by rw [hc _ _ (by simp; omega)]; simp [go_sem]
  have q3 : w'.cell? ⟨w.heap.size, 3, none⟩ = some (.int .i64 0) := by rw [hc _ _ (by simp; omega)]; simp [go_sem]
  exact bodyPost_ret (v := .tuple #[.agg #[.int .i64 (hKind a), .int .i64 (hAge a), .int .i64 (hMark a), .int .i64 (hSize a)], .nilIface]) (by simp [results, Tryd.results67, go_sem, q0, q1, q2, q3]) rfl
    ⟨rfl, by repeat (first | exact (((Ext.refl _).alloc_ _).alloc_ _).trans_ hb | refine Ext.set_ ?_ (by simp) _)⟩
set_option maxHeartbeats 1000000 in
theorem toHead_no (a : Int) (h0 : 0 ≤ a) (h1 : a ≤ 18446744073709551615) (h : isHd a = false) (w : World) (b s : Addr) (gb : GBound w b) (gs : GShape w s) :
    Calls Tryd.prog 67 #[.int .u64 a] w fun e w' => e = .returned (.tuple #[.agg #[.int .i64 0, .int .i64 0, .int .i64 0, .int .i64 0], errV s]) ∧ Ext w w' := by
  have hlb := cell_lt gb
  have hls := cell_lt gs
  simp only at hlb hls
  obtain ⟨b1, b2, b3, b4⟩ := toHead_bits a h0 h1
  have hin := hd_in a h0
  have k1 : inB (hKind a) 255 = true := inB_true.2 (by omega)
  have k2 : inB (hAge a) 15 = true := inB_true.2 (by omega)
  have k3 : inB (hMark a) 1 = true := inB_true.2 (by omega)
  by_cases k4 : inB (hSize a % 8192) 4096 = true
  · have hne : headW (hKind a) (hAge a) (hMark a) (hSize a % 8192) ≠ a := fun e => by
      rw [headW_only a e (inB_true.1 k4).2] at h; cases h
    have hne' : (headW (hKind a) (hAge a) (hMark a) (hSize a % 8192) != a) = true := by simpa using hne
    clear hin h hne
    go_enter Tryd.func67, Tryd.ntmps67
    go_wp2_with (go_at_call 93; refine (ofHead_yes _ _ _ _ k1 k2 k3 k4 _).mono ?_; rintro e w' ⟨rfl, hb⟩; obtain ⟨hc, hf, hz⟩ := hb.three; simp at hz)
    have q0 : w'.cell? ⟨w.heap.size, 0, none⟩ = some (.int .i64 0) := by rw [hc _ _ (by simp; omega)]; simp [go_sem]
    have q1 : w'.cell? ⟨w.heap.size, 1, none⟩ = some (.int .i64 0) := by rw [hc _ _ (by simp; omega)]; simp [go_sem]
    have q2 : w'.cell? ⟨w.heap.size, 2, none⟩ = some (.int .i64 0) := by rw [hc _ _ (by simp; omega)]; simp [go_sem]
    have q3 : w'.cell? ⟨w.heap.size, 3, none⟩ = some (.int .i64 0) := by rw [hc _ _ (by simp; omega)]; simp [go_sem]
    have q4 : w'.frozen? ⟨w.heap.size, 0, none⟩ = false := by rw [hf _ _ (by simp; omega)]; simp [go_sem]
    have q5 : w'.frozen? ⟨w.heap.size, 1, none⟩ = false := by rw [hf _ _ (by simp; omega)]; simp [go_sem]
    have q6 : w'.frozen? ⟨w.heap.size, 2, none⟩ = false := by rw [hf _ _ (by simp; omega)]; simp [go_sem]
    have q7 : w'.frozen? ⟨w.heap.size, 3, none⟩ = false := by rw [hf _ _ (by simp; omega)]; simp [go_sem]
    go_region
    all_goals go_wp2
    all_goals refine bodyPost_ret (v := .tuple #[.agg #[.int .i64 0, .int .i64 0, .int .i64 0, .int .i64 0], errV s]) (by simp [results, Tryd.results67, go_sem, q0, q1, q2, q3]) rfl ⟨rfl, ?_⟩
    all_goals repeat (first | exact (((Ext.refl _).alloc_ _).alloc_ _).trans_ hb | refine Ext.drew_ ?_ | refine Ext.set_ ?_ (by simp) _)
  · have k4' : inB (hSize a % 8192) 4096 = false := by simpa using k4
    clear hin h k4
    go_enter Tryd.func67, Tryd.ntmps67
    go_wp2_with (go_at_call 93; refine (ofHead_no _ _ _ _ (by simp [k4']) _ b ((((Ext.refl w).alloc_ _).alloc_ _).cell_ gb)).mono ?_; rintro e w' ⟨rfl, hb⟩; obtain ⟨hc, hf, hz⟩ := hb.three; simp at hz)
    have q0 : w'.cell? ⟨w.heap.size, 0, none⟩ = some (.int .i64 0) := by rw [hc _ _ (by simp; omega)]; simp [go_sem]
    have q1 : w'.cell? ⟨w.heap.size, 1, none⟩ = some (.int .i64 0) := by rw [hc _ _ (by simp; omega)]; simp [go_sem]
    have q2 : w'.cell? ⟨w.heap.size, 2, none⟩ = some (.int .i64 0) := by rw [hc _ _ (by simp; omega)]; simp [go_sem]
    have q3 : w'.cell? ⟨w.heap.size, 3, none⟩ = some (.int .i64 0) := by rw [hc _ _ (by simp; omega)]; simp [go_sem]
    have q4 : w'.frozen? ⟨w.heap.size, 0, none⟩ = false := by rw [hf _ _ (by simp; omega)]; simp [go_sem]
    have q5 : w'.frozen? ⟨w.heap.size, 1, none⟩ = false := by rw [hf _ _ (by simp; omega)]; simp [go_sem]
    have q6 : w'.frozen? ⟨w.heap.size, 2, none⟩ = false := by rw [hf _ _ (by simp; omega)]; simp [go_sem]
    have q7 : w'.frozen? ⟨w.heap.size, 3, none⟩ = false := by rw [hf _ _ (by simp; omega)]; simp [go_sem]
    go_region
    all_goals go_wp2
    all_goals refine bodyPost_ret (v := .tuple #[.agg #[.int .i64 0, .int .i64 0, .int .i64 0, .int .i64 0], errV s]) (by simp [results, Tryd.results67, go_sem, q0, q1, q2, q3]) rfl ⟨rfl, ?_⟩
    all_goals repeat (first | exact (((Ext.refl _).alloc_ _).alloc_ _).trans_ hb | refine Ext.drew_ ?_ | refine Ext.set_ ?_ (by simp) _)
end Go.Proofs.YtecbbbaafcoliaaDoor
/- A memory as data, and how a world holds one: read alone. Both struct types (the program's, the reference's) have the same eleven cells. -/
namespace Go.Proofs.YtecbbbaafcoliaaDoor
open Go.RowKit
set_option linter.unusedVariables false
set_option linter.unusedSimpArgs false

/-- A memory. -/
structure Mem where
  half : Int
  old : Int
  card : Int
  W : List Int
  used : Int
  top : Int
  oldTop : Int
  roots : List Int
  weak : List Int
  ids : List (Int × Int)
  cards : List Bool

/-- The numbers fit their kinds; lengths fit. -/
structure Mem.Ok (M : Mem) : Prop where
  half : -9223372036854775808 ≤ M.half ∧ M.half ≤ 9223372036854775807
  old : -9223372036854775808 ≤ M.old ∧ M.old ≤ 9223372036854775807
  card : -9223372036854775808 ≤ M.card ∧ M.card ≤ 9223372036854775807
  used : -9223372036854775808 ≤ M.used ∧ M.used ≤ 9223372036854775807
  top : -9223372036854775808 ≤ M.top ∧ M.top ≤ 9223372036854775807
  oldTop : -9223372036854775808 ≤ M.oldTop ∧ M.oldTop ≤ 9223372036854775807
  W : ∀ x ∈ M.W, 0 ≤ x ∧ x ≤ 18446744073709551615
  roots : ∀ x ∈ M.roots, 0 ≤ x ∧ x ≤ 18446744073709551615
  weak : ∀ x ∈ M.weak, 0 ≤ x ∧ x ≤ 18446744073709551615
  ids : ∀ x ∈ M.ids, (0 ≤ x.1 ∧ x.1 ≤ 18446744073709551615) ∧ (-9223372036854775808 ≤ x.2 ∧ x.2 ≤ 9223372036854775807)
  lenW : M.W.length ≤ 9223372036854775807
  lenR : M.roots.length ≤ 9223372036854775807
  lenK : M.weak.length ≤ 9223372036854775807
  lenI : M.ids.length ≤ 9223372036854775807
  lenC : M.cards.length ≤ 9223372036854775807

/-- Words, pairs, bools as cells. -/
def wcells (l : List Int) : List Value := l.map fun x => Value.int .u64 x
def icells (l : List (Int × Int)) : List Value := l.flatMap fun x => [Value.int .u64 x.1, Value.int .i64 x.2]
def bcells (l : List Bool) : List Value := l.map fun x => Value.bool x

/-- The address of a slice reads as these cells. -/
def RSl (w : World) (a : Option Addr) (cs : List Value) : Prop :=
  ∀ j u, cs[j]? = some u → ∃ b off, a = some ⟨b, off, none⟩ ∧ w.cell? ⟨b, off + j, none⟩ = some u
theorem RSl.ext {w w' : World} {a : Option Addr} {cs : List Value} (h : RSl w a cs) (hx : Ext w w') : RSl w' a cs := fun j u hu => by
  obtain ⟨b, off, ha, hc⟩ := h j u hu
  exact ⟨b, off, ha, hx.cell_ hc⟩
theorem RSl.nil (w : World) (a : Option Addr) : RSl w a [] := fun j u h => by simp at h
/-- The cell at an index, in the walk's spelling. -/
theorem RSl.at_ {w : World} {b off : Nat} {cs : List Value} (h : RSl w (some ⟨b, off, none⟩) cs) {j : Nat} {u : Value} (hu : cs[j]? = some u) : w.cell? ⟨b, off + j, none⟩ = some u := by
  obtain ⟨b', off', ha, hc⟩ := h j u hu
  injection ha with ha; injection ha with h1 h2
  subst h1 h2; exact hc
theorem RSl.some_ {w : World} {a : Option Addr} {cs : List Value} (h : RSl w a cs) (hn : 0 < cs.length) : ∃ b off, a = some ⟨b, off, none⟩ := by
  obtain ⟨b, off, ha, _⟩ := h 0 cs[0] (by simp [hn])
  exact ⟨b, off, ha⟩

/-- Where a memory's slices lie: address and capacity. -/
structure Sls where
  W : Option Addr × Nat
  R : Option Addr × Nat
  K : Option Addr × Nat
  I : Option Addr × Nat
  C : Option Addr × Nat

/-- A world holds a memory at a place. -/
structure RMem (w : World) (b o : Nat) (M : Mem) (S : Sls) : Prop where
  half : w.cell? ⟨b, o, none⟩ = some (.int .i64 M.half)
  old : w.cell? ⟨b, o + 1, none⟩ = some (.int .i64 M.old)
  card : w.cell? ⟨b, o + 2, none⟩ = some (.int .i64 M.card)
  W : w.cell? ⟨b, o + 3, none⟩ = some (.slice S.W.1 M.W.length S.W.2)
  used : w.cell? ⟨b, o + 4, none⟩ = some (.int .i64 M.used)
  top : w.cell? ⟨b, o + 5, none⟩ = some (.int .i64 M.top)
  oldTop : w.cell? ⟨b, o + 6, none⟩ = some (.int .i64 M.oldTop)
  roots : w.cell? ⟨b, o + 7, none⟩ = some (.slice S.R.1 M.roots.length S.R.2)
  weak : w.cell? ⟨b, o + 8, none⟩ = some (.slice S.K.1 M.weak.length S.K.2)
  ids : w.cell? ⟨b, o + 9, none⟩ = some (.slice S.I.1 M.ids.length S.I.2)
  cards : w.cell? ⟨b, o + 10, none⟩ = some (.slice S.C.1 M.cards.length S.C.2)
  rW : RSl w S.W.1 (wcells M.W)
  rR : RSl w S.R.1 (wcells M.roots)
  rK : RSl w S.K.1 (wcells M.weak)
  rI : RSl w S.I.1 (icells M.ids)
  rC : RSl w S.C.1 (bcells M.cards)
  capW : M.W.length ≤ S.W.2
  capR : M.roots.length ≤ S.R.2
  capK : M.weak.length ≤ S.K.2
  capI : M.ids.length ≤ S.I.2
  capC : M.cards.length ≤ S.C.2
  nilW : S.W.1 = none → S.W.2 = 0
  nilR : S.R.1 = none → S.R.2 = 0
  nilK : S.K.1 = none → S.K.2 = 0
  nilI : S.I.1 = none → S.I.2 = 0
  nilC : S.C.1 = none → S.C.2 = 0
  ok : M.Ok

theorem RMem.ext {w w' : World} {b o : Nat} {M : Mem} {S : Sls} (h : RMem w b o M S) (hx : Ext w w') : RMem w' b o M S :=
  ⟨hx.cell_ h.half, hx.cell_ h.old, hx.cell_ h.card, hx.cell_ h.W, hx.cell_ h.used, hx.cell_ h.top, hx.cell_ h.oldTop, hx.cell_ h.roots, hx.cell_ h.weak, hx.cell_ h.ids, hx.cell_ h.cards,
    h.rW.ext hx, h.rR.ext hx, h.rK.ext hx, h.rI.ext hx, h.rC.ext hx, h.capW, h.capR, h.capK, h.capI, h.capC, h.nilW, h.nilR, h.nilK, h.nilI, h.nilC, h.ok⟩
theorem RMem.lt {w : World} {b o : Nat} {M : Mem} {S : Sls} (h : RMem w b o M S) : b < w.heap.size := cell_lt h.half

/-- Is a number between two others? -/
def inR (a lo hi : Int) : Bool := decide (lo ≤ a) && decide (a ≤ hi)
theorem inR_true {a lo hi : Int} : inR a lo hi = true ↔ lo ≤ a ∧ a ≤ hi := by simp [inR]
theorem inR_false {a lo hi : Int} : inR a lo hi = false ↔ ¬ (lo ≤ a ∧ a ≤ hi) := by
  rw [← inR_true]; cases inR a lo hi <;> simp

/-- Lengths and tops are right. -/
def shapeB (M : Mem) : Bool :=
  inR M.half 1 65536 && inR M.old 1 65536 && inR M.card 1 1024 && ((M.W.length : Int) == 2 * M.half + M.old) && inR M.used 0 1 && inR M.top 0 M.half && inR M.oldTop 0 M.old && ((M.cards.length : Int) == (M.old + M.card - 1) / M.card)
end Go.Proofs.YtecbbbaafcoliaaDoor
/- Objects of a memory, plainly: what a part of the words holds. -/
namespace Go.Proofs.YtecbbbaafcoliaaDoor

/-- The word at a place. -/
def wat (W : List Int) (i : Nat) : Int := W.getD i 0
/-- An object: where it is, its header. -/
structure Ob where
  a : Nat
  w : Int
/-- How many fields it has. -/
def Ob.n (o : Ob) : Nat := (hSize o.w).toNat

/-- The objects of a part; false: they do not just fill it. -/
def objs (W : List Int) (to : Nat) : Nat → Nat → List Ob × Bool
  | 0, _ => ([], true)
  | f + 1, a =>
    if a < to then
      if isHd (wat W a) && decide (a + 1 + (hSize (wat W a)).toNat ≤ to) then
        (⟨a, wat W a⟩ :: (objs W to f (a + 1 + (hSize (wat W a)).toNat)).1, (objs W to f (a + 1 + (hSize (wat W a)).toNat)).2)
      else ([], false)
    else ([], true)
def part (W : List Int) (a to : Nat) : List Ob × Bool := objs W to (to - a) a

theorem objs_fuel (W : List Int) (to : Nat) : ∀ f g a : Nat, to - a ≤ f → to - a ≤ g → objs W to f a = objs W to g a
  | 0, 0, _, _, _ => rfl
  | 0, g + 1, a, h, _ => by
    have h1 : ¬ a < to := by omega
    simp [objs, h1]
  | f + 1, 0, a, _, h => by
    have h1 : ¬ a < to := by omega
    simp [objs, h1]
  | f + 1, g + 1, a, h1, h2 => by
    unfold objs
    split
    · split
      · rw [objs_fuel W to f g _ (by omega) (by omega)]
      · rfl
    · rfl
theorem part_done (W : List Int) (a to : Nat) (h : to ≤ a) : part W a to = ([], true) := by
  unfold part
  rw [show to - a = 0 by omega]; rfl
theorem part_bad (W : List Int) (a to : Nat) (h : a < to) (hb : (isHd (wat W a) && decide (a + 1 + (hSize (wat W a)).toNat ≤ to)) = false) : part W a to = ([], false) := by
  unfold part
  obtain ⟨k, hk⟩ : ∃ k, to - a = k + 1 := ⟨to - a - 1, by omega⟩
  rw [hk, objs, if_pos h, hb]; rfl
theorem part_next (W : List Int) (a to : Nat) (h1 : isHd (wat W a) = true) (h2 : a + 1 + (hSize (wat W a)).toNat ≤ to) :
    part W a to = (⟨a, wat W a⟩ :: (part W (a + 1 + (hSize (wat W a)).toNat) to).1, (part W (a + 1 + (hSize (wat W a)).toNat) to).2) := by
  unfold part
  obtain ⟨k, hk⟩ : ∃ k, to - a = k + 1 := ⟨to - a - 1, by omega⟩
  rw [hk, objs, if_pos (by omega), h1, decide_eq_true h2]
  simp only [Bool.and_self, if_true]
  rw [objs_fuel W to k (to - (a + 1 + (hSize (wat W a)).toNat)) _ (by omega) (by omega)]

/-- An object that lies in the words, within a part. -/
structure ObIn (W : List Int) (lo to : Nat) (o : Ob) : Prop where
  w : o.w = wat W o.a
  hd : isHd o.w = true
  lo : lo ≤ o.a
  to : o.a + 1 + o.n ≤ to
theorem objs_in (W : List Int) (to : Nat) : ∀ (f a : Nat) (o : Ob), o ∈ (objs W to f a).1 → ObIn W a to o
  | 0, a, o, h => by simp [objs] at h
  | f + 1, a, o, h => by
    unfold objs at h
    split at h
    · split at h
      · rename_i h1 h2
        simp only [Bool.and_eq_true, decide_eq_true_eq] at h2
        simp only [List.mem_cons] at h
        rcases h with rfl | h
        · exact ⟨rfl, h2.1, Nat.le_refl _, h2.2⟩
        · have := objs_in W to f _ o h
          exact ⟨this.w, this.hd, by have := this.lo; omega, this.to⟩
      · simp at h
    · simp at h
theorem part_in {W : List Int} {a to : Nat} {o : Ob} (h : o ∈ (part W a to).1) : ObIn W a to o := objs_in W to _ a o h
end Go.Proofs.YtecbbbaafcoliaaDoor
/- What a step may turn: the world but for some blocks. What a set of addresses is as a map. -/
namespace Go.Proofs.YtecbbbaafcoliaaDoor
open Go.RowKit
set_option linter.unusedVariables false
set_option linter.unusedSimpArgs false

/-- The world as it was, but for blocks of L and new ones. -/
structure Keep (L : Nat → Prop) (w w' : World) : Prop where
  os : w'.os = w.os
  tape : w'.tape = w.tape
  output : w'.output = w.output
  size : w.heap.size ≤ w'.heap.size
  block : ∀ k, k < w.heap.size → ¬ L k → w'.heap[k]? = w.heap[k]?

theorem Keep.refl (L : Nat → Prop) (w : World) : Keep L w w := ⟨rfl, rfl, rfl, Nat.le_refl _, fun _ _ _ => rfl⟩
theorem Keep.trans {L : Nat → Prop} {a b c : World} (h : Keep L a b) (k : Keep L b c) : Keep L a c :=
  ⟨k.os.trans h.os, k.tape.trans h.tape, k.output.trans h.output, Nat.le_trans h.size k.size, fun i hi hl => (k.block i (Nat.lt_of_lt_of_le hi h.size) hl).trans (h.block i hi hl)⟩
/-- A later step may turn whatever is new, too. -/
theorem Keep.then_ {L L' : Nat → Prop} {a b c : World} (h : Keep L a b) (k : Keep L' b c) (hl : ∀ i, i < a.heap.size → L' i → L i) : Keep L a c :=
  ⟨k.os.trans h.os, k.tape.trans h.tape, k.output.trans h.output, Nat.le_trans h.size k.size, fun i hi hn => (k.block i (Nat.lt_of_lt_of_le hi h.size) (fun e => hn (hl i hi e))).trans (h.block i hi hn)⟩
theorem Keep.of_ext {L : Nat → Prop} {w w' : World} (h : Ext w w') : Keep L w w' := ⟨h.os, h.tape, h.output, h.size, fun k hk _ => h.block k hk⟩
theorem Keep.ext_ {L : Nat → Prop} {a b c : World} (h : Keep L a b) (k : Ext b c) : Keep L a c := h.trans (Keep.of_ext k)
theorem Keep.alloc_ {L : Nat → Prop} {a b : World} (h : Keep L a b) (o : Obj) : Keep L a (b.alloc o) := h.ext_ ((Ext.refl b).alloc_ o)
theorem Keep.drew_ {L : Nat → Prop} {a b : World} (h : Keep L a b) : Keep L a b.drew := h.ext_ (Ext.refl b).drew_
theorem Keep.drewN_ {L : Nat → Prop} {a b : World} (h : Keep L a b) (n : Nat) : Keep L a (b.drewN n) := h.ext_ (ext_drewN b n)
theorem Keep.set_ {L : Nat → Prop} {a b : World} (h : Keep L a b) {p : Addr} (hp : L p.block ∨ a.heap.size ≤ p.block) (u : Value) : Keep L a (b.setCell p u) :=
  ⟨h.os, h.tape, h.output, by simpa [World.setCell] using h.size, fun k hk hl => by
    rw [Below.heap_setCell _ _ _ _ (fun e => by subst e; rcases hp with hp | hp; exact hl hp; omega)]
    exact h.block k hk hl⟩
theorem Keep.of_but {w w' : World} {b : Nat} (h : But b w w') : Keep (· = b) w w' := ⟨h.os, h.tape, h.output, Nat.le_of_eq h.size.symm, fun k _ hl => h.block k hl⟩
theorem Keep.of_grown {L : Nat → Prop} {w w' : World} {row : Option Nat} (h : w.grownBy w' row) (hr : ∀ k, row = some k → L k ∨ w.heap.size ≤ k) : Keep L w w' :=
  ⟨h.os, h.tape, h.output, h.size, fun k hk hl => h.block k hk (fun e => by rcases hr k e.symm with g | g; exact hl g; omega)⟩
theorem Keep.below {L : Nat → Prop} {w w' : World} {B : Nat} (h : Keep L w w') (hB : B ≤ w.heap.size) (hl : ∀ k, k < B → ¬ L k) : Below B w w' :=
  ⟨h.os, h.tape, h.output, h.size, fun k hk => h.block k (by omega) (hl k hk)⟩
theorem Ext.keep {L : Nat → Prop} {a b c : World} (h : Ext a b) (k : Keep L b c) (hl : ∀ i, L i → a.heap.size ≤ i) : Ext a c :=
  Below.trans h (k.below h.size fun i hi e => by have := hl i e; omega)
theorem Keep.cell {L : Nat → Prop} {w w' : World} (h : Keep L w w') {p : Addr} {v : Value} (hp : ¬ L p.block) (hc : w.cell? p = some v) : w'.cell? p = some v := by
  rw [World.cell?_of_block (w := w) (h.block p.block (cell_lt hc) hp)]; exact hc
theorem Keep.frozen {L : Nat → Prop} {w w' : World} (h : Keep L w w') {p : Addr} (hp : ¬ L p.block) (hlt : p.block < w.heap.size) : w'.frozen? p = w.frozen? p :=
  World.frozen?_of_block (w := w) (h.block p.block hlt hp)
theorem MapI.keep {L : Nat → Prop} {w w' : World} {b : Nat} {q : IntKind} {es : List (Int × Value)} (h : MapI w b q es) (k : Keep L w w') (hb : ¬ L b) : MapI w' b q es :=
  h.of_block (k.block b h.lt hb)
theorem RSl.keep {L : Nat → Prop} {w w' : World} {a : Option Addr} {cs : List Value} (h : RSl w a cs) (k : Keep L w w') (hl : ∀ x, a = some x → ¬ L x.block) : RSl w' a cs := fun j u hu => by
  obtain ⟨b, off, ha, hc⟩ := h j u hu
  exact ⟨b, off, ha, k.cell (p := ⟨b, off + j, none⟩) (hl ⟨b, off, none⟩ ha) hc⟩

/-- A map that bears true at these keys, and nothing else. -/
def SMap (w : World) (b : Nat) (q : IntKind) (st : List Int) : Prop :=
  ∃ es, MapI w b q es ∧ ∀ k : Int, mget es k = if st.contains k = true then some (.bool true) else none
theorem SMap.keep {L : Nat → Prop} {w w' : World} {b : Nat} {q : IntKind} {st : List Int} (h : SMap w b q st) (k : Keep L w w') (hb : ¬ L b) : SMap w' b q st := by
  obtain ⟨es, hm, hg⟩ := h
  exact ⟨es, hm.keep k hb, hg⟩
theorem SMap.ext {w w' : World} {b : Nat} {q : IntKind} {st : List Int} (h : SMap w b q st) (k : Ext w w') : SMap w' b q st := by
  obtain ⟨es, hm, hg⟩ := h
  exact ⟨es, hm.ext k, hg⟩
theorem SMap.lt {w : World} {b : Nat} {q : IntKind} {st : List Int} (h : SMap w b q st) : b < w.heap.size := by
  obtain ⟨es, hm, _⟩ := h
  exact hm.lt
theorem SMap.made (w : World) (q : IntKind) : SMap (w.alloc (.map #[] 0)) w.heap.size q [] := ⟨[], MapI.made w q, fun k => by simp [mget]⟩
theorem SMap.put {w' : World} {b : Nat} {q : IntKind} {es : List (Int × Value)} {st : List Int} (a : Int) (hg : ∀ k : Int, mget es k = if st.contains k = true then some (.bool true) else none)
    (h : MapI w' b q (mput es a (.bool true))) : SMap w' b q (st ++ [a]) :=
  ⟨_, h, fun k => by
    by_cases e : k = a
    · subst e; rw [mget_mput_same]; simp
    · rw [mget_mput_other _ _ _ _ e, hg k]
      have : (k == a) = false := by simpa using e
      simp [List.contains_eq_any_beq, this, e]⟩

/-- A slice expression over words, whatever world: where the part lies, and what it reads as. -/
theorem run_part {P : Program} {t e : TypeId} (ht : P.underlying t = some (.slice e)) (hz : ∀ w, (sizeOf e).run P w = .ok 1 w) (b off len cap l h : Nat) (i j : Int) (hi : i = (l : Int)) (hj : j = (h : Int)) (hl : l ≤ h) (hh : h ≤ cap) :
    ∃ A C, (∀ w' : World, (Instr.slice t (.slice (some ⟨b, off, none⟩) len cap) (some (.int .i64 i)) (some (.int .i64 j)) none).run P w' = .ok (.slice A (h - l) C) w') ∧ h - l ≤ C ∧ A ≠ none ∧
      ∀ (w : World) (cs : List Value), RSl w (some ⟨b, off, none⟩) cs → RSl w A ((cs.drop l).take (h - l)) := by
  have he : P.elem t = e := by simp [Program.elem, ht]
  have ht' : P.underlying t = some (.slice (P.elem t)) := by rw [he]; exact ht
  refine ⟨if cap = l then some ⟨b, off, none⟩ else some ⟨b, off + l, none⟩, cap - l, fun w' => ?_, by omega, ?_, fun w cs hR => ?_⟩
  · subst hi hj
    rw [run_slice_lh w' t (some ⟨b, off, none⟩) len cap ht' .i64 .i64 (l : Int) (h : Int) (by omega) (by omega) (by omega), he, hz]
    simp [Result.andThen, sliced, Addr.add]
    split
    · rfl
    · split
      · rename_i h0; subst h0; simp
      · rfl
  · split <;> simp
  · split
    · have : h - l = 0 := by omega
      rw [this, List.take_zero]
      exact RSl.nil _ _
    · intro k u hu
      rw [List.getElem?_take] at hu
      split at hu
      · rw [List.getElem?_drop] at hu
        obtain ⟨b', off', ha, hc⟩ := hR _ _ hu
        injection ha with ha
        injection ha with h1 h2
        subst h1 h2
        exact ⟨b, off + l, rfl, by rw [show off + l + k = off + (l + k) by omega]; exact hc⟩
      · cases hu

/-- Shape facts, for the walks. -/
structure Shp (M : Mem) : Prop where
  h1 : 1 ≤ M.half
  h2 : M.half ≤ 65536
  o1 : 1 ≤ M.old
  o2 : M.old ≤ 65536
  c1 : 1 ≤ M.card
  c2 : M.card ≤ 1024
  w : (M.W.length : Int) = 2 * M.half + M.old
  u1 : 0 ≤ M.used
  u2 : M.used ≤ 1
  t1 : 0 ≤ M.top
  t2 : M.top ≤ M.half
  p1 : 0 ≤ M.oldTop
  p2 : M.oldTop ≤ M.old
  cl : (M.cards.length : Int) = (M.old + M.card - 1) / M.card
theorem shp_of {M : Mem} (h : shapeB M = true) : Shp M := by
  simp only [shapeB, Bool.and_eq_true, inR_true, beq_iff_eq] at h
  obtain ⟨⟨⟨⟨⟨⟨⟨⟨a1, a2⟩, b1, b2⟩, c1, c2⟩, d⟩, e1, e2⟩, f1, f2⟩, g1, g2⟩, k⟩ := h
  exact ⟨a1, a2, b1, b2, c1, c2, d, e1, e2, f1, f2, g1, g2, k⟩
/-- Where the half in use begins. -/
def Mem.base (M : Mem) : Nat := (M.used * M.half).toNat
theorem Shp.base {M : Mem} (h : Shp M) : M.used * M.half = (M.base : Int) ∧ 0 ≤ M.used * M.half ∧ M.used * M.half ≤ M.half := by
  obtain ⟨h1, h2, _, _, _, _, _, u1, u2, _, _, _, _, _⟩ := h
  have hu : M.used = 0 ∨ M.used = 1 := by omega
  unfold Mem.base
  rcases hu with e | e <;> rw [e] <;> omega
/-- The card of a place in the old space. -/
theorem Shp.card {M : Mem} (h : Shp M) (a : Int) (h1 : 2 * M.half ≤ a) (h2 : a < 2 * M.half + M.old) :
    0 ≤ (a - 2 * M.half) / M.card ∧ (a - 2 * M.half) / M.card < (M.cards.length : Int) := by
  have c1 := h.c1
  rw [h.cl]
  refine ⟨Int.ediv_nonneg (by omega) (by omega), ?_⟩
  have h3 : (a - 2 * M.half) / M.card ≤ (M.old - 1) / M.card := Int.ediv_le_ediv (by omega) (by omega)
  have h4 : (M.old + M.card - 1) / M.card = (M.old - 1) / M.card + 1 := by
    rw [show M.old + M.card - 1 = (M.old - 1) + 1 * M.card by omega, Int.add_mul_ediv_right _ _ (by omega)]
  omega
end Go.Proofs.YtecbbbaafcoliaaDoor
/- The walks of package mem: its small functions. -/
namespace Go.Proofs.YtecbbbaafcoliaaDoor
open Go.RowKit
set_option linter.unusedVariables false
set_option linter.unusedSimpArgs false

/-- Is a kind raw? Does an address lie in the old space? Does a word point into the nursery? Is a word a field? -/
def rawB (k : Int) : Bool := decide (k < 8)
def oldB (M : Mem) (a : Int) : Bool := decide (2 * M.half ≤ a)
def youngB (M : Mem) (a : Int) : Bool := (kindW a == 0) && (a != 0) && !oldB M (placeW a)
def inSt (st : List Int) (a : Int) : Bool := st.contains a
def fldB (st : List Int) (a : Int) : Bool :=
  if kindW a = 0 then a == 0 || inSt st (placeW a) else if kindW a = 1 then true else if kindW a = 2 then decide (a / 4 ≤ 2) else false
def cardB (M : Mem) (a : Int) : Bool := M.cards.getD ((a - 2 * M.half) / M.card).toNat false

theorem raw_any (k : Int) (w : World) : Calls Tryd.prog 40 #[.int .i64 k] w fun e w' => e = .returned (.bool (rawB k)) ∧ w' = w := by
  unfold rawB
  go_enter Tryd.func40, Tryd.ntmps40
  go_wp2
  go_ret
  exact ⟨rfl, rfl⟩
theorem base_any (w : World) (b o : Nat) (M : Mem) (S : Sls) (hM : RMem w b o M S) (hs : Shp M) :
    Calls Tryd.prog 86 #[.pointer (some ⟨b, o, none⟩)] w fun e w' => e = .returned (.int .i64 (M.base : Int)) ∧ ∃ n, w' = w.drewN n := by
  obtain ⟨hb, b0, b1⟩ := hs.base
  have h2 := hs.h2
  have c1 := hM.used
  have c2 := hM.half
  have e1 : IntKind.i64.wrap (M.used * M.half) = M.used * M.half := IntWalk.i64_in _ (by omega)
  rw [← hb]
  clear hb hM hs
  go_enter Tryd.func86, Tryd.ntmps86
  go_wp2
  go_quiet (fail)
  go_wp2
  go_ret
  exact ⟨rfl, _, rfl⟩
theorem inOld_any (a : Int) (w : World) (b o : Nat) (M : Mem) (S : Sls) (hM : RMem w b o M S) (hs : Shp M) :
    Calls Tryd.prog 56 #[.pointer (some ⟨b, o, none⟩), .int .i64 a] w fun e w' => e = .returned (.bool (oldB M a)) ∧ w' = w := by
  have h1 := hs.h1
  have h2 := hs.h2
  have c2 := hM.half
  clear hM hs
  unfold oldB
  go_enter Tryd.func56, Tryd.ntmps56
  go_wp2
  go_ret
  exact ⟨rfl, rfl⟩
theorem young_any (a : Int) (h0 : 0 ≤ a) (h1 : a ≤ 18446744073709551615) (w : World) (b o : Nat) (M : Mem) (S : Sls) (hM : RMem w b o M S) (hs : Shp M) :
    Calls Tryd.prog 61 #[.pointer (some ⟨b, o, none⟩), .int .u64 a] w fun e w' => e = .returned (.bool (youngB M a)) ∧ w' = w := by
  by_cases hk : kindW a = 0
  · have k1 : (kindW a == 0) = true := by simpa using hk
    by_cases hz : a = 0
    · have k2 : (a != 0) = false := by simpa using hz
      have e : youngB M a = false := by simp [youngB, k2]
      rw [e]
      clear hk hz
      go_enter Tryd.func61, Tryd.ntmps61
      go_wp2_with (first
        | (go_at_call 63; refine (kind_any _ h0 h1 _).mono ?_; rintro e w' ⟨rfl, rfl⟩))
      go_ret
      exact ⟨rfl, rfl⟩
    · have k2 : (a != 0) = true := by simpa using hz
      have e : youngB M a = !oldB M (placeW a) := by simp [youngB, k1, k2]
      rw [e]
      clear hk hz
      go_enter Tryd.func61, Tryd.ntmps61
      go_wp2_with (first
        | (go_at_call 63; refine (kind_any _ h0 h1 _).mono ?_; rintro e w' ⟨rfl, rfl⟩)
        | (go_at_call 81; refine (place_any _ h0 h1 _).mono ?_; rintro e w' ⟨rfl, rfl⟩)
        | (go_at_call 56; refine (inOld_any _ _ b o M S hM hs).mono ?_; rintro e w' ⟨rfl, rfl⟩))
      go_ret
      exact ⟨rfl, rfl⟩
  · have k1 : (kindW a == 0) = false := by simpa using hk
    have e : youngB M a = false := by simp [youngB, k1]
    rw [e]
    clear hk
    go_enter Tryd.func61, Tryd.ntmps61
    go_wp2_with (first
      | (go_at_call 63; refine (kind_any _ h0 h1 _).mono ?_; rintro e w' ⟨rfl, rfl⟩))
    go_ret
    exact ⟨rfl, rfl⟩
theorem bcells_at (l : List Bool) (j : Nat) (h : j < l.length) : (bcells l)[j]? = some (.bool (l.getD j false)) := by
  simp [bcells, List.getD_eq_getElem?_getD, h]
theorem marked_any (a : Int) (w : World) (b o : Nat) (M : Mem) (S : Sls) (hM : RMem w b o M S) (hs : Shp M) (ha : 2 * M.half ≤ a) (hb : a < 2 * M.half + M.old) :
    Calls Tryd.prog 62 #[.pointer (some ⟨b, o, none⟩), .int .i64 a] w fun e w' => e = .returned (.bool (cardB M a)) ∧ ∃ n, w' = w.drewN n := by
  obtain ⟨i0, i1⟩ := hs.card a ha hb
  have h1 := hs.h1
  have h2 := hs.h2
  have o2 := hs.o2
  have cc1 := hs.c1
  have cc2 := hs.c2
  have c1 := hM.cards
  have c2 := hM.half
  have c3 := hM.card
  unfold cardB
  have hq : (a - 2 * M.half).tdiv M.card = (a - 2 * M.half) / M.card := Int.tdiv_eq_ediv_of_nonneg (by omega)
  obtain ⟨J, hJ⟩ : ∃ J : Nat, (a - 2 * M.half) / M.card = (J : Int) := ⟨((a - 2 * M.half) / M.card).toNat, by omega⟩
  rw [hJ] at hq i1 i0 ⊢
  have hJl : J < M.cards.length := by omega
  obtain ⟨cb, co, hC, hcell⟩ := hM.rC J _ (bcells_at M.cards J hJl)
  rw [hC] at c1
  rw [Int.toNat_natCast]
  have e0 : IntKind.i64.wrap (2 * M.half) = 2 * M.half := IntWalk.i64_in _ (by omega)
  have e1 : IntKind.i64.wrap (a - 2 * M.half) = a - 2 * M.half := IntWalk.i64_in _ (by omega)
  have hcap := hM.capC
  have hcl : M.cards.length ≤ 9223372036854775807 := hM.ok.lenC
  have e2 : IntKind.i64.wrap ((J : Nat) : Int) = (J : Int) := IntWalk.i64_in _ (by omega)
  have hne : (M.card == 0) = false := by simp; omega
  have hjj : (J : Int) < (M.cards.length : Int) := by omega
  clear hJ hC hM hs
  go_enter Tryd.func62, Tryd.ntmps62
  go_wp2
  go_quiet (fail)
  go_wp2
  go_ret
  refine ⟨?_, _, rfl⟩
  simp [List.getD_eq_getElem?_getD, hJl]
end Go.Proofs.YtecbbbaafcoliaaDoor
/- The walk of mem.field. -/
namespace Go.Proofs.YtecbbbaafcoliaaDoor
open Go.RowKit
set_option linter.unusedVariables false
set_option linter.unusedSimpArgs false

theorem undStarts : Tryd.prog.underlying 76 = some (.map 3 4) := by kernel_rfl
theorem undInt : Tryd.prog.underlying 3 = some (.int .i64) := by kernel_rfl
theorem zeroBool (w : World) : (zeroValue 4).run Tryd.prog w = .ok (.bool false) w := by kernel_rfl
/-- A look-up among addresses. -/
theorem smap_look {w : World} {bm : Nat} {st : List Int} (h : SMap w bm .i64 st) (a : Int) :
    (Instr.lookup 76 (.map (some bm)) (.int .i64 a) false).run Tryd.prog w = .ok (.bool (inSt st a)) w := by
  obtain ⟨es, hm, hg⟩ := h
  rw [run_lookup_mapi undStarts undInt (zeroBool w) hm a false, hg a]
  unfold inSt
  cases st.contains a <;> rfl
/-- A store among addresses. -/
theorem smap_put {w : World} {bm : Nat} {st : List Int} (h : SMap w bm .i64 st) (a : Int) :
    ∃ w', (Instr.mapUpdate 76 (.map (some bm)) (.int .i64 a) (.bool true)).run Tryd.prog w = .ok () w' ∧ SMap w' bm .i64 (st ++ [a]) ∧ But bm w w' := by
  obtain ⟨es, hm, hg⟩ := h
  obtain ⟨w', h1, h2, h3⟩ := run_update_mapi (P := Tryd.prog) undStarts undInt hm a (.bool true)
  exact ⟨w', h1, SMap.put a hg h2, h3⟩

theorem field_any (a : Int) (h0 : 0 ≤ a) (h1 : a ≤ 18446744073709551615) (bm : Nat) (st : List Int) (w : World) (hm : SMap w bm .i64 st) :
    Calls Tryd.prog 43 #[.int .u64 a, .map (some bm)] w fun e w' => e = .returned (.bool (fldB st a)) ∧ w' = w := by
  have hr : 0 ≤ kindW a ∧ kindW a ≤ 3 := by unfold kindW; omega
  have hlk := smap_look hm (placeW a)
  clear hm
  by_cases hk0 : kindW a = 0
  · have k1 : (kindW a == 0) = true := by simpa using hk0
    by_cases hz : a = 0
    · have k2 : (a == 0) = true := by simpa using hz
      have e : fldB st a = true := by simp [fldB, hk0, k2]
      rw [e]
      clear hk0 hz hlk
      go_enter Tryd.func43, Tryd.ntmps43
      go_wp2_with (first
        | (go_at_call 63; refine (kind_any _ h0 h1 _).mono ?_; rintro e w' ⟨rfl, rfl⟩))
      go_ret
      exact ⟨rfl, rfl⟩
    · have k2 : (a == 0) = false := by simpa using hz
      have e : fldB st a = inSt st (placeW a) := by simp [fldB, hk0, k2]
      rw [e]
      clear hk0 hz
      go_enter Tryd.func43, Tryd.ntmps43
      go_wp2_with (first
        | (go_at_call 63; refine (kind_any _ h0 h1 _).mono ?_; rintro e w' ⟨rfl, rfl⟩)
        | (go_at_call 81; refine (place_any _ h0 h1 _).mono ?_; rintro e w' ⟨rfl, rfl⟩))
      go_ret
      exact ⟨rfl, rfl⟩
  · have k1 : (kindW a == 0) = false := by simpa using hk0
    by_cases hk2 : kindW a = 2
    · have k2 : (kindW a == 2) = true := by simpa using hk2
      have e : fldB st a = decide (a / 4 ≤ 2) := by simp [fldB, hk2]
      rw [e]
      clear hk0 hk2 hlk
      go_enter Tryd.func43, Tryd.ntmps43
      go_wp2_with (first
        | (go_at_call 63; refine (kind_any _ h0 h1 _).mono ?_; rintro e w' ⟨rfl, rfl⟩))
      go_ret
      exact ⟨rfl, rfl⟩
    · have k2 : (kindW a == 2) = false := by simpa using hk2
      by_cases hk3 : kindW a = 1
      · have k3 : (kindW a == 1) = true := by simpa using hk3
        have e : fldB st a = true := by simp [fldB, hk3]
        rw [e]
        clear hk0 hk2 hk3 hlk
        go_enter Tryd.func43, Tryd.ntmps43
        go_wp2_with (first
          | (go_at_call 63; refine (kind_any _ h0 h1 _).mono ?_; rintro e w' ⟨rfl, rfl⟩))
        go_ret
        exact ⟨rfl, rfl⟩
      · have k3 : (kindW a == 1) = false := by simpa using hk3
        have e : fldB st a = false := by simp [fldB, hk0, hk2, hk3]
        rw [e]
        clear hk0 hk2 hk3 hlk
        go_enter Tryd.func43, Tryd.ntmps43
        go_wp2_with (first
          | (go_at_call 63; refine (kind_any _ h0 h1 _).mono ?_; rintro e w' ⟨rfl, rfl⟩))
        go_ret
        exact ⟨rfl, rfl⟩
end Go.Proofs.YtecbbbaafcoliaaDoor
