/- Pairs as cells. -/
import Derived.Test.YtecbbbaafcoliaaDoorJWa02
import Derived.Deep.RegionHeld3
import Derived.Laws.OwnMore
import Derived.IntWalk
namespace Go.Proofs.YtecbbbaafcoliaaDoor
theorem icells_at (l : List (Int × Int)) (i : Nat) (h : i < l.length) : (icells l)[i * 2]? = some (.int .u64 l[i].1) ∧ (icells l)[i * 2 + 1]? = some (.int .i64 l[i].2) := by
  induction l generalizing i with
  | nil => simp at h
  | cons y l ih =>
    cases i with
    | zero => simp [icells]
    | succ i =>
      have := ih i (by simpa using h)
      have e1 : (i + 1) * 2 = i * 2 + 2 := by omega
      rw [e1]
      simpa [icells] using this
theorem icells_len (l : List (Int × Int)) : (icells l).length = l.length * 2 := by
  induction l with
  | nil => rfl
  | cons y l ih => simp only [icells, List.flatMap_cons, List.length_append, List.length_cons, List.length_nil] at *; omega
end Go.Proofs.YtecbbbaafcoliaaDoor
/- An own memory: as a memory that is read. -/
namespace Go.Proofs.YtecbbbaafcoliaaDoor
open Go.RowKit
set_option linter.unusedVariables false
set_option linter.unusedSimpArgs false

def memNums (M : Mem) : List (Nat × Int) := [(0, M.half), (1, M.old), (2, M.card), (4, M.used), (5, M.top), (6, M.oldTop)]
def memFlds (tI : TypeId) (M : Mem) (S : Sls) : List Fld :=
  [⟨3, 30, 1, S.W.1, M.W.length, S.W.2, wcells M.W⟩, ⟨7, 30, 1, S.R.1, M.roots.length, S.R.2, wcells M.roots⟩, ⟨8, 30, 1, S.K.1, M.weak.length, S.K.2, wcells M.weak⟩,
    ⟨9, tI, 2, S.I.1, M.ids.length, S.I.2, icells M.ids⟩, ⟨10, 4, 1, S.C.1, M.cards.length, S.C.2, bcells M.cards⟩]
def OMem (w : World) (B b : Nat) (tI : TypeId) (M : Mem) (S : Sls) : Prop := OM w B b (memNums M) (memFlds tI M S)
theorem row_rsl {w : World} {B : Nat} {e : TypeId} {size : Nat} {a : Option Addr} {n c : Nat} {xs : List Value} (h : w.ownsRow B e size (.slice a n c) n xs) : RSl w a xs ∧ n ≤ c ∧ (a = none → c = 0) := by
  rcases h.2 with ⟨h1, h2⟩ | ⟨g, cap, cur, h1, _, hg, hc, _, _, ht⟩
  · injection h1 with h1 _ h3
    subst h1 h3 h2
    have : xs = [] := List.eq_nil_of_length_eq_zero (by simpa using h.1)
    subst this
    exact ⟨RSl.nil _ _, Nat.le_refl _, fun _ => rfl⟩
  · injection h1 with h1 _ h3
    subst h1 h3
    refine ⟨fun j u hu => ⟨g, 0, rfl, ?_⟩, hc, fun e => by cases e⟩
    rw [Nat.zero_add, cell_of_row w g j cur _ _ hg]
    rw [← ht, List.getElem?_take] at hu
    split at hu
    · simpa using hu
    · cases hu
theorem OMem.mem {w : World} {B b : Nat} {tI : TypeId} {M : Mem} {S : Sls} (h : OMem w B b tI M S) (hok : M.Ok) : RMem w b 0 M S := by
  have hn := h.num
  have hf := h.fld
  have q3 := hf _ (List.mem_of_getElem? (l := memFlds tI M S) (i := 0) rfl)
  have q7 := hf _ (List.mem_of_getElem? (l := memFlds tI M S) (i := 1) rfl)
  have q8 := hf _ (List.mem_of_getElem? (l := memFlds tI M S) (i := 2) rfl)
  have q9 := hf _ (List.mem_of_getElem? (l := memFlds tI M S) (i := 3) rfl)
  have q10 := hf _ (List.mem_of_getElem? (l := memFlds tI M S) (i := 4) rfl)
  obtain ⟨r3, c3, n3⟩ := row_rsl q3.2.1
  obtain ⟨r7, c7, n7⟩ := row_rsl q7.2.1
  obtain ⟨r8, c8, n8⟩ := row_rsl q8.2.1
  obtain ⟨r9, c9, n9⟩ := row_rsl q9.2.1
  obtain ⟨r10, c10, n10⟩ := row_rsl q10.2.1
  have e : ∀ j : Nat, (⟨b, 0 + j, none⟩ : Addr) = ⟨b, j, none⟩ := fun j => by rw [Nat.zero_add]
  refine ⟨?_, ?_, ?_, ?_, ?_, ?_, ?_, ?_, ?_, ?_, ?_, r3, r7, r8, r9, r10, c3, c7, c8, c9, c10, n3, n7, n8, n9, n10, hok⟩
  · exact hn _ (List.mem_of_getElem? (l := memNums M) (i := 0) rfl)
  · rw [e]; exact hn _ (List.mem_of_getElem? (l := memNums M) (i := 1) rfl)
  · rw [e]; exact hn _ (List.mem_of_getElem? (l := memNums M) (i := 2) rfl)
  · rw [e]; exact q3.1
  · rw [e]; exact hn _ (List.mem_of_getElem? (l := memNums M) (i := 3) rfl)
  · rw [e]; exact hn _ (List.mem_of_getElem? (l := memNums M) (i := 4) rfl)
  · rw [e]; exact hn _ (List.mem_of_getElem? (l := memNums M) (i := 5) rfl)
  · rw [e]; exact q7.1
  · rw [e]; exact q8.1
  · rw [e]; exact q9.1
  · rw [e]; exact q10.1
/-- Bounds by which every row can be copied. -/
structure Few (M : Mem) : Prop where
  W : M.W.length ≤ 1000000
  R : M.roots.length ≤ 1000000
  K : M.weak.length ≤ 1000000
  I : M.ids.length ≤ 1000000
  C : M.cards.length ≤ 1000000
theorem wcells_one (l : List Int) : ∀ u ∈ wcells l, u.oneCell' = true := fun u hu => by obtain ⟨x, _, rfl⟩ := List.mem_map.1 hu; rfl
theorem bcells_one (l : List Bool) : ∀ u ∈ bcells l, u.oneCell' = true := fun u hu => by obtain ⟨x, _, rfl⟩ := List.mem_map.1 hu; rfl
theorem icells_one (l : List (Int × Int)) : ∀ u ∈ icells l, u.oneCell' = true := fun u hu => by
  obtain ⟨o, _, ho⟩ := List.mem_flatMap.1 hu
  simp at ho
  rcases ho with rfl | rfl <;> rfl
theorem wcells_len (l : List Int) : (wcells l).length = l.length * 1 := by simp [wcells]
theorem bcells_len (l : List Bool) : (bcells l).length = l.length * 1 := by simp [bcells]
def flds0 (tI : TypeId) : List Fld := [⟨3, 30, 1, none, 0, 0, []⟩, ⟨7, 30, 1, none, 0, 0, []⟩, ⟨8, 30, 1, none, 0, 0, []⟩, ⟨9, tI, 2, none, 0, 0, []⟩, ⟨10, 4, 1, none, 0, 0, []⟩]
theorem om_new (w : World) (M : Mem) (t tI : TypeId) :
    OM (w.alloc (.cells #[.int .i64 M.half, .int .i64 M.old, .int .i64 M.card, .slice none 0 0, .int .i64 M.used, .int .i64 M.top, .int .i64 M.oldTop, .slice none 0 0, .slice none 0 0, .slice none 0 0, .slice none 0 0] t)) w.heap.size w.heap.size (memNums M) (flds0 tI) := by
  have hc : ∀ j v, (#[Value.int .i64 M.half, .int .i64 M.old, .int .i64 M.card, .slice none 0 0, .int .i64 M.used, .int .i64 M.top, .int .i64 M.oldTop, .slice none 0 0, .slice none 0 0, .slice none 0 0, .slice none 0 0] : Array Value)[j]? = some v →
      (w.alloc (.cells #[.int .i64 M.half, .int .i64 M.old, .int .i64 M.card, .slice none 0 0, .int .i64 M.used, .int .i64 M.top, .int .i64 M.oldTop, .slice none 0 0, .slice none 0 0, .slice none 0 0, .slice none 0 0] t)).cell? ⟨w.heap.size, j, none⟩ = some v := fun j v hv => by
    rw [cell_of_row _ w.heap.size j _ t (0, 0) (heap_alloc_new w _)]; exact hv
  refine ⟨Nat.le_refl _, ⟨_, t, heap_alloc_new w _⟩, fun p hp => ?_, fun f hf => ?_, ?_, ?_⟩
  · simp only [memNums, List.mem_cons, List.not_mem_nil, or_false] at hp
    rcases hp with rfl | rfl | rfl | rfl | rfl | rfl <;> exact hc _ _ rfl
  · simp only [flds0, List.mem_cons, List.not_mem_nil, or_false] at hf
    rcases hf with rfl | rfl | rfl | rfl | rfl <;> exact ⟨hc _ _ rfl, World.ownsRow_nil _ _ _ _, by simp [Fld.val, Value.ownBlock]⟩
  · simp [flds0, Fld.val, Value.ownBlock]
  · simp [flds0, memNums]
theorem named_world' {P : Program} {c : Code} {Q : Exit → Act → World → Prop} {a : Act} {W : World} (h : ∀ W9, W9 = W → Code.wp P c Q a W9) : Code.wp P c Q a W := h W rfl
end Go.Proofs.YtecbbbaafcoliaaDoor
/- The walk of mem.New. -/
namespace Go.Proofs.YtecbbbaafcoliaaDoor
open Go.RowKit
set_option linter.unusedVariables false
set_option linter.unusedSimpArgs false

theorem n1_any (a hi : Int) (w : World) : Calls Tryd.prog 83 #[.int .i64 a, .int .i64 hi] w fun e w' => e = .returned (.bool (inR a 1 hi)) ∧ w' = w := by
  by_cases h : 1 ≤ a
  · have e : inR a 1 hi = decide (a ≤ hi) := by simp [inR, h]
    rw [e]
    go_enter Tryd.func83, Tryd.ntmps83
    go_wp2
    go_ret
    exact ⟨rfl, rfl⟩
  · have e : inR a 1 hi = false := by simp [inR, h]
    rw [e]
    go_enter Tryd.func83, Tryd.ntmps83
    go_wp2
    go_ret
    exact ⟨rfl, rfl⟩
def newOK (half old card : Int) : Bool := inR half 1 65536 && inR old 1 65536 && inR card 1 1024
theorem new_no (half old card : Int) (h : newOK half old card = false) (w : World) (gb : Addr) (hG : GBound w gb) :
    Calls Tryd.prog 35 #[.int .i64 half, .int .i64 old, .int .i64 card] w fun e w' => e = .returned (.tuple #[.pointer none, errV gb]) ∧ Ext w w' := by
  have h3 : inR half 1 65536 = false ∨ (inR half 1 65536 = true ∧ inR old 1 65536 = false) ∨ (inR half 1 65536 = true ∧ inR old 1 65536 = true ∧ inR card 1 1024 = false) := by
    revert h; unfold newOK; cases inR half 1 65536 <;> cases inR old 1 65536 <;> cases inR card 1 1024 <;> simp
  clear h
  rcases h3 with h1 | ⟨h1, h2⟩ | ⟨h1, h2, h3⟩
  all_goals
    go_enter Tryd.func35, Tryd.ntmps35
    go_wp2_with (go_at_call 83; refine (n1_any _ _ _).mono ?_; rintro e w' ⟨rfl, rfl⟩)
    go_quiet (fail)
    go_wp2
    go_ret2
    exact ⟨rfl, ext_drewN _ _⟩
/-- A new memory. -/
def newM (half old card : Int) : Mem := ⟨half, old, card, List.replicate (2 * half + old).toNat 0, 0, 0, 0, [], [], [], List.replicate ((old + card - 1) / card).toNat false⟩
theorem infoU : (Tryd.prog.info? 30).map (fun i => (i.zero, i.size, i.bytes)) = some (some (.int .u64 0), 1, 8) := by kernel_rfl
theorem infoB : (Tryd.prog.info? 4).map (fun i => (i.zero, i.size, i.bytes)) = some (some (.bool false), 1, 1) := by kernel_rfl
theorem undUs : Tryd.prog.underlying 35 = some (.slice 30) := by kernel_rfl
theorem undBs : Tryd.prog.underlying 37 = some (.slice 4) := by kernel_rfl
def NewPost (w : World) (M : Mem) (e : Ending) (w' : World) : Prop :=
  ∃ b S, e = .returned (.tuple #[.pointer (some ⟨b, 0, none⟩), .nilIface]) ∧ OMem w' w.heap.size b 72 M S ∧ Ext w w'
theorem om_made {wb : World} (B : Nat) (half old card : Int) (t tI : TypeId) (n1 n2 gW gC : Nat) (hn1 : n1 = (2 * half + old).toNat) (hn2 : n2 = ((old + card - 1) / card).toNat) (hB : B ≤ wb.heap.size) (hne : gW ≠ gC)
    (ho1 : wb.ownsRow B 30 1 (.slice (some ⟨gW, 0, none⟩) n1 n1) n1 (madeCells (Value.int .u64 0).cells (n1 * 1)).toList)
    (ho2 : wb.ownsRow B 4 1 (.slice (some ⟨gC, 0, none⟩) n2 n2) n2 (madeCells (Value.bool false).cells (n2 * 1)).toList) :
    OMem (wb.alloc (.cells #[.int .i64 half, .int .i64 old, .int .i64 card, .slice (some ⟨gW, 0, none⟩) n1 n1, .int .i64 0, .int .i64 0, .int .i64 0, .slice none 0 0, .slice none 0 0, .slice none 0 0, .slice (some ⟨gC, 0, none⟩) n2 n2] t)) B wb.heap.size tI (newM half old card)
      ⟨(some ⟨gW, 0, none⟩, n1), (none, 0), (none, 0), (none, 0), (some ⟨gC, 0, none⟩, n2)⟩ := by
  have e1 : (madeCells (Value.int .u64 0).cells (n1 * 1)).toList = wcells (newM half old card).W := by
    rw [show (Value.int .u64 0).cells = #[Value.int .u64 0] from rfl, Nat.mul_one, toList_madeCells_one]; simp [wcells, newM, hn1]
  have e2 : (madeCells (Value.bool false).cells (n2 * 1)).toList = bcells (newM half old card).cards := by
    rw [show (Value.bool false).cells = #[Value.bool false] from rfl, Nat.mul_one, toList_madeCells_one]; simp [bcells, newM, hn2]
  have l1 : (newM half old card).W.length = n1 := by simp [newM, hn1]
  have l2 : (newM half old card).cards.length = n2 := by simp [newM, hn2]
  have lt1 : gW < wb.heap.size := (ho1.lt gW rfl).2
  have lt2 : gC < wb.heap.size := (ho2.lt gC rfl).2
  have hc : ∀ j v, (#[Value.int .i64 half, .int .i64 old, .int .i64 card, .slice (some ⟨gW, 0, none⟩) n1 n1, .int .i64 0, .int .i64 0, .int .i64 0, .slice none 0 0, .slice none 0 0, .slice none 0 0, .slice (some ⟨gC, 0, none⟩) n2 n2] : Array Value)[j]? = some v → (wb.alloc (.cells #[.int .i64 half, .int .i64 old, .int .i64 card, .slice (some ⟨gW, 0, none⟩) n1 n1, .int .i64 0, .int .i64 0, .int .i64 0, .slice none 0 0, .slice none 0 0, .slice none 0 0, .slice (some ⟨gC, 0, none⟩) n2 n2] t)).cell? ⟨wb.heap.size, j, none⟩ = some v := fun j v hv => by
    rw [cell_of_row _ wb.heap.size j _ t (0, 0) (heap_alloc_new wb _)]; exact hv
  have r1 := ho1.alloc (.cells #[.int .i64 half, .int .i64 old, .int .i64 card, .slice (some ⟨gW, 0, none⟩) n1 n1, .int .i64 0, .int .i64 0, .int .i64 0, .slice none 0 0, .slice none 0 0, .slice none 0 0, .slice (some ⟨gC, 0, none⟩) n2 n2] t)
  have r2 := ho2.alloc (.cells #[.int .i64 half, .int .i64 old, .int .i64 card, .slice (some ⟨gW, 0, none⟩) n1 n1, .int .i64 0, .int .i64 0, .int .i64 0, .slice none 0 0, .slice none 0 0, .slice none 0 0, .slice (some ⟨gC, 0, none⟩) n2 n2] t)
  rw [e1] at r1
  rw [e2] at r2
  refine ⟨hB, ⟨_, t, heap_alloc_new wb _⟩, fun p hp => ?_, fun f hf => ?_, ?_, ?_⟩
  · simp only [memNums, List.mem_cons, List.not_mem_nil, or_false] at hp
    rcases hp with rfl | rfl | rfl | rfl | rfl | rfl <;> exact hc _ _ rfl
  · simp only [memFlds, List.mem_cons, List.not_mem_nil, or_false] at hf
    rcases hf with rfl | rfl | rfl | rfl | rfl
    · refine ⟨?_, ?_, ?_⟩
      · simp only [Fld.val, l1]; exact hc _ _ rfl
      · simp only [Fld.val, l1]; exact r1
      · simp [Fld.val, Value.ownBlock]; omega
    · exact ⟨hc _ _ rfl, World.ownsRow_nil _ _ _ _, by simp [Fld.val, Value.ownBlock]⟩
    · exact ⟨hc _ _ rfl, World.ownsRow_nil _ _ _ _, by simp [Fld.val, Value.ownBlock]⟩
    · exact ⟨hc _ _ rfl, World.ownsRow_nil _ _ _ _, by simp [Fld.val, Value.ownBlock]⟩
    · refine ⟨?_, ?_, ?_⟩
      · simp only [Fld.val, l2]; exact hc _ _ rfl
      · simp only [Fld.val, l2]; exact r2
      · simp [Fld.val, Value.ownBlock]; omega
  · simp [memFlds, Fld.val, Value.ownBlock]; exact fun e => hne e.symm
  · simp [memFlds, memNums]

set_option maxRecDepth 100000 in
set_option maxHeartbeats 4000000 in
theorem new_yes (half old card : Int) (h : newOK half old card = true) (w : World) :
    Calls Tryd.prog 35 #[.int .i64 half, .int .i64 old, .int .i64 card] w (NewPost w (newM half old card)) := by
  simp only [newOK, Bool.and_eq_true] at h
  obtain ⟨⟨h1, h2⟩, h3⟩ := h
  obtain ⟨a1, a2⟩ := inR_true.1 h1
  obtain ⟨a3, a4⟩ := inR_true.1 h2
  obtain ⟨a5, a6⟩ := inR_true.1 h3
  obtain ⟨i0, hi0, h0a, h0b, h0c⟩ := info_parts infoU
  obtain ⟨i4, hi4, h4a, h4b, h4c⟩ := info_parts infoB
  have q0 : 0 ≤ (old + card - 1) / card := Int.ediv_nonneg (by omega) (by omega)
  have q1 : (old + card - 1) / card ≤ old + card - 1 := Int.ediv_le_self _ (by omega)
  obtain ⟨n1, hn1⟩ : ∃ n : Nat, 2 * half + old = n := ⟨(2 * half + old).toNat, by omega⟩
  obtain ⟨n2, hn2⟩ : ∃ n : Nat, (old + card - 1) / card = n := ⟨((old + card - 1) / card).toNat, by omega⟩
  have e0 : IntKind.i64.wrap (2 * half) = 2 * half := IntWalk.i64_in _ (by omega)
  have e1 : IntKind.i64.wrap (2 * half + old) = (n1 : Int) := by rw [IntWalk.i64_in _ (by omega)]; exact hn1
  have e2 : IntKind.i64.wrap (old + card) = old + card := IntWalk.i64_in _ (by omega)
  have e3 : IntKind.i64.wrap (old + card - 1) = old + card - 1 := IntWalk.i64_in _ (by omega)
  have e4 : (old + card - 1).tdiv card = (n2 : Int) := by rw [Int.tdiv_eq_ediv_of_nonneg (by omega)]; exact hn2
  have e5 : IntKind.i64.wrap (n2 : Int) = (n2 : Int) := IntWalk.i64_in _ (by omega)
  have e8 : (card == 0) = false := by simp; omega
  have e9 : ¬ card = 0 := by omega
  have z1 : n1 = (2 * half + old).toNat := by omega
  have z2 : n2 = ((old + card - 1) / card).toNat := by omega
  obtain ⟨wa, hr1, ho1, hg1⟩ := run_make_full (P := Tryd.prog) w.drew w.heap.size 35 30 i0 (.int .u64 0) 1 undUs hi0 h0a h0b .i64 .i64 n1 (by rw [h0c]; omega) (by unfold maxLen; omega) (Nat.le_refl _)
  obtain ⟨wb, hr2, ho2, hg2⟩ := run_make_full (P := Tryd.prog) wa w.heap.size 37 4 i4 (.bool false) 1 undBs hi4 h4a h4b .i64 .i64 n2 (by rw [h4c]; omega) (by unfold maxLen; omega) hg1.size
  obtain ⟨va, hs1, hp1, hh1⟩ := run_make_full (P := Tryd.prog) w.drew w.heap.size 37 4 i4 (.bool false) 1 undBs hi4 h4a h4b .i64 .i64 n2 (by rw [h4c]; omega) (by unfold maxLen; omega) (Nat.le_refl _)
  obtain ⟨vb, hs2, hp2, hh2⟩ := run_make_full (P := Tryd.prog) va w.heap.size 35 30 i0 (.int .u64 0) 1 undUs hi0 h0a h0b .i64 .i64 n1 (by rw [h0c]; omega) (by unfold maxLen; omega) hh1.size
  have lt1 : w.heap.size < wa.heap.size := (ho1.lt w.drew.heap.size rfl).2
  have lt2 : w.heap.size < va.heap.size := (hp1.lt w.drew.heap.size rfl).2
  have x1 : Ext w wa := Ext.trans_ (Ext.refl w).drew_ (Below.grown (Below.refl _ _) hg1 (Nat.le_refl _) (fun k hk => by cases hk))
  have x2 : Ext w wb := Ext.trans_ x1 (Below.grown (Below.refl _ _) hg2 (Nat.le_refl _) (fun k hk => by cases hk))
  have x3 : Ext w va := Ext.trans_ (Ext.refl w).drew_ (Below.grown (Below.refl _ _) hh1 (Nat.le_refl _) (fun k hk => by cases hk))
  have x4 : Ext w vb := Ext.trans_ x3 (Below.grown (Below.refl _ _) hh2 (Nat.le_refl _) (fun k hk => by cases hk))
  have HOM := Lib.hid (om_made (wb := wb) w.heap.size half old card 39 72 n1 n2 w.heap.size wa.heap.size z1 z2 x2.size (by omega) (ho1.kept hg2 (Or.inr (by simp [Value.ownBlock]))) ho2)
  have HOV := Lib.hid (om_made (wb := vb) w.heap.size half old card 39 72 n1 n2 va.heap.size w.heap.size z1 z2 x4.size (by omega) hp2 (hp1.kept hh2 (Or.inr (by simp [Value.ownBlock]))))
  have X2 := Lib.hid x2
  have X4 := Lib.hid x4
  clear ho1 hg1 ho2 hg2 x1 x2 x3 x4 hp1 hp2 hh1 hh2 hn1 hn2 z1 z2 q0 q1 lt1 lt2
  go_enter Tryd.func35, Tryd.ntmps35
  go_wp2_with (go_at_call 83; refine (n1_any _ _ _).mono ?_; rintro e w' ⟨rfl, rfl⟩)
  refine wp_region_held_drew (S := fun _ => True) (by kernel_rfl) ?_ (fun hHeld => ?_)
  · trivial
  refine wpAnyH_take (i := 0) (oi := ⟨some 26, _, _, _, _, _⟩) (v := ?_) rfl (by kernel_rfl) (by kernel_rfl) (by kernel_rfl) (fun _ _ _ h => h) (Or.inl ⟨by rfl, ?_⟩) (by assumption) ?_
  rotate_left
  · (intro w hSw; (try dsimp only at hSw); go_simp; try with_reducible rfl)
  try simp only [Act.put, List.setIfInBounds_toArray, List.set_cons_zero, List.set_cons_succ]
  refine wpAnyH_take (i := 1) (oi := ⟨some 27, _, _, _, _, _⟩) (v := ?_) rfl (by kernel_rfl) (by kernel_rfl) (by kernel_rfl) (fun _ _ _ h => h) (Or.inl ⟨by rfl, ?_⟩) (by assumption) ?_
  rotate_left
  · (intro w hSw; (try dsimp only at hSw); go_simp; try with_reducible rfl)
  try simp only [Act.put, List.setIfInBounds_toArray, List.set_cons_zero, List.set_cons_succ]
  refine wpAnyH_take (i := 2) (oi := ⟨some 28, _, _, _, _, _⟩) (v := ?_) rfl (by kernel_rfl) (by kernel_rfl) (by kernel_rfl) (fun _ _ _ h => h) (Or.inl ⟨by rfl, ?_⟩) (by assumption) ?_
  rotate_left
  · (intro w hSw; (try dsimp only at hSw); go_simp; try with_reducible rfl)
  try simp only [Act.put, List.setIfInBounds_toArray, List.set_cons_zero, List.set_cons_succ]
  refine wpAnyH_take (i := 3) (oi := ⟨some 29, _, _, _, _, _⟩) (v := ?_) rfl (by kernel_rfl) (by kernel_rfl) (by kernel_rfl) (fun _ _ _ h => h) (Or.inl ⟨by rfl, ?_⟩) (by assumption) ?_
  rotate_left
  · (intro w hSw; (try dsimp only at hSw); go_simp; try with_reducible rfl)
  try simp only [Act.put, List.setIfInBounds_toArray, List.set_cons_zero, List.set_cons_succ]
  refine wpAnyH_take (i := 4) (oi := ⟨some 30, _, _, _, _, _⟩) (v := ?_) rfl (by kernel_rfl) (by kernel_rfl) (by kernel_rfl) (fun _ _ _ h => h) (Or.inl ⟨by rfl, ?_⟩) (by assumption) ?_
  rotate_left
  · (intro w hSw; (try dsimp only at hSw); go_simp; try with_reducible rfl)
  try simp only [Act.put, List.setIfInBounds_toArray, List.set_cons_zero, List.set_cons_succ]
  refine wpAnyH_take (i := 5) (oi := ⟨some 31, _, _, _, _, _⟩) (v := ?_) rfl (by kernel_rfl) (by kernel_rfl) (by kernel_rfl) (fun _ _ _ h => h) (Or.inl ⟨by rfl, ?_⟩) (by assumption) ?_
  rotate_left
  · (intro w hSw; (try dsimp only at hSw); go_simp; try with_reducible rfl)
  try simp only [Act.put, List.setIfInBounds_toArray, List.set_cons_zero, List.set_cons_succ]
  refine wpAnyH_take (i := 6) (oi := ⟨some 32, _, _, _, _, _⟩) (v := ?_) rfl (by kernel_rfl) (by kernel_rfl) (by kernel_rfl) (fun _ _ _ h => h) (Or.inl ⟨by rfl, ?_⟩) (by assumption) ?_
  rotate_left
  · (intro w hSw; (try dsimp only at hSw); go_simp; try with_reducible rfl)
  try simp only [Act.put, List.setIfInBounds_toArray, List.set_cons_zero, List.set_cons_succ]
  refine wpAnyH_take (i := 8) (oi := ⟨some 34, _, _, _, _, _⟩) (v := ?_) rfl (by kernel_rfl) (by kernel_rfl) (by kernel_rfl) (fun _ _ _ h => h) (Or.inl ⟨by rfl, ?_⟩) (by assumption) ?_
  rotate_left
  · (intro w hSw; (try dsimp only at hSw); go_simp; try with_reducible rfl)
  try simp only [Act.put, List.setIfInBounds_toArray, List.set_cons_zero, List.set_cons_succ]
  refine wpAnyH_take (i := 9) (oi := ⟨some 35, _, _, _, _, _⟩) (v := ?_) rfl (by kernel_rfl) (by kernel_rfl) (by kernel_rfl) (fun _ _ _ h => h) (Or.inl ⟨by rfl, ?_⟩) (by assumption) ?_
  rotate_left
  · (intro w hSw; (try dsimp only at hSw); go_simp; try with_reducible rfl)
  try simp only [Act.put, List.setIfInBounds_toArray, List.set_cons_zero, List.set_cons_succ]
  refine wpAnyH_take (i := 10) (oi := ⟨some 36, _, _, _, _, _⟩) (v := ?_) rfl (by kernel_rfl) (by kernel_rfl) (by kernel_rfl) (fun _ _ _ h => h) (Or.inl ⟨by rfl, ?_⟩) (by assumption) ?_
  rotate_left
  · (intro w hSw; (try dsimp only at hSw); go_simp; try with_reducible rfl)
  try simp only [Act.put, List.setIfInBounds_toArray, List.set_cons_zero, List.set_cons_succ]
  refine wpAnyH_take (i := 11) (oi := ⟨some 37, _, _, _, _, _⟩) (v := ?_) rfl (by kernel_rfl) (by kernel_rfl) (by kernel_rfl) (fun _ _ _ h => h) (Or.inl ⟨by rfl, ?_⟩) (by assumption) ?_
  rotate_left
  · (intro w hSw; (try dsimp only at hSw); go_simp; try with_reducible rfl)
  try simp only [Act.put, List.setIfInBounds_toArray, List.set_cons_zero, List.set_cons_succ]
  refine wpAnyH_take (i := 12) (oi := ⟨some 38, _, _, _, _, _⟩) (v := ?_) rfl (by kernel_rfl) (by kernel_rfl) (by kernel_rfl) (fun _ _ _ h => h) (Or.inl ⟨by rfl, ?_⟩) (by assumption) ?_
  rotate_left
  · (intro w hSw; (try dsimp only at hSw); go_simp; try with_reducible rfl)
  try simp only [Act.put, List.setIfInBounds_toArray, List.set_cons_zero, List.set_cons_succ]
  refine wpAnyH_take (i := 13) (oi := ⟨some 39, _, _, _, _, _⟩) (v := ?_) rfl (by kernel_rfl) (by kernel_rfl) (by kernel_rfl) (fun _ _ _ h => h) (Or.inl ⟨by rfl, ?_⟩) (by assumption) ?_
  rotate_left
  · (intro w hSw; (try dsimp only at hSw); go_simp; try with_reducible rfl)
  try simp only [Act.put, List.setIfInBounds_toArray, List.set_cons_zero, List.set_cons_succ]
  refine wpAnyH_ready (rs := [7, 14]) (by kernel_rfl) (by simp) ?_
  refine AllReadyH.cons (o := ⟨some 33, _, _, _, _, _⟩) rfl (fun K hK => ?_) (AllReadyH.cons (o := ⟨some 40, _, _, _, _, _⟩) rfl (fun K hK => ?_) AllReadyH.nil)
  · skip
    go_simp
    refine hK.out _ _ ?_ (fun hHeld => ?_)
    · (try dsimp only); all_goals trivial
    clear hK K
    try simp only [Act.put, List.setIfInBounds_toArray, List.set_cons_zero, List.set_cons_succ]
    refine wpAnyH_ready (rs := [14]) (by kernel_rfl) (by simp) ?_
    refine AllReadyH.cons (o := ⟨some 40, _, _, _, _, _⟩) rfl (fun K hK => ?_) AllReadyH.nil
    go_simp
    skip
    refine hK.out _ _ ?_ (fun hHeld => ?_)
    · (try dsimp only); all_goals trivial
    clear hK K
    try simp only [Act.put, List.setIfInBounds_toArray, List.set_cons_zero, List.set_cons_succ]
    refine wpAnyH_take (i := 15) (oi := ⟨some 41, _, _, _, _, _⟩) (v := ?_) rfl (by kernel_rfl) (by kernel_rfl) (by kernel_rfl) (fun _ _ _ h => h) (Or.inl ⟨by rfl, ?_⟩) (by assumption) ?_
    rotate_left
    · (intro w hSw; (try dsimp only at hSw); go_simp; try with_reducible rfl)
    try simp only [Act.put, List.setIfInBounds_toArray, List.set_cons_zero, List.set_cons_succ]
    refine wpAnyH_ready (rs := [16]) (by kernel_rfl) (by simp) ?_
    refine AllReadyH.cons (o := ⟨some 42, _, _, _, _, _⟩) rfl (fun K hK => ?_) AllReadyH.nil
    go_simp
    skip
    refine hK.out _ _ ?_ (fun hHeld => ?_)
    · (try dsimp only); all_goals trivial
    clear hK K
    try simp only [Act.put, List.setIfInBounds_toArray, List.set_cons_zero, List.set_cons_succ]
    refine wpAnyH_take (i := 17) (oi := ⟨some 6, _, _, _, _, _⟩) (v := ?_) rfl (by kernel_rfl) (by kernel_rfl) (by kernel_rfl) (fun _ _ _ h => h) (Or.inl ⟨by rfl, ?_⟩) (by assumption) ?_
    rotate_left
    · (intro w hSw; (try dsimp only at hSw); go_simp; try with_reducible rfl)
    try simp only [Act.put, List.setIfInBounds_toArray, List.set_cons_zero, List.set_cons_succ]
    refine wpAnyH_take (i := 18) (oi := ⟨some 7, _, _, _, _, _⟩) (v := ?_) rfl (by kernel_rfl) (by kernel_rfl) (by kernel_rfl) (fun _ _ _ h => h) (Or.inl ⟨by rfl, ?_⟩) (by assumption) ?_
    rotate_left
    · (intro w hSw; (try dsimp only at hSw); go_simp; try with_reducible rfl)
    try simp only [Act.put, List.setIfInBounds_toArray, List.set_cons_zero, List.set_cons_succ]
    refine wpAnyH_done (by kernel_rfl) ?_ _
    go_wp2
    go_ret2
    exact ⟨wb.heap.size, _, rfl, HOM.out, Ext.alloc_ X2.out _⟩
  · skip
    go_simp
    refine hK.out _ _ ?_ (fun hHeld => ?_)
    · (try dsimp only); all_goals trivial
    clear hK K
    try simp only [Act.put, List.setIfInBounds_toArray, List.set_cons_zero, List.set_cons_succ]
    refine wpAnyH_ready (rs := [7]) (by kernel_rfl) (by simp) ?_
    refine AllReadyH.cons (o := ⟨some 33, _, _, _, _, _⟩) rfl (fun K hK => ?_) AllReadyH.nil
    go_simp
    skip
    refine hK.out _ _ ?_ (fun hHeld => ?_)
    · (try dsimp only); all_goals trivial
    clear hK K
    try simp only [Act.put, List.setIfInBounds_toArray, List.set_cons_zero, List.set_cons_succ]
    refine wpAnyH_take (i := 15) (oi := ⟨some 41, _, _, _, _, _⟩) (v := ?_) rfl (by kernel_rfl) (by kernel_rfl) (by kernel_rfl) (fun _ _ _ h => h) (Or.inl ⟨by rfl, ?_⟩) (by assumption) ?_
    rotate_left
    · (intro w hSw; (try dsimp only at hSw); go_simp; try with_reducible rfl)
    try simp only [Act.put, List.setIfInBounds_toArray, List.set_cons_zero, List.set_cons_succ]
    refine wpAnyH_ready (rs := [16]) (by kernel_rfl) (by simp) ?_
    refine AllReadyH.cons (o := ⟨some 42, _, _, _, _, _⟩) rfl (fun K hK => ?_) AllReadyH.nil
    go_simp
    skip
    refine hK.out _ _ ?_ (fun hHeld => ?_)
    · (try dsimp only); all_goals trivial
    clear hK K
    try simp only [Act.put, List.setIfInBounds_toArray, List.set_cons_zero, List.set_cons_succ]
    refine wpAnyH_take (i := 17) (oi := ⟨some 6, _, _, _, _, _⟩) (v := ?_) rfl (by kernel_rfl) (by kernel_rfl) (by kernel_rfl) (fun _ _ _ h => h) (Or.inl ⟨by rfl, ?_⟩) (by assumption) ?_
    rotate_left
    · (intro w hSw; (try dsimp only at hSw); go_simp; try with_reducible rfl)
    try simp only [Act.put, List.setIfInBounds_toArray, List.set_cons_zero, List.set_cons_succ]
    refine wpAnyH_take (i := 18) (oi := ⟨some 7, _, _, _, _, _⟩) (v := ?_) rfl (by kernel_rfl) (by kernel_rfl) (by kernel_rfl) (fun _ _ _ h => h) (Or.inl ⟨by rfl, ?_⟩) (by assumption) ?_
    rotate_left
    · (intro w hSw; (try dsimp only at hSw); go_simp; try with_reducible rfl)
    try simp only [Act.put, List.setIfInBounds_toArray, List.set_cons_zero, List.set_cons_succ]
    refine wpAnyH_done (by kernel_rfl) ?_ _
    go_wp2
    go_ret2
    exact ⟨vb.heap.size, _, rfl, HOV.out, Ext.alloc_ X4.out _⟩
end Go.Proofs.YtecbbbaafcoliaaDoor
/- The walks of package mem: its small functions. -/
namespace Go.Proofs.YtecbbbaafcoliaaDoor
open Go.RowKit
set_option linter.unusedVariables false
set_option linter.unusedSimpArgs false

/-- Is a kind raw? Does an address lie in the old space? Does a word point into the nursery? Is a word a field? -/
def rawB (k : Int) : Bool := decide (k < 8)
def oldB (M : Mem) (a : Int) : Bool := decide (2 * M.half ≤ a)
def youngB (M : Mem) (a : Int) : Bool := (kindW a == 0) && (a != 0) && !oldB M (placeW a)
def inSt (st : List Int) (a : Int) : Bool := st.contains a
def fldB (st : List Int) (a : Int) : Bool :=
  if kindW a = 0 then a == 0 || inSt st (placeW a) else if kindW a = 1 then true else if kindW a = 2 then decide (a / 4 ≤ 2) else false
def cardB (M : Mem) (a : Int) : Bool := M.cards.getD ((a - 2 * M.half) / M.card).toNat false

theorem raw_any (k : Int) (w : World) : Calls Tryd.prog 40 #[.int .i64 k] w fun e w' => e = .returned (.bool (rawB k)) ∧ w' = w := by
  unfold rawB
  go_enter Tryd.func40, Tryd.ntmps40
  go_wp2
  go_ret
  exact ⟨rfl, rfl⟩
theorem base_any (w : World) (b o : Nat) (M : Mem) (S : Sls) (hM : RMem w b o M S) (hs : Shp M) :
    Calls Tryd.prog 86 #[.pointer (some ⟨b, o, none⟩)] w fun e w' => e = .returned (.int .i64 (M.base : Int)) ∧ ∃ n, w' = w.drewN n := by
  obtain ⟨hb, b0, b1⟩ := hs.base
  have h2 := hs.h2
  have c1 := hM.used
  have c2 := hM.half
  have e1 : IntKind.i64.wrap (M.used * M.half) = M.used * M.half := IntWalk.i64_in _ (by omega)
  rw [← hb]
  clear hb hM hs
  go_enter Tryd.func86, Tryd.ntmps86
  go_wp2
  go_quiet (fail)
  go_wp2
  go_ret
  exact ⟨rfl, _, rfl⟩
theorem inOld_any (a : Int) (w : World) (b o : Nat) (M : Mem) (S : Sls) (hM : RMem w b o M S) (hs : Shp M) :
    Calls Tryd.prog 56 #[.pointer (some ⟨b, o, none⟩), .int .i64 a] w fun e w' => e = .returned (.bool (oldB M a)) ∧ w' = w := by
  have h1 := hs.h1
  have h2 := hs.h2
  have c2 := hM.half
  clear hM hs
  unfold oldB
  go_enter Tryd.func56, Tryd.ntmps56
  go_wp2
  go_ret
  exact ⟨rfl, rfl⟩
theorem young_any (a : Int) (h0 : 0 ≤ a) (h1 : a ≤ 18446744073709551615) (w : World) (b o : Nat) (M : Mem) (S : Sls) (hM : RMem w b o M S) (hs : Shp M) :
    Calls Tryd.prog 61 #[.pointer (some ⟨b, o, none⟩), .int .u64 a] w fun e w' => e = .returned (.bool (youngB M a)) ∧ w' = w := by
  by_cases hk : kindW a = 0
  · have k1 : (kindW a == 0) = true := by simpa using hk
    by_cases hz : a = 0
    · have k2 : (a != 0) = false := by simpa using hz
      have e : youngB M a = false := by simp [youngB, k2]
      rw [e]
      clear hk hz
      go_enter Tryd.func61, Tryd.ntmps61
      go_wp2_with (first
        | (go_at_call 63; refine (kind_any _ h0 h1 _).mono ?_; rintro e w' ⟨rfl, rfl⟩))
      go_ret
      exact ⟨rfl, rfl⟩
    · have k2 : (a != 0) = true := by simpa using hz
      have e : youngB M a = !oldB M (placeW a) := by simp [youngB, k1, k2]
      rw [e]
      clear hk hz
      go_enter Tryd.func61, Tryd.ntmps61
      go_wp2_with (first
        | (go_at_call 63; refine (kind_any _ h0 h1 _).mono ?_; rintro e w' ⟨rfl, rfl⟩)
        | (go_at_call 81; refine (place_any _ h0 h1 _).mono ?_; rintro e w' ⟨rfl, rfl⟩)
        | (go_at_call 56; refine (inOld_any _ _ b o M S hM hs).mono ?_; rintro e w' ⟨rfl, rfl⟩))
      go_ret
      exact ⟨rfl, rfl⟩
  · have k1 : (kindW a == 0) = false := by simpa using hk
    have e : youngB M a = false := by simp [youngB, k1]
    rw [e]
    clear hk
    go_enter Tryd.func61, Tryd.ntmps61
    go_wp2_with (first
      | (go_at_call 63; refine (kind_any _ h0 h1 _).mono ?_; rintro e w' ⟨rfl, rfl⟩))
    go_ret
    exact ⟨rfl, rfl⟩
theorem bcells_at (l : List Bool) (j : Nat) (h : j < l.length) : (bcells l)[j]? = some (.bool (l.getD j false)) := by
  simp [bcells, List.getD_eq_getElem?_getD, h]
theorem marked_any (a : Int) (w : World) (b o : Nat) (M : Mem) (S : Sls) (hM : RMem w b o M S) (hs : Shp M) (ha : 2 * M.half ≤ a) (hb : a < 2 * M.half + M.old) :
    Calls Tryd.prog 62 #[.pointer (some ⟨b, o, none⟩), .int .i64 a] w fun e w' => e = .returned (.bool (cardB M a)) ∧ ∃ n, w' = w.drewN n := by
  obtain ⟨i0, i1⟩ := hs.card a ha hb
  have h1 := hs.h1
  have h2 := hs.h2
  have o2 := hs.o2
  have cc1 := hs.c1
  have cc2 := hs.c2
  have c1 := hM.cards
  have c2 := hM.half
  have c3 := hM.card
  unfold cardB
  have hq : (a - 2 * M.half).tdiv M.card = (a - 2 * M.half) / M.card := Int.tdiv_eq_ediv_of_nonneg (by omega)
  obtain ⟨J, hJ⟩ : ∃ J : Nat, (a - 2 * M.half) / M.card = (J : Int) := ⟨((a - 2 * M.half) / M.card).toNat, by omega⟩
  rw [hJ] at hq i1 i0 ⊢
  have hJl : J < M.cards.length := by omega
  obtain ⟨cb, co, hC, hcell⟩ := hM.rC J _ (bcells_at M.cards J hJl)
  rw [hC] at c1
  rw [Int.toNat_natCast]
  have e0 : IntKind.i64.wrap (2 * M.half) = 2 * M.half := IntWalk.i64_in _ (by omega)
  have e1 : IntKind.i64.wrap (a - 2 * M.half) = a - 2 * M.half := IntWalk.i64_in _ (by omega)
  have hcap := hM.capC
  have hcl : M.cards.length ≤ 9223372036854775807 := hM.ok.lenC
  have e2 : IntKind.i64.wrap ((J : Nat) : Int) = (J : Int) := IntWalk.i64_in _ (by omega)
  have hne : (M.card == 0) = false := by simp; omega
  have hjj : (J : Int) < (M.cards.length : Int) := by omega
  clear hJ hC hM hs
  go_enter Tryd.func62, Tryd.ntmps62
  go_wp2
  go_quiet (fail)
  go_wp2
  go_ret
  refine ⟨?_, _, rfl⟩
  simp [List.getD_eq_getElem?_getD, hJl]
end Go.Proofs.YtecbbbaafcoliaaDoor
/- The walk of mem.field. -/
namespace Go.Proofs.YtecbbbaafcoliaaDoor
open Go.RowKit
set_option linter.unusedVariables false
set_option linter.unusedSimpArgs false

theorem undStarts : Tryd.prog.underlying 76 = some (.map 3 4) := by kernel_rfl
theorem undInt : Tryd.prog.underlying 3 = some (.int .i64) := by kernel_rfl
theorem zeroBool (w : World) : (zeroValue 4).run Tryd.prog w = .ok (.bool false) w := by kernel_rfl
/-- A look-up among addresses. -/
theorem smap_look {w : World} {bm : Nat} {st : List Int} (h : SMap w bm .i64 st) (a : Int) :
    (Instr.lookup 76 (.map (some bm)) (.int .i64 a) false).run Tryd.prog w = .ok (.bool (inSt st a)) w := by
  obtain ⟨es, hm, hg⟩ := h
  rw [run_lookup_mapi undStarts undInt (zeroBool w) hm a false, hg a]
  unfold inSt
  cases st.contains a <;> rfl
/-- A store among addresses. -/
theorem smap_put {w : World} {bm : Nat} {st : List Int} (h : SMap w bm .i64 st) (a : Int) :
    ∃ w', (Instr.mapUpdate 76 (.map (some bm)) (.int .i64 a) (.bool true)).run Tryd.prog w = .ok () w' ∧ SMap w' bm .i64 (st ++ [a]) ∧ But bm w w' := by
  obtain ⟨es, hm, hg⟩ := h
  obtain ⟨w', h1, h2, h3⟩ := run_update_mapi (P := Tryd.prog) undStarts undInt hm a (.bool true)
  exact ⟨w', h1, SMap.put a hg h2, h3⟩

theorem field_any (a : Int) (h0 : 0 ≤ a) (h1 : a ≤ 18446744073709551615) (bm : Nat) (st : List Int) (w : World) (hm : SMap w bm .i64 st) :
    Calls Tryd.prog 43 #[.int .u64 a, .map (some bm)] w fun e w' => e = .returned (.bool (fldB st a)) ∧ w' = w := by
  have hr : 0 ≤ kindW a ∧ kindW a ≤ 3 := by unfold kindW; omega
  have hlk := smap_look hm (placeW a)
  clear hm
  by_cases hk0 : kindW a = 0
  · have k1 : (kindW a == 0) = true := by simpa using hk0
    by_cases hz : a = 0
    · have k2 : (a == 0) = true := by simpa using hz
      have e : fldB st a = true := by simp [fldB, hk0, k2]
      rw [e]
      clear hk0 hz hlk
      go_enter Tryd.func43, Tryd.ntmps43
      go_wp2_with (first
        | (go_at_call 63; refine (kind_any _ h0 h1 _).mono ?_; rintro e w' ⟨rfl, rfl⟩))
      go_ret
      exact ⟨rfl, rfl⟩
    · have k2 : (a == 0) = false := by simpa using hz
      have e : fldB st a = inSt st (placeW a) := by simp [fldB, hk0, k2]
      rw [e]
      clear hk0 hz
      go_enter Tryd.func43, Tryd.ntmps43
      go_wp2_with (first
        | (go_at_call 63; refine (kind_any _ h0 h1 _).mono ?_; rintro e w' ⟨rfl, rfl⟩)
        | (go_at_call 81; refine (place_any _ h0 h1 _).mono ?_; rintro e w' ⟨rfl, rfl⟩))
      go_ret
      exact ⟨rfl, rfl⟩
  · have k1 : (kindW a == 0) = false := by simpa using hk0
    by_cases hk2 : kindW a = 2
    · have k2 : (kindW a == 2) = true := by simpa using hk2
      have e : fldB st a = decide (a / 4 ≤ 2) := by simp [fldB, hk2]
      rw [e]
      clear hk0 hk2 hlk
      go_enter Tryd.func43, Tryd.ntmps43
      go_wp2_with (first
        | (go_at_call 63; refine (kind_any _ h0 h1 _).mono ?_; rintro e w' ⟨rfl, rfl⟩))
      go_ret
      exact ⟨rfl, rfl⟩
    · have k2 : (kindW a == 2) = false := by simpa using hk2
      by_cases hk3 : kindW a = 1
      · have k3 : (kindW a == 1) = true := by simpa using hk3
        have e : fldB st a = true := by simp [fldB, hk3]
        rw [e]
        clear hk0 hk2 hk3 hlk
        go_enter Tryd.func43, Tryd.ntmps43
        go_wp2_with (first
          | (go_at_call 63; refine (kind_any _ h0 h1 _).mono ?_; rintro e w' ⟨rfl, rfl⟩))
        go_ret
        exact ⟨rfl, rfl⟩
      · have k3 : (kindW a == 1) = false := by simpa using hk3
        have e : fldB st a = false := by simp [fldB, hk0, hk2, hk3]
        rw [e]
        clear hk0 hk2 hk3 hlk
        go_enter Tryd.func43, Tryd.ntmps43
        go_wp2_with (first
          | (go_at_call 63; refine (kind_any _ h0 h1 _).mono ?_; rintro e w' ⟨rfl, rfl⟩))
        go_ret
        exact ⟨rfl, rfl⟩
end Go.Proofs.YtecbbbaafcoliaaDoor
/- The walk of Memory.Each, whatever is called on the objects. -/
namespace Go.Proofs.YtecbbbaafcoliaaDoor
open Go.RowKit
set_option linter.unusedVariables false
set_option linter.unusedSimpArgs false

/-- A header as a value. -/
def headV (a : Int) : Value := .agg #[.int .i64 (hKind a), .int .i64 (hAge a), .int .i64 (hMark a), .int .i64 (hSize a)]
/-- What Each leaves. -/
def EachPost (L : Nat → Prop) (w : World) (I : List Ob → World → Prop) (see : Ob → Bool) (v0 : List Ob) (p : List Ob × Bool) (e : Ending) (w' : World) : Prop :=
  ∃ v, e = .returned (.bool (p.2 && p.1.all see)) ∧ I (v0 ++ v) w' ∧ ((p.2 && p.1.all see) = true → v = p.1) ∧ Keep L w w'
theorem wcells_at (l : List Int) (j : Nat) (h : j < l.length) : (wcells l)[j]? = some (.int .u64 (l.getD j 0)) := by
  simp [wcells, List.getD_eq_getElem?_getD, h]
theorem wat_in {M : Mem} (h : M.Ok) (j : Nat) : 0 ≤ wat M.W j ∧ wat M.W j ≤ 18446744073709551615 := by
  unfold wat
  rw [List.getD_eq_getElem?_getD]
  rcases Nat.lt_or_ge j M.W.length with g | g
  · rw [List.getElem?_eq_getElem g]; exact h.W _ (List.getElem_mem g)
  · rw [List.getElem?_eq_none g]; simp

set_option maxRecDepth 100000 in
set_option maxHeartbeats 2000000 in
theorem each_walk (w0 : World) (b o : Nat) (M : Mem) (S : Sls) (hM : RMem w0 b o M S) (gb gs : Addr) (hG : GBound w0 gb) (hS : GShape w0 gs)
    (L : Nat → Prop) (g : Nat) (lb : Array Value) (eg : ∀ args w, (callFunc g args).run Tryd.prog w = .ok (.enter g args) w) (see : Ob → Bool) (I : List Ob → World → Prop)
    (w : World) (hE : Ext w0 w) (hL : ∀ k, L k → w0.heap.size ≤ k ∧ k < w.heap.size) (hX : ∀ v w w', I v w → Ext w w' → I v w') (a to : Nat) (hto : to ≤ M.W.length) (hlen : M.W.length ≤ 196608)
    (hC : ∀ v x w', I v w' → Keep L w w' → ObIn M.W a to x → Calls Tryd.prog g (#[.int .i64 (x.a : Int), headV x.w] ++ lb) w' fun e w'' => e = .returned (.bool (see x)) ∧ I (v ++ [x]) w'' ∧ Keep L w' w'')
    (hat : a ≤ to) (v0 : List Ob) (hI : I v0 w) :
    Calls Tryd.prog 65 #[.pointer (some ⟨b, o, none⟩), .int .i64 (a : Int), .int .i64 (to : Int), .func (.func g) #[] lb] w (EachPost L w I see v0 (part M.W a to)) := by
  have HX := Lib.hid hX
  have HC := Lib.hid hC
  have HL := Lib.hid hL
  have HE := Lib.hid hE
  have HM := Lib.hid hM
  have HG := Lib.hid hG
  have HS := Lib.hid hS
  have HI : Hid (I v0 w) := hI
  clear hX hM hC hI hL hE hG hS
  go_enter Tryd.func65, Tryd.ntmps65
  go_wp2
  go_loopw [1] (fun i wr => ∃ (k : Nat) (v : List Ob), a ≤ k ∧ k ≤ to ∧ i = .int .i64 (k : Int) ∧ Hid (I (v0 ++ v) wr) ∧ Hid (part M.W a to = (v ++ (part M.W k to).1, (part M.W k to).2)) ∧ Hid (v.all see = true) ∧ Hid (Keep L w wr))
    (fun i _ => to - (intOf i).toNat)
  case atStart => exact ⟨a, [], Nat.le_refl _, hat, rfl, by rw [List.append_nil]; exact HI, rfl, rfl, Keep.refl _ _⟩
  case round =>
    obtain ⟨k, v, hk1, hk2, rfl, hI, hP, hA, hK⟩ := hrel
    by_cases hlt : k < to
    · have hkW : k < M.W.length := by omega
      have hEr : Ext w0 wr := Ext.keep HE.out hK.out fun i hi => (HL.out i hi).1
      have hMr : RMem wr b o M S := HM.out.ext hEr
      have c_W := hMr.W
      obtain ⟨wb, wo, hWa, hc⟩ := hMr.rW k _ (wcells_at M.W k hkW)
      rw [hWa] at c_W
      have hcapW := hMr.capW
      have hgb : GBound wr gb := hEr.cell_ HG.out
      have hgs : GShape wr gs := hEr.cell_ HS.out
      obtain ⟨hq0, hq1⟩ := wat_in HM.out.ok k
      change wr.cell? ⟨wb, wo + k, none⟩ = some (.int .u64 (wat M.W k)) at hc
      have HER := Lib.hid hEr
      clear hMr hWa hEr
      have hsz : hSize (wat M.W k) ≤ 281474976710655 ∧ 0 ≤ hSize (wat M.W k) := by unfold hSize; omega
      obtain ⟨hsz1, hsz0⟩ := hsz
      cases hd : isHd (wat M.W k) with
      | false =>
        have HB := Lib.hid (part_bad M.W k to hlt (by rw [hd]; rfl))
        go_wp2_with (go_at_call 67; refine (toHead_no _ hq0 hq1 hd _ gb gs hgb hgs).mono ?_; rintro e w1 ⟨rfl, hx⟩)
        go_ret
        refine ⟨v, ?_, ?_, fun h => ?_, ?_⟩
        · rw [hP.out, HB.out]; rfl
        · refine HX.out _ _ _ hI.out ?_
          repeat (first | exact hx | exact Ext.refl _ | (refine Ext.set_ ?_ (by simp; omega) _) | (refine Ext.alloc_ ?_ _) | (refine Ext.drew_ ?_) | (refine Ext.drewN_ ?_ _))
        · rw [hP.out, HB.out] at h; cases h
        · refine hK.out.ext_ ?_
          repeat (first | exact hx | exact Ext.refl _ | (refine Ext.set_ ?_ (by simp; omega) _) | (refine Ext.alloc_ ?_ _) | (refine Ext.drew_ ?_) | (refine Ext.drewN_ ?_ _))
      | true =>
        by_cases hfit : (k : Int) + 1 + hSize (wat M.W k) ≤ (to : Int)
        · have HIN : Hid (ObIn M.W a to ⟨k, wat M.W k⟩) := ⟨rfl, hd, hk1, by show k + 1 + (hSize (wat M.W k)).toNat ≤ to; omega⟩
          have HB := Lib.hid (part_next M.W k to hd (by omega))
          cases hsee : see ⟨k, wat M.W k⟩ with
          | false =>
            have HSEE := Lib.hid hsee
            go_wp2_with (first
              | (go_at_call 67; refine (toHead_yes _ hq0 hq1 hd _).mono ?_; rintro e w1 ⟨rfl, hx⟩; have hxs := hx.size))
            refine (HC.out (v0 ++ v) ⟨k, wat M.W k⟩ _ ?_ ?_ HIN.out).mono ?_
            · refine HX.out _ _ _ hI.out ?_
              repeat (first | exact hx | exact Ext.refl _ | (refine Ext.set_ ?_ (by simp; omega) _) | (refine Ext.alloc_ ?_ _) | (refine Ext.drew_ ?_) | (refine Ext.drewN_ ?_ _))
            · refine hK.out.ext_ ?_
              repeat (first | exact hx | exact Ext.refl _ | (refine Ext.set_ ?_ (by simp; omega) _) | (refine Ext.alloc_ ?_ _) | (refine Ext.drew_ ?_) | (refine Ext.drewN_ ?_ _))
            rintro e w2 ⟨he, hI2, hK2⟩
            rw [hsee] at he
            subst he
            have HK2 := Lib.hid hK2
            clear hK2 hsee
            go_wp2
            go_ret
            refine ⟨v ++ [⟨k, wat M.W k⟩], ?_, ?_, fun h => ?_, ?_⟩
            · rw [hP.out, HB.out]; simp [HSEE.out]
            · rw [← List.append_assoc]; exact hI2
            · rw [hP.out, HB.out] at h; simp [HSEE.out] at h
            · refine Keep.trans (hK.out.ext_ ?_) HK2.out
              repeat (first | exact hx | exact Ext.refl _ | (refine Ext.set_ ?_ (by simp; omega) _) | (refine Ext.alloc_ ?_ _) | (refine Ext.drew_ ?_) | (refine Ext.drewN_ ?_ _))
          | true =>
            have HSEE := Lib.hid hsee
            go_wp2_with (first
              | (go_at_call 67; refine (toHead_yes _ hq0 hq1 hd _).mono ?_; rintro e w1 ⟨rfl, hx⟩; have hxs := hx.size))
            refine (HC.out (v0 ++ v) ⟨k, wat M.W k⟩ _ ?_ ?_ HIN.out).mono ?_
            · refine HX.out _ _ _ hI.out ?_
              repeat (first | exact hx | exact Ext.refl _ | (refine Ext.set_ ?_ (by simp; omega) _) | (refine Ext.alloc_ ?_ _) | (refine Ext.drew_ ?_) | (refine Ext.drewN_ ?_ _))
            · refine hK.out.ext_ ?_
              repeat (first | exact hx | exact Ext.refl _ | (refine Ext.set_ ?_ (by simp; omega) _) | (refine Ext.alloc_ ?_ _) | (refine Ext.drew_ ?_) | (refine Ext.drewN_ ?_ _))
            rintro e w2 ⟨he, hI2, hK2⟩
            rw [hsee] at he
            subst he
            have hq3 : w2.cell? ⟨w1.heap.size, 3, none⟩ = some (.int .i64 (hSize (wat M.W k))) := hK2.cell (fun h => by have h1 := (HL.out _ h).2; have h2 := hK.out.size; simp at h1; omega) (by simp [go_sem])
            have HK2 := Lib.hid hK2
            have HI2 := Lib.hid hI2
            clear hK2 hsee hI2
            go_wp2
            go_roundw
            case rel =>
              refine ⟨k + 1 + (hSize (wat M.W k)).toNat, v ++ [⟨k, wat M.W k⟩], by omega, by omega, ?_, ?_, ?_, ?_, ?_⟩
              · go_num
              · rw [← List.append_assoc]; exact HI2.out
              · show part M.W a to = _
                rw [hP.out, HB.out]; simp
              · show (v ++ [_]).all see = true
                simp [hA.out, HSEE.out]
              · refine Keep.trans (hK.out.ext_ ?_) HK2.out
                repeat (first | exact hx | exact Ext.refl _ | (refine Ext.set_ ?_ (by simp; omega) _) | (refine Ext.alloc_ ?_ _) | (refine Ext.drew_ ?_) | (refine Ext.drewN_ ?_ _))
            case measure => simp [intOf]; omega
        · have HB := Lib.hid (part_bad M.W k to hlt (by rw [hd]; simp; omega))
          go_wp2_with (go_at_call 67; refine (toHead_yes _ hq0 hq1 hd _).mono ?_; rintro e w1 ⟨rfl, hx⟩; have hxs := hx.size)
          go_ret
          refine ⟨v, ?_, ?_, fun h => ?_, ?_⟩
          · rw [hP.out, HB.out]; rfl
          · refine HX.out _ _ _ hI.out ?_
            repeat (first | exact hx | exact Ext.refl _ | (refine Ext.set_ ?_ (by simp; omega) _) | (refine Ext.alloc_ ?_ _) | (refine Ext.drew_ ?_) | (refine Ext.drewN_ ?_ _))
          · rw [hP.out, HB.out] at h; cases h
          · refine hK.out.ext_ ?_
            repeat (first | exact hx | exact Ext.refl _ | (refine Ext.set_ ?_ (by simp; omega) _) | (refine Ext.alloc_ ?_ _) | (refine Ext.drew_ ?_) | (refine Ext.drewN_ ?_ _))
    · have HD := Lib.hid (part_done M.W k to (by omega))
      go_wp2
      go_ret
      refine ⟨v, ?_, hI.out, fun _ => ?_, hK.out⟩
      · rw [hP.out, HD.out]; simp [hA.out]
      · rw [hP.out, HD.out]; simp
end Go.Proofs.YtecbbbaafcoliaaDoor
