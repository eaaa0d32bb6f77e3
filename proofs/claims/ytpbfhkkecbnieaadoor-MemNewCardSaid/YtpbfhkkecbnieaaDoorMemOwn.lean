/- An own memory: as a memory that is read. -/
import Derived.Test.YtpbfhkkecbnieaaDoorOM
import Derived.Test.YtpbfhkkecbnieaaDoorIds
namespace Go.Proofs.YtpbfhkkecbnieaaDoor
open Go.RowKit
set_option linter.unusedVariables false
set_option linter.unusedSimpArgs false

def memNums (M : Mem) : List (Nat × Int) := [(0, M.half), (1, M.old), (2, M.card), (4, M.used), (5, M.top), (6, M.oldTop)]
def memFlds (tI : TypeId) (M : Mem) (S : Sls) : List Fld :=
  [⟨3, 25, 1, S.W.1, M.W.length, S.W.2, wcells M.W⟩, ⟨7, 25, 1, S.R.1, M.roots.length, S.R.2, wcells M.roots⟩, ⟨8, 25, 1, S.K.1, M.weak.length, S.K.2, wcells M.weak⟩,
    ⟨9, tI, 2, S.I.1, M.ids.length, S.I.2, icells M.ids⟩, ⟨10, 4, 1, S.C.1, M.cards.length, S.C.2, bcells M.cards⟩]
def OMem (w : World) (B b : Nat) (tI : TypeId) (M : Mem) (S : Sls) : Prop := OM w B b (memNums M) (memFlds tI M S)
theorem row_rsl {w : World} {B : Nat} {e : TypeId} {size : Nat} {a : Option Addr} {n c : Nat} {xs : List Value} (h : w.ownsRow B e size (.slice a n c) n xs) : RSl w a xs ∧ n ≤ c ∧ (a = none → c = 0) := by
  rcases h.2 with ⟨h1, h2⟩ | ⟨g, cap, cur, h1, _, hg, hc, _, _, ht⟩
  · injection h1 with h1 _ h3
    subst h1 h3 h2
    have : xs = [] := List.eq_nil_of_length_eq_zero (by simpa using h.1)
    subst this
    exact ⟨RSl.nil _ _, Nat.le_refl _, fun _ => rfl⟩
  · injection h1 with h1 _ h3
    subst h1 h3
    refine ⟨fun j u hu => ⟨g, 0, rfl, ?_⟩, hc, fun e => by cases e⟩
    rw [Nat.zero_add, cell_of_row w g j cur _ _ hg]
    rw [← ht, List.getElem?_take] at hu
    split at hu
    · simpa using hu
    · cases hu
theorem OMem.mem {w : World} {B b : Nat} {tI : TypeId} {M : Mem} {S : Sls} (h : OMem w B b tI M S) (hok : M.Ok) : RMem w b 0 M S := by
  have hn := h.num
  have hf := h.fld
  have q3 := hf _ (List.mem_of_getElem? (l := memFlds tI M S) (i := 0) rfl)
  have q7 := hf _ (List.mem_of_getElem? (l := memFlds tI M S) (i := 1) rfl)
  have q8 := hf _ (List.mem_of_getElem? (l := memFlds tI M S) (i := 2) rfl)
  have q9 := hf _ (List.mem_of_getElem? (l := memFlds tI M S) (i := 3) rfl)
  have q10 := hf _ (List.mem_of_getElem? (l := memFlds tI M S) (i := 4) rfl)
  obtain ⟨r3, c3, n3⟩ := row_rsl q3.2.1
  obtain ⟨r7, c7, n7⟩ := row_rsl q7.2.1
  obtain ⟨r8, c8, n8⟩ := row_rsl q8.2.1
  obtain ⟨r9, c9, n9⟩ := row_rsl q9.2.1
  obtain ⟨r10, c10, n10⟩ := row_rsl q10.2.1
  have e : ∀ j : Nat, (⟨b, 0 + j, none⟩ : Addr) = ⟨b, j, none⟩ := fun j => by rw [Nat.zero_add]
  refine ⟨?_, ?_, ?_, ?_, ?_, ?_, ?_, ?_, ?_, ?_, ?_, r3, r7, r8, r9, r10, c3, c7, c8, c9, c10, n3, n7, n8, n9, n10, hok⟩
  · exact hn _ (List.mem_of_getElem? (l := memNums M) (i := 0) rfl)
  · rw [e]; exact hn _ (List.mem_of_getElem? (l := memNums M) (i := 1) rfl)
  · rw [e]; exact hn _ (List.mem_of_getElem? (l := memNums M) (i := 2) rfl)
  · rw [e]; exact q3.1
  · rw [e]; exact hn _ (List.mem_of_getElem? (l := memNums M) (i := 3) rfl)
  · rw [e]; exact hn _ (List.mem_of_getElem? (l := memNums M) (i := 4) rfl)
  · rw [e]; exact hn _ (List.mem_of_getElem? (l := memNums M) (i := 5) rfl)
  · rw [e]; exact q7.1
  · rw [e]; exact q8.1
  · rw [e]; exact q9.1
  · rw [e]; exact q10.1
/-- Bounds by which every row can be copied. -/
structure Few (M : Mem) : Prop where
  W : M.W.length ≤ 1000000
  R : M.roots.length ≤ 1000000
  K : M.weak.length ≤ 1000000
  I : M.ids.length ≤ 1000000
  C : M.cards.length ≤ 1000000
theorem wcells_one (l : List Int) : ∀ u ∈ wcells l, u.oneCell' = true := fun u hu => by obtain ⟨x, _, rfl⟩ := List.mem_map.1 hu; rfl
theorem bcells_one (l : List Bool) : ∀ u ∈ bcells l, u.oneCell' = true := fun u hu => by obtain ⟨x, _, rfl⟩ := List.mem_map.1 hu; rfl
theorem icells_one (l : List (Int × Int)) : ∀ u ∈ icells l, u.oneCell' = true := fun u hu => by
  obtain ⟨o, _, ho⟩ := List.mem_flatMap.1 hu
  simp at ho
  rcases ho with rfl | rfl <;> rfl
theorem wcells_len (l : List Int) : (wcells l).length = l.length * 1 := by simp [wcells]
theorem bcells_len (l : List Bool) : (bcells l).length = l.length * 1 := by simp [bcells]
def flds0 (tI : TypeId) : List Fld := [⟨3, 25, 1, none, 0, 0, []⟩, ⟨7, 25, 1, none, 0, 0, []⟩, ⟨8, 25, 1, none, 0, 0, []⟩, ⟨9, tI, 2, none, 0, 0, []⟩, ⟨10, 4, 1, none, 0, 0, []⟩]
theorem om_new (w : World) (M : Mem) (t tI : TypeId) :
    OM (w.alloc (.cells #[.int .i64 M.half, .int .i64 M.old, .int .i64 M.card, .slice none 0 0, .int .i64 M.used, .int .i64 M.top, .int .i64 M.oldTop, .slice none 0 0, .slice none 0 0, .slice none 0 0, .slice none 0 0] t)) w.heap.size w.heap.size (memNums M) (flds0 tI) := by
  have hc : ∀ j v, (#[Value.int .i64 M.half, .int .i64 M.old, .int .i64 M.card, .slice none 0 0, .int .i64 M.used, .int .i64 M.top, .int .i64 M.oldTop, .slice none 0 0, .slice none 0 0, .slice none 0 0, .slice none 0 0] : Array Value)[j]? = some v →
      (w.alloc (.cells #[.int .i64 M.half, .int .i64 M.old, .int .i64 M.card, .slice none 0 0, .int .i64 M.used, .int .i64 M.top, .int .i64 M.oldTop, .slice none 0 0, .slice none 0 0, .slice none 0 0, .slice none 0 0] t)).cell? ⟨w.heap.size, j, none⟩ = some v := fun j v hv => by
    rw [cell_of_row _ w.heap.size j _ t (0, 0) (heap_alloc_new w _)]; exact hv
  refine ⟨Nat.le_refl _, ⟨_, t, heap_alloc_new w _⟩, fun p hp => ?_, fun f hf => ?_, ?_, ?_⟩
  · simp only [memNums, List.mem_cons, List.not_mem_nil, or_false] at hp
    rcases hp with rfl | rfl | rfl | rfl | rfl | rfl <;> exact hc _ _ rfl
  · simp only [flds0, List.mem_cons, List.not_mem_nil, or_false] at hf
    rcases hf with rfl | rfl | rfl | rfl | rfl <;> exact ⟨hc _ _ rfl, World.ownsRow_nil _ _ _ _, by simp [Fld.val, Value.ownBlock]⟩
  · simp [flds0, Fld.val, Value.ownBlock]
  · simp [flds0, memNums]
theorem named_world' {P : Program} {c : Code} {Q : Exit → Act → World → Prop} {a : Act} {W : World} (h : ∀ W9, W9 = W → Code.wp P c Q a W9) : Code.wp P c Q a W := h W rfl
end Go.Proofs.YtpbfhkkecbnieaaDoor
