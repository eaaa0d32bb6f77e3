/- What Alloc leaves is a memory still: plainly. -/
import Derived.Test.YtecbbbaafcoliaaDoorJDa12
import Derived.Test.YtecbbbaafcoliaaDoorJDa08
import Derived.Deep.RegionHeld3
import Derived.Laws.OwnMore
import Derived.IntWalk
import Derived.Test.YtecbbbaafcoliaaDoorJDa01
import Derived.LaidEql
import Derived.Stop.Asserts
import Derived.RowKitTokens
namespace Go.Proofs.YtecbbbaafcoliaaDoor
open Go.RowKit
set_option linter.unusedVariables false
set_option linter.unusedSimpArgs false

theorem splice_mem {L : List Int} {off : Nat} {cs : List Int} {x : Int} (h : x ∈ splice L off cs) : x ∈ L ∨ x ∈ cs := by
  unfold splice at h
  rcases List.mem_append.1 h with h | h
  · exact Or.inl (List.mem_of_mem_take h)
  · rcases List.mem_append.1 h with h | h
    · exact Or.inr h
    · exact Or.inl (List.mem_of_mem_drop h)
theorem allocM_ok {M : Mem} (h : M.Ok) {kind : Int} {fs : List Int} (hfb : ∀ x ∈ fs, 0 ≤ x ∧ x ≤ 18446744073709551615) (hk0 : 0 ≤ kind) (hk1 : kind ≤ 255) (hl : fs.length ≤ 200) (ht : -9223372036854775808 ≤ M.top + 1 + (fs.length : Int) ∧ M.top + 1 + (fs.length : Int) ≤ 9223372036854775807)
    (hfit : M.base + M.top.toNat + 1 + fs.length ≤ M.W.length) : (allocM M kind fs).Ok :=
  ⟨h.half, h.old, h.card, h.used, ht, h.oldTop, fun x hx => by
    rcases splice_mem hx with q | q
    · rcases List.mem_or_eq_of_mem_set q with q | q
      · exact h.W x q
      · subst q; exact headW_in kind 0 0 (fs.length : Int) ⟨hk0, hk1⟩ (by omega) (by omega) ⟨by omega, by omega⟩
    · exact hfb x q, h.roots, h.weak, h.ids, by unfold allocM; simp only; rw [length_splice _ _ _ (by simp; omega)]; simp; exact h.lenW, h.lenR, h.lenK, h.lenI, h.lenC⟩
theorem n1_any (a hi : Int) (w : World) : Calls Tryd.prog 83 #[.int .i64 a, .int .i64 hi] w fun e w' => e = .returned (.bool (inR a 1 hi)) ∧ w' = w := by
  by_cases h : 1 ≤ a
  · have e : inR a 1 hi = decide (a ≤ hi) := by simp [inR, h]
    rw [e]
    go_enter Tryd.func83, Tryd.ntmps83
    go_wp2
    go_ret
    exact ⟨rfl, rfl⟩
  · have e : inR a 1 hi = false := by simp [inR, h]
    rw [e]
    go_enter Tryd.func83, Tryd.ntmps83
    go_wp2
    go_ret
    exact ⟨rfl, rfl⟩
def newOK (half old card : Int) : Bool := inR half 1 65536 && inR old 1 65536 && inR card 1 1024
/-- A new memory. -/
def newM (half old card : Int) : Mem := ⟨half, old, card, List.replicate (2 * half + old).toNat 0, 0, 0, 0, [], [], [], List.replicate ((old + card - 1) / card).toNat false⟩
theorem infoU : (Tryd.prog.info? 30).map (fun i => (i.zero, i.size, i.bytes)) = some (some (.int .u64 0), 1, 8) := by kernel_rfl
theorem infoB : (Tryd.prog.info? 4).map (fun i => (i.zero, i.size, i.bytes)) = some (some (.bool false), 1, 1) := by kernel_rfl
theorem undUs : Tryd.prog.underlying 35 = some (.slice 30) := by kernel_rfl
theorem undBs : Tryd.prog.underlying 37 = some (.slice 4) := by kernel_rfl
def NewPost (w : World) (M : Mem) (e : Ending) (w' : World) : Prop :=
  ∃ b S, e = .returned (.tuple #[.pointer (some ⟨b, 0, none⟩), .nilIface]) ∧ OMem w' w.heap.size b 72 M S ∧ Ext w w'
theorem om_made {wb : World} (B : Nat) (half old card : Int) (t tI : TypeId) (n1 n2 gW gC : Nat) (hn1 : n1 = (2 * half + old).toNat) (hn2 : n2 = ((old + card - 1) / card).toNat) (hB : B ≤ wb.heap.size) (hne : gW ≠ gC)
    (ho1 : wb.ownsRow B 30 1 (.slice (some ⟨gW, 0, none⟩) n1 n1) n1 (madeCells (Value.int .u64 0).cells (n1 * 1)).toList)
    (ho2 : wb.ownsRow B 4 1 (.slice (some ⟨gC, 0, none⟩) n2 n2) n2 (madeCells (Value.bool false).cells (n2 * 1)).toList) :
    OMem (wb.alloc (.cells #[.int .i64 half, .int .i64 old, .int .i64 card, .slice (some ⟨gW, 0, none⟩) n1 n1, .int .i64 0, .int .i64 0, .int .i64 0, .slice none 0 0, .slice none 0 0, .slice none 0 0, .slice (some ⟨gC, 0, none⟩) n2 n2] t)) B wb.heap.size tI (newM half old card)
      ⟨(some ⟨gW, 0, none⟩, n1), (none, 0), (none, 0), (none, 0), (some ⟨gC, 0, none⟩, n2)⟩ := by
  have e1 : (madeCells (Value.int .u64 0).cells (n1 * 1)).toList = wcells (newM half old card).W := by
    rw [show (Value.int .u64 0).cells = #[Value.int .u64 0] from rfl, Nat.mul_one, toList_madeCells_one]; simp [wcells, newM, hn1]
  have e2 : (madeCells (Value.bool false).cells (n2 * 1)).toList = bcells (newM half old card).cards := by
    rw [show (Value.bool false).cells = #[Value.bool false] from rfl, Nat.mul_one, toList_madeCells_one]; simp [bcells, newM, hn2]
  have l1 : (newM half old card).W.length = n1 := by simp [newM, hn1]
  have l2 : (newM half old card).cards.length = n2 := by simp [newM, hn2]
  have lt1 : gW < wb.heap.size := (ho1.lt gW rfl).2
  have lt2 : gC < wb.heap.size := (ho2.lt gC rfl).2
  have hc : ∀ j v, (#[Value.int .i64 half, .int .i64 old, .int .i64 card, .slice (some ⟨gW, 0, none⟩) n1 n1, .int .i64 0, .int .i64 0, .int .i64 0, .slice none 0 0, .slice none 0 0, .slice none 0 0, .slice (some ⟨gC, 0, none⟩) n2 n2] : Array Value)[j]? = some v → (wb.alloc (.cells #[.int .i64 half, .int .i64 old, .int .i64 card, .slice (some ⟨gW, 0, none⟩) n1 n1, .int .i64 0, .int .i64 0, .int .i64 0, .slice none 0 0, .slice none 0 0, .slice none 0 0, .slice (some ⟨gC, 0, none⟩) n2 n2] t)).cell? ⟨wb.heap.size, j, none⟩ = some v := fun j v hv => by
    rw [cell_of_row _ wb.heap.size j _ t (0, 0) (heap_alloc_new wb _)]; exact hv
  have r1 := ho1.alloc (.cells #[.int .i64 half, .int .i64 old, .int .i64 card, .slice (some ⟨gW, 0, none⟩) n1 n1, .int .i64 0, .int .i64 0, .int .i64 0, .slice none 0 0, .slice none 0 0, .slice none 0 0, .slice (some ⟨gC, 0, none⟩) n2 n2] t)
  have r2 := ho2.alloc (.cells #[.int .i64 half, .int .i64 old, .int .i64 card, .slice (some ⟨gW, 0, none⟩) n1 n1, .int .i64 0, .int .i64 0, .int .i64 0, .slice none 0 0, .slice none 0 0, .slice none 0 0, .slice (some ⟨gC, 0, none⟩) n2 n2] t)
  rw [e1] at r1
  rw [e2] at r2
  refine ⟨hB, ⟨_, t, heap_alloc_new wb _⟩, fun p hp => ?_, fun f hf => ?_, ?_, ?_⟩
  · simp only [memNums, List.mem_cons, List.not_mem_nil, or_false] at hp
    rcases hp with rfl | rfl | rfl | rfl | rfl | rfl <;> exact hc _ _ rfl
  · simp only [memFlds, List.mem_cons, List.not_mem_nil, or_false] at hf
    rcases hf with rfl | rfl | rfl | rfl | rfl
    · refine ⟨?_, ?_, ?_⟩
      · simp only [Fld.val, l1]; exact hc _ _ rfl
      · simp only [Fld.val, l1]; exact r1
      · simp [Fld.val, Value.ownBlock]; omega
    · exact ⟨hc _ _ rfl, World.ownsRow_nil _ _ _ _, by simp [Fld.val, Value.ownBlock]⟩
    · exact ⟨hc _ _ rfl, World.ownsRow_nil _ _ _ _, by simp [Fld.val, Value.ownBlock]⟩
    · exact ⟨hc _ _ rfl, World.ownsRow_nil _ _ _ _, by simp [Fld.val, Value.ownBlock]⟩
    · refine ⟨?_, ?_, ?_⟩
      · simp only [Fld.val, l2]; exact hc _ _ rfl
      · simp only [Fld.val, l2]; exact r2
      · simp [Fld.val, Value.ownBlock]; omega
  · simp [memFlds, Fld.val, Value.ownBlock]; exact fun e => hne e.symm
  · simp [memFlds, memNums]

set_option maxRecDepth 100000 in
set_option maxHeartbeats 4000000 in
theorem new_yes (half old card : Int) (h : newOK half old card = true) (w : World) :
    Calls Tryd.prog 35 #[.int .i64 half, .int .i64 old, .int .i64 card] w (NewPost w (newM half old card)) := by
  simp only [newOK, Bool.and_eq_true] at h
  obtain ⟨⟨h1, h2⟩, h3⟩ := h
  obtain ⟨a1, a2⟩ := inR_true.1 h1
  obtain ⟨a3, a4⟩ := inR_true.1 h2
  obtain ⟨a5, a6⟩ := inR_true.1 h3
  obtain ⟨i0, hi0, h0a, h0b, h0c⟩ := info_parts infoU
  obtain ⟨i4, hi4, h4a, h4b, h4c⟩ := info_parts infoB
  have q0 : 0 ≤ (old + card - 1) / card := Int.ediv_nonneg (by omega) (by omega)
  have q1 : (old + card - 1) / card ≤ old + card - 1 := Int.ediv_le_self _ (by omega)
  obtain ⟨n1, hn1⟩ : ∃ n : Nat, 2 * half + old = n := ⟨(2 * half + old).toNat, by omega⟩
  obtain ⟨n2, hn2⟩ : ∃ n : Nat, (old + card - 1) / card = n := ⟨((old + card - 1) / card).toNat, by omega⟩
  have e0 : IntKind.i64.wrap (2 * half) = 2 * half := IntWalk.i64_in _ (by omega)
  have e1 : IntKind.i64.wrap (2 * half + old) = (n1 : Int) := by rw [IntWalk.i64_in _ (by omega)]; exact hn1
  have e2 : IntKind.i64.wrap (old + card) = old + card := IntWalk.i64_in _ (by omega)
  have e3 : IntKind.i64.wrap (old + card - 1) = old + card - 1 := IntWalk.i64_in _ (by omega)
  have e4 : (old + card - 1).tdiv card = (n2 : Int) := by rw [Int.tdiv_eq_ediv_of_nonneg (by omega)]; exact hn2
  have e5 : IntKind.i64.wrap (n2 : Int) = (n2 : Int) := IntWalk.i64_in _ (by omega)
  have e8 : (card == 0) = false := by simp; omega
  have e9 : ¬ card = 0 := by omega
  have z1 : n1 = (2 * half + old).toNat := by omega
  have z2 : n2 = ((old + card - 1) / card).toNat := by omega
  obtain ⟨wa, hr1, ho1, hg1⟩ := run_make_full (P := Tryd.prog) w.drew w.heap.size 35 30 i0 (.int .u64 0) 1 undUs hi0 h0a h0b .i64 .i64 n1 (by rw [h0c]; omega) (by unfold maxLen; omega) (Nat.le_refl _)
  obtain ⟨wb, hr2, ho2, hg2⟩ := run_make_full (P := Tryd.prog) wa w.heap.size 37 4 i4 (.bool false) 1 undBs hi4 h4a h4b .i64 .i64 n2 (by rw [h4c]; omega) (by unfold maxLen; omega) hg1.size
  obtain ⟨va, hs1, hp1, hh1⟩ := run_make_full (P := Tryd.prog) w.drew w.heap.size 37 4 i4 (.bool false) 1 undBs hi4 h4a h4b .i64 .i64 n2 (by rw [h4c]; omega) (by unfold maxLen; omega) (Nat.le_refl _)
  obtain ⟨vb, hs2, hp2, hh2⟩ := run_make_full (P := Tryd.prog) va w.heap.size 35 30 i0 (.int .u64 0) 1 undUs hi0 h0a h0b .i64 .i64 n1 (by rw [h0c]; omega) (by unfold maxLen; omega) hh1.size
  have lt1 : w.heap.size < wa.heap.size := (ho1.lt w.drew.heap.size rfl).2
  have lt2 : w.heap.size < va.heap.size := (hp1.lt w.drew.heap.size rfl).2
  have x1 : Ext w wa := Ext.trans_ (Ext.refl w).drew_ (Below.grown (Below.refl _ _) hg1 (Nat.le_refl _) (fun k hk => by cases hk))
  have x2 : Ext w wb := Ext.trans_ x1 (Below.grown (Below.refl _ _) hg2 (Nat.le_refl _) (fun k hk => by cases hk))
  have x3 : Ext w va := Ext.trans_ (Ext.refl w).drew_ (Below.grown (Below.refl _ _) hh1 (Nat.le_refl _) (fun k hk => by cases hk))
  have x4 : Ext w vb := Ext.trans_ x3 (Below.grown (Below.refl _ _) hh2 (Nat.le_refl _) (fun k hk => by cases hk))
  have HOM := Lib.hid (om_made (wb := wb) w.heap.size half old card 39 72 n1 n2 w.heap.size wa.heap.size z1 z2 x2.size (by omega) (ho1.kept hg2 (Or.inr (by simp [Value.ownBlock]))) ho2)
  have HOV := Lib.hid (om_made (wb := vb) w.heap.size half old card 39 72 n1 n2 va.heap.size w.heap.size z1 z2 x4.size (by omega) hp2 (hp1.kept hh2 (Or.inr (by simp [Value.ownBlock]))))
  have X2 := Lib.hid x2
  have X4 := Lib.hid x4
  clear ho1 hg1 ho2 hg2 x1 x2 x3 x4 hp1 hp2 hh1 hh2 hn1 hn2 z1 z2 q0 q1 lt1 lt2
  go_enter Tryd.func35, Tryd.ntmps35
  go_wp2_with (go_at_call 83; refine (n1_any _ _ _).mono ?_; rintro e w' ⟨rfl, rfl⟩)
  refine wp_region_held_drew (S := fun _ => True) (by kernel_rfl) ?_ (fun hHeld => ?_)
  · trivial
  refine tk 0 ⟨some 26, _, _, _, _, _⟩ ?_ rfl ?_ ?_
  rotate_left
  · (intro w hSw; (try dsimp only at hSw); go_simp; try with_reducible rfl)
  try simp only [tkS]
  refine tk 1 ⟨some 27, _, _, _, _, _⟩ ?_ rfl ?_ ?_
  rotate_left
  · (intro w hSw; (try dsimp only at hSw); go_simp; try with_reducible rfl)
  try simp only [tkS]
  refine tk 2 ⟨some 28, _, _, _, _, _⟩ ?_ rfl ?_ ?_
  rotate_left
  · (intro w hSw; (try dsimp only at hSw); go_simp; try with_reducible rfl)
  try simp only [tkS]
  refine tk 3 ⟨some 29, _, _, _, _, _⟩ ?_ rfl ?_ ?_
  rotate_left
  · (intro w hSw; (try dsimp only at hSw); go_simp; try with_reducible rfl)
  try simp only [tkS]
  refine tk 4 ⟨some 30, _, _, _, _, _⟩ ?_ rfl ?_ ?_
  rotate_left
  · (intro w hSw; (try dsimp only at hSw); go_simp; try with_reducible rfl)
  try simp only [tkS]
  refine tk 5 ⟨some 31, _, _, _, _, _⟩ ?_ rfl ?_ ?_
  rotate_left
  · (intro w hSw; (try dsimp only at hSw); go_simp; try with_reducible rfl)
  try simp only [tkS]
  refine tk 6 ⟨some 32, _, _, _, _, _⟩ ?_ rfl ?_ ?_
  rotate_left
  · (intro w hSw; (try dsimp only at hSw); go_simp; try with_reducible rfl)
  try simp only [tkS]
  refine tk 8 ⟨some 34, _, _, _, _, _⟩ ?_ rfl ?_ ?_
  rotate_left
  · (intro w hSw; (try dsimp only at hSw); go_simp; try with_reducible rfl)
  try simp only [tkS]
  refine tk 9 ⟨some 35, _, _, _, _, _⟩ ?_ rfl ?_ ?_
  rotate_left
  · (intro w hSw; (try dsimp only at hSw); go_simp; try with_reducible rfl)
  try simp only [tkS]
  refine tk 10 ⟨some 36, _, _, _, _, _⟩ ?_ rfl ?_ ?_
  rotate_left
  · (intro w hSw; (try dsimp only at hSw); go_simp; try with_reducible rfl)
  try simp only [tkS]
  refine tk 11 ⟨some 37, _, _, _, _, _⟩ ?_ rfl ?_ ?_
  rotate_left
  · (intro w hSw; (try dsimp only at hSw); go_simp; try with_reducible rfl)
  try simp only [tkS]
  refine tk 12 ⟨some 38, _, _, _, _, _⟩ ?_ rfl ?_ ?_
  rotate_left
  · (intro w hSw; (try dsimp only at hSw); go_simp; try with_reducible rfl)
  try simp only [tkS]
  refine tk 13 ⟨some 39, _, _, _, _, _⟩ ?_ rfl ?_ ?_
  rotate_left
  · (intro w hSw; (try dsimp only at hSw); go_simp; try with_reducible rfl)
  try simp only [tkS]
  refine wpAnyH_ready (rs := [7, 14]) (by kernel_rfl) (by simp) ?_
  refine AllReadyH.cons (o := ⟨some 33, _, _, _, _, _⟩) rfl (fun K hK => ?_) (AllReadyH.cons (o := ⟨some 40, _, _, _, _, _⟩) rfl (fun K hK => ?_) AllReadyH.nil)
  · skip
    go_simp
    refine hK.out _ _ ?_ (fun hHeld => ?_)
    · (try dsimp only); all_goals trivial
    clear hK K
    try simp only [tkS]
    refine wpAnyH_ready (rs := [14]) (by kernel_rfl) (by simp) ?_
    refine AllReadyH.cons (o := ⟨some 40, _, _, _, _, _⟩) rfl (fun K hK => ?_) AllReadyH.nil
    go_simp
    skip
    refine hK.out _ _ ?_ (fun hHeld => ?_)
    · (try dsimp only); all_goals trivial
    clear hK K
    try simp only [tkS]
    refine tk 15 ⟨some 41, _, _, _, _, _⟩ ?_ rfl ?_ ?_
    rotate_left
    · (intro w hSw; (try dsimp only at hSw); go_simp; try with_reducible rfl)
    try simp only [tkS]
    refine wpAnyH_ready (rs := [16]) (by kernel_rfl) (by simp) ?_
    refine AllReadyH.cons (o := ⟨some 42, _, _, _, _, _⟩) rfl (fun K hK => ?_) AllReadyH.nil
    go_simp
    skip
    refine hK.out _ _ ?_ (fun hHeld => ?_)
    · (try dsimp only); all_goals trivial
    clear hK K
    try simp only [tkS]
    refine tk 17 ⟨some 6, _, _, _, _, _⟩ ?_ rfl ?_ ?_
    rotate_left
    · (intro w hSw; (try dsimp only at hSw); go_simp; try with_reducible rfl)
    try simp only [tkS]
    refine tk 18 ⟨some 7, _, _, _, _, _⟩ ?_ rfl ?_ ?_
    rotate_left
    · (intro w hSw; (try dsimp only at hSw); go_simp; try with_reducible rfl)
    try simp only [tkS]
    refine wpAnyH_done (by kernel_rfl) ?_ _
    go_wp2
    go_ret2
    exact ⟨wb.heap.size, _, rfl, HOM.out, Ext.alloc_ X2.out _⟩
  · skip
    go_simp
    refine hK.out _ _ ?_ (fun hHeld => ?_)
    · (try dsimp only); all_goals trivial
    clear hK K
    try simp only [tkS]
    refine wpAnyH_ready (rs := [7]) (by kernel_rfl) (by simp) ?_
    refine AllReadyH.cons (o := ⟨some 33, _, _, _, _, _⟩) rfl (fun K hK => ?_) AllReadyH.nil
    go_simp
    skip
    refine hK.out _ _ ?_ (fun hHeld => ?_)
    · (try dsimp only); all_goals trivial
    clear hK K
    try simp only [tkS]
    refine tk 15 ⟨some 41, _, _, _, _, _⟩ ?_ rfl ?_ ?_
    rotate_left
    · (intro w hSw; (try dsimp only at hSw); go_simp; try with_reducible rfl)
    try simp only [tkS]
    refine wpAnyH_ready (rs := [16]) (by kernel_rfl) (by simp) ?_
    refine AllReadyH.cons (o := ⟨some 42, _, _, _, _, _⟩) rfl (fun K hK => ?_) AllReadyH.nil
    go_simp
    skip
    refine hK.out _ _ ?_ (fun hHeld => ?_)
    · (try dsimp only); all_goals trivial
    clear hK K
    try simp only [tkS]
    refine tk 17 ⟨some 6, _, _, _, _, _⟩ ?_ rfl ?_ ?_
    rotate_left
    · (intro w hSw; (try dsimp only at hSw); go_simp; try with_reducible rfl)
    try simp only [tkS]
    refine tk 18 ⟨some 7, _, _, _, _, _⟩ ?_ rfl ?_ ?_
    rotate_left
    · (intro w hSw; (try dsimp only at hSw); go_simp; try with_reducible rfl)
    try simp only [tkS]
    refine wpAnyH_done (by kernel_rfl) ?_ _
    go_wp2
    go_ret2
    exact ⟨vb.heap.size, _, rfl, HOV.out, Ext.alloc_ X4.out _⟩
open Go.RowKit Go.Extern.Stop Go.Stop Go.Extern

/-! Closed facts: what reflectlite.TypeOf(target).Comparable() gives -/
open Go.RowKit Go.Extern.Stop Go.Stop Go.Extern

/-- What errors.errorType holds. -/
abbrev GEType (w : World) : Prop := w.cell? ⟨7, 0, none⟩ = some (.iface 169 (.agg #[.pointer (some ⟨8, 32, none⟩)]))
end Go.Proofs.YtecbbbaafcoliaaDoor
