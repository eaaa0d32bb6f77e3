/- An own memory: more is appended to one of its rows, and the field is stored anew. -/
import Derived.Test.YtecbbbaafcoliaaGreatDoorJZn08
import Derived.Test.YtecbbbaafcoliaaGreatDoorJZn21
import Derived.Test.YtecbbbaafcoliaaGreatDoorJZn22
import Derived.Deep.RegionHeld3
import Derived.Lib.LazyBuf
namespace Go.Proofs.YtecbbbaafcoliaaGreatDoor
open Go.RowKit
set_option linter.unusedVariables false
set_option linter.unusedSimpArgs false

theorem OM.push {w w1 : World} {B b : Nat} {nums : List (Nat × Int)} {L1 L2 : List Fld} {f : Fld} (h : OM w B b nums (L1 ++ f :: L2)) (a' : Option Addr) (n' c' : Nat) (cs' : List Value)
    (hg : w.grownBy w1 f.val.ownBlock) (ho : w1.ownsRow B f.e f.size (.slice a' n' c') n' cs') (hnew : (Value.slice a' n' c').ownBlock = f.val.ownBlock ∨ (Value.slice a' n' c').ownBlock = some w.heap.size) :
    OM (w1.setCell ⟨b, f.off, none⟩ (.slice a' n' c')) B b nums (L1 ++ ⟨f.off, f.e, f.size, a', n', c', cs'⟩ :: L2) := by
  have hlt := h.lt
  have hap := h.apart
  have hfb := (h.fld f (by simp)).2.2
  have hother : ∀ g ∈ L1 ++ L2, ∀ k, g.val.ownBlock = some k → f.val.ownBlock ≠ some k := fun g hgm k hk e => by
    rw [List.pairwise_append, List.pairwise_cons] at hap
    rcases List.mem_append.1 hgm with q | q
    · exact hap.2.2 g q f (by simp) k hk e
    · exact hap.2.1.1 g q k e hk
  have hbk : w1.heap[b]? = w.heap[b]? := hg.block b hlt (fun e => hfb e.symm)
  have hnb : (Value.slice a' n' c').ownBlock ≠ some b := by
    rcases hnew with e | e
    · rw [e]; exact hfb
    · rw [e]; simp; omega
  have hold : ∀ g ∈ L1 ++ L2, ∀ k, g.val.ownBlock = some k → (Value.slice a' n' c').ownBlock ≠ some k := fun g hgm k hk => by
    have h1 : g ∈ L1 ++ f :: L2 := by rcases List.mem_append.1 hgm with q | q <;> simp [q]
    have := ((h.fld g h1).2.1.lt k hk).2
    rcases hnew with e | e
    · rw [e]; exact hother g hgm k hk
    · rw [e]; simp; omega
  have hrow : ∀ g ∈ L1 ++ L2, w1.ownsRow B g.e g.size g.val g.n g.cs := fun g hgm => by
    have h1 : g ∈ L1 ++ f :: L2 := by rcases List.mem_append.1 hgm with q | q <;> simp [q]
    refine (h.fld g h1).2.1.kept hg ?_
    rcases hv : g.val.ownBlock with _ | k
    · exact Or.inl rfl
    · exact Or.inr fun e => hother g hgm k hv e.symm
  have hoffs := h.offs
  have hfoff : ∀ p ∈ nums, p.1 ≠ f.off := fun p hp e => by
    rw [List.nodup_append] at hoffs
    exact hoffs.2.2 p.1 (List.mem_map_of_mem hp) f.off (List.mem_map_of_mem (by simp)) e
  have hgoff : ∀ g ∈ L1 ++ L2, g.off ≠ f.off := fun g hgm e => by
    have := (List.nodup_append.1 hoffs).2.1
    simp only [List.map_append, List.map_cons] at this
    rw [List.nodup_append, List.nodup_cons] at this
    rcases List.mem_append.1 hgm with q | q
    · exact this.2.2 g.off (List.mem_map_of_mem q) f.off (by simp) e
    · exact this.2.1.1 (by rw [← e]; exact List.mem_map_of_mem q)
  have hcell : ∀ j v, w.cell? ⟨b, j, none⟩ = some v → w1.cell? ⟨b, j, none⟩ = some v := fun j v hc => by
    rw [World.cell?_of_block (w := w) (a := ⟨b, j, none⟩) hbk]; exact hc
  have hblk : ∃ cur t, w1.heap[b]? = some (.cells cur t (0, 0)) := by rw [hbk]; exact h.blk
  have hgood : ∀ g ∈ L1 ++ L2, (w1.setCell ⟨b, f.off, none⟩ (.slice a' n' c')).cell? ⟨b, g.off, none⟩ = some g.val ∧ (w1.setCell ⟨b, f.off, none⟩ (.slice a' n' c')).ownsRow B g.e g.size g.val g.n g.cs ∧ g.val.ownBlock ≠ some b := fun g hgm => by
    have h1 : g ∈ L1 ++ f :: L2 := by rcases List.mem_append.1 hgm with q | q <;> simp [q]
    refine ⟨?_, own_set (hrow g hgm) (h.fld g h1).2.2 _, (h.fld g h1).2.2⟩
    rw [cell_set_off (hgoff g hgm).symm]; exact hcell _ _ (h.fld g h1).1
  refine ⟨h.hb, blk_set hblk, fun p hp => ?_, fun g hgm => ?_, ?_, ?_⟩
  · rw [cell_set_off (hfoff p hp).symm]; exact hcell _ _ (h.num p hp)
  · rcases List.mem_append.1 hgm with q | q
    · exact hgood g (List.mem_append_left _ q)
    · rcases List.mem_cons.1 q with rfl | q
      · exact ⟨cell_set_same (hcell _ _ (h.fld f (by simp)).1), own_set ho hnb _, hnb⟩
      · exact hgood g (List.mem_append_right _ q)
  · rw [List.pairwise_append, List.pairwise_cons] at hap ⊢
    obtain ⟨p1, ⟨p2, p3⟩, p4⟩ := hap
    refine ⟨p1, ⟨fun g hgm k hk e => ?_, p3⟩, fun g hg1 g' hg' k hk => ?_⟩
    · exact hold g (by simp [hgm]) k e hk
    · rcases List.mem_cons.1 hg' with rfl | hg'
      · exact hold g (by simp [hg1]) k hk
      · exact p4 g hg1 g' (by simp [hg']) k hk
  · simpa using hoffs
end Go.Proofs.YtecbbbaafcoliaaGreatDoor
/- The walks of near and sameWords. -/
namespace Go.Proofs.YtecbbbaafcoliaaGreatDoor
open Go.RowKit
set_option linter.unusedVariables false
set_option linter.unusedSimpArgs false

structure Near (M : Mem) : Prop where
  W : M.W.length ≤ 1000
  R : M.roots.length ≤ 100
  K : M.weak.length ≤ 100
  I : M.ids.length ≤ 100
  C : M.cards.length ≤ 1000
theorem Near.few {M : Mem} (h : Near M) : Few M := by
  obtain ⟨h1, h2, h3, h4, h5⟩ := h
  exact ⟨by omega, by omega, by omega, by omega, by omega⟩
theorem near_nil (w : World) : Calls Tryz.prog 7 #[.pointer none] w fun e w' => e = .returned (.bool true) ∧ w' = w := by
  go_enter Tryz.func7, Tryz.ntmps7
  go_wp2
  go_ret
  exact ⟨rfl, rfl⟩
theorem near_yes (b o : Nat) (M : Mem) (S : Sls) (h : Near M) (w : World) (hM : RMem w b o M S) : Calls Tryz.prog 7 #[.pointer (some ⟨b, o, none⟩)] w fun e w' => e = .returned (.bool true) ∧ w' = w := by
  obtain ⟨h1, h2, h3, h4, h5⟩ := h
  have n3 := hM.W
  have n7 := hM.roots
  have n8 := hM.weak
  have n9 := hM.ids
  have n10 := hM.cards
  clear hM
  go_enter Tryz.func7, Tryz.ntmps7
  go_wp2
  go_ret
  exact ⟨congrArg (fun x => Ending.returned (.bool x)) (decide_eq_true (by omega)), rfl⟩
theorem near_no (b o : Nat) (M : Mem) (S : Sls) (h : ¬ Near M) (w : World) (hM : RMem w b o M S) : Calls Tryz.prog 7 #[.pointer (some ⟨b, o, none⟩)] w fun e w' => e = .returned (.bool false) ∧ w' = w := by
  have hc : 1000 < M.W.length ∨ (M.W.length ≤ 1000 ∧ 100 < M.roots.length) ∨ (M.W.length ≤ 1000 ∧ M.roots.length ≤ 100 ∧ 100 < M.weak.length) ∨ (M.W.length ≤ 1000 ∧ M.roots.length ≤ 100 ∧ M.weak.length ≤ 100 ∧ 100 < M.ids.length) ∨ (M.W.length ≤ 1000 ∧ M.roots.length ≤ 100 ∧ M.weak.length ≤ 100 ∧ M.ids.length ≤ 100 ∧ 1000 < M.cards.length) := by
    by_cases a1 : M.W.length ≤ 1000
    · by_cases a2 : M.roots.length ≤ 100
      · by_cases a3 : M.weak.length ≤ 100
        · by_cases a4 : M.ids.length ≤ 100
          · by_cases a5 : M.cards.length ≤ 1000
            · exact absurd ⟨a1, a2, a3, a4, a5⟩ h
            · exact Or.inr (Or.inr (Or.inr (Or.inr ⟨a1, a2, a3, a4, by omega⟩)))
          · exact Or.inr (Or.inr (Or.inr (Or.inl ⟨a1, a2, a3, by omega⟩)))
        · exact Or.inr (Or.inr (Or.inl ⟨a1, a2, by omega⟩))
      · exact Or.inr (Or.inl ⟨a1, by omega⟩)
    · exact Or.inl (by omega)
  have n3 := hM.W
  have n7 := hM.roots
  have n8 := hM.weak
  have n9 := hM.ids
  have n10 := hM.cards
  have m3 := hM.ok.lenW
  have m7 := hM.ok.lenR
  have m8 := hM.ok.lenK
  have m9 := hM.ok.lenI
  have m10 := hM.ok.lenC
  clear hM h
  rcases hc with h1 | ⟨h1, h2⟩ | ⟨h1, h2, h3⟩ | ⟨h1, h2, h3, h4⟩ | ⟨h1, h2, h3, h4, h5⟩
  all_goals
    go_enter Tryz.func7, Tryz.ntmps7
    go_wp2
    go_ret
    first | exact ⟨rfl, rfl⟩ | exact ⟨congrArg (fun x => Ending.returned (.bool x)) (decide_eq_false (by omega)), rfl⟩
end Go.Proofs.YtecbbbaafcoliaaGreatDoor
/- The walk of the law's memOf: a memory of mem's, out of the document's. -/
namespace Go.Proofs.YtecbbbaafcoliaaGreatDoor
open Go.RowKit
set_option linter.unusedVariables false
set_option linter.unusedSimpArgs false

theorem infoM : (Tryz.prog.info? 68).map (fun i => (i.zero, i.size, i.bytes)) = some (some (.agg #[.int .u64 0, .int .i64 0]), 2, 16) := by kernel_rfl
theorem undM : Tryz.prog.underlying 54 = some (.slice 68) := by kernel_rfl
def MemOfPost (w : World) (M : Mem) (e : Ending) (w' : World) : Prop :=
  ∃ b S, e = .returned (.pointer (some ⟨b, 0, none⟩)) ∧ OMem w' w.heap.size b 68 M S ∧ Ext w w'
set_option maxRecDepth 100000 in
set_option maxHeartbeats 4000000 in
theorem memOf_walk (b o : Nat) (M : Mem) (S : Sls) (w : World) (hM : RMem w b o M S) (hF : Few M) :
    Calls Tryz.prog 9 #[.pointer (some ⟨b, o, none⟩)] w (MemOfPost w M) := by
  obtain ⟨im, him, hma, hmb, hmc⟩ := info_parts infoM
  have HM := Lib.hid hM
  have HF := Lib.hid hF
  have hok := Lib.hid hM.ok
  clear hM hF
  go_enter Tryz.func9, Tryz.ntmps9
  go_wp2_with (go_at_call 30; refine (own_walk _ _ M _ _ HM.out HF.out).mono ?_; rintro e w1 ⟨bx, Sx, rfl, hom, hq⟩; have HOM := Lib.hid hom; have HQ := Lib.hid hq; clear hom hq)
  have hX := HOM.out.mem hok.out
  have hltx := HOM.out.lt
  have n0 : w1.cell? ⟨bx, 0, none⟩ = some (.int .i64 M.half) := hX.half
  have n1 : w1.cell? ⟨bx, 1, none⟩ = some (.int .i64 M.old) := hX.old
  have n2 : w1.cell? ⟨bx, 2, none⟩ = some (.int .i64 M.card) := hX.card
  have n3 : w1.cell? ⟨bx, 3, none⟩ = some (.slice Sx.W.1 M.W.length Sx.W.2) := hX.W
  have n4 : w1.cell? ⟨bx, 4, none⟩ = some (.int .i64 M.used) := hX.used
  have n5 : w1.cell? ⟨bx, 5, none⟩ = some (.int .i64 M.top) := hX.top
  have n6 : w1.cell? ⟨bx, 6, none⟩ = some (.int .i64 M.oldTop) := hX.oldTop
  have n7 : w1.cell? ⟨bx, 7, none⟩ = some (.slice Sx.R.1 M.roots.length Sx.R.2) := hX.roots
  have n8 : w1.cell? ⟨bx, 8, none⟩ = some (.slice Sx.K.1 M.weak.length Sx.K.2) := hX.weak
  have n10 : w1.cell? ⟨bx, 10, none⟩ = some (.slice Sx.C.1 M.cards.length Sx.C.2) := hX.cards
  have n9 : w1.cell? ⟨bx, 9, none⟩ = some (.slice Sx.I.1 M.ids.length Sx.I.2) := hX.ids
  have hI := hX.rI
  have HI := Lib.hid hI
  have hlI : M.ids.length ≤ 1000000 := HF.out.I
  clear hX hI
  refine wp_region_held_drew (S := fun W => W.cell? ⟨bx, 0, none⟩ = some (.int .i64 M.half) ∧ W.cell? ⟨bx, 1, none⟩ = some (.int .i64 M.old) ∧ W.cell? ⟨bx, 2, none⟩ = some (.int .i64 M.card) ∧ W.cell? ⟨bx, 3, none⟩ = some (.slice Sx.W.1 M.W.length Sx.W.2) ∧ W.cell? ⟨bx, 4, none⟩ = some (.int .i64 M.used) ∧ W.cell? ⟨bx, 5, none⟩ = some (.int .i64 M.top) ∧ W.cell? ⟨bx, 6, none⟩ = some (.int .i64 M.oldTop) ∧ W.cell? ⟨bx, 7, none⟩ = some (.slice Sx.R.1 M.roots.length Sx.R.2) ∧ W.cell? ⟨bx, 8, none⟩ = some (.slice Sx.K.1 M.weak.length Sx.K.2) ∧ W.cell? ⟨bx, 10, none⟩ = some (.slice Sx.C.1 M.cards.length Sx.C.2)) (by kernel_rfl) ?_ (fun hHeld => ?_)
  · exact ⟨n0, n1, n2, n3, n4, n5, n6, n7, n8, n10⟩
  refine wpAnyH_take (i := 0) (oi := ⟨some 10, _, _, _, _, _⟩) (v := ?_) rfl (by kernel_rfl) (by kernel_rfl) (by kernel_rfl) (fun _ _ _ h => h) (Or.inl ⟨by rfl, ?_⟩) (by assumption) ?_
  rotate_left
  · (intro w hSw; (try dsimp only at hSw); go_simp; try with_reducible rfl)
  try simp only [Act.put, List.setIfInBounds_toArray, List.set_cons_zero, List.set_cons_succ]
  refine wpAnyH_take (i := 1) (oi := ⟨some 11, _, _, _, _, _⟩) (v := ?_) rfl (by kernel_rfl) (by kernel_rfl) (by kernel_rfl) (fun _ _ _ h => h) (Or.inl ⟨by rfl, ?_⟩) (by assumption) ?_
  rotate_left
  · (intro w hSw; (try dsimp only at hSw); go_simp; try with_reducible rfl)
  try simp only [Act.put, List.setIfInBounds_toArray, List.set_cons_zero, List.set_cons_succ]
  refine wpAnyH_take (i := 2) (oi := ⟨some 12, _, _, _, _, _⟩) (v := ?_) rfl (by kernel_rfl) (by kernel_rfl) (by kernel_rfl) (fun _ _ _ h => h) (Or.inl ⟨by rfl, ?_⟩) (by assumption) ?_
  rotate_left
  · (intro w hSw; (try dsimp only at hSw); go_simp; try with_reducible rfl)
  try simp only [Act.put, List.setIfInBounds_toArray, List.set_cons_zero, List.set_cons_succ]
  refine wpAnyH_take (i := 3) (oi := ⟨some 13, _, _, _, _, _⟩) (v := ?_) rfl (by kernel_rfl) (by kernel_rfl) (by kernel_rfl) (fun _ _ _ h => h) (Or.inl ⟨by rfl, ?_⟩) (by assumption) ?_
  rotate_left
  · (intro w hSw; (try dsimp only at hSw); go_simp; try with_reducible rfl)
  try simp only [Act.put, List.setIfInBounds_toArray, List.set_cons_zero, List.set_cons_succ]
  refine wpAnyH_take (i := 4) (oi := ⟨some 14, _, _, _, _, _⟩) (v := ?_) rfl (by kernel_rfl) (by kernel_rfl) (by kernel_rfl) (fun _ _ _ h => h) (Or.inl ⟨by rfl, ?_⟩) (by assumption) ?_
  rotate_left
  · (intro w hSw; (try dsimp only at hSw); go_simp; try with_reducible rfl)
  try simp only [Act.put, List.setIfInBounds_toArray, List.set_cons_zero, List.set_cons_succ]
  refine wpAnyH_take (i := 5) (oi := ⟨some 15, _, _, _, _, _⟩) (v := ?_) rfl (by kernel_rfl) (by kernel_rfl) (by kernel_rfl) (fun _ _ _ h => h) (Or.inl ⟨by rfl, ?_⟩) (by assumption) ?_
  rotate_left
  · (intro w hSw; (try dsimp only at hSw); go_simp; try with_reducible rfl)
  try simp only [Act.put, List.setIfInBounds_toArray, List.set_cons_zero, List.set_cons_succ]
  refine wpAnyH_take (i := 6) (oi := ⟨some 16, _, _, _, _, _⟩) (v := ?_) rfl (by kernel_rfl) (by kernel_rfl) (by kernel_rfl) (fun _ _ _ h => h) (Or.inl ⟨by rfl, ?_⟩) (by assumption) ?_
  rotate_left
  · (intro w hSw; (try dsimp only at hSw); go_simp; try with_reducible rfl)
  try simp only [Act.put, List.setIfInBounds_toArray, List.set_cons_zero, List.set_cons_succ]
  refine wpAnyH_take (i := 7) (oi := ⟨some 17, _, _, _, _, _⟩) (v := ?_) rfl (by kernel_rfl) (by kernel_rfl) (by kernel_rfl) (fun _ _ _ h => h) (Or.inl ⟨by rfl, ?_⟩) (by assumption) ?_
  rotate_left
  · (intro w hSw; (try dsimp only at hSw); go_simp; try with_reducible rfl)
  try simp only [Act.put, List.setIfInBounds_toArray, List.set_cons_zero, List.set_cons_succ]
  refine wpAnyH_take (i := 8) (oi := ⟨some 18, _, _, _, _, _⟩) (v := ?_) rfl (by kernel_rfl) (by kernel_rfl) (by kernel_rfl) (fun _ _ _ h => h) (Or.inl ⟨by rfl, ?_⟩) (by assumption) ?_
  rotate_left
  · (intro w hSw; (try dsimp only at hSw); go_simp; try with_reducible rfl)
  try simp only [Act.put, List.setIfInBounds_toArray, List.set_cons_zero, List.set_cons_succ]
  refine wpAnyH_take (i := 9) (oi := ⟨some 19, _, _, _, _, _⟩) (v := ?_) rfl (by kernel_rfl) (by kernel_rfl) (by kernel_rfl) (fun _ _ _ h => h) (Or.inl ⟨by rfl, ?_⟩) (by assumption) ?_
  rotate_left
  · (intro w hSw; (try dsimp only at hSw); go_simp; try with_reducible rfl)
  try simp only [Act.put, List.setIfInBounds_toArray, List.set_cons_zero, List.set_cons_succ]
  refine wpAnyH_take (i := 10) (oi := ⟨some 20, _, _, _, _, _⟩) (v := ?_) rfl (by kernel_rfl) (by kernel_rfl) (by kernel_rfl) (fun _ _ _ h => h) (Or.inl ⟨by rfl, ?_⟩) (by assumption) ?_
  rotate_left
  · (intro w hSw; (try dsimp only at hSw); go_simp; try with_reducible rfl)
  try simp only [Act.put, List.setIfInBounds_toArray, List.set_cons_zero, List.set_cons_succ]
  refine wpAnyH_take (i := 11) (oi := ⟨some 21, _, _, _, _, _⟩) (v := ?_) rfl (by kernel_rfl) (by kernel_rfl) (by kernel_rfl) (fun _ _ _ h => h) (Or.inl ⟨by rfl, ?_⟩) (by assumption) ?_
  rotate_left
  · (intro w hSw; (try dsimp only at hSw); go_simp; try with_reducible rfl)
  try simp only [Act.put, List.setIfInBounds_toArray, List.set_cons_zero, List.set_cons_succ]
  refine wpAnyH_take (i := 12) (oi := ⟨some 22, _, _, _, _, _⟩) (v := ?_) rfl (by kernel_rfl) (by kernel_rfl) (by kernel_rfl) (fun _ _ _ h => h) (Or.inl ⟨by rfl, ?_⟩) (by assumption) ?_
  rotate_left
  · (intro w hSw; (try dsimp only at hSw); go_simp; try with_reducible rfl)
  try simp only [Act.put, List.setIfInBounds_toArray, List.set_cons_zero, List.set_cons_succ]
  refine wpAnyH_take (i := 13) (oi := ⟨some 23, _, _, _, _, _⟩) (v := ?_) rfl (by kernel_rfl) (by kernel_rfl) (by kernel_rfl) (fun _ _ _ h => h) (Or.inl ⟨by rfl, ?_⟩) (by assumption) ?_
  rotate_left
  · (intro w hSw; (try dsimp only at hSw); go_simp; try with_reducible rfl)
  try simp only [Act.put, List.setIfInBounds_toArray, List.set_cons_zero, List.set_cons_succ]
  refine wpAnyH_take (i := 14) (oi := ⟨some 24, _, _, _, _, _⟩) (v := ?_) rfl (by kernel_rfl) (by kernel_rfl) (by kernel_rfl) (fun _ _ _ h => h) (Or.inl ⟨by rfl, ?_⟩) (by assumption) ?_
  rotate_left
  · (intro w hSw; (try dsimp only at hSw); go_simp; try with_reducible rfl)
  try simp only [Act.put, List.setIfInBounds_toArray, List.set_cons_zero, List.set_cons_succ]
  refine wpAnyH_take (i := 15) (oi := ⟨some 25, _, _, _, _, _⟩) (v := ?_) rfl (by kernel_rfl) (by kernel_rfl) (by kernel_rfl) (fun _ _ _ h => h) (Or.inl ⟨by rfl, ?_⟩) (by assumption) ?_
  rotate_left
  · (intro w hSw; (try dsimp only at hSw); go_simp; try with_reducible rfl)
  try simp only [Act.put, List.setIfInBounds_toArray, List.set_cons_zero, List.set_cons_succ]
  refine wpAnyH_take (i := 16) (oi := ⟨some 26, _, _, _, _, _⟩) (v := ?_) rfl (by kernel_rfl) (by kernel_rfl) (by kernel_rfl) (fun _ _ _ h => h) (Or.inl ⟨by rfl, ?_⟩) (by assumption) ?_
  rotate_left
  · (intro w hSw; (try dsimp only at hSw); go_simp; try with_reducible rfl)
  try simp only [Act.put, List.setIfInBounds_toArray, List.set_cons_zero, List.set_cons_succ]
  refine wpAnyH_take (i := 17) (oi := ⟨some 27, _, _, _, _, _⟩) (v := ?_) rfl (by kernel_rfl) (by kernel_rfl) (by kernel_rfl) (fun _ _ _ h => h) (Or.inl ⟨by rfl, ?_⟩) (by assumption) ?_
  rotate_left
  · (intro w hSw; (try dsimp only at hSw); go_simp; try with_reducible rfl)
  try simp only [Act.put, List.setIfInBounds_toArray, List.set_cons_zero, List.set_cons_succ]
  refine wpAnyH_take (i := 18) (oi := ⟨some 28, _, _, _, _, _⟩) (v := ?_) rfl (by kernel_rfl) (by kernel_rfl) (by kernel_rfl) (fun _ _ _ h => h) (Or.inl ⟨by rfl, ?_⟩) (by assumption) ?_
  rotate_left
  · (intro w hSw; (try dsimp only at hSw); go_simp; try with_reducible rfl)
  try simp only [Act.put, List.setIfInBounds_toArray, List.set_cons_zero, List.set_cons_succ]
  refine wpAnyH_take (i := 19) (oi := ⟨some 29, _, _, _, _, _⟩) (v := ?_) rfl (by kernel_rfl) (by kernel_rfl) (by kernel_rfl) (fun _ _ _ h => h) (Or.inl ⟨by rfl, ?_⟩) (by assumption) ?_
  rotate_left
  · (intro w hSw; (try dsimp only at hSw); go_simp; try with_reducible rfl)
  try simp only [Act.put, List.setIfInBounds_toArray, List.set_cons_zero, List.set_cons_succ]
  refine wpAnyH_take (i := 20) (oi := ⟨some 30, _, _, _, _, _⟩) (v := ?_) rfl (by kernel_rfl) (by kernel_rfl) (by kernel_rfl) (fun _ _ _ h => h) (Or.inl ⟨by rfl, ?_⟩) (by assumption) ?_
  rotate_left
  · (intro w hSw; (try dsimp only at hSw); go_simp; try with_reducible rfl)
  try simp only [Act.put, List.setIfInBounds_toArray, List.set_cons_zero, List.set_cons_succ]
  refine wpAnyH_take (i := 21) (oi := ⟨some 31, _, _, _, _, _⟩) (v := ?_) rfl (by kernel_rfl) (by kernel_rfl) (by kernel_rfl) (fun _ _ _ h => h) (Or.inl ⟨by rfl, ?_⟩) (by assumption) ?_
  rotate_left
  · (intro w hSw; (try dsimp only at hSw); go_simp; try with_reducible rfl)
  try simp only [Act.put, List.setIfInBounds_toArray, List.set_cons_zero, List.set_cons_succ]
  refine wpAnyH_take (i := 22) (oi := ⟨some 32, _, _, _, _, _⟩) (v := ?_) rfl (by kernel_rfl) (by kernel_rfl) (by kernel_rfl) (fun _ _ _ h => h) (Or.inl ⟨by rfl, ?_⟩) (by assumption) ?_
  rotate_left
  · (intro w hSw; (try dsimp only at hSw); go_simp; try with_reducible rfl)
  try simp only [Act.put, List.setIfInBounds_toArray, List.set_cons_zero, List.set_cons_succ]
  refine wpAnyH_take (i := 23) (oi := ⟨some 33, _, _, _, _, _⟩) (v := ?_) rfl (by kernel_rfl) (by kernel_rfl) (by kernel_rfl) (fun _ _ _ h => h) (Or.inl ⟨by rfl, ?_⟩) (by assumption) ?_
  rotate_left
  · (intro w hSw; (try dsimp only at hSw); go_simp; try with_reducible rfl)
  try simp only [Act.put, List.setIfInBounds_toArray, List.set_cons_zero, List.set_cons_succ]
  refine wpAnyH_take (i := 24) (oi := ⟨some 34, _, _, _, _, _⟩) (v := ?_) rfl (by kernel_rfl) (by kernel_rfl) (by kernel_rfl) (fun _ _ _ h => h) (Or.inl ⟨by rfl, ?_⟩) (by assumption) ?_
  rotate_left
  · (intro w hSw; (try dsimp only at hSw); go_simp; try with_reducible rfl)
  try simp only [Act.put, List.setIfInBounds_toArray, List.set_cons_zero, List.set_cons_succ]
  refine wpAnyH_take (i := 25) (oi := ⟨some 35, _, _, _, _, _⟩) (v := ?_) rfl (by kernel_rfl) (by kernel_rfl) (by kernel_rfl) (fun _ _ _ h => h) (Or.inl ⟨by rfl, ?_⟩) (by assumption) ?_
  rotate_left
  · (intro w hSw; (try dsimp only at hSw); go_simp; try with_reducible rfl)
  try simp only [Act.put, List.setIfInBounds_toArray, List.set_cons_zero, List.set_cons_succ]
  refine wpAnyH_take (i := 26) (oi := ⟨some 36, _, _, _, _, _⟩) (v := ?_) rfl (by kernel_rfl) (by kernel_rfl) (by kernel_rfl) (fun _ _ _ h => h) (Or.inl ⟨by rfl, ?_⟩) (by assumption) ?_
  rotate_left
  · (intro w hSw; (try dsimp only at hSw); go_simp; try with_reducible rfl)
  try simp only [Act.put, List.setIfInBounds_toArray, List.set_cons_zero, List.set_cons_succ]
  refine wpAnyH_take (i := 27) (oi := ⟨some 37, _, _, _, _, _⟩) (v := ?_) rfl (by kernel_rfl) (by kernel_rfl) (by kernel_rfl) (fun _ _ _ h => h) (Or.inl ⟨by rfl, ?_⟩) (by assumption) ?_
  rotate_left
  · (intro w hSw; (try dsimp only at hSw); go_simp; try with_reducible rfl)
  try simp only [Act.put, List.setIfInBounds_toArray, List.set_cons_zero, List.set_cons_succ]
  refine wpAnyH_take (i := 28) (oi := ⟨some 38, _, _, _, _, _⟩) (v := ?_) rfl (by kernel_rfl) (by kernel_rfl) (by kernel_rfl) (fun _ _ _ h => h) (Or.inl ⟨by rfl, ?_⟩) (by assumption) ?_
  rotate_left
  · (intro w hSw; (try dsimp only at hSw); go_simp; try with_reducible rfl)
  try simp only [Act.put, List.setIfInBounds_toArray, List.set_cons_zero, List.set_cons_succ]
  refine wpAnyH_take (i := 29) (oi := ⟨some 39, _, _, _, _, _⟩) (v := ?_) rfl (by kernel_rfl) (by kernel_rfl) (by kernel_rfl) (fun _ _ _ h => h) (Or.inl ⟨by rfl, ?_⟩) (by assumption) ?_
  rotate_left
  · (intro w hSw; (try dsimp only at hSw); go_simp; try with_reducible rfl)
  try simp only [Act.put, List.setIfInBounds_toArray, List.set_cons_zero, List.set_cons_succ]
  refine wpAnyH_take (i := 30) (oi := ⟨some 40, _, _, _, _, _⟩) (v := ?_) rfl (by kernel_rfl) (by kernel_rfl) (by kernel_rfl) (fun _ _ _ h => h) (Or.inl ⟨by rfl, ?_⟩) (by assumption) ?_
  rotate_left
  · (intro w hSw; (try dsimp only at hSw); go_simp; try with_reducible rfl)
  try simp only [Act.put, List.setIfInBounds_toArray, List.set_cons_zero, List.set_cons_succ]
  refine wpAnyH_take (i := 31) (oi := ⟨some 41, _, _, _, _, _⟩) (v := ?_) rfl (by kernel_rfl) (by kernel_rfl) (by kernel_rfl) (fun _ _ _ h => h) (Or.inl ⟨by rfl, ?_⟩) (by assumption) ?_
  rotate_left
  · (intro w hSw; (try dsimp only at hSw); go_simp; try with_reducible rfl)
  try simp only [Act.put, List.setIfInBounds_toArray, List.set_cons_zero, List.set_cons_succ]
  refine wpAnyH_take (i := 32) (oi := ⟨some 42, _, _, _, _, _⟩) (v := ?_) rfl (by kernel_rfl) (by kernel_rfl) (by kernel_rfl) (fun _ _ _ h => h) (Or.inl ⟨by rfl, ?_⟩) (by assumption) ?_
  rotate_left
  · (intro w hSw; (try dsimp only at hSw); go_simp; try with_reducible rfl)
  try simp only [Act.put, List.setIfInBounds_toArray, List.set_cons_zero, List.set_cons_succ]
  refine wpAnyH_take (i := 33) (oi := ⟨some 43, _, _, _, _, _⟩) (v := ?_) rfl (by kernel_rfl) (by kernel_rfl) (by kernel_rfl) (fun _ _ _ h => h) (Or.inl ⟨by rfl, ?_⟩) (by assumption) ?_
  rotate_left
  · (intro w hSw; (try dsimp only at hSw); go_simp; try with_reducible rfl)
  try simp only [Act.put, List.setIfInBounds_toArray, List.set_cons_zero, List.set_cons_succ]
  refine wpAnyH_take (i := 34) (oi := ⟨some 44, _, _, _, _, _⟩) (v := ?_) rfl (by kernel_rfl) (by kernel_rfl) (by kernel_rfl) (fun _ _ _ h => h) (Or.inl ⟨by rfl, ?_⟩) (by assumption) ?_
  rotate_left
  · (intro w hSw; (try dsimp only at hSw); go_simp; try with_reducible rfl)
  try simp only [Act.put, List.setIfInBounds_toArray, List.set_cons_zero, List.set_cons_succ]
  refine wpAnyH_take (i := 35) (oi := ⟨some 45, _, _, _, _, _⟩) (v := ?_) rfl (by kernel_rfl) (by kernel_rfl) (by kernel_rfl) (fun _ _ _ h => h) (Or.inl ⟨by rfl, ?_⟩) (by assumption) ?_
  rotate_left
  · (intro w hSw; (try dsimp only at hSw); go_simp; try with_reducible rfl)
  try simp only [Act.put, List.setIfInBounds_toArray, List.set_cons_zero, List.set_cons_succ]
  refine wpAnyH_take (i := 36) (oi := ⟨some 46, _, _, _, _, _⟩) (v := ?_) rfl (by kernel_rfl) (by kernel_rfl) (by kernel_rfl) (fun _ _ _ h => h) (Or.inl ⟨by rfl, ?_⟩) (by assumption) ?_
  rotate_left
  · (intro w hSw; (try dsimp only at hSw); go_simp; try with_reducible rfl)
  try simp only [Act.put, List.setIfInBounds_toArray, List.set_cons_zero, List.set_cons_succ]
  refine wpAnyH_take (i := 37) (oi := ⟨some 47, _, _, _, _, _⟩) (v := ?_) rfl (by kernel_rfl) (by kernel_rfl) (by kernel_rfl) (fun _ _ _ h => h) (Or.inl ⟨by rfl, ?_⟩) (by assumption) ?_
  rotate_left
  · (intro w hSw; (try dsimp only at hSw); go_simp; try with_reducible rfl)
  try simp only [Act.put, List.setIfInBounds_toArray, List.set_cons_zero, List.set_cons_succ]
  refine wpAnyH_take (i := 38) (oi := ⟨some 48, _, _, _, _, _⟩) (v := ?_) rfl (by kernel_rfl) (by kernel_rfl) (by kernel_rfl) (fun _ _ _ h => h) (Or.inl ⟨by rfl, ?_⟩) (by assumption) ?_
  rotate_left
  · (intro w hSw; (try dsimp only at hSw); go_simp; try with_reducible rfl)
  try simp only [Act.put, List.setIfInBounds_toArray, List.set_cons_zero, List.set_cons_succ]
  refine wpAnyH_take (i := 39) (oi := ⟨some 49, _, _, _, _, _⟩) (v := ?_) rfl (by kernel_rfl) (by kernel_rfl) (by kernel_rfl) (fun _ _ _ h => h) (Or.inl ⟨by rfl, ?_⟩) (by assumption) ?_
  rotate_left
  · (intro w hSw; (try dsimp only at hSw); go_simp; try with_reducible rfl)
  try simp only [Act.put, List.setIfInBounds_toArray, List.set_cons_zero, List.set_cons_succ]
  refine wpAnyH_take (i := 40) (oi := ⟨some 50, _, _, _, _, _⟩) (v := ?_) rfl (by kernel_rfl) (by kernel_rfl) (by kernel_rfl) (fun _ _ _ h => h) (Or.inl ⟨by rfl, ?_⟩) (by assumption) ?_
  rotate_left
  · (intro w hSw; (try dsimp only at hSw); go_simp; try with_reducible rfl)
  try simp only [Act.put, List.setIfInBounds_toArray, List.set_cons_zero, List.set_cons_succ]
  refine wpAnyH_ready (rs := [41]) (by kernel_rfl) (by simp) ?_
  refine AllReadyH.cons (o := ⟨some 51, _, _, _, _, _⟩) rfl (fun K hK => ?_) AllReadyH.nil
  go_simp
  skip
  refine hK.out _ _ ?_ (fun hHeld => ?_)
  · (try dsimp only); exact ⟨Ext.cell_ (w := w1) (by repeat (first | exact Ext.refl _ | (refine Ext.drew_ ?_) | (refine Ext.alloc_ ?_ _))) n0, Ext.cell_ (w := w1) (by repeat (first | exact Ext.refl _ | (refine Ext.drew_ ?_) | (refine Ext.alloc_ ?_ _))) n1, Ext.cell_ (w := w1) (by repeat (first | exact Ext.refl _ | (refine Ext.drew_ ?_) | (refine Ext.alloc_ ?_ _))) n2, Ext.cell_ (w := w1) (by repeat (first | exact Ext.refl _ | (refine Ext.drew_ ?_) | (refine Ext.alloc_ ?_ _))) n3, Ext.cell_ (w := w1) (by repeat (first | exact Ext.refl _ | (refine Ext.drew_ ?_) | (refine Ext.alloc_ ?_ _))) n4, Ext.cell_ (w := w1) (by repeat (first | exact Ext.refl _ | (refine Ext.drew_ ?_) | (refine Ext.alloc_ ?_ _))) n5, Ext.cell_ (w := w1) (by repeat (first | exact Ext.refl _ | (refine Ext.drew_ ?_) | (refine Ext.alloc_ ?_ _))) n6, Ext.cell_ (w := w1) (by repeat (first | exact Ext.refl _ | (refine Ext.drew_ ?_) | (refine Ext.alloc_ ?_ _))) n7, Ext.cell_ (w := w1) (by repeat (first | exact Ext.refl _ | (refine Ext.drew_ ?_) | (refine Ext.alloc_ ?_ _))) n8, Ext.cell_ (w := w1) (by repeat (first | exact Ext.refl _ | (refine Ext.drew_ ?_) | (refine Ext.alloc_ ?_ _))) n10⟩
  clear hK K
  try simp only [Act.put, List.setIfInBounds_toArray, List.set_cons_zero, List.set_cons_succ]
  refine wpAnyH_take (i := 42) (oi := ⟨some 4, _, _, _, _, _⟩) (v := ?_) rfl (by kernel_rfl) (by kernel_rfl) (by kernel_rfl) (fun _ _ _ h => h) (Or.inl ⟨by rfl, ?_⟩) (by assumption) ?_
  rotate_left
  · (intro w hSw; (try dsimp only at hSw); go_simp; try with_reducible rfl)
  try simp only [Act.put, List.setIfInBounds_toArray, List.set_cons_zero, List.set_cons_succ]
  refine wpAnyH_done (by kernel_rfl) ?_ _
  clear n0 n1 n2 n3 n4 n5 n6 n7 n8 n10 hHeld
  go_wp2
  refine named_world' (fun W1 hW1 => ?_)
  have hE1 : Ext w1 W1 := by rw [hW1]; exact ((Ext.refl w1).alloc_ _).drew_
  have hO1 : OM W1 w.heap.size w1.heap.size (memNums M) (partFlds 68 M Sx none 0 0) := by rw [hW1]; exact (om_box _ _ HOM.out).ext (Ext.refl _).drew_
  have HE1 := Lib.hid hE1
  have HO1 := Lib.hid hO1
  generalize hbo : w1.heap.size = bo at *
  clear hW1 hE1 hO1
  go_loopw [5] (fun i wr => ∃ (k : Nat) (a : Option Addr) (c : Nat), k ≤ M.ids.length ∧ i = .int .i64 (k : Int) ∧ Hid (OM wr w.heap.size bo (memNums M) (partFlds 68 M Sx a k c)) ∧ Hid (Ext w1 wr) ∧ Hid (∀ g, (Value.slice a k c).ownBlock = some g → bo ≤ g)) (fun i _ => M.ids.length - (intOf i).toNat)
  case atStart => exact ⟨0, none, 0, Nat.zero_le _, rfl, HO1.out, HE1.out, fun g hg => by simp [Value.ownBlock] at hg⟩
  case round =>
    obtain ⟨k, a, c, hk, rfl, hO, hE, hB⟩ := hrel
    have f2 := hE.out.cell_ n9
    by_cases hlt : k < M.ids.length
    · obtain ⟨e1, e2⟩ := icells_at M.ids k hlt
      obtain ⟨ib, io, q1, k1⟩ := HI.out _ _ e1
      have l1 : w1.cell? ⟨ib, io + k * 2 + 1, none⟩ = some (.int .i64 M.ids[k].2) := by
        have := RSl.at_ (q1 ▸ HI.out) e2
        rw [← Nat.add_assoc] at this
        exact this
      rw [q1] at f2
      have f3 := hE.out.cell_ k1
      have f4 := hE.out.cell_ l1
      have f1 : wr.cell? ⟨bo, 9, none⟩ = some (.slice a k c) := (hO.out.fld ⟨9, 68, 2, a, k, c, icells (M.ids.take k)⟩ (by simp [partFlds])).1
      have hltz : (k : Int) < (M.ids.length : Int) := by omega
      have HY : Hid (M.ids.take (k + 1) = M.ids.take k ++ [M.ids[k]]) := Lib.hid (List.take_succ_eq_append_getElem hlt)
      generalize M.ids[k] = y at *
      obtain ⟨y1, y2⟩ := y
      have n9' : w1.cell? ⟨bx, 9, none⟩ = some (.slice (some ⟨ib, io, none⟩) M.ids.length Sx.I.2) := by rw [← q1]; exact n9
      have HN9 := Lib.hid n9'
      have HK1 := Lib.hid k1
      have HL1 := Lib.hid l1
      have hlo := hO.out.lt
      have hltb : ib < bo := by rw [← hbo]; exact cell_lt k1
      clear e1 e2 q1 n9 k1 l1 n9'
      go_wp2
      refine wp_region_held_drew (S := fun W => W.cell? ⟨bx, 9, none⟩ = some (.slice (some ⟨ib, io, none⟩) M.ids.length Sx.I.2) ∧ W.cell? ⟨ib, io + k * 2, none⟩ = some (.int .u64 y1) ∧ W.cell? ⟨ib, io + k * 2 + 1, none⟩ = some (.int .i64 y2)) (by kernel_rfl) ?_ (fun hHeld => ?_)
      · exact ⟨f2, f3, f4⟩
      refine wpAnyH_take (i := 0) (oi := ⟨some 61, _, _, _, _, _⟩) (v := ?_) rfl (by kernel_rfl) (by kernel_rfl) (by kernel_rfl) (fun _ _ _ h => h) (Or.inl ⟨by rfl, ?_⟩) (by assumption) ?_
      rotate_left
      · (intro w hSw; (try dsimp only at hSw); go_simp; try with_reducible rfl)
      try simp only [Act.put, List.setIfInBounds_toArray, List.set_cons_zero, List.set_cons_succ]
      refine wpAnyH_take (i := 1) (oi := ⟨some 62, _, _, _, _, _⟩) (v := ?_) rfl (by kernel_rfl) (by kernel_rfl) (by kernel_rfl) (fun _ _ _ h => h) (Or.inl ⟨by rfl, ?_⟩) (by assumption) ?_
      rotate_left
      · (intro w hSw; (try dsimp only at hSw); go_simp; try with_reducible rfl)
      try simp only [Act.put, List.setIfInBounds_toArray, List.set_cons_zero, List.set_cons_succ]
      refine wpAnyH_take (i := 2) (oi := ⟨some 63, _, _, _, _, _⟩) (v := ?_) rfl (by kernel_rfl) (by kernel_rfl) (by kernel_rfl) (fun _ _ _ h => h) (Or.inl ⟨by rfl, ?_⟩) (by assumption) ?_
      rotate_left
      · (intro w hSw; (try dsimp only at hSw); go_simp; try with_reducible rfl)
      try simp only [Act.put, List.setIfInBounds_toArray, List.set_cons_zero, List.set_cons_succ]
      refine wpAnyH_take (i := 3) (oi := ⟨some 64, _, _, _, _, _⟩) (v := ?_) rfl (by kernel_rfl) (by kernel_rfl) (by kernel_rfl) (fun _ _ _ h => h) (Or.inl ⟨by rfl, ?_⟩) (by assumption) ?_
      rotate_left
      · (intro w hSw; (try dsimp only at hSw); go_simp; try with_reducible rfl)
      try simp only [Act.put, List.setIfInBounds_toArray, List.set_cons_zero, List.set_cons_succ]
      refine wpAnyH_take (i := 5) (oi := ⟨some 66, _, _, _, _, _⟩) (v := ?_) rfl (by kernel_rfl) (by kernel_rfl) (by kernel_rfl) (fun _ _ _ h => h) (Or.inl ⟨by rfl, ?_⟩) (by assumption) ?_
      rotate_left
      · (intro w hSw; (try dsimp only at hSw); go_simp; try with_reducible rfl)
      try simp only [Act.put, List.setIfInBounds_toArray, List.set_cons_zero, List.set_cons_succ]
      refine wpAnyH_take (i := 6) (oi := ⟨some 67, _, _, _, _, _⟩) (v := ?_) rfl (by kernel_rfl) (by kernel_rfl) (by kernel_rfl) (fun _ _ _ h => h) (Or.inl ⟨by rfl, ?_⟩) (by assumption) ?_
      rotate_left
      · (intro w hSw; (try dsimp only at hSw); go_simp; try with_reducible rfl)
      try simp only [Act.put, List.setIfInBounds_toArray, List.set_cons_zero, List.set_cons_succ]
      refine wpAnyH_take (i := 7) (oi := ⟨some 68, _, _, _, _, _⟩) (v := ?_) rfl (by kernel_rfl) (by kernel_rfl) (by kernel_rfl) (fun _ _ _ h => h) (Or.inl ⟨by rfl, ?_⟩) (by assumption) ?_
      rotate_left
      · (intro w hSw; (try dsimp only at hSw); go_simp; try with_reducible rfl)
      try simp only [Act.put, List.setIfInBounds_toArray, List.set_cons_zero, List.set_cons_succ]
      refine wpAnyH_take (i := 8) (oi := ⟨some 69, _, _, _, _, _⟩) (v := ?_) rfl (by kernel_rfl) (by kernel_rfl) (by kernel_rfl) (fun _ _ _ h => h) (Or.inl ⟨by rfl, ?_⟩) (by assumption) ?_
      rotate_left
      · (intro w hSw; (try dsimp only at hSw); go_simp; try with_reducible rfl)
      try simp only [Act.put, List.setIfInBounds_toArray, List.set_cons_zero, List.set_cons_succ]
      refine wpAnyH_take (i := 9) (oi := ⟨some 70, _, _, _, _, _⟩) (v := ?_) rfl (by kernel_rfl) (by kernel_rfl) (by kernel_rfl) (fun _ _ _ h => h) (Or.inl ⟨by rfl, ?_⟩) (by assumption) ?_
      rotate_left
      · (intro w hSw; (try dsimp only at hSw); go_simp; try with_reducible rfl)
      try simp only [Act.put, List.setIfInBounds_toArray, List.set_cons_zero, List.set_cons_succ]
      refine wpAnyH_take (i := 10) (oi := ⟨some 71, _, _, _, _, _⟩) (v := ?_) rfl (by kernel_rfl) (by kernel_rfl) (by kernel_rfl) (fun _ _ _ h => h) (Or.inl ⟨by rfl, ?_⟩) (by assumption) ?_
      rotate_left
      · (intro w hSw; (try dsimp only at hSw); go_simp; try with_reducible rfl)
      try simp only [Act.put, List.setIfInBounds_toArray, List.set_cons_zero, List.set_cons_succ]
      refine wpAnyH_take (i := 11) (oi := ⟨some 72, _, _, _, _, _⟩) (v := ?_) rfl (by kernel_rfl) (by kernel_rfl) (by kernel_rfl) (fun _ _ _ h => h) (Or.inl ⟨by rfl, ?_⟩) (by assumption) ?_
      rotate_left
      · (intro w hSw; (try dsimp only at hSw); go_simp; try with_reducible rfl)
      try simp only [Act.put, List.setIfInBounds_toArray, List.set_cons_zero, List.set_cons_succ]
      refine wpAnyH_take (i := 12) (oi := ⟨some 73, _, _, _, _, _⟩) (v := ?_) rfl (by kernel_rfl) (by kernel_rfl) (by kernel_rfl) (fun _ _ _ h => h) (Or.inl ⟨by rfl, ?_⟩) (by assumption) ?_
      rotate_left
      · (intro w hSw; (try dsimp only at hSw); go_simp; try with_reducible rfl)
      try simp only [Act.put, List.setIfInBounds_toArray, List.set_cons_zero, List.set_cons_succ]
      refine wpAnyH_take (i := 13) (oi := ⟨some 74, _, _, _, _, _⟩) (v := ?_) rfl (by kernel_rfl) (by kernel_rfl) (by kernel_rfl) (fun _ _ _ h => h) (Or.inl ⟨by rfl, ?_⟩) (by assumption) ?_
      rotate_left
      · (intro w hSw; (try dsimp only at hSw); go_simp; try with_reducible rfl)
      try simp only [Act.put, List.setIfInBounds_toArray, List.set_cons_zero, List.set_cons_succ]
      refine wpAnyH_take (i := 14) (oi := ⟨some 75, _, _, _, _, _⟩) (v := ?_) rfl (by kernel_rfl) (by kernel_rfl) (by kernel_rfl) (fun _ _ _ h => h) (Or.inl ⟨by rfl, ?_⟩) (by assumption) ?_
      rotate_left
      · (intro w hSw; (try dsimp only at hSw); go_simp; try with_reducible rfl)
      try simp only [Act.put, List.setIfInBounds_toArray, List.set_cons_zero, List.set_cons_succ]
      refine wpAnyH_take (i := 15) (oi := ⟨some 76, _, _, _, _, _⟩) (v := ?_) rfl (by kernel_rfl) (by kernel_rfl) (by kernel_rfl) (fun _ _ _ h => h) (Or.inl ⟨by rfl, ?_⟩) (by assumption) ?_
      rotate_left
      · (intro w hSw; (try dsimp only at hSw); go_simp; try with_reducible rfl)
      try simp only [Act.put, List.setIfInBounds_toArray, List.set_cons_zero, List.set_cons_succ]
      refine wpAnyH_take (i := 16) (oi := ⟨some 77, _, _, _, _, _⟩) (v := ?_) rfl (by kernel_rfl) (by kernel_rfl) (by kernel_rfl) (fun _ _ _ h => h) (Or.inl ⟨by rfl, ?_⟩) (by assumption) ?_
      rotate_left
      · (intro w hSw; (try dsimp only at hSw); go_simp; try with_reducible rfl)
      try simp only [Act.put, List.setIfInBounds_toArray, List.set_cons_zero, List.set_cons_succ]
      refine wpAnyH_take (i := 17) (oi := ⟨some 78, _, _, _, _, _⟩) (v := ?_) rfl (by kernel_rfl) (by kernel_rfl) (by kernel_rfl) (fun _ _ _ h => h) (Or.inl ⟨by rfl, ?_⟩) (by assumption) ?_
      rotate_left
      · (intro w hSw; (try dsimp only at hSw); go_simp; try with_reducible rfl)
      try simp only [Act.put, List.setIfInBounds_toArray, List.set_cons_zero, List.set_cons_succ]
      refine wpAnyH_take (i := 18) (oi := ⟨some 79, _, _, _, _, _⟩) (v := ?_) rfl (by kernel_rfl) (by kernel_rfl) (by kernel_rfl) (fun _ _ _ h => h) (Or.inl ⟨by rfl, ?_⟩) (by assumption) ?_
      rotate_left
      · (intro w hSw; (try dsimp only at hSw); go_simp; try with_reducible rfl)
      try simp only [Act.put, List.setIfInBounds_toArray, List.set_cons_zero, List.set_cons_succ]
      refine wpAnyH_take (i := 19) (oi := ⟨some 80, _, _, _, _, _⟩) (v := ?_) rfl (by kernel_rfl) (by kernel_rfl) (by kernel_rfl) (fun _ _ _ h => h) (Or.inl ⟨by rfl, ?_⟩) (by assumption) ?_
      rotate_left
      · (intro w hSw; (try dsimp only at hSw); go_simp; try with_reducible rfl)
      try simp only [Act.put, List.setIfInBounds_toArray, List.set_cons_zero, List.set_cons_succ]
      refine wpAnyH_take (i := 20) (oi := ⟨some 81, _, _, _, _, _⟩) (v := ?_) rfl (by kernel_rfl) (by kernel_rfl) (by kernel_rfl) (fun _ _ _ h => h) (Or.inl ⟨by rfl, ?_⟩) (by assumption) ?_
      rotate_left
      · (intro w hSw; (try dsimp only at hSw); go_simp; try with_reducible rfl)
      try simp only [Act.put, List.setIfInBounds_toArray, List.set_cons_zero, List.set_cons_succ]
      refine wpAnyH_take (i := 21) (oi := ⟨some 82, _, _, _, _, _⟩) (v := ?_) rfl (by kernel_rfl) (by kernel_rfl) (by kernel_rfl) (fun _ _ _ h => h) (Or.inl ⟨by rfl, ?_⟩) (by assumption) ?_
      rotate_left
      · (intro w hSw; (try dsimp only at hSw); go_simp; try with_reducible rfl)
      try simp only [Act.put, List.setIfInBounds_toArray, List.set_cons_zero, List.set_cons_succ]
      refine wpAnyH_ready (rs := [4, 22]) (by kernel_rfl) (by simp) ?_
      refine AllReadyH.cons (o := ⟨some 65, _, _, _, _, _⟩) rfl (fun K hK => ?_) (AllReadyH.cons (o := ⟨some 83, _, _, _, _, _⟩) rfl (fun K hK => ?_) AllReadyH.nil)
      · skip
        go_simp
        refine hK.out _ _ ?_ (fun hHeld => ?_)
        · (try dsimp only); exact ⟨Ext.cell_ (w := wr) (by repeat (first | exact Ext.refl _ | (refine Ext.drew_ ?_) | (refine Ext.alloc_ ?_ _))) f2, Ext.cell_ (w := wr) (by repeat (first | exact Ext.refl _ | (refine Ext.drew_ ?_) | (refine Ext.alloc_ ?_ _))) f3, Ext.cell_ (w := wr) (by repeat (first | exact Ext.refl _ | (refine Ext.drew_ ?_) | (refine Ext.alloc_ ?_ _))) f4⟩
        clear hK K
        try simp only [Act.put, List.setIfInBounds_toArray, List.set_cons_zero, List.set_cons_succ]
        refine wpAnyH_ready (rs := [22]) (by kernel_rfl) (by simp) ?_
        refine AllReadyH.cons (o := ⟨some 83, _, _, _, _, _⟩) rfl (fun K hK => ?_) AllReadyH.nil
        go_simp
        skip
        refine hK.out _ _ ?_ (fun hHeld => ?_)
        · (try dsimp only); exact ⟨Ext.cell_ (w := wr) (by repeat (first | exact Ext.refl _ | (refine Ext.drew_ ?_) | (refine Ext.alloc_ ?_ _))) f2, Ext.cell_ (w := wr) (by repeat (first | exact Ext.refl _ | (refine Ext.drew_ ?_) | (refine Ext.alloc_ ?_ _))) f3, Ext.cell_ (w := wr) (by repeat (first | exact Ext.refl _ | (refine Ext.drew_ ?_) | (refine Ext.alloc_ ?_ _))) f4⟩
        clear hK K
        try simp only [Act.put, List.setIfInBounds_toArray, List.set_cons_zero, List.set_cons_succ]
        refine wpAnyH_ready (rs := [23]) (by kernel_rfl) (by simp) ?_
        refine AllReadyH.cons (o := ⟨some 84, _, _, _, _, _⟩) rfl (fun K hK => ?_) AllReadyH.nil
        have hOW : OM (wr.alloc (.cells #[.int .u64 y1, .int .i64 y2] 68)).drew w.heap.size bo (memNums M) (partFlds 68 M Sx a k c) := hO.out.ext ((Ext.refl wr).alloc_ _).drew_
        have hE2 : Ext w1 (wr.alloc (.cells #[.int .u64 y1, .int .i64 y2] 68)).drew := Ext.trans_ hE.out ((Ext.refl wr).alloc_ _).drew_
        have hfl := hOW.fld ⟨9, 68, 2, a, k, c, icells (M.ids.take k)⟩ (by simp [partFlds])
        refine step_append_src (by rfl) _ _ 54 (by rfl) w.heap.size 68 im (.agg #[.int .u64 0, .int .i64 0]) 2 16 undM him hma hmb hmc (by rfl) (by decide) (.slice a k c) k (icells (M.ids.take k)) (by rfl) hfl.2.1 (some ⟨wr.heap.size, 0, none⟩) 1 1 (icells [(y1, y2)]) (by rfl) (fun e => by cases e) (Nat.le_refl _) (by rfl) (rsl_made wr _ y1 y2) (icells_one _) (by unfold maxLen; omega) (by omega) (Nat.le_trans HQ.out.size hE2.size) ?_
        intro a2 c2 v2 hown hgrow hat
        have hx : Ext w1 v2 := Below.grown hE2 hgrow hE2.size (fun g hg => by rw [hbo]; exact hB.out g hg)
        have hbk := hgrow.block bo hOW.lt (fun e => hfl.2.2 e.symm)
        have y1c : v2.cell? ⟨bo, 9, none⟩ = some (.slice a k c) := by rw [World.cell?_of_block (w := (wr.alloc (.cells #[.int .u64 y1, .int .i64 y2] 68)).drew) (a := ⟨bo, 9, none⟩) hbk]; exact hfl.1
        have y2c : v2.frozen? ⟨bo, 9, none⟩ = false := by rw [World.frozen?_of_block (w := (wr.alloc (.cells #[.int .u64 y1, .int .i64 y2] 68)).drew) (a := ⟨bo, 9, none⟩) hbk]; exact hOW.frozen 9
        have g2 := hx.cell_ HN9.out
        have g3 := hx.cell_ HK1.out
        have g4 := hx.cell_ HL1.out
        have OW := Lib.hid hown
        have HG := Lib.hid hgrow
        have HAT := Lib.hid hat
        have HX := Lib.hid hx
        have HOW := Lib.hid hOW
        clear hown hgrow hat hx hOW hE2 hfl hbk
        refine hK.out _ _ ?_ (fun hHeld => ?_)
        · (try dsimp only); exact ⟨g2, g3, g4⟩
        clear hK K
        try simp only [Act.put, List.setIfInBounds_toArray, List.set_cons_zero, List.set_cons_succ]
        refine wpAnyH_take (i := 24) (oi := ⟨some 85, _, _, _, _, _⟩) (v := ?_) rfl (by kernel_rfl) (by kernel_rfl) (by kernel_rfl) (fun _ _ _ h => h) (Or.inl ⟨by rfl, ?_⟩) (by assumption) ?_
        rotate_left
        · (intro w hSw; (try dsimp only at hSw); go_simp; try with_reducible rfl)
        try simp only [Act.put, List.setIfInBounds_toArray, List.set_cons_zero, List.set_cons_succ]
        refine wpAnyH_take (i := 25) (oi := ⟨some 86, _, _, _, _, _⟩) (v := ?_) rfl (by kernel_rfl) (by kernel_rfl) (by kernel_rfl) (fun _ _ _ h => h) (Or.inl ⟨by rfl, ?_⟩) (by assumption) ?_
        rotate_left
        · (intro w hSw; (try dsimp only at hSw); go_simp; try with_reducible rfl)
        try simp only [Act.put, List.setIfInBounds_toArray, List.set_cons_zero, List.set_cons_succ]
        refine wpAnyH_ready (rs := [26]) (by kernel_rfl) (by simp) ?_
        refine AllReadyH.cons (o := ⟨none, _, _, _, _, _⟩) rfl (fun K hK => ?_) AllReadyH.nil
        go_simp
        skip
        refine hK.out _ _ ?_ (fun hHeld => ?_)
        · (try dsimp only); exact ⟨by rw [World.cell?_setCell_far _ _ _ _ (by simp; omega)]; exact g2, by rw [World.cell?_setCell_far _ _ _ _ (by simp; omega)]; exact g3, by rw [World.cell?_setCell_far _ _ _ _ (by simp; omega)]; exact g4⟩
        clear hK K
        try simp only [Act.put, List.setIfInBounds_toArray, List.set_cons_zero, List.set_cons_succ]
        refine wpAnyH_done (by kernel_rfl) ?_ _
        have hN : OM (v2.setCell ⟨bo, 9, none⟩ (.slice a2 (k + 1) c2)) w.heap.size bo (memNums M) (partFlds 68 M Sx a2 (k + 1) c2) := by
          have h := OM.push (L1 := (partFlds 68 M Sx a k c).take 3) (L2 := (partFlds 68 M Sx a k c).drop 4) (f := ⟨9, 68, 2, a, k, c, icells (M.ids.take k)⟩) HOW.out a2 (k + 1) c2 _ HG.out OW.out HAT.out
          unfold partFlds
          rw [HY.out, show icells (M.ids.take k ++ [(y1, y2)]) = icells (M.ids.take k) ++ icells [(y1, y2)] from by simp [icells]]
          exact h
        have hsz2 : bo ≤ (wr.alloc (.cells #[.int .u64 y1, .int .i64 y2] 68)).drew.heap.size := by have := HOW.out.lt; omega
        clear hHeld y1c y2c g2 g3 g4 f1 f2 f3 f4
        have HNN := Lib.hid hN
        have HS2 := Lib.hid hsz2
        clear hN hsz2
        go_wp2
        refine ⟨⟨k + 1, a2, c2, by omega, by go_num, HNN.out, Ext.set_ HX.out (by simp; omega) _, fun g hg => ?_⟩, by simp [intOf]; omega⟩
        rcases HAT.out with e | e
        · exact hB.out g (e ▸ hg)
        · rw [e] at hg; injection hg with hg; rw [← hg]; exact HS2.out
      · skip
        go_simp
        refine hK.out _ _ ?_ (fun hHeld => ?_)
        · (try dsimp only); exact ⟨Ext.cell_ (w := wr) (by repeat (first | exact Ext.refl _ | (refine Ext.drew_ ?_) | (refine Ext.alloc_ ?_ _))) f2, Ext.cell_ (w := wr) (by repeat (first | exact Ext.refl _ | (refine Ext.drew_ ?_) | (refine Ext.alloc_ ?_ _))) f3, Ext.cell_ (w := wr) (by repeat (first | exact Ext.refl _ | (refine Ext.drew_ ?_) | (refine Ext.alloc_ ?_ _))) f4⟩
        clear hK K
        try simp only [Act.put, List.setIfInBounds_toArray, List.set_cons_zero, List.set_cons_succ]
        refine wpAnyH_ready (rs := [4]) (by kernel_rfl) (by simp) ?_
        refine AllReadyH.cons (o := ⟨some 65, _, _, _, _, _⟩) rfl (fun K hK => ?_) AllReadyH.nil
        go_simp
        skip
        refine hK.out _ _ ?_ (fun hHeld => ?_)
        · (try dsimp only); exact ⟨Ext.cell_ (w := wr) (by repeat (first | exact Ext.refl _ | (refine Ext.drew_ ?_) | (refine Ext.alloc_ ?_ _))) f2, Ext.cell_ (w := wr) (by repeat (first | exact Ext.refl _ | (refine Ext.drew_ ?_) | (refine Ext.alloc_ ?_ _))) f3, Ext.cell_ (w := wr) (by repeat (first | exact Ext.refl _ | (refine Ext.drew_ ?_) | (refine Ext.alloc_ ?_ _))) f4⟩
        clear hK K
        try simp only [Act.put, List.setIfInBounds_toArray, List.set_cons_zero, List.set_cons_succ]
        refine wpAnyH_ready (rs := [23]) (by kernel_rfl) (by simp) ?_
        refine AllReadyH.cons (o := ⟨some 84, _, _, _, _, _⟩) rfl (fun K hK => ?_) AllReadyH.nil
        have hOW : OM (wr.alloc (.cells #[.int .u64 y1, .int .i64 y2] 68)).drew w.heap.size bo (memNums M) (partFlds 68 M Sx a k c) := hO.out.ext ((Ext.refl wr).alloc_ _).drew_
        have hE2 : Ext w1 (wr.alloc (.cells #[.int .u64 y1, .int .i64 y2] 68)).drew := Ext.trans_ hE.out ((Ext.refl wr).alloc_ _).drew_
        have hfl := hOW.fld ⟨9, 68, 2, a, k, c, icells (M.ids.take k)⟩ (by simp [partFlds])
        refine step_append_src (by rfl) _ _ 54 (by rfl) w.heap.size 68 im (.agg #[.int .u64 0, .int .i64 0]) 2 16 undM him hma hmb hmc (by rfl) (by decide) (.slice a k c) k (icells (M.ids.take k)) (by rfl) hfl.2.1 (some ⟨wr.heap.size, 0, none⟩) 1 1 (icells [(y1, y2)]) (by rfl) (fun e => by cases e) (Nat.le_refl _) (by rfl) (rsl_made wr _ y1 y2) (icells_one _) (by unfold maxLen; omega) (by omega) (Nat.le_trans HQ.out.size hE2.size) ?_
        intro a2 c2 v2 hown hgrow hat
        have hx : Ext w1 v2 := Below.grown hE2 hgrow hE2.size (fun g hg => by rw [hbo]; exact hB.out g hg)
        have hbk := hgrow.block bo hOW.lt (fun e => hfl.2.2 e.symm)
        have y1c : v2.cell? ⟨bo, 9, none⟩ = some (.slice a k c) := by rw [World.cell?_of_block (w := (wr.alloc (.cells #[.int .u64 y1, .int .i64 y2] 68)).drew) (a := ⟨bo, 9, none⟩) hbk]; exact hfl.1
        have y2c : v2.frozen? ⟨bo, 9, none⟩ = false := by rw [World.frozen?_of_block (w := (wr.alloc (.cells #[.int .u64 y1, .int .i64 y2] 68)).drew) (a := ⟨bo, 9, none⟩) hbk]; exact hOW.frozen 9
        have g2 := hx.cell_ HN9.out
        have g3 := hx.cell_ HK1.out
        have g4 := hx.cell_ HL1.out
        have OW := Lib.hid hown
        have HG := Lib.hid hgrow
        have HAT := Lib.hid hat
        have HX := Lib.hid hx
        have HOW := Lib.hid hOW
        clear hown hgrow hat hx hOW hE2 hfl hbk
        refine hK.out _ _ ?_ (fun hHeld => ?_)
        · (try dsimp only); exact ⟨g2, g3, g4⟩
        clear hK K
        try simp only [Act.put, List.setIfInBounds_toArray, List.set_cons_zero, List.set_cons_succ]
        refine wpAnyH_take (i := 24) (oi := ⟨some 85, _, _, _, _, _⟩) (v := ?_) rfl (by kernel_rfl) (by kernel_rfl) (by kernel_rfl) (fun _ _ _ h => h) (Or.inl ⟨by rfl, ?_⟩) (by assumption) ?_
        rotate_left
        · (intro w hSw; (try dsimp only at hSw); go_simp; try with_reducible rfl)
        try simp only [Act.put, List.setIfInBounds_toArray, List.set_cons_zero, List.set_cons_succ]
        refine wpAnyH_take (i := 25) (oi := ⟨some 86, _, _, _, _, _⟩) (v := ?_) rfl (by kernel_rfl) (by kernel_rfl) (by kernel_rfl) (fun _ _ _ h => h) (Or.inl ⟨by rfl, ?_⟩) (by assumption) ?_
        rotate_left
        · (intro w hSw; (try dsimp only at hSw); go_simp; try with_reducible rfl)
        try simp only [Act.put, List.setIfInBounds_toArray, List.set_cons_zero, List.set_cons_succ]
        refine wpAnyH_ready (rs := [26]) (by kernel_rfl) (by simp) ?_
        refine AllReadyH.cons (o := ⟨none, _, _, _, _, _⟩) rfl (fun K hK => ?_) AllReadyH.nil
        go_simp
        skip
        refine hK.out _ _ ?_ (fun hHeld => ?_)
        · (try dsimp only); exact ⟨by rw [World.cell?_setCell_far _ _ _ _ (by simp; omega)]; exact g2, by rw [World.cell?_setCell_far _ _ _ _ (by simp; omega)]; exact g3, by rw [World.cell?_setCell_far _ _ _ _ (by simp; omega)]; exact g4⟩
        clear hK K
        try simp only [Act.put, List.setIfInBounds_toArray, List.set_cons_zero, List.set_cons_succ]
        refine wpAnyH_done (by kernel_rfl) ?_ _
        have hN : OM (v2.setCell ⟨bo, 9, none⟩ (.slice a2 (k + 1) c2)) w.heap.size bo (memNums M) (partFlds 68 M Sx a2 (k + 1) c2) := by
          have h := OM.push (L1 := (partFlds 68 M Sx a k c).take 3) (L2 := (partFlds 68 M Sx a k c).drop 4) (f := ⟨9, 68, 2, a, k, c, icells (M.ids.take k)⟩) HOW.out a2 (k + 1) c2 _ HG.out OW.out HAT.out
          unfold partFlds
          rw [HY.out, show icells (M.ids.take k ++ [(y1, y2)]) = icells (M.ids.take k) ++ icells [(y1, y2)] from by simp [icells]]
          exact h
        have hsz2 : bo ≤ (wr.alloc (.cells #[.int .u64 y1, .int .i64 y2] 68)).drew.heap.size := by have := HOW.out.lt; omega
        clear hHeld y1c y2c g2 g3 g4 f1 f2 f3 f4
        have HNN := Lib.hid hN
        have HS2 := Lib.hid hsz2
        clear hN hsz2
        go_wp2
        refine ⟨⟨k + 1, a2, c2, by omega, by go_num, HNN.out, Ext.set_ HX.out (by simp; omega) _, fun g hg => ?_⟩, by simp [intOf]; omega⟩
        rcases HAT.out with e | e
        · exact hB.out g (e ▸ hg)
        · rw [e] at hg; injection hg with hg; rw [← hg]; exact HS2.out
    · have hge : (M.ids.length : Int) ≤ (k : Int) := by omega
      obtain rfl : k = M.ids.length := by omega
      go_wp2
      go_ret
      have := hO.out
      unfold partFlds at this
      rw [List.take_length] at this
      exact ⟨bo, ⟨Sx.W, Sx.R, Sx.K, (a, c), Sx.C⟩, rfl, this, Ext.trans_ HQ.out hE.out⟩
end Go.Proofs.YtecbbbaafcoliaaGreatDoor
/- The walks of slices.Clone. -/
namespace Go.Proofs.YtecbbbaafcoliaaGreatDoor
open Go.RowKit
set_option linter.unusedVariables false
set_option linter.unusedSimpArgs false

def ClonePost (w : World) (e : TypeId) (size : Nat) (m : Nat) (news : List Value) (en : Ending) (w' : World) : Prop :=
  ∃ a c, en = .returned (.slice a m c) ∧ w'.ownsRow w.heap.size e size (.slice a m c) m news ∧ Ext w w'
theorem owns_zero (W : World) (e : TypeId) (size : Nat) : (W.alloc (.cells #[] e)).ownsRow W.heap.size e size (.slice (some ⟨W.heap.size, 0, none⟩) 0 0) 0 [] :=
  ⟨by simp, Or.inr ⟨W.heap.size, 0, #[], rfl, Nat.le_refl _, heap_alloc_new W _, Nat.le_refl _, by unfold maxLen; omega, by simp, by simp⟩⟩
set_option maxRecDepth 100000 in
theorem cloneU_walk (ad : Option Addr) (m c : Nat) (news : List Value) (w : World) (hnil : ad = none → c = 0) (hmc : m ≤ c) (hl : news.length = m * 1) (hR : RSl w ad news) (h1 : ∀ u ∈ news, u.oneCell' = true) (hm : m ≤ 1000000) :
    Calls Tryz.prog 57 #[.slice ad m c] w (ClonePost w 51 1 m news) := by
  obtain ⟨i0, hi, hz0, hz1, hz2⟩ := info_parts infoF0
  cases ad with
  | none =>
    obtain rfl := hnil rfl
    obtain rfl : m = 0 := by omega
    obtain rfl : news = [] := List.eq_nil_of_length_eq_zero (by omega)
    have q : ∀ W, (binOp .eql 26 (.slice none 0 0) (.slice none 0 0)).run Tryz.prog W = .ok (.bool true) W := fun W => _root_.Go.run_eql_slice_nil W _ _ none 0 0 und0
    go_enter Tryz.func57, Tryz.ntmps57
    go_wp2
    go_ret
    exact ⟨none, 0, rfl, World.ownsRow_nil _ _ _ _, Ext.refl w⟩
  | some p =>
    have HR := Lib.hid hR
    have H1 := Lib.hid h1
    clear hR h1 hnil
    have q : ∀ W, (binOp .eql 26 (.slice (some p) m c) (.slice none 0 0)).run Tryz.prog W = .ok (.bool false) W := fun W => _root_.Go.run_eql_slice_nil W _ _ (some p) m c und0
    go_enter Tryz.func57, Tryz.ntmps57
    go_wp2_with (at_builtin; refine wpList_append_src rfl _ _ 26 rfl w.heap.size 51 i0 (.int .u64 0) 1 8 und0 hi hz0 hz1 hz2 rfl (by decide) _ 0 [] rfl (owns_zero w _ _) (some p) m c news rfl (fun h => by cases h) hmc hl (HR.out.ext ((Ext.refl w).alloc_ _)) H1.out (by unfold maxLen; omega) (by omega) (by simp) ?_)
    intro a2 c2 w2 hown hgrow hat
    have hx : Ext w w2 := Below.grown ((Ext.refl w).alloc_ _) hgrow (by simp) (fun g hg => Nat.le_of_eq (Option.some.inj (show some w.heap.size = some g from hg)))
    have HX := Lib.hid hx
    have HO := Lib.hid hown
    clear hown hgrow hat hx
    go_wp2
    go_ret
    exact ⟨a2, c2, rfl, HO.out, HX.out⟩
end Go.Proofs.YtecbbbaafcoliaaGreatDoor
