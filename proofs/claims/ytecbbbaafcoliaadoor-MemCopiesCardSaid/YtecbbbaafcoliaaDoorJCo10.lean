/- An own memory: more is appended to one of its rows, and the field is stored anew. -/
import Derived.Test.YtecbbbaafcoliaaDoorJCo03
import Derived.Test.YtecbbbaafcoliaaDoorJCo08
import Derived.Test.YtecbbbaafcoliaaDoorJCo09
import Derived.Deep.RegionHeld3
import Derived.Lib.LazyBuf
import Derived.Laws.CopyOwn
namespace Go.Proofs.YtecbbbaafcoliaaDoor
open Go.RowKit
set_option linter.unusedVariables false
set_option linter.unusedSimpArgs false

theorem OM.push {w w1 : World} {B b : Nat} {nums : List (Nat × Int)} {L1 L2 : List Fld} {f : Fld} (h : OM w B b nums (L1 ++ f :: L2)) (a' : Option Addr) (n' c' : Nat) (cs' : List Value)
    (hg : w.grownBy w1 f.val.ownBlock) (ho : w1.ownsRow B f.e f.size (.slice a' n' c') n' cs') (hnew : (Value.slice a' n' c').ownBlock = f.val.ownBlock ∨ (Value.slice a' n' c').ownBlock = some w.heap.size) :
    OM (w1.setCell ⟨b, f.off, none⟩ (.slice a' n' c')) B b nums (L1 ++ ⟨f.off, f.e, f.size, a', n', c', cs'⟩ :: L2) := by
  have hlt := h.lt
  have hap := h.apart
  have hfb := (h.fld f (by simp)).2.2
  have hother : ∀ g ∈ L1 ++ L2, ∀ k, g.val.ownBlock = some k → f.val.ownBlock ≠ some k := fun g hgm k hk e => by
    rw [List.pairwise_append, List.pairwise_cons] at hap
    rcases List.mem_append.1 hgm with q | q
    · exact hap.2.2 g q f (by simp) k hk e
    · exact hap.2.1.1 g q k e hk
  have hbk : w1.heap[b]? = w.heap[b]? := hg.block b hlt (fun e => hfb e.symm)
  have hnb : (Value.slice a' n' c').ownBlock ≠ some b := by
    rcases hnew with e | e
    · rw [e]; exact hfb
    · rw [e]; simp; omega
  have hold : ∀ g ∈ L1 ++ L2, ∀ k, g.val.ownBlock = some k → (Value.slice a' n' c').ownBlock ≠ some k := fun g hgm k hk => by
    have h1 : g ∈ L1 ++ f :: L2 := by rcases List.mem_append.1 hgm with q | q <;> simp [q]
    have := ((h.fld g h1).2.1.lt k hk).2
    rcases hnew with e | e
    · rw [e]; exact hother g hgm k hk
    · rw [e]; simp; omega
  have hrow : ∀ g ∈ L1 ++ L2, w1.ownsRow B g.e g.size g.val g.n g.cs := fun g hgm => by
    have h1 : g ∈ L1 ++ f :: L2 := by rcases List.mem_append.1 hgm with q | q <;> simp [q]
    refine (h.fld g h1).2.1.kept hg ?_
    rcases hv : g.val.ownBlock with _ | k
    · exact Or.inl rfl
    · exact Or.inr fun e => hother g hgm k hv e.symm
  have hoffs := h.offs
  have hfoff : ∀ p ∈ nums, p.1 ≠ f.off := fun p hp e => by
    rw [List.nodup_append] at hoffs
    exact hoffs.2.2 p.1 (List.mem_map_of_mem hp) f.off (List.mem_map_of_mem (by simp)) e
  have hgoff : ∀ g ∈ L1 ++ L2, g.off ≠ f.off := fun g hgm e => by
    have := (List.nodup_append.1 hoffs).2.1
    simp only [List.map_append, List.map_cons] at this
    rw [List.nodup_append, List.nodup_cons] at this
    rcases List.mem_append.1 hgm with q | q
    · exact this.2.2 g.off (List.mem_map_of_mem q) f.off (by simp) e
    · exact this.2.1.1 (by rw [← e]; exact List.mem_map_of_mem q)
  have hcell : ∀ j v, w.cell? ⟨b, j, none⟩ = some v → w1.cell? ⟨b, j, none⟩ = some v := fun j v hc => by
    rw [World.cell?_of_block (w := w) (a := ⟨b, j, none⟩) hbk]; exact hc
  have hblk : ∃ cur t, w1.heap[b]? = some (.cells cur t (0, 0)) := by rw [hbk]; exact h.blk
  have hgood : ∀ g ∈ L1 ++ L2, (w1.setCell ⟨b, f.off, none⟩ (.slice a' n' c')).cell? ⟨b, g.off, none⟩ = some g.val ∧ (w1.setCell ⟨b, f.off, none⟩ (.slice a' n' c')).ownsRow B g.e g.size g.val g.n g.cs ∧ g.val.ownBlock ≠ some b := fun g hgm => by
    have h1 : g ∈ L1 ++ f :: L2 := by rcases List.mem_append.1 hgm with q | q <;> simp [q]
    refine ⟨?_, own_set (hrow g hgm) (h.fld g h1).2.2 _, (h.fld g h1).2.2⟩
    rw [cell_set_off (hgoff g hgm).symm]; exact hcell _ _ (h.fld g h1).1
  refine ⟨h.hb, blk_set hblk, fun p hp => ?_, fun g hgm => ?_, ?_, ?_⟩
  · rw [cell_set_off (hfoff p hp).symm]; exact hcell _ _ (h.num p hp)
  · rcases List.mem_append.1 hgm with q | q
    · exact hgood g (List.mem_append_left _ q)
    · rcases List.mem_cons.1 q with rfl | q
      · exact ⟨cell_set_same (hcell _ _ (h.fld f (by simp)).1), own_set ho hnb _, hnb⟩
      · exact hgood g (List.mem_append_right _ q)
  · rw [List.pairwise_append, List.pairwise_cons] at hap ⊢
    obtain ⟨p1, ⟨p2, p3⟩, p4⟩ := hap
    refine ⟨p1, ⟨fun g hgm k hk e => ?_, p3⟩, fun g hg1 g' hg' k hk => ?_⟩
    · exact hold g (by simp [hgm]) k e hk
    · rcases List.mem_cons.1 hg' with rfl | hg'
      · exact hold g (by simp [hg1]) k hk
      · exact p4 g hg1 g' (by simp [hg']) k hk
  · simpa using hoffs
end Go.Proofs.YtecbbbaafcoliaaDoor
/- The walks of near and sameWords. -/
namespace Go.Proofs.YtecbbbaafcoliaaDoor
open Go.RowKit
set_option linter.unusedVariables false
set_option linter.unusedSimpArgs false

structure Near (M : Mem) : Prop where
  W : M.W.length ≤ 1000
  R : M.roots.length ≤ 100
  K : M.weak.length ≤ 100
  I : M.ids.length ≤ 100
  C : M.cards.length ≤ 1000
theorem Near.few {M : Mem} (h : Near M) : Few M := by
  obtain ⟨h1, h2, h3, h4, h5⟩ := h
  exact ⟨by omega, by omega, by omega, by omega, by omega⟩
theorem near_nil (w : World) : Calls Tryd.prog 12 #[.pointer none] w fun e w' => e = .returned (.bool true) ∧ w' = w := by
  go_enter Tryd.func12, Tryd.ntmps12
  go_wp2
  go_ret
  exact ⟨rfl, rfl⟩
theorem near_yes (b o : Nat) (M : Mem) (S : Sls) (h : Near M) (w : World) (hM : RMem w b o M S) : Calls Tryd.prog 12 #[.pointer (some ⟨b, o, none⟩)] w fun e w' => e = .returned (.bool true) ∧ w' = w := by
  obtain ⟨h1, h2, h3, h4, h5⟩ := h
  have n3 := hM.W
  have n7 := hM.roots
  have n8 := hM.weak
  have n9 := hM.ids
  have n10 := hM.cards
  clear hM
  go_enter Tryd.func12, Tryd.ntmps12
  go_wp2
  go_ret
  exact ⟨congrArg (fun x => Ending.returned (.bool x)) (decide_eq_true (by omega)), rfl⟩
theorem near_no (b o : Nat) (M : Mem) (S : Sls) (h : ¬ Near M) (w : World) (hM : RMem w b o M S) : Calls Tryd.prog 12 #[.pointer (some ⟨b, o, none⟩)] w fun e w' => e = .returned (.bool false) ∧ w' = w := by
  have hc : 1000 < M.W.length ∨ (M.W.length ≤ 1000 ∧ 100 < M.roots.length) ∨ (M.W.length ≤ 1000 ∧ M.roots.length ≤ 100 ∧ 100 < M.weak.length) ∨ (M.W.length ≤ 1000 ∧ M.roots.length ≤ 100 ∧ M.weak.length ≤ 100 ∧ 100 < M.ids.length) ∨ (M.W.length ≤ 1000 ∧ M.roots.length ≤ 100 ∧ M.weak.length ≤ 100 ∧ M.ids.length ≤ 100 ∧ 1000 < M.cards.length) := by
    by_cases a1 : M.W.length ≤ 1000
    · by_cases a2 : M.roots.length ≤ 100
      · by_cases a3 : M.weak.length ≤ 100
        · by_cases a4 : M.ids.length ≤ 100
          · by_cases a5 : M.cards.length ≤ 1000
            · exact absurd ⟨a1, a2, a3, a4, a5⟩ h
            · exact Or.inr (Or.inr (Or.inr (Or.inr ⟨a1, a2, a3, a4, by omega⟩)))
          · exact Or.inr (Or.inr (Or.inr (Or.inl ⟨a1, a2, a3, by omega⟩)))
        · exact Or.inr (Or.inr (Or.inl ⟨a1, a2, by omega⟩))
      · exact Or.inr (Or.inl ⟨a1, by omega⟩)
    · exact Or.inl (by omega)
  have n3 := hM.W
  have n7 := hM.roots
  have n8 := hM.weak
  have n9 := hM.ids
  have n10 := hM.cards
  have m3 := hM.ok.lenW
  have m7 := hM.ok.lenR
  have m8 := hM.ok.lenK
  have m9 := hM.ok.lenI
  have m10 := hM.ok.lenC
  clear hM h
  rcases hc with h1 | ⟨h1, h2⟩ | ⟨h1, h2, h3⟩ | ⟨h1, h2, h3, h4⟩ | ⟨h1, h2, h3, h4, h5⟩
  all_goals
    go_enter Tryd.func12, Tryd.ntmps12
    go_wp2
    go_ret
    first | exact ⟨rfl, rfl⟩ | exact ⟨congrArg (fun x => Ending.returned (.bool x)) (decide_eq_false (by omega)), rfl⟩
end Go.Proofs.YtecbbbaafcoliaaDoor
/- The walk of the law's memOf: a memory of mem's, out of the document's. -/
namespace Go.Proofs.YtecbbbaafcoliaaDoor
open Go.RowKit
set_option linter.unusedVariables false
set_option linter.unusedSimpArgs false

theorem infoM : (Tryd.prog.info? 72).map (fun i => (i.zero, i.size, i.bytes)) = some (some (.agg #[.int .u64 0, .int .i64 0]), 2, 16) := by kernel_rfl
theorem undM : Tryd.prog.underlying 36 = some (.slice 72) := by kernel_rfl
def MemOfPost (w : World) (M : Mem) (e : Ending) (w' : World) : Prop :=
  ∃ b S, e = .returned (.pointer (some ⟨b, 0, none⟩)) ∧ OMem w' w.heap.size b 72 M S ∧ Ext w w'
set_option maxRecDepth 100000 in
set_option maxHeartbeats 4000000 in
theorem memOf_walk (b o : Nat) (M : Mem) (S : Sls) (w : World) (hM : RMem w b o M S) (hF : Few M) :
    Calls Tryd.prog 13 #[.pointer (some ⟨b, o, none⟩)] w (MemOfPost w M) := by
  obtain ⟨im, him, hma, hmb, hmc⟩ := info_parts infoM
  have HM := Lib.hid hM
  have HF := Lib.hid hF
  have hok := Lib.hid hM.ok
  clear hM hF
  go_enter Tryd.func13, Tryd.ntmps13
  go_wp2_with (go_at_call 31; refine (own_walk _ _ M _ _ HM.out HF.out).mono ?_; rintro e w1 ⟨bx, Sx, rfl, hom, hq⟩; have HOM := Lib.hid hom; have HQ := Lib.hid hq; clear hom hq)
  have hX := HOM.out.mem hok.out
  have hltx := HOM.out.lt
  have n0 : w1.cell? ⟨bx, 0, none⟩ = some (.int .i64 M.half) := hX.half
  have n1 : w1.cell? ⟨bx, 1, none⟩ = some (.int .i64 M.old) := hX.old
  have n2 : w1.cell? ⟨bx, 2, none⟩ = some (.int .i64 M.card) := hX.card
  have n3 : w1.cell? ⟨bx, 3, none⟩ = some (.slice Sx.W.1 M.W.length Sx.W.2) := hX.W
  have n4 : w1.cell? ⟨bx, 4, none⟩ = some (.int .i64 M.used) := hX.used
  have n5 : w1.cell? ⟨bx, 5, none⟩ = some (.int .i64 M.top) := hX.top
  have n6 : w1.cell? ⟨bx, 6, none⟩ = some (.int .i64 M.oldTop) := hX.oldTop
  have n7 : w1.cell? ⟨bx, 7, none⟩ = some (.slice Sx.R.1 M.roots.length Sx.R.2) := hX.roots
  have n8 : w1.cell? ⟨bx, 8, none⟩ = some (.slice Sx.K.1 M.weak.length Sx.K.2) := hX.weak
  have n10 : w1.cell? ⟨bx, 10, none⟩ = some (.slice Sx.C.1 M.cards.length Sx.C.2) := hX.cards
  have n9 : w1.cell? ⟨bx, 9, none⟩ = some (.slice Sx.I.1 M.ids.length Sx.I.2) := hX.ids
  have hI := hX.rI
  have HI := Lib.hid hI
  have hlI : M.ids.length ≤ 1000000 := HF.out.I
  clear hX hI
  refine wp_region_held_drew (S := fun W => W.cell? ⟨bx, 0, none⟩ = some (.int .i64 M.half) ∧ W.cell? ⟨bx, 1, none⟩ = some (.int .i64 M.old) ∧ W.cell? ⟨bx, 2, none⟩ = some (.int .i64 M.card) ∧ W.cell? ⟨bx, 3, none⟩ = some (.slice Sx.W.1 M.W.length Sx.W.2) ∧ W.cell? ⟨bx, 4, none⟩ = some (.int .i64 M.used) ∧ W.cell? ⟨bx, 5, none⟩ = some (.int .i64 M.top) ∧ W.cell? ⟨bx, 6, none⟩ = some (.int .i64 M.oldTop) ∧ W.cell? ⟨bx, 7, none⟩ = some (.slice Sx.R.1 M.roots.length Sx.R.2) ∧ W.cell? ⟨bx, 8, none⟩ = some (.slice Sx.K.1 M.weak.length Sx.K.2) ∧ W.cell? ⟨bx, 10, none⟩ = some (.slice Sx.C.1 M.cards.length Sx.C.2)) (by kernel_rfl) ?_ (fun hHeld => ?_)
  · exact ⟨n0, n1, n2, n3, n4, n5, n6, n7, n8, n10⟩
  refine wpAnyH_take (i := 0) (oi := ⟨some 10, _, _, _, _, _⟩) (v := ?_) rfl (by kernel_rfl) (by kernel_rfl) (by kernel_rfl) (fun _ _ _ h => h) (Or.inl ⟨by rfl, ?_⟩) (by assumption) ?_
  rotate_left
  · (intro w hSw; (try dsimp only at hSw); go_simp; try with_reducible rfl)
  try simp only [Act.put, List.setIfInBounds_toArray, List.set_cons_zero, List.set_cons_succ]
  refine wpAnyH_take (i := 1) (oi := ⟨some 11, _, _, _, _, _⟩) (v := ?_) rfl (by kernel_rfl) (by kernel_rfl) (by kernel_rfl) (fun _ _ _ h => h) (Or.inl ⟨by rfl, ?_⟩) (by assumption) ?_
  rotate_left
  · (intro w hSw; (try dsimp only at hSw); go_simp; try with_reducible rfl)
  try simp only [Act.put, List.setIfInBounds_toArray, List.set_cons_zero, List.set_cons_succ]
  refine wpAnyH_take (i := 2) (oi := ⟨some 12, _, _, _, _, _⟩) (v := ?_) rfl (by kernel_rfl) (by kernel_rfl) (by kernel_rfl) (fun _ _ _ h => h) (Or.inl ⟨by rfl, ?_⟩) (by assumption) ?_
  rotate_left
  · (intro w hSw; (try dsimp only at hSw); go_simp; try with_reducible rfl)
  try simp only [Act.put, List.setIfInBounds_toArray, List.set_cons_zero, List.set_cons_succ]
  refine wpAnyH_take (i := 3) (oi := ⟨some 13, _, _, _, _, _⟩) (v := ?_) rfl (by kernel_rfl) (by kernel_rfl) (by kernel_rfl) (fun _ _ _ h => h) (Or.inl ⟨by rfl, ?_⟩) (by assumption) ?_
  rotate_left
  · (intro w hSw; (try dsimp only at hSw); go_simp; try with_reducible rfl)
  try simp only [Act.put, List.setIfInBounds_toArray, List.set_cons_zero, List.set_cons_succ]
  refine wpAnyH_take (i := 4) (oi := ⟨some 14, _, _, _, _, _⟩) (v := ?_) rfl (by kernel_rfl) (by kernel_rfl) (by kernel_rfl) (fun _ _ _ h => h) (Or.inl ⟨by rfl, ?_⟩) (by assumption) ?_
  rotate_left
  · (intro w hSw; (try dsimp only at hSw); go_simp; try with_reducible rfl)
  try simp only [Act.put, List.setIfInBounds_toArray, List.set_cons_zero, List.set_cons_succ]
  refine wpAnyH_take (i := 5) (oi := ⟨some 15, _, _, _, _, _⟩) (v := ?_) rfl (by kernel_rfl) (by kernel_rfl) (by kernel_rfl) (fun _ _ _ h => h) (Or.inl ⟨by rfl, ?_⟩) (by assumption) ?_
  rotate_left
  · (intro w hSw; (try dsimp only at hSw); go_simp; try with_reducible rfl)
  try simp only [Act.put, List.setIfInBounds_toArray, List.set_cons_zero, List.set_cons_succ]
  refine wpAnyH_take (i := 6) (oi := ⟨some 16, _, _, _, _, _⟩) (v := ?_) rfl (by kernel_rfl) (by kernel_rfl) (by kernel_rfl) (fun _ _ _ h => h) (Or.inl ⟨by rfl, ?_⟩) (by assumption) ?_
  rotate_left
  · (intro w hSw; (try dsimp only at hSw); go_simp; try with_reducible rfl)
  try simp only [Act.put, List.setIfInBounds_toArray, List.set_cons_zero, List.set_cons_succ]
  refine wpAnyH_take (i := 7) (oi := ⟨some 17, _, _, _, _, _⟩) (v := ?_) rfl (by kernel_rfl) (by kernel_rfl) (by kernel_rfl) (fun _ _ _ h => h) (Or.inl ⟨by rfl, ?_⟩) (by assumption) ?_
  rotate_left
  · (intro w hSw; (try dsimp only at hSw); go_simp; try with_reducible rfl)
  try simp only [Act.put, List.setIfInBounds_toArray, List.set_cons_zero, List.set_cons_succ]
  refine wpAnyH_take (i := 8) (oi := ⟨some 18, _, _, _, _, _⟩) (v := ?_) rfl (by kernel_rfl) (by kernel_rfl) (by kernel_rfl) (fun _ _ _ h => h) (Or.inl ⟨by rfl, ?_⟩) (by assumption) ?_
  rotate_left
  · (intro w hSw; (try dsimp only at hSw); go_simp; try with_reducible rfl)
  try simp only [Act.put, List.setIfInBounds_toArray, List.set_cons_zero, List.set_cons_succ]
  refine wpAnyH_take (i := 9) (oi := ⟨some 19, _, _, _, _, _⟩) (v := ?_) rfl (by kernel_rfl) (by kernel_rfl) (by kernel_rfl) (fun _ _ _ h => h) (Or.inl ⟨by rfl, ?_⟩) (by assumption) ?_
  rotate_left
  · (intro w hSw; (try dsimp only at hSw); go_simp; try with_reducible rfl)
  try simp only [Act.put, List.setIfInBounds_toArray, List.set_cons_zero, List.set_cons_succ]
  refine wpAnyH_take (i := 10) (oi := ⟨some 20, _, _, _, _, _⟩) (v := ?_) rfl (by kernel_rfl) (by kernel_rfl) (by kernel_rfl) (fun _ _ _ h => h) (Or.inl ⟨by rfl, ?_⟩) (by assumption) ?_
  rotate_left
  · (intro w hSw; (try dsimp only at hSw); go_simp; try with_reducible rfl)
  try simp only [Act.put, List.setIfInBounds_toArray, List.set_cons_zero, List.set_cons_succ]
  refine wpAnyH_take (i := 11) (oi := ⟨some 21, _, _, _, _, _⟩) (v := ?_) rfl (by kernel_rfl) (by kernel_rfl) (by kernel_rfl) (fun _ _ _ h => h) (Or.inl ⟨by rfl, ?_⟩) (by assumption) ?_
  rotate_left
  · (intro w hSw; (try dsimp only at hSw); go_simp; try with_reducible rfl)
  try simp only [Act.put, List.setIfInBounds_toArray, List.set_cons_zero, List.set_cons_succ]
  refine wpAnyH_take (i := 12) (oi := ⟨some 22, _, _, _, _, _⟩) (v := ?_) rfl (by kernel_rfl) (by kernel_rfl) (by kernel_rfl) (fun _ _ _ h => h) (Or.inl ⟨by rfl, ?_⟩) (by assumption) ?_
  rotate_left
  · (intro w hSw; (try dsimp only at hSw); go_simp; try with_reducible rfl)
  try simp only [Act.put, List.setIfInBounds_toArray, List.set_cons_zero, List.set_cons_succ]
  refine wpAnyH_take (i := 13) (oi := ⟨some 23, _, _, _, _, _⟩) (v := ?_) rfl (by kernel_rfl) (by kernel_rfl) (by kernel_rfl) (fun _ _ _ h => h) (Or.inl ⟨by rfl, ?_⟩) (by assumption) ?_
  rotate_left
  · (intro w hSw; (try dsimp only at hSw); go_simp; try with_reducible rfl)
  try simp only [Act.put, List.setIfInBounds_toArray, List.set_cons_zero, List.set_cons_succ]
  refine wpAnyH_take (i := 14) (oi := ⟨some 24, _, _, _, _, _⟩) (v := ?_) rfl (by kernel_rfl) (by kernel_rfl) (by kernel_rfl) (fun _ _ _ h => h) (Or.inl ⟨by rfl, ?_⟩) (by assumption) ?_
  rotate_left
  · (intro w hSw; (try dsimp only at hSw); go_simp; try with_reducible rfl)
  try simp only [Act.put, List.setIfInBounds_toArray, List.set_cons_zero, List.set_cons_succ]
  refine wpAnyH_take (i := 15) (oi := ⟨some 25, _, _, _, _, _⟩) (v := ?_) rfl (by kernel_rfl) (by kernel_rfl) (by kernel_rfl) (fun _ _ _ h => h) (Or.inl ⟨by rfl, ?_⟩) (by assumption) ?_
  rotate_left
  · (intro w hSw; (try dsimp only at hSw); go_simp; try with_reducible rfl)
  try simp only [Act.put, List.setIfInBounds_toArray, List.set_cons_zero, List.set_cons_succ]
  refine wpAnyH_take (i := 16) (oi := ⟨some 26, _, _, _, _, _⟩) (v := ?_) rfl (by kernel_rfl) (by kernel_rfl) (by kernel_rfl) (fun _ _ _ h => h) (Or.inl ⟨by rfl, ?_⟩) (by assumption) ?_
  rotate_left
  · (intro w hSw; (try dsimp only at hSw); go_simp; try with_reducible rfl)
  try simp only [Act.put, List.setIfInBounds_toArray, List.set_cons_zero, List.set_cons_succ]
  refine wpAnyH_take (i := 17) (oi := ⟨some 27, _, _, _, _, _⟩) (v := ?_) rfl (by kernel_rfl) (by kernel_rfl) (by kernel_rfl) (fun _ _ _ h => h) (Or.inl ⟨by rfl, ?_⟩) (by assumption) ?_
  rotate_left
  · (intro w hSw; (try dsimp only at hSw); go_simp; try with_reducible rfl)
  try simp only [Act.put, List.setIfInBounds_toArray, List.set_cons_zero, List.set_cons_succ]
  refine wpAnyH_take (i := 18) (oi := ⟨some 28, _, _, _, _, _⟩) (v := ?_) rfl (by kernel_rfl) (by kernel_rfl) (by kernel_rfl) (fun _ _ _ h => h) (Or.inl ⟨by rfl, ?_⟩) (by assumption) ?_
  rotate_left
  · (intro w hSw; (try dsimp only at hSw); go_simp; try with_reducible rfl)
  try simp only [Act.put, List.setIfInBounds_toArray, List.set_cons_zero, List.set_cons_succ]
  refine wpAnyH_take (i := 19) (oi := ⟨some 29, _, _, _, _, _⟩) (v := ?_) rfl (by kernel_rfl) (by kernel_rfl) (by kernel_rfl) (fun _ _ _ h => h) (Or.inl ⟨by rfl, ?_⟩) (by assumption) ?_
  rotate_left
  · (intro w hSw; (try dsimp only at hSw); go_simp; try with_reducible rfl)
  try simp only [Act.put, List.setIfInBounds_toArray, List.set_cons_zero, List.set_cons_succ]
  refine wpAnyH_take (i := 20) (oi := ⟨some 30, _, _, _, _, _⟩) (v := ?_) rfl (by kernel_rfl) (by kernel_rfl) (by kernel_rfl) (fun _ _ _ h => h) (Or.inl ⟨by rfl, ?_⟩) (by assumption) ?_
  rotate_left
  · (intro w hSw; (try dsimp only at hSw); go_simp; try with_reducible rfl)
  try simp only [Act.put, List.setIfInBounds_toArray, List.set_cons_zero, List.set_cons_succ]
  refine wpAnyH_take (i := 21) (oi := ⟨some 31, _, _, _, _, _⟩) (v := ?_) rfl (by kernel_rfl) (by kernel_rfl) (by kernel_rfl) (fun _ _ _ h => h) (Or.inl ⟨by rfl, ?_⟩) (by assumption) ?_
  rotate_left
  · (intro w hSw; (try dsimp only at hSw); go_simp; try with_reducible rfl)
  try simp only [Act.put, List.setIfInBounds_toArray, List.set_cons_zero, List.set_cons_succ]
  refine wpAnyH_take (i := 22) (oi := ⟨some 32, _, _, _, _, _⟩) (v := ?_) rfl (by kernel_rfl) (by kernel_rfl) (by kernel_rfl) (fun _ _ _ h => h) (Or.inl ⟨by rfl, ?_⟩) (by assumption) ?_
  rotate_left
  · (intro w hSw; (try dsimp only at hSw); go_simp; try with_reducible rfl)
  try simp only [Act.put, List.setIfInBounds_toArray, List.set_cons_zero, List.set_cons_succ]
  refine wpAnyH_take (i := 23) (oi := ⟨some 33, _, _, _, _, _⟩) (v := ?_) rfl (by kernel_rfl) (by kernel_rfl) (by kernel_rfl) (fun _ _ _ h => h) (Or.inl ⟨by rfl, ?_⟩) (by assumption) ?_
  rotate_left
  · (intro w hSw; (try dsimp only at hSw); go_simp; try with_reducible rfl)
  try simp only [Act.put, List.setIfInBounds_toArray, List.set_cons_zero, List.set_cons_succ]
  refine wpAnyH_take (i := 24) (oi := ⟨some 34, _, _, _, _, _⟩) (v := ?_) rfl (by kernel_rfl) (by kernel_rfl) (by kernel_rfl) (fun _ _ _ h => h) (Or.inl ⟨by rfl, ?_⟩) (by assumption) ?_
  rotate_left
  · (intro w hSw; (try dsimp only at hSw); go_simp; try with_reducible rfl)
  try simp only [Act.put, List.setIfInBounds_toArray, List.set_cons_zero, List.set_cons_succ]
  refine wpAnyH_take (i := 25) (oi := ⟨some 35, _, _, _, _, _⟩) (v := ?_) rfl (by kernel_rfl) (by kernel_rfl) (by kernel_rfl) (fun _ _ _ h => h) (Or.inl ⟨by rfl, ?_⟩) (by assumption) ?_
  rotate_left
  · (intro w hSw; (try dsimp only at hSw); go_simp; try with_reducible rfl)
  try simp only [Act.put, List.setIfInBounds_toArray, List.set_cons_zero, List.set_cons_succ]
  refine wpAnyH_take (i := 26) (oi := ⟨some 36, _, _, _, _, _⟩) (v := ?_) rfl (by kernel_rfl) (by kernel_rfl) (by kernel_rfl) (fun _ _ _ h => h) (Or.inl ⟨by rfl, ?_⟩) (by assumption) ?_
  rotate_left
  · (intro w hSw; (try dsimp only at hSw); go_simp; try with_reducible rfl)
  try simp only [Act.put, List.setIfInBounds_toArray, List.set_cons_zero, List.set_cons_succ]
  refine wpAnyH_take (i := 27) (oi := ⟨some 37, _, _, _, _, _⟩) (v := ?_) rfl (by kernel_rfl) (by kernel_rfl) (by kernel_rfl) (fun _ _ _ h => h) (Or.inl ⟨by rfl, ?_⟩) (by assumption) ?_
  rotate_left
  · (intro w hSw; (try dsimp only at hSw); go_simp; try with_reducible rfl)
  try simp only [Act.put, List.setIfInBounds_toArray, List.set_cons_zero, List.set_cons_succ]
  refine wpAnyH_take (i := 28) (oi := ⟨some 38, _, _, _, _, _⟩) (v := ?_) rfl (by kernel_rfl) (by kernel_rfl) (by kernel_rfl) (fun _ _ _ h => h) (Or.inl ⟨by rfl, ?_⟩) (by assumption) ?_
  rotate_left
  · (intro w hSw; (try dsimp only at hSw); go_simp; try with_reducible rfl)
  try simp only [Act.put, List.setIfInBounds_toArray, List.set_cons_zero, List.set_cons_succ]
  refine wpAnyH_take (i := 29) (oi := ⟨some 39, _, _, _, _, _⟩) (v := ?_) rfl (by kernel_rfl) (by kernel_rfl) (by kernel_rfl) (fun _ _ _ h => h) (Or.inl ⟨by rfl, ?_⟩) (by assumption) ?_
  rotate_left
  · (intro w hSw; (try dsimp only at hSw); go_simp; try with_reducible rfl)
  try simp only [Act.put, List.setIfInBounds_toArray, List.set_cons_zero, List.set_cons_succ]
  refine wpAnyH_take (i := 30) (oi := ⟨some 40, _, _, _, _, _⟩) (v := ?_) rfl (by kernel_rfl) (by kernel_rfl) (by kernel_rfl) (fun _ _ _ h => h) (Or.inl ⟨by rfl, ?_⟩) (by assumption) ?_
  rotate_left
  · (intro w hSw; (try dsimp only at hSw); go_simp; try with_reducible rfl)
  try simp only [Act.put, List.setIfInBounds_toArray, List.set_cons_zero, List.set_cons_succ]
  refine wpAnyH_take (i := 31) (oi := ⟨some 41, _, _, _, _, _⟩) (v := ?_) rfl (by kernel_rfl) (by kernel_rfl) (by kernel_rfl) (fun _ _ _ h => h) (Or.inl ⟨by rfl, ?_⟩) (by assumption) ?_
  rotate_left
  · (intro w hSw; (try dsimp only at hSw); go_simp; try with_reducible rfl)
  try simp only [Act.put, List.setIfInBounds_toArray, List.set_cons_zero, List.set_cons_succ]
  refine wpAnyH_take (i := 32) (oi := ⟨some 42, _, _, _, _, _⟩) (v := ?_) rfl (by kernel_rfl) (by kernel_rfl) (by kernel_rfl) (fun _ _ _ h => h) (Or.inl ⟨by rfl, ?_⟩) (by assumption) ?_
  rotate_left
  · (intro w hSw; (try dsimp only at hSw); go_simp; try with_reducible rfl)
  try simp only [Act.put, List.setIfInBounds_toArray, List.set_cons_zero, List.set_cons_succ]
  refine wpAnyH_take (i := 33) (oi := ⟨some 43, _, _, _, _, _⟩) (v := ?_) rfl (by kernel_rfl) (by kernel_rfl) (by kernel_rfl) (fun _ _ _ h => h) (Or.inl ⟨by rfl, ?_⟩) (by assumption) ?_
  rotate_left
  · (intro w hSw; (try dsimp only at hSw); go_simp; try with_reducible rfl)
  try simp only [Act.put, List.setIfInBounds_toArray, List.set_cons_zero, List.set_cons_succ]
  refine wpAnyH_take (i := 34) (oi := ⟨some 44, _, _, _, _, _⟩) (v := ?_) rfl (by kernel_rfl) (by kernel_rfl) (by kernel_rfl) (fun _ _ _ h => h) (Or.inl ⟨by rfl, ?_⟩) (by assumption) ?_
  rotate_left
  · (intro w hSw; (try dsimp only at hSw); go_simp; try with_reducible rfl)
  try simp only [Act.put, List.setIfInBounds_toArray, List.set_cons_zero, List.set_cons_succ]
  refine wpAnyH_take (i := 35) (oi := ⟨some 45, _, _, _, _, _⟩) (v := ?_) rfl (by kernel_rfl) (by kernel_rfl) (by kernel_rfl) (fun _ _ _ h => h) (Or.inl ⟨by rfl, ?_⟩) (by assumption) ?_
  rotate_left
  · (intro w hSw; (try dsimp only at hSw); go_simp; try with_reducible rfl)
  try simp only [Act.put, List.setIfInBounds_toArray, List.set_cons_zero, List.set_cons_succ]
  refine wpAnyH_take (i := 36) (oi := ⟨some 46, _, _, _, _, _⟩) (v := ?_) rfl (by kernel_rfl) (by kernel_rfl) (by kernel_rfl) (fun _ _ _ h => h) (Or.inl ⟨by rfl, ?_⟩) (by assumption) ?_
  rotate_left
  · (intro w hSw; (try dsimp only at hSw); go_simp; try with_reducible rfl)
  try simp only [Act.put, List.setIfInBounds_toArray, List.set_cons_zero, List.set_cons_succ]
  refine wpAnyH_take (i := 37) (oi := ⟨some 47, _, _, _, _, _⟩) (v := ?_) rfl (by kernel_rfl) (by kernel_rfl) (by kernel_rfl) (fun _ _ _ h => h) (Or.inl ⟨by rfl, ?_⟩) (by assumption) ?_
  rotate_left
  · (intro w hSw; (try dsimp only at hSw); go_simp; try with_reducible rfl)
  try simp only [Act.put, List.setIfInBounds_toArray, List.set_cons_zero, List.set_cons_succ]
  refine wpAnyH_take (i := 38) (oi := ⟨some 48, _, _, _, _, _⟩) (v := ?_) rfl (by kernel_rfl) (by kernel_rfl) (by kernel_rfl) (fun _ _ _ h => h) (Or.inl ⟨by rfl, ?_⟩) (by assumption) ?_
  rotate_left
  · (intro w hSw; (try dsimp only at hSw); go_simp; try with_reducible rfl)
  try simp only [Act.put, List.setIfInBounds_toArray, List.set_cons_zero, List.set_cons_succ]
  refine wpAnyH_take (i := 39) (oi := ⟨some 49, _, _, _, _, _⟩) (v := ?_) rfl (by kernel_rfl) (by kernel_rfl) (by kernel_rfl) (fun _ _ _ h => h) (Or.inl ⟨by rfl, ?_⟩) (by assumption) ?_
  rotate_left
  · (intro w hSw; (try dsimp only at hSw); go_simp; try with_reducible rfl)
  try simp only [Act.put, List.setIfInBounds_toArray, List.set_cons_zero, List.set_cons_succ]
  refine wpAnyH_take (i := 40) (oi := ⟨some 50, _, _, _, _, _⟩) (v := ?_) rfl (by kernel_rfl) (by kernel_rfl) (by kernel_rfl) (fun _ _ _ h => h) (Or.inl ⟨by rfl, ?_⟩) (by assumption) ?_
  rotate_left
  · (intro w hSw; (try dsimp only at hSw); go_simp; try with_reducible rfl)
  try simp only [Act.put, List.setIfInBounds_toArray, List.set_cons_zero, List.set_cons_succ]
  refine wpAnyH_ready (rs := [41]) (by kernel_rfl) (by simp) ?_
  refine AllReadyH.cons (o := ⟨some 51, _, _, _, _, _⟩) rfl (fun K hK => ?_) AllReadyH.nil
  go_simp
  skip
  refine hK.out _ _ ?_ (fun hHeld => ?_)
  · (try dsimp only); exact ⟨Ext.cell_ (w := w1) (by repeat (first | exact Ext.refl _ | (refine Ext.drew_ ?_) | (refine Ext.alloc_ ?_ _))) n0, Ext.cell_ (w := w1) (by repeat (first | exact Ext.refl _ | (refine Ext.drew_ ?_) | (refine Ext.alloc_ ?_ _))) n1, Ext.cell_ (w := w1) (by repeat (first | exact Ext.refl _ | (refine Ext.drew_ ?_) | (refine Ext.alloc_ ?_ _))) n2, Ext.cell_ (w := w1) (by repeat (first | exact Ext.refl _ | (refine Ext.drew_ ?_) | (refine Ext.alloc_ ?_ _))) n3, Ext.cell_ (w := w1) (by repeat (first | exact Ext.refl _ | (refine Ext.drew_ ?_) | (refine Ext.alloc_ ?_ _))) n4, Ext.cell_ (w := w1) (by repeat (first | exact Ext.refl _ | (refine Ext.drew_ ?_) | (refine Ext.alloc_ ?_ _))) n5, Ext.cell_ (w := w1) (by repeat (first | exact Ext.refl _ | (refine Ext.drew_ ?_) | (refine Ext.alloc_ ?_ _))) n6, Ext.cell_ (w := w1) (by repeat (first | exact Ext.refl _ | (refine Ext.drew_ ?_) | (refine Ext.alloc_ ?_ _))) n7, Ext.cell_ (w := w1) (by repeat (first | exact Ext.refl _ | (refine Ext.drew_ ?_) | (refine Ext.alloc_ ?_ _))) n8, Ext.cell_ (w := w1) (by repeat (first | exact Ext.refl _ | (refine Ext.drew_ ?_) | (refine Ext.alloc_ ?_ _))) n10⟩
  clear hK K
  try simp only [Act.put, List.setIfInBounds_toArray, List.set_cons_zero, List.set_cons_succ]
  refine wpAnyH_take (i := 42) (oi := ⟨some 4, _, _, _, _, _⟩) (v := ?_) rfl (by kernel_rfl) (by kernel_rfl) (by kernel_rfl) (fun _ _ _ h => h) (Or.inl ⟨by rfl, ?_⟩) (by assumption) ?_
  rotate_left
  · (intro w hSw; (try dsimp only at hSw); go_simp; try with_reducible rfl)
  try simp only [Act.put, List.setIfInBounds_toArray, List.set_cons_zero, List.set_cons_succ]
  refine wpAnyH_done (by kernel_rfl) ?_ _
  clear n0 n1 n2 n3 n4 n5 n6 n7 n8 n10 hHeld
  go_wp2
  refine named_world' (fun W1 hW1 => ?_)
  have hE1 : Ext w1 W1 := by rw [hW1]; exact ((Ext.refl w1).alloc_ _).drew_
  have hO1 : OM W1 w.heap.size w1.heap.size (memNums M) (partFlds 72 M Sx none 0 0) := by rw [hW1]; exact (om_box _ _ HOM.out).ext (Ext.refl _).drew_
  have HE1 := Lib.hid hE1
  have HO1 := Lib.hid hO1
  generalize hbo : w1.heap.size = bo at *
  clear hW1 hE1 hO1
  go_loopw [5] (fun i wr => ∃ (k : Nat) (a : Option Addr) (c : Nat), k ≤ M.ids.length ∧ i = .int .i64 (k : Int) ∧ Hid (OM wr w.heap.size bo (memNums M) (partFlds 72 M Sx a k c)) ∧ Hid (Ext w1 wr) ∧ Hid (∀ g, (Value.slice a k c).ownBlock = some g → bo ≤ g)) (fun i _ => M.ids.length - (intOf i).toNat)
  case atStart => exact ⟨0, none, 0, Nat.zero_le _, rfl, HO1.out, HE1.out, fun g hg => by simp [Value.ownBlock] at hg⟩
  case round =>
    obtain ⟨k, a, c, hk, rfl, hO, hE, hB⟩ := hrel
    have f2 := hE.out.cell_ n9
    by_cases hlt : k < M.ids.length
    · obtain ⟨e1, e2⟩ := icells_at M.ids k hlt
      obtain ⟨ib, io, q1, k1⟩ := HI.out _ _ e1
      have l1 : w1.cell? ⟨ib, io + k * 2 + 1, none⟩ = some (.int .i64 M.ids[k].2) := by
        have := RSl.at_ (q1 ▸ HI.out) e2
        rw [← Nat.add_assoc] at this
        exact this
      rw [q1] at f2
      have f3 := hE.out.cell_ k1
      have f4 := hE.out.cell_ l1
      have f1 : wr.cell? ⟨bo, 9, none⟩ = some (.slice a k c) := (hO.out.fld ⟨9, 72, 2, a, k, c, icells (M.ids.take k)⟩ (by simp [partFlds])).1
      have hltz : (k : Int) < (M.ids.length : Int) := by omega
      have HY : Hid (M.ids.take (k + 1) = M.ids.take k ++ [M.ids[k]]) := Lib.hid (List.take_succ_eq_append_getElem hlt)
      generalize M.ids[k] = y at *
      obtain ⟨y1, y2⟩ := y
      have n9' : w1.cell? ⟨bx, 9, none⟩ = some (.slice (some ⟨ib, io, none⟩) M.ids.length Sx.I.2) := by rw [← q1]; exact n9
      have HN9 := Lib.hid n9'
      have HK1 := Lib.hid k1
      have HL1 := Lib.hid l1
      have hlo := hO.out.lt
      have hltb : ib < bo := by rw [← hbo]; exact cell_lt k1
      clear e1 e2 q1 n9 k1 l1 n9'
      go_wp2
      refine wp_region_held_drew (S := fun W => W.cell? ⟨bx, 9, none⟩ = some (.slice (some ⟨ib, io, none⟩) M.ids.length Sx.I.2) ∧ W.cell? ⟨ib, io + k * 2, none⟩ = some (.int .u64 y1) ∧ W.cell? ⟨ib, io + k * 2 + 1, none⟩ = some (.int .i64 y2)) (by kernel_rfl) ?_ (fun hHeld => ?_)
      · exact ⟨f2, f3, f4⟩
      refine wpAnyH_take (i := 0) (oi := ⟨some 61, _, _, _, _, _⟩) (v := ?_) rfl (by kernel_rfl) (by kernel_rfl) (by kernel_rfl) (fun _ _ _ h => h) (Or.inl ⟨by rfl, ?_⟩) (by assumption) ?_
      rotate_left
      · (intro w hSw; (try dsimp only at hSw); go_simp; try with_reducible rfl)
      try simp only [Act.put, List.setIfInBounds_toArray, List.set_cons_zero, List.set_cons_succ]
      refine wpAnyH_take (i := 1) (oi := ⟨some 62, _, _, _, _, _⟩) (v := ?_) rfl (by kernel_rfl) (by kernel_rfl) (by kernel_rfl) (fun _ _ _ h => h) (Or.inl ⟨by rfl, ?_⟩) (by assumption) ?_
      rotate_left
      · (intro w hSw; (try dsimp only at hSw); go_simp; try with_reducible rfl)
      try simp only [Act.put, List.setIfInBounds_toArray, List.set_cons_zero, List.set_cons_succ]
      refine wpAnyH_take (i := 2) (oi := ⟨some 63, _, _, _, _, _⟩) (v := ?_) rfl (by kernel_rfl) (by kernel_rfl) (by kernel_rfl) (fun _ _ _ h => h) (Or.inl ⟨by rfl, ?_⟩) (by assumption) ?_
      rotate_left
      · (intro w hSw; (try dsimp only at hSw); go_simp; try with_reducible rfl)
      try simp only [Act.put, List.setIfInBounds_toArray, List.set_cons_zero, List.set_cons_succ]
      refine wpAnyH_take (i := 3) (oi := ⟨some 64, _, _, _, _, _⟩) (v := ?_) rfl (by kernel_rfl) (by kernel_rfl) (by kernel_rfl) (fun _ _ _ h => h) (Or.inl ⟨by rfl, ?_⟩) (by assumption) ?_
      rotate_left
      · (intro w hSw; (try dsimp only at hSw); go_simp; try with_reducible rfl)
      try simp only [Act.put, List.setIfInBounds_toArray, List.set_cons_zero, List.set_cons_succ]
      refine wpAnyH_take (i := 5) (oi := ⟨some 66, _, _, _, _, _⟩) (v := ?_) rfl (by kernel_rfl) (by kernel_rfl) (by kernel_rfl) (fun _ _ _ h => h) (Or.inl ⟨by rfl, ?_⟩) (by assumption) ?_
      rotate_left
      · (intro w hSw; (try dsimp only at hSw); go_simp; try with_reducible rfl)
      try simp only [Act.put, List.setIfInBounds_toArray, List.set_cons_zero, List.set_cons_succ]
      refine wpAnyH_take (i := 6) (oi := ⟨some 67, _, _, _, _, _⟩) (v := ?_) rfl (by kernel_rfl) (by kernel_rfl) (by kernel_rfl) (fun _ _ _ h => h) (Or.inl ⟨by rfl, ?_⟩) (by assumption) ?_
      rotate_left
      · (intro w hSw; (try dsimp only at hSw); go_simp; try with_reducible rfl)
      try simp only [Act.put, List.setIfInBounds_toArray, List.set_cons_zero, List.set_cons_succ]
      refine wpAnyH_take (i := 7) (oi := ⟨some 68, _, _, _, _, _⟩) (v := ?_) rfl (by kernel_rfl) (by kernel_rfl) (by kernel_rfl) (fun _ _ _ h => h) (Or.inl ⟨by rfl, ?_⟩) (by assumption) ?_
      rotate_left
      · (intro w hSw; (try dsimp only at hSw); go_simp; try with_reducible rfl)
      try simp only [Act.put, List.setIfInBounds_toArray, List.set_cons_zero, List.set_cons_succ]
      refine wpAnyH_take (i := 8) (oi := ⟨some 69, _, _, _, _, _⟩) (v := ?_) rfl (by kernel_rfl) (by kernel_rfl) (by kernel_rfl) (fun _ _ _ h => h) (Or.inl ⟨by rfl, ?_⟩) (by assumption) ?_
      rotate_left
      · (intro w hSw; (try dsimp only at hSw); go_simp; try with_reducible rfl)
      try simp only [Act.put, List.setIfInBounds_toArray, List.set_cons_zero, List.set_cons_succ]
      refine wpAnyH_take (i := 9) (oi := ⟨some 70, _, _, _, _, _⟩) (v := ?_) rfl (by kernel_rfl) (by kernel_rfl) (by kernel_rfl) (fun _ _ _ h => h) (Or.inl ⟨by rfl, ?_⟩) (by assumption) ?_
      rotate_left
      · (intro w hSw; (try dsimp only at hSw); go_simp; try with_reducible rfl)
      try simp only [Act.put, List.setIfInBounds_toArray, List.set_cons_zero, List.set_cons_succ]
      refine wpAnyH_take (i := 10) (oi := ⟨some 71, _, _, _, _, _⟩) (v := ?_) rfl (by kernel_rfl) (by kernel_rfl) (by kernel_rfl) (fun _ _ _ h => h) (Or.inl ⟨by rfl, ?_⟩) (by assumption) ?_
      rotate_left
      · (intro w hSw; (try dsimp only at hSw); go_simp; try with_reducible rfl)
      try simp only [Act.put, List.setIfInBounds_toArray, List.set_cons_zero, List.set_cons_succ]
      refine wpAnyH_take (i := 11) (oi := ⟨some 72, _, _, _, _, _⟩) (v := ?_) rfl (by kernel_rfl) (by kernel_rfl) (by kernel_rfl) (fun _ _ _ h => h) (Or.inl ⟨by rfl, ?_⟩) (by assumption) ?_
      rotate_left
      · (intro w hSw; (try dsimp only at hSw); go_simp; try with_reducible rfl)
      try simp only [Act.put, List.setIfInBounds_toArray, List.set_cons_zero, List.set_cons_succ]
      refine wpAnyH_take (i := 12) (oi := ⟨some 73, _, _, _, _, _⟩) (v := ?_) rfl (by kernel_rfl) (by kernel_rfl) (by kernel_rfl) (fun _ _ _ h => h) (Or.inl ⟨by rfl, ?_⟩) (by assumption) ?_
      rotate_left
      · (intro w hSw; (try dsimp only at hSw); go_simp; try with_reducible rfl)
      try simp only [Act.put, List.setIfInBounds_toArray, List.set_cons_zero, List.set_cons_succ]
      refine wpAnyH_take (i := 13) (oi := ⟨some 74, _, _, _, _, _⟩) (v := ?_) rfl (by kernel_rfl) (by kernel_rfl) (by kernel_rfl) (fun _ _ _ h => h) (Or.inl ⟨by rfl, ?_⟩) (by assumption) ?_
      rotate_left
      · (intro w hSw; (try dsimp only at hSw); go_simp; try with_reducible rfl)
      try simp only [Act.put, List.setIfInBounds_toArray, List.set_cons_zero, List.set_cons_succ]
      refine wpAnyH_take (i := 14) (oi := ⟨some 75, _, _, _, _, _⟩) (v := ?_) rfl (by kernel_rfl) (by kernel_rfl) (by kernel_rfl) (fun _ _ _ h => h) (Or.inl ⟨by rfl, ?_⟩) (by assumption) ?_
      rotate_left
      · (intro w hSw; (try dsimp only at hSw); go_simp; try with_reducible rfl)
      try simp only [Act.put, List.setIfInBounds_toArray, List.set_cons_zero, List.set_cons_succ]
      refine wpAnyH_take (i := 15) (oi := ⟨some 76, _, _, _, _, _⟩) (v := ?_) rfl (by kernel_rfl) (by kernel_rfl) (by kernel_rfl) (fun _ _ _ h => h) (Or.inl ⟨by rfl, ?_⟩) (by assumption) ?_
      rotate_left
      · (intro w hSw; (try dsimp only at hSw); go_simp; try with_reducible rfl)
      try simp only [Act.put, List.setIfInBounds_toArray, List.set_cons_zero, List.set_cons_succ]
      refine wpAnyH_take (i := 16) (oi := ⟨some 77, _, _, _, _, _⟩) (v := ?_) rfl (by kernel_rfl) (by kernel_rfl) (by kernel_rfl) (fun _ _ _ h => h) (Or.inl ⟨by rfl, ?_⟩) (by assumption) ?_
      rotate_left
      · (intro w hSw; (try dsimp only at hSw); go_simp; try with_reducible rfl)
      try simp only [Act.put, List.setIfInBounds_toArray, List.set_cons_zero, List.set_cons_succ]
      refine wpAnyH_take (i := 17) (oi := ⟨some 78, _, _, _, _, _⟩) (v := ?_) rfl (by kernel_rfl) (by kernel_rfl) (by kernel_rfl) (fun _ _ _ h => h) (Or.inl ⟨by rfl, ?_⟩) (by assumption) ?_
      rotate_left
      · (intro w hSw; (try dsimp only at hSw); go_simp; try with_reducible rfl)
      try simp only [Act.put, List.setIfInBounds_toArray, List.set_cons_zero, List.set_cons_succ]
      refine wpAnyH_take (i := 18) (oi := ⟨some 79, _, _, _, _, _⟩) (v := ?_) rfl (by kernel_rfl) (by kernel_rfl) (by kernel_rfl) (fun _ _ _ h => h) (Or.inl ⟨by rfl, ?_⟩) (by assumption) ?_
      rotate_left
      · (intro w hSw; (try dsimp only at hSw); go_simp; try with_reducible rfl)
      try simp only [Act.put, List.setIfInBounds_toArray, List.set_cons_zero, List.set_cons_succ]
      refine wpAnyH_take (i := 19) (oi := ⟨some 80, _, _, _, _, _⟩) (v := ?_) rfl (by kernel_rfl) (by kernel_rfl) (by kernel_rfl) (fun _ _ _ h => h) (Or.inl ⟨by rfl, ?_⟩) (by assumption) ?_
      rotate_left
      · (intro w hSw; (try dsimp only at hSw); go_simp; try with_reducible rfl)
      try simp only [Act.put, List.setIfInBounds_toArray, List.set_cons_zero, List.set_cons_succ]
      refine wpAnyH_take (i := 20) (oi := ⟨some 81, _, _, _, _, _⟩) (v := ?_) rfl (by kernel_rfl) (by kernel_rfl) (by kernel_rfl) (fun _ _ _ h => h) (Or.inl ⟨by rfl, ?_⟩) (by assumption) ?_
      rotate_left
      · (intro w hSw; (try dsimp only at hSw); go_simp; try with_reducible rfl)
      try simp only [Act.put, List.setIfInBounds_toArray, List.set_cons_zero, List.set_cons_succ]
      refine wpAnyH_take (i := 21) (oi := ⟨some 82, _, _, _, _, _⟩) (v := ?_) rfl (by kernel_rfl) (by kernel_rfl) (by kernel_rfl) (fun _ _ _ h => h) (Or.inl ⟨by rfl, ?_⟩) (by assumption) ?_
      rotate_left
      · (intro w hSw; (try dsimp only at hSw); go_simp; try with_reducible rfl)
      try simp only [Act.put, List.setIfInBounds_toArray, List.set_cons_zero, List.set_cons_succ]
      refine wpAnyH_ready (rs := [4, 22]) (by kernel_rfl) (by simp) ?_
      refine AllReadyH.cons (o := ⟨some 65, _, _, _, _, _⟩) rfl (fun K hK => ?_) (AllReadyH.cons (o := ⟨some 83, _, _, _, _, _⟩) rfl (fun K hK => ?_) AllReadyH.nil)
      · skip
        go_simp
        refine hK.out _ _ ?_ (fun hHeld => ?_)
        · (try dsimp only); exact ⟨Ext.cell_ (w := wr) (by repeat (first | exact Ext.refl _ | (refine Ext.drew_ ?_) | (refine Ext.alloc_ ?_ _))) f2, Ext.cell_ (w := wr) (by repeat (first | exact Ext.refl _ | (refine Ext.drew_ ?_) | (refine Ext.alloc_ ?_ _))) f3, Ext.cell_ (w := wr) (by repeat (first | exact Ext.refl _ | (refine Ext.drew_ ?_) | (refine Ext.alloc_ ?_ _))) f4⟩
        clear hK K
        try simp only [Act.put, List.setIfInBounds_toArray, List.set_cons_zero, List.set_cons_succ]
        refine wpAnyH_ready (rs := [22]) (by kernel_rfl) (by simp) ?_
        refine AllReadyH.cons (o := ⟨some 83, _, _, _, _, _⟩) rfl (fun K hK => ?_) AllReadyH.nil
        go_simp
        skip
        refine hK.out _ _ ?_ (fun hHeld => ?_)
        · (try dsimp only); exact ⟨Ext.cell_ (w := wr) (by repeat (first | exact Ext.refl _ | (refine Ext.drew_ ?_) | (refine Ext.alloc_ ?_ _))) f2, Ext.cell_ (w := wr) (by repeat (first | exact Ext.refl _ | (refine Ext.drew_ ?_) | (refine Ext.alloc_ ?_ _))) f3, Ext.cell_ (w := wr) (by repeat (first | exact Ext.refl _ | (refine Ext.drew_ ?_) | (refine Ext.alloc_ ?_ _))) f4⟩
        clear hK K
        try simp only [Act.put, List.setIfInBounds_toArray, List.set_cons_zero, List.set_cons_succ]
        refine wpAnyH_ready (rs := [23]) (by kernel_rfl) (by simp) ?_
        refine AllReadyH.cons (o := ⟨some 84, _, _, _, _, _⟩) rfl (fun K hK => ?_) AllReadyH.nil
        have hOW : OM (wr.alloc (.cells #[.int .u64 y1, .int .i64 y2] 72)).drew w.heap.size bo (memNums M) (partFlds 72 M Sx a k c) := hO.out.ext ((Ext.refl wr).alloc_ _).drew_
        have hE2 : Ext w1 (wr.alloc (.cells #[.int .u64 y1, .int .i64 y2] 72)).drew := Ext.trans_ hE.out ((Ext.refl wr).alloc_ _).drew_
        have hfl := hOW.fld ⟨9, 72, 2, a, k, c, icells (M.ids.take k)⟩ (by simp [partFlds])
        refine step_append_src (by rfl) _ _ 36 (by rfl) w.heap.size 72 im (.agg #[.int .u64 0, .int .i64 0]) 2 16 undM him hma hmb hmc (by rfl) (by decide) (.slice a k c) k (icells (M.ids.take k)) (by rfl) hfl.2.1 (some ⟨wr.heap.size, 0, none⟩) 1 1 (icells [(y1, y2)]) (by rfl) (fun e => by cases e) (Nat.le_refl _) (by rfl) (rsl_made wr _ y1 y2) (icells_one _) (by unfold maxLen; omega) (by omega) (Nat.le_trans HQ.out.size hE2.size) ?_
        intro a2 c2 v2 hown hgrow hat
        have hx : Ext w1 v2 := Below.grown hE2 hgrow hE2.size (fun g hg => by rw [hbo]; exact hB.out g hg)
        have hbk := hgrow.block bo hOW.lt (fun e => hfl.2.2 e.symm)
        have y1c : v2.cell? ⟨bo, 9, none⟩ = some (.slice a k c) := by rw [World.cell?_of_block (w := (wr.alloc (.cells #[.int .u64 y1, .int .i64 y2] 72)).drew) (a := ⟨bo, 9, none⟩) hbk]; exact hfl.1
        have y2c : v2.frozen? ⟨bo, 9, none⟩ = false := by rw [World.frozen?_of_block (w := (wr.alloc (.cells #[.int .u64 y1, .int .i64 y2] 72)).drew) (a := ⟨bo, 9, none⟩) hbk]; exact hOW.frozen 9
        have g2 := hx.cell_ HN9.out
        have g3 := hx.cell_ HK1.out
        have g4 := hx.cell_ HL1.out
        have OW := Lib.hid hown
        have HG := Lib.hid hgrow
        have HAT := Lib.hid hat
        have HX := Lib.hid hx
        have HOW := Lib.hid hOW
        clear hown hgrow hat hx hOW hE2 hfl hbk
        refine hK.out _ _ ?_ (fun hHeld => ?_)
        · (try dsimp only); exact ⟨g2, g3, g4⟩
        clear hK K
        try simp only [Act.put, List.setIfInBounds_toArray, List.set_cons_zero, List.set_cons_succ]
        refine wpAnyH_take (i := 24) (oi := ⟨some 85, _, _, _, _, _⟩) (v := ?_) rfl (by kernel_rfl) (by kernel_rfl) (by kernel_rfl) (fun _ _ _ h => h) (Or.inl ⟨by rfl, ?_⟩) (by assumption) ?_
        rotate_left
        · (intro w hSw; (try dsimp only at hSw); go_simp; try with_reducible rfl)
        try simp only [Act.put, List.setIfInBounds_toArray, List.set_cons_zero, List.set_cons_succ]
        refine wpAnyH_take (i := 25) (oi := ⟨some 86, _, _, _, _, _⟩) (v := ?_) rfl (by kernel_rfl) (by kernel_rfl) (by kernel_rfl) (fun _ _ _ h => h) (Or.inl ⟨by rfl, ?_⟩) (by assumption) ?_
        rotate_left
        · (intro w hSw; (try dsimp only at hSw); go_simp; try with_reducible rfl)
        try simp only [Act.put, List.setIfInBounds_toArray, List.set_cons_zero, List.set_cons_succ]
        refine wpAnyH_ready (rs := [26]) (by kernel_rfl) (by simp) ?_
        refine AllReadyH.cons (o := ⟨none, _, _, _, _, _⟩) rfl (fun K hK => ?_) AllReadyH.nil
        go_simp
        skip
        refine hK.out _ _ ?_ (fun hHeld => ?_)
        · (try dsimp only); exact ⟨by rw [World.cell?_setCell_far _ _ _ _ (by simp; omega)]; exact g2, by rw [World.cell?_setCell_far _ _ _ _ (by simp; omega)]; exact g3, by rw [World.cell?_setCell_far _ _ _ _ (by simp; omega)]; exact g4⟩
        clear hK K
        try simp only [Act.put, List.setIfInBounds_toArray, List.set_cons_zero, List.set_cons_succ]
        refine wpAnyH_done (by kernel_rfl) ?_ _
        have hN : OM (v2.setCell ⟨bo, 9, none⟩ (.slice a2 (k + 1) c2)) w.heap.size bo (memNums M) (partFlds 72 M Sx a2 (k + 1) c2) := by
          have h := OM.push (L1 := (partFlds 72 M Sx a k c).take 3) (L2 := (partFlds 72 M Sx a k c).drop 4) (f := ⟨9, 72, 2, a, k, c, icells (M.ids.take k)⟩) HOW.out a2 (k + 1) c2 _ HG.out OW.out HAT.out
          unfold partFlds
          rw [HY.out, show icells (M.ids.take k ++ [(y1, y2)]) = icells (M.ids.take k) ++ icells [(y1, y2)] from by simp [icells]]
          exact h
        have hsz2 : bo ≤ (wr.alloc (.cells #[.int .u64 y1, .int .i64 y2] 72)).drew.heap.size := by have := HOW.out.lt; omega
        clear hHeld y1c y2c g2 g3 g4 f1 f2 f3 f4
        have HNN := Lib.hid hN
        have HS2 := Lib.hid hsz2
        clear hN hsz2
        go_wp2
        refine ⟨⟨k + 1, a2, c2, by omega, by go_num, HNN.out, Ext.set_ HX.out (by simp; omega) _, fun g hg => ?_⟩, by simp [intOf]; omega⟩
        rcases HAT.out with e | e
        · exact hB.out g (e ▸ hg)
        · rw [e] at hg; injection hg with hg; rw [← hg]; exact HS2.out
      · skip
        go_simp
        refine hK.out _ _ ?_ (fun hHeld => ?_)
        · (try dsimp only); exact ⟨Ext.cell_ (w := wr) (by repeat (first | exact Ext.refl _ | (refine Ext.drew_ ?_) | (refine Ext.alloc_ ?_ _))) f2, Ext.cell_ (w := wr) (by repeat (first | exact Ext.refl _ | (refine Ext.drew_ ?_) | (refine Ext.alloc_ ?_ _))) f3, Ext.cell_ (w := wr) (by repeat (first | exact Ext.refl _ | (refine Ext.drew_ ?_) | (refine Ext.alloc_ ?_ _))) f4⟩
        clear hK K
        try simp only [Act.put, List.setIfInBounds_toArray, List.set_cons_zero, List.set_cons_succ]
        refine wpAnyH_ready (rs := [4]) (by kernel_rfl) (by simp) ?_
        refine AllReadyH.cons (o := ⟨some 65, _, _, _, _, _⟩) rfl (fun K hK => ?_) AllReadyH.nil
        go_simp
        skip
        refine hK.out _ _ ?_ (fun hHeld => ?_)
        · (try dsimp only); exact ⟨Ext.cell_ (w := wr) (by repeat (first | exact Ext.refl _ | (refine Ext.drew_ ?_) | (refine Ext.alloc_ ?_ _))) f2, Ext.cell_ (w := wr) (by repeat (first | exact Ext.refl _ | (refine Ext.drew_ ?_) | (refine Ext.alloc_ ?_ _))) f3, Ext.cell_ (w := wr) (by repeat (first | exact Ext.refl _ | (refine Ext.drew_ ?_) | (refine Ext.alloc_ ?_ _))) f4⟩
        clear hK K
        try simp only [Act.put, List.setIfInBounds_toArray, List.set_cons_zero, List.set_cons_succ]
        refine wpAnyH_ready (rs := [23]) (by kernel_rfl) (by simp) ?_
        refine AllReadyH.cons (o := ⟨some 84, _, _, _, _, _⟩) rfl (fun K hK => ?_) AllReadyH.nil
        have hOW : OM (wr.alloc (.cells #[.int .u64 y1, .int .i64 y2] 72)).drew w.heap.size bo (memNums M) (partFlds 72 M Sx a k c) := hO.out.ext ((Ext.refl wr).alloc_ _).drew_
        have hE2 : Ext w1 (wr.alloc (.cells #[.int .u64 y1, .int .i64 y2] 72)).drew := Ext.trans_ hE.out ((Ext.refl wr).alloc_ _).drew_
        have hfl := hOW.fld ⟨9, 72, 2, a, k, c, icells (M.ids.take k)⟩ (by simp [partFlds])
        refine step_append_src (by rfl) _ _ 36 (by rfl) w.heap.size 72 im (.agg #[.int .u64 0, .int .i64 0]) 2 16 undM him hma hmb hmc (by rfl) (by decide) (.slice a k c) k (icells (M.ids.take k)) (by rfl) hfl.2.1 (some ⟨wr.heap.size, 0, none⟩) 1 1 (icells [(y1, y2)]) (by rfl) (fun e => by cases e) (Nat.le_refl _) (by rfl) (rsl_made wr _ y1 y2) (icells_one _) (by unfold maxLen; omega) (by omega) (Nat.le_trans HQ.out.size hE2.size) ?_
        intro a2 c2 v2 hown hgrow hat
        have hx : Ext w1 v2 := Below.grown hE2 hgrow hE2.size (fun g hg => by rw [hbo]; exact hB.out g hg)
        have hbk := hgrow.block bo hOW.lt (fun e => hfl.2.2 e.symm)
        have y1c : v2.cell? ⟨bo, 9, none⟩ = some (.slice a k c) := by rw [World.cell?_of_block (w := (wr.alloc (.cells #[.int .u64 y1, .int .i64 y2] 72)).drew) (a := ⟨bo, 9, none⟩) hbk]; exact hfl.1
        have y2c : v2.frozen? ⟨bo, 9, none⟩ = false := by rw [World.frozen?_of_block (w := (wr.alloc (.cells #[.int .u64 y1, .int .i64 y2] 72)).drew) (a := ⟨bo, 9, none⟩) hbk]; exact hOW.frozen 9
        have g2 := hx.cell_ HN9.out
        have g3 := hx.cell_ HK1.out
        have g4 := hx.cell_ HL1.out
        have OW := Lib.hid hown
        have HG := Lib.hid hgrow
        have HAT := Lib.hid hat
        have HX := Lib.hid hx
        have HOW := Lib.hid hOW
        clear hown hgrow hat hx hOW hE2 hfl hbk
        refine hK.out _ _ ?_ (fun hHeld => ?_)
        · (try dsimp only); exact ⟨g2, g3, g4⟩
        clear hK K
        try simp only [Act.put, List.setIfInBounds_toArray, List.set_cons_zero, List.set_cons_succ]
        refine wpAnyH_take (i := 24) (oi := ⟨some 85, _, _, _, _, _⟩) (v := ?_) rfl (by kernel_rfl) (by kernel_rfl) (by kernel_rfl) (fun _ _ _ h => h) (Or.inl ⟨by rfl, ?_⟩) (by assumption) ?_
        rotate_left
        · (intro w hSw; (try dsimp only at hSw); go_simp; try with_reducible rfl)
        try simp only [Act.put, List.setIfInBounds_toArray, List.set_cons_zero, List.set_cons_succ]
        refine wpAnyH_take (i := 25) (oi := ⟨some 86, _, _, _, _, _⟩) (v := ?_) rfl (by kernel_rfl) (by kernel_rfl) (by kernel_rfl) (fun _ _ _ h => h) (Or.inl ⟨by rfl, ?_⟩) (by assumption) ?_
        rotate_left
        · (intro w hSw; (try dsimp only at hSw); go_simp; try with_reducible rfl)
        try simp only [Act.put, List.setIfInBounds_toArray, List.set_cons_zero, List.set_cons_succ]
        refine wpAnyH_ready (rs := [26]) (by kernel_rfl) (by simp) ?_
        refine AllReadyH.cons (o := ⟨none, _, _, _, _, _⟩) rfl (fun K hK => ?_) AllReadyH.nil
        go_simp
        skip
        refine hK.out _ _ ?_ (fun hHeld => ?_)
        · (try dsimp only); exact ⟨by rw [World.cell?_setCell_far _ _ _ _ (by simp; omega)]; exact g2, by rw [World.cell?_setCell_far _ _ _ _ (by simp; omega)]; exact g3, by rw [World.cell?_setCell_far _ _ _ _ (by simp; omega)]; exact g4⟩
        clear hK K
        try simp only [Act.put, List.setIfInBounds_toArray, List.set_cons_zero, List.set_cons_succ]
        refine wpAnyH_done (by kernel_rfl) ?_ _
        have hN : OM (v2.setCell ⟨bo, 9, none⟩ (.slice a2 (k + 1) c2)) w.heap.size bo (memNums M) (partFlds 72 M Sx a2 (k + 1) c2) := by
          have h := OM.push (L1 := (partFlds 72 M Sx a k c).take 3) (L2 := (partFlds 72 M Sx a k c).drop 4) (f := ⟨9, 72, 2, a, k, c, icells (M.ids.take k)⟩) HOW.out a2 (k + 1) c2 _ HG.out OW.out HAT.out
          unfold partFlds
          rw [HY.out, show icells (M.ids.take k ++ [(y1, y2)]) = icells (M.ids.take k) ++ icells [(y1, y2)] from by simp [icells]]
          exact h
        have hsz2 : bo ≤ (wr.alloc (.cells #[.int .u64 y1, .int .i64 y2] 72)).drew.heap.size := by have := HOW.out.lt; omega
        clear hHeld y1c y2c g2 g3 g4 f1 f2 f3 f4
        have HNN := Lib.hid hN
        have HS2 := Lib.hid hsz2
        clear hN hsz2
        go_wp2
        refine ⟨⟨k + 1, a2, c2, by omega, by go_num, HNN.out, Ext.set_ HX.out (by simp; omega) _, fun g hg => ?_⟩, by simp [intOf]; omega⟩
        rcases HAT.out with e | e
        · exact hB.out g (e ▸ hg)
        · rw [e] at hg; injection hg with hg; rw [← hg]; exact HS2.out
    · have hge : (M.ids.length : Int) ≤ (k : Int) := by omega
      obtain rfl : k = M.ids.length := by omega
      go_wp2
      go_ret
      have := hO.out
      unfold partFlds at this
      rw [List.take_length] at this
      exact ⟨bo, ⟨Sx.W, Sx.R, Sx.K, (a, c), Sx.C⟩, rfl, this, Ext.trans_ HQ.out hE.out⟩
end Go.Proofs.YtecbbbaafcoliaaDoor
/- The walks of slices.Clone. -/
namespace Go.Proofs.YtecbbbaafcoliaaDoor
open Go.RowKit
set_option linter.unusedVariables false
set_option linter.unusedSimpArgs false

def ClonePost (w : World) (e : TypeId) (size : Nat) (m : Nat) (news : List Value) (en : Ending) (w' : World) : Prop :=
  ∃ a c, en = .returned (.slice a m c) ∧ w'.ownsRow w.heap.size e size (.slice a m c) m news ∧ Ext w w'
theorem owns_zero (W : World) (e : TypeId) (size : Nat) : (W.alloc (.cells #[] e)).ownsRow W.heap.size e size (.slice (some ⟨W.heap.size, 0, none⟩) 0 0) 0 [] :=
  ⟨by simp, Or.inr ⟨W.heap.size, 0, #[], rfl, Nat.le_refl _, heap_alloc_new W _, Nat.le_refl _, by unfold maxLen; omega, by simp, by simp⟩⟩
set_option maxRecDepth 100000 in
theorem cloneU_walk (ad : Option Addr) (m c : Nat) (news : List Value) (w : World) (hnil : ad = none → c = 0) (hmc : m ≤ c) (hl : news.length = m * 1) (hR : RSl w ad news) (h1 : ∀ u ∈ news, u.oneCell' = true) (hm : m ≤ 1000000) :
    Calls Tryd.prog 36 #[.slice ad m c] w (ClonePost w 30 1 m news) := by
  obtain ⟨i0, hi, hz0, hz1, hz2⟩ := info_parts infoF0
  cases ad with
  | none =>
    obtain rfl := hnil rfl
    obtain rfl : m = 0 := by omega
    obtain rfl : news = [] := List.eq_nil_of_length_eq_zero (by omega)
    have q : ∀ W, (binOp .eql 35 (.slice none 0 0) (.slice none 0 0)).run Tryd.prog W = .ok (.bool true) W := fun W => _root_.Go.run_eql_slice_nil W _ _ none 0 0 und0
    go_enter Tryd.func36, Tryd.ntmps36
    go_wp2
    go_ret
    exact ⟨none, 0, rfl, World.ownsRow_nil _ _ _ _, Ext.refl w⟩
  | some p =>
    have HR := Lib.hid hR
    have H1 := Lib.hid h1
    clear hR h1 hnil
    have q : ∀ W, (binOp .eql 35 (.slice (some p) m c) (.slice none 0 0)).run Tryd.prog W = .ok (.bool false) W := fun W => _root_.Go.run_eql_slice_nil W _ _ (some p) m c und0
    go_enter Tryd.func36, Tryd.ntmps36
    go_wp2_with (at_builtin; refine wpList_append_src rfl _ _ 35 rfl w.heap.size 30 i0 (.int .u64 0) 1 8 und0 hi hz0 hz1 hz2 rfl (by decide) _ 0 [] rfl (owns_zero w _ _) (some p) m c news rfl (fun h => by cases h) hmc hl (HR.out.ext ((Ext.refl w).alloc_ _)) H1.out (by unfold maxLen; omega) (by omega) (by simp) ?_)
    intro a2 c2 w2 hown hgrow hat
    have hx : Ext w w2 := Below.grown ((Ext.refl w).alloc_ _) hgrow (by simp) (fun g hg => Nat.le_of_eq (Option.some.inj (show some w.heap.size = some g from hg)))
    have HX := Lib.hid hx
    have HO := Lib.hid hown
    clear hown hgrow hat hx
    go_wp2
    go_ret
    exact ⟨a2, c2, rfl, HO.out, HX.out⟩
set_option maxRecDepth 100000 in
theorem cloneI_walk (ad : Option Addr) (m c : Nat) (news : List Value) (w : World) (hnil : ad = none → c = 0) (hmc : m ≤ c) (hl : news.length = m * 2) (hR : RSl w ad news) (h1 : ∀ u ∈ news, u.oneCell' = true) (hm : m ≤ 1000000) :
    Calls Tryd.prog 37 #[.slice ad m c] w (ClonePost w 72 2 m news) := by
  obtain ⟨i0, hi, hz0, hz1, hz2⟩ := info_parts infoM
  cases ad with
  | none =>
    obtain rfl := hnil rfl
    obtain rfl : m = 0 := by omega
    obtain rfl : news = [] := List.eq_nil_of_length_eq_zero (by omega)
    have q : ∀ W, (binOp .eql 36 (.slice none 0 0) (.slice none 0 0)).run Tryd.prog W = .ok (.bool true) W := fun W => _root_.Go.run_eql_slice_nil W _ _ none 0 0 undM
    go_enter Tryd.func37, Tryd.ntmps37
    go_wp2
    go_ret
    exact ⟨none, 0, rfl, World.ownsRow_nil _ _ _ _, Ext.refl w⟩
  | some p =>
    have HR := Lib.hid hR
    have H1 := Lib.hid h1
    clear hR h1 hnil
    have q : ∀ W, (binOp .eql 36 (.slice (some p) m c) (.slice none 0 0)).run Tryd.prog W = .ok (.bool false) W := fun W => _root_.Go.run_eql_slice_nil W _ _ (some p) m c undM
    go_enter Tryd.func37, Tryd.ntmps37
    go_wp2_with (at_builtin; refine wpList_append_src rfl _ _ 36 rfl w.heap.size 72 i0 (.agg #[.int .u64 0, .int .i64 0]) 2 16 undM hi hz0 hz1 hz2 rfl (by decide) _ 0 [] rfl (owns_zero w _ _) (some p) m c news rfl (fun h => by cases h) hmc hl (HR.out.ext ((Ext.refl w).alloc_ _)) H1.out (by unfold maxLen; omega) (by omega) (by simp) ?_)
    intro a2 c2 w2 hown hgrow hat
    have hx : Ext w w2 := Below.grown ((Ext.refl w).alloc_ _) hgrow (by simp) (fun g hg => Nat.le_of_eq (Option.some.inj (show some w.heap.size = some g from hg)))
    have HX := Lib.hid hx
    have HO := Lib.hid hown
    clear hown hgrow hat hx
    go_wp2
    go_ret
    exact ⟨a2, c2, rfl, HO.out, HX.out⟩
set_option maxRecDepth 100000 in
theorem cloneB_walk (ad : Option Addr) (m c : Nat) (news : List Value) (w : World) (hnil : ad = none → c = 0) (hmc : m ≤ c) (hl : news.length = m * 1) (hR : RSl w ad news) (h1 : ∀ u ∈ news, u.oneCell' = true) (hm : m ≤ 1000000) :
    Calls Tryd.prog 38 #[.slice ad m c] w (ClonePost w 4 1 m news) := by
  obtain ⟨i0, hi, hz0, hz1, hz2⟩ := info_parts infoF4
  cases ad with
  | none =>
    obtain rfl := hnil rfl
    obtain rfl : m = 0 := by omega
    obtain rfl : news = [] := List.eq_nil_of_length_eq_zero (by omega)
    have q : ∀ W, (binOp .eql 37 (.slice none 0 0) (.slice none 0 0)).run Tryd.prog W = .ok (.bool true) W := fun W => _root_.Go.run_eql_slice_nil W _ _ none 0 0 und4
    go_enter Tryd.func38, Tryd.ntmps38
    go_wp2
    go_ret
    exact ⟨none, 0, rfl, World.ownsRow_nil _ _ _ _, Ext.refl w⟩
  | some p =>
    have HR := Lib.hid hR
    have H1 := Lib.hid h1
    clear hR h1 hnil
    have q : ∀ W, (binOp .eql 37 (.slice (some p) m c) (.slice none 0 0)).run Tryd.prog W = .ok (.bool false) W := fun W => _root_.Go.run_eql_slice_nil W _ _ (some p) m c und4
    go_enter Tryd.func38, Tryd.ntmps38
    go_wp2_with (at_builtin; refine wpList_append_src rfl _ _ 37 rfl w.heap.size 4 i0 (.bool false) 1 1 und4 hi hz0 hz1 hz2 rfl (by decide) _ 0 [] rfl (owns_zero w _ _) (some p) m c news rfl (fun h => by cases h) hmc hl (HR.out.ext ((Ext.refl w).alloc_ _)) H1.out (by unfold maxLen; omega) (by omega) (by simp) ?_)
    intro a2 c2 w2 hown hgrow hat
    have hx : Ext w w2 := Below.grown ((Ext.refl w).alloc_ _) hgrow (by simp) (fun g hg => Nat.le_of_eq (Option.some.inj (show some w.heap.size = some g from hg)))
    have HX := Lib.hid hx
    have HO := Lib.hid hown
    clear hown hgrow hat hx
    go_wp2
    go_ret
    exact ⟨a2, c2, rfl, HO.out, HX.out⟩
end Go.Proofs.YtecbbbaafcoliaaDoor
/- Stores into an own memory: a number; an element of a row; a whole row (the builtin copy). -/
namespace Go.Proofs.YtecbbbaafcoliaaDoor
open Go.RowKit
set_option linter.unusedVariables false
set_option linter.unusedSimpArgs false

theorem OM.setNum {w : World} {B b : Nat} {n1 n2 : List (Nat × Int)} {off : Nat} {v : Int} {L : List Fld} (h : OM w B b (n1 ++ (off, v) :: n2) L) (v' : Int) :
    OM (w.setCell ⟨b, off, none⟩ (.int .i64 v')) B b (n1 ++ (off, v') :: n2) L := by
  have hoffs := h.offs
  have hf : ∀ f ∈ L, off ≠ f.off := fun f hf e => by
    rw [List.nodup_append] at hoffs
    exact hoffs.2.2 off (List.mem_map_of_mem (f := (·.1)) (a := (off, v)) (by simp)) f.off (List.mem_map_of_mem hf) e
  have hn : ∀ p ∈ n1 ++ n2, off ≠ p.1 := fun p hp e => by
    have h1 := (List.nodup_append.1 hoffs).1
    simp only [List.map_append, List.map_cons] at h1
    rw [List.nodup_append, List.nodup_cons] at h1
    rcases List.mem_append.1 hp with q | q
    · exact h1.2.2 p.1 (List.mem_map_of_mem q) off (by simp) e.symm
    · exact h1.2.1.1 (by rw [e]; exact List.mem_map_of_mem q)
  refine ⟨h.hb, blk_set h.blk, fun p hp => ?_, fun f hfm => ⟨?_, own_set (h.fld f hfm).2.1 (h.fld f hfm).2.2 _, (h.fld f hfm).2.2⟩, h.apart, by simpa using hoffs⟩
  · rcases List.mem_append.1 hp with q | q
    · rw [cell_set_off (hn p (List.mem_append_left _ q))]; exact h.num p (List.mem_append_left _ q)
    · rcases List.mem_cons.1 q with rfl | q
      · exact cell_set_same (h.num (off, v) (by simp))
      · rw [cell_set_off (hn p (List.mem_append_right _ q))]; exact h.num p (by simp [q])
  · rw [cell_set_off (hf f hfm)]; exact (h.fld f hfm).1
theorem own_but {w w' : World} {B : Nat} {e : TypeId} {size : Nat} {v : Value} {n : Nat} {xs : List Value} (h : w.ownsRow B e size v n xs) {g : Nat} (hg : v.ownBlock ≠ some g) (hb : But g w w') : w'.ownsRow B e size v n xs := by
  obtain ⟨h1, h2⟩ := h
  refine ⟨h1, ?_⟩
  rcases h2 with h2 | ⟨k, cap, cur, hv, hk, hh, r⟩
  · exact Or.inl h2
  · refine Or.inr ⟨k, cap, cur, hv, hk, ?_, r⟩
    rw [hb.block k (fun e => hg (by rw [hv, ← e]; rfl))]
    exact hh
/-- ANOTHER ROW IS LAID WHERE ONE WAS. -/
theorem OM.row {w w' : World} {B b : Nat} {nums : List (Nat × Int)} {L1 L2 : List Fld} {f : Fld} (h : OM w B b nums (L1 ++ f :: L2)) {g : Nat} (hg : f.val.ownBlock = some g) (hb : But g w w') {cs' : List Value} (ho : w'.ownsRow B f.e f.size f.val f.n cs') :
    OM w' B b nums (L1 ++ ⟨f.off, f.e, f.size, f.a, f.n, f.c, cs'⟩ :: L2) := by
  have hap := h.apart
  have hother : ∀ k ∈ L1 ++ L2, k.val.ownBlock ≠ some g := fun k hk e => by
    rw [List.pairwise_append, List.pairwise_cons] at hap
    rcases List.mem_append.1 hk with q | q
    · exact hap.2.2 k q f (by simp) g e hg
    · exact hap.2.1.1 k q g hg e
  have hgb : g ≠ b := fun e => (h.fld f (by simp)).2.2 (by rw [hg, e])
  have hbk : w'.heap[b]? = w.heap[b]? := hb.block b (Ne.symm hgb)
  have hcell : ∀ j v, w.cell? ⟨b, j, none⟩ = some v → w'.cell? ⟨b, j, none⟩ = some v := fun j v hc => by
    rw [World.cell?_of_block (w := w) (a := ⟨b, j, none⟩) hbk]; exact hc
  have hgood : ∀ k ∈ L1 ++ L2, w'.cell? ⟨b, k.off, none⟩ = some k.val ∧ w'.ownsRow B k.e k.size k.val k.n k.cs ∧ k.val.ownBlock ≠ some b := fun k hk => by
    have h1 : k ∈ L1 ++ f :: L2 := by rcases List.mem_append.1 hk with q | q <;> simp [q]
    exact ⟨hcell _ _ (h.fld k h1).1, own_but (h.fld k h1).2.1 (hother k hk) hb, (h.fld k h1).2.2⟩
  refine ⟨h.hb, by rw [hbk]; exact h.blk, fun p hp => hcell _ _ (h.num p hp), fun k hk => ?_, ?_, by simpa using h.offs⟩
  · rcases List.mem_append.1 hk with q | q
    · exact hgood k (List.mem_append_left _ q)
    · rcases List.mem_cons.1 q with rfl | q
      · exact ⟨hcell _ _ (h.fld f (by simp)).1, ho, (h.fld f (by simp)).2.2⟩
      · exact hgood k (List.mem_append_right _ q)
  · rw [List.pairwise_append, List.pairwise_cons] at hap ⊢
    obtain ⟨p1, ⟨p2, p3⟩, p4⟩ := hap
    refine ⟨p1, ⟨p2, p3⟩, fun k hk k' hk' => ?_⟩
    rcases List.mem_cons.1 hk' with rfl | hk'
    · exact p4 k hk f (by simp)
    · exact p4 k hk k' (by simp [hk'])
theorem Keep.sub {L L' : Nat → Prop} {w w' : World} (h : Keep L w w') (hl : ∀ k, L k → L' k) : Keep L' w w' := ⟨h.os, h.tape, h.output, h.size, fun k hk hn => h.block k hk fun e => hn (hl k e)⟩
theorem but_set (w : World) (p : Addr) (u : Value) : But p.block w (w.setCell p u) :=
  ⟨rfl, rfl, rfl, by simp [World.setCell], fun k hk => heap_setCell_other w p k u hk⟩
theorem own_setAt {w : World} {B : Nat} {e : TypeId} {v : Value} {n : Nat} {xs : List Value} (h : w.ownsRow B e 1 v n xs) {g : Nat} (hg : v.ownBlock = some g) (j : Nat) (hj : j < n) (u : Value) :
    (w.setCell ⟨g, j, none⟩ u).ownsRow B e 1 v n (xs.set j u) := by
  obtain ⟨h1, h2⟩ := h
  refine ⟨by simpa using h1, ?_⟩
  rcases h2 with ⟨h2, _⟩ | ⟨k, cap, cur, hv, hk, hh, q1, q2, q3, q4⟩
  · rw [h2] at hg; cases hg
  · obtain rfl : k = g := by rw [hv] at hg; exact Option.some.inj hg
    refine Or.inr ⟨k, cap, cur.setIfInBounds j u, hv, hk, heap_setCell_same w k j cur e u hh, q1, q2, by simpa using q3, ?_⟩
    rw [Array.toList_setIfInBounds, ← q4]
    exact List.take_set
/-- Where a row lies that is not empty. -/
theorem own_block {w : World} {B : Nat} {e : TypeId} {size : Nat} {a : Option Addr} {c : Nat} {n : Nat} {xs : List Value} (h : w.ownsRow B e size (.slice a n c) n xs) (hn : 0 < n) :
    ∃ g, a = some ⟨g, 0, none⟩ ∧ B ≤ g ∧ g < w.heap.size ∧ (∀ j, w.frozen? ⟨g, j, none⟩ = false) ∧ n ≤ c ∧ ∃ cur : List Value, w.heap[g]? = some (.cells cur.toArray e (0, 0)) ∧ cur.length = c * size ∧ cur.take (n * size) = xs := by
  rcases h.2 with ⟨_, h2⟩ | ⟨g, cap, cur, h1, hg, hh, q1, q2, q3, q4⟩
  · omega
  · injection h1 with h1 _ h3
    subst h1 h3
    exact ⟨g, rfl, hg, lt_of_block hh, fun j => by simp [World.frozen?, hh], q1, cur.toList, by simpa using hh, by simpa using q3, q4⟩

/-- The builtin copy into a row of cells: nothing else turns. -/
theorem wpList_copy_but {P : Program} {w : World} {ops : Array Oper} {rest : List Oper} {o : Oper} {a : Act} {Q : Exit → Act → World → Prop} (hgd : o.guard = none) (d s : Operand) (dT sT : TypeId)
    (ho : o.op = .call { callee := .builtin .copy, args := #[d, s], argTypes := #[dT, sT] }) (elem : TypeId) (hu : P.underlying dT = some (.slice elem)) (hsz : (P.info? elem).map (·.size) = some 1)
    (dp sp : Option Addr) (dLen dCap sLen sCap : Nat) (hd : a.eval d = .slice dp dLen dCap) (hs : a.eval s = .slice sp sLen sCap)
    (g off : Nat) (cur : List Value) (t : TypeId) (hg : w.heap[g]? = some (.cells cur.toArray t (0, 0))) (cs : List Value) (hn : cs.length = Nat.min sLen dLen)
    (hpos : 0 < cs.length → dp = some ⟨g, off, none⟩ ∧ ∃ ad, sp = some ad ∧ ∀ j v, cs[j]? = some v → w.cell? (ad.add j) = some v)
    (hfit : off + cs.length ≤ cur.length) (h1 : ∀ v ∈ cs, v.oneCell' = true)
    (h : ∀ w', Hid (w'.heap[g]? = some (.cells (splice cur off cs).toArray t (0, 0))) → But g w w' → wpList P ops Q rest (a.put o.dst (goInt cs.length)) w') :
    wpList P ops Q (o :: rest) a w := by
  by_cases h0 : cs.length = 0
  · obtain rfl : cs = [] := List.eq_nil_of_length_eq_zero h0
    refine wpList_copy_nothing hgd d s dT sT ho elem hu hsz dp sp dLen dCap sLen sCap hd hs (by simpa using hn.symm) ?_
    exact h w (show _ = _ by simpa [splice] using hg) ⟨rfl, rfl, rfl, rfl, fun _ _ => rfl⟩
  · obtain ⟨rfl, ad, rfl, hsrc⟩ := hpos (by omega)
    refine wpList_copy_own hgd d s dT sT ho elem hu hsz g off dLen dCap ad sLen sCap hd hs cur.toArray t hg cs hn hsrc (by simpa using hfit) h1 ?_
    exact h _ (show _ = _ by simpa [splice] using setRow_heap w g _ _ t _ hg) ⟨rfl, rfl, rfl, by simp [World.setRow], fun k hk => setRow_other w g k _ hk⟩
theorem run_copy_but {P : Program} {w : World} (dT sT ty : TypeId) (elem : TypeId) (hu : P.underlying dT = some (.slice elem)) (hsz : (P.info? elem).map (·.size) = some 1)
    (dp sp : Option Addr) (dLen dCap sLen sCap : Nat) (g off : Nat) (cur : List Value) (t : TypeId) (hg : w.heap[g]? = some (.cells cur.toArray t (0, 0))) (cs : List Value) (hn : cs.length = Nat.min sLen dLen)
    (hpos : 0 < cs.length → dp = some ⟨g, off, none⟩ ∧ ∃ ad, sp = some ad ∧ ∀ j v, cs[j]? = some v → w.cell? (ad.add j) = some v)
    (hfit : off + cs.length ≤ cur.length) (h1 : ∀ v ∈ cs, v.oneCell' = true) :
    ∃ w', (Builtin.copy_ #[dT, sT] ty #[.slice dp dLen dCap, .slice sp sLen sCap]).run P w = .ok (goInt cs.length) w' ∧ w'.heap[g]? = some (.cells (splice cur off cs).toArray t (0, 0)) ∧ But g w w' := by
  by_cases h0 : cs.length = 0
  · obtain rfl : cs = [] := List.eq_nil_of_length_eq_zero h0
    exact ⟨w, run_copy_none (P := P) w dT sT ty elem dp sp dLen dCap sLen sCap hu hsz (by simpa using hn.symm), by simpa [splice] using hg, rfl, rfl, rfl, rfl, fun _ _ => rfl⟩
  · obtain ⟨rfl, ad, rfl, hsrc⟩ := hpos (by omega)
    exact ⟨_, run_copy_row (P := P) w dT sT ty elem g off dLen dCap ad sLen sCap cur.toArray t cs hu hsz hg hn hsrc (by simpa using hfit) h1, by simpa [splice] using setRow_heap w g _ _ t _ hg, rfl, rfl, rfl, by simp [World.setRow], fun k hk => setRow_other w g k _ hk⟩
theorem own_splice {w w' : World} {B : Nat} {e : TypeId} {a : Option Addr} {c n : Nat} {xs : List Value} (h : w.ownsRow B e 1 (.slice a n c) n xs) {g : Nat} (ha : a = some ⟨g, 0, none⟩) {cur : List Value} (hg : w.heap[g]? = some (.cells cur.toArray e (0, 0)))
    (off : Nat) (cs : List Value) (hf : off + cs.length ≤ n) (hw : w'.heap[g]? = some (.cells (splice cur off cs).toArray e (0, 0))) : w'.ownsRow B e 1 (.slice a n c) n (splice xs off cs) := by
  obtain ⟨h1, h2⟩ := h
  rcases h2 with ⟨h2, _⟩ | ⟨k, cap, cur', hv, hk, hh, q1, q2, q3, q4⟩
  · rw [ha] at h2; cases h2
  · injection hv with hv1 _ hv3
    rw [ha] at hv1
    injection hv1 with hv1
    injection hv1 with hv1
    subst hv1 hv3
    rw [hg] at hh
    injection hh with hh
    injection hh with hh
    subst hh
    simp only [Nat.mul_one] at q3 q4 h1 ⊢
    have hlen : cur.length = c := by simpa using q3
    refine ⟨?_, Or.inr ⟨g, c, (splice cur off cs).toArray, by rw [ha], hk, hw, q1, q2, ?_, ?_⟩⟩
    · rw [length_splice _ _ _ (by omega)]; omega
    · simp [length_splice _ _ _ (show off + cs.length ≤ cur.length by omega), hlen]
    · simp only [Nat.mul_one] at *
      subst q4
      simp only [splice]
      rw [List.take_append, List.take_append, List.take_take, List.drop_take, List.length_take]
      rw [Nat.min_eq_right (show off ≤ n by omega), Nat.min_eq_left (show off ≤ cur.length by omega), List.take_take, Nat.min_eq_left (show off ≤ n by omega), List.take_of_length_le (show cs.length ≤ n - off by omega)]
      congr 3
      omega

/-- A ROW MORE: stored where the memory has a cell that was not yet named. -/
theorem OM.add {w : World} {B b : Nat} {nums : List (Nat × Int)} {L : List Fld} (h : OM w B b nums L) (f : Fld) (hc : ∃ x, w.cell? ⟨b, f.off, none⟩ = some x) (ho : w.ownsRow B f.e f.size f.val f.n f.cs) (hb : f.val.ownBlock ≠ some b)
    (hap : ∀ g ∈ L, ∀ k, g.val.ownBlock = some k → f.val.ownBlock ≠ some k) (hoff : f.off ∉ nums.map (·.1) ++ L.map (·.off)) : OM (w.setCell ⟨b, f.off, none⟩ f.val) B b nums (L ++ [f]) := by
  obtain ⟨x, hx⟩ := hc
  have hn : ∀ p ∈ nums, f.off ≠ p.1 := fun p hp e => hoff (List.mem_append_left _ (by rw [e]; exact List.mem_map_of_mem hp))
  have hf : ∀ g ∈ L, f.off ≠ g.off := fun g hg e => hoff (List.mem_append_right _ (by rw [e]; exact List.mem_map_of_mem hg))
  refine ⟨h.hb, blk_set h.blk, fun p hp => ?_, fun g hg => ?_, ?_, ?_⟩
  · rw [cell_set_off (hn p hp)]; exact h.num p hp
  · rcases List.mem_append.1 hg with q | q
    · exact ⟨by rw [cell_set_off (hf g q)]; exact (h.fld g q).1, own_set (h.fld g q).2.1 (h.fld g q).2.2 _, (h.fld g q).2.2⟩
    · obtain rfl := List.mem_singleton.1 q
      exact ⟨cell_set_same hx, own_set ho hb _, hb⟩
  · rw [List.pairwise_append]
    refine ⟨h.apart, List.pairwise_singleton _ _, fun g hg k hk q hq => ?_⟩
    obtain rfl := List.mem_singleton.1 hk
    exact hap g hg q hq
  · rw [List.map_append, ← List.append_assoc, List.nodup_append]
    refine ⟨h.offs, by simp, fun a ha c hc e => ?_⟩
    obtain rfl : c = f.off := by simpa using hc
    exact hoff (e ▸ ha)

theorem wcells_set (l : List Int) (j : Nat) (x : Int) : wcells (l.set j x) = (wcells l).set j (.int .u64 x) := by simp [wcells, List.map_set]
theorem bcells_set (l : List Bool) (j : Nat) (x : Bool) : bcells (l.set j x) = (bcells l).set j (.bool x) := by simp [bcells, List.map_set]

section
variable {w w' : World} {B b : Nat} {tI : TypeId} {M : Mem} {S : Sls}
/-- What a step on the memory's own cells may turn. -/
def OwnL (b : Nat) (S : Sls) (k : Nat) : Prop := k = b ∨ S.W.1 = some ⟨k, 0, none⟩ ∨ S.C.1 = some ⟨k, 0, none⟩
theorem OMem.fW (h : OMem w B b tI M S) : w.ownsRow B 30 1 (.slice S.W.1 M.W.length S.W.2) M.W.length (wcells M.W) := (h.fld ⟨3, 30, 1, S.W.1, M.W.length, S.W.2, wcells M.W⟩ (by simp [memFlds])).2.1
theorem OMem.fC (h : OMem w B b tI M S) : w.ownsRow B 4 1 (.slice S.C.1 M.cards.length S.C.2) M.cards.length (bcells M.cards) := (h.fld ⟨10, 4, 1, S.C.1, M.cards.length, S.C.2, bcells M.cards⟩ (by simp [memFlds])).2.1
theorem OMem.ownL (h : OMem w B b tI M S) {k : Nat} (hk : OwnL b S k) : B ≤ k ∧ k < w.heap.size := by
  rcases hk with rfl | hk | hk
  · exact ⟨h.hb, OM.lt h⟩
  · exact h.fW.lt k (by rw [hk]; rfl)
  · exact h.fC.lt k (by rw [hk]; rfl)
theorem OMem.setTop (h : OMem w B b tI M S) (v : Int) : OMem (w.setCell ⟨b, 5, none⟩ (.int .i64 v)) B b tI { M with top := v } S :=
  OM.setNum (n1 := [(0, M.half), (1, M.old), (2, M.card), (4, M.used)]) (n2 := [(6, M.oldTop)]) h v
theorem OMem.rowW (h : OMem w B b tI M S) {g : Nat} (hg : S.W.1 = some ⟨g, 0, none⟩) (hb : But g w w') (l : List Int) (hl : l.length = M.W.length) (ho : w'.ownsRow B 30 1 (.slice S.W.1 M.W.length S.W.2) M.W.length (wcells l)) : OMem w' B b tI { M with W := l } S := by
  have := OM.row (L1 := []) (f := ⟨3, 30, 1, S.W.1, M.W.length, S.W.2, wcells M.W⟩) h (g := g) (by simp [Fld.val, hg, Value.ownBlock]) hb ho
  unfold OMem memFlds
  simp only [hl]
  exact this
theorem OMem.setW (h : OMem w B b tI M S) {g : Nat} (hg : S.W.1 = some ⟨g, 0, none⟩) (j : Nat) (hj : j < M.W.length) (x : Int) : OMem (w.setCell ⟨g, j, none⟩ (.int .u64 x)) B b tI { M with W := M.W.set j x } S :=
  OMem.rowW h hg (but_set w ⟨g, j, none⟩ _) _ (by simp) (by rw [wcells_set]; exact own_setAt h.fW (by simp [hg, Value.ownBlock]) j hj _)
theorem OMem.rowC (h : OMem w B b tI M S) {g : Nat} (hg : S.C.1 = some ⟨g, 0, none⟩) (hb : But g w w') (l : List Bool) (hl : l.length = M.cards.length) (ho : w'.ownsRow B 4 1 (.slice S.C.1 M.cards.length S.C.2) M.cards.length (bcells l)) : OMem w' B b tI { M with cards := l } S := by
  have := OM.row (L1 := (memFlds tI M S).take 4) (L2 := []) (f := ⟨10, 4, 1, S.C.1, M.cards.length, S.C.2, bcells M.cards⟩) h (g := g) (by simp [Fld.val, hg, Value.ownBlock]) hb ho
  unfold OMem memFlds
  simp only [hl]
  exact this
theorem OMem.setC (h : OMem w B b tI M S) {g : Nat} (hg : S.C.1 = some ⟨g, 0, none⟩) (j : Nat) (hj : j < M.cards.length) (x : Bool) : OMem (w.setCell ⟨g, j, none⟩ (.bool x)) B b tI { M with cards := M.cards.set j x } S :=
  OMem.rowC h hg (but_set w ⟨g, j, none⟩ _) _ (by simp) (by rw [bcells_set]; exact own_setAt h.fC (by simp [hg, Value.ownBlock]) j hj _)
end
end Go.Proofs.YtecbbbaafcoliaaDoor
