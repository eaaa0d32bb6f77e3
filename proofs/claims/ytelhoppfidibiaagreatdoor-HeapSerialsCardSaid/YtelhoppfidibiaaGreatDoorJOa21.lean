/- An own memory: more is appended to one of its rows, and the field is stored anew. -/
import Derived.Test.YtelhoppfidibiaaGreatDoorJOa08
import Derived.Test.YtelhoppfidibiaaGreatDoorJOa20
import Derived.Deep.RegionHeld3
import Derived.Lib.LazyBuf
namespace Go.Proofs.YtelhoppfidibiaaGreatDoor
open Go.RowKit
set_option linter.unusedVariables false
set_option linter.unusedSimpArgs false

theorem OM.push {w w1 : World} {B b : Nat} {nums : List (Nat × Int)} {L1 L2 : List Fld} {f : Fld} (h : OM w B b nums (L1 ++ f :: L2)) (a' : Option Addr) (n' c' : Nat) (cs' : List Value)
    (hg : w.grownBy w1 f.val.ownBlock) (ho : w1.ownsRow B f.e f.size (.slice a' n' c') n' cs') (hnew : (Value.slice a' n' c').ownBlock = f.val.ownBlock ∨ (Value.slice a' n' c').ownBlock = some w.heap.size) :
    OM (w1.setCell ⟨b, f.off, none⟩ (.slice a' n' c')) B b nums (L1 ++ ⟨f.off, f.e, f.size, a', n', c', cs'⟩ :: L2) := by
  have hlt := h.lt
  have hap := h.apart
  have hfb := (h.fld f (by simp)).2.2
  have hother : ∀ g ∈ L1 ++ L2, ∀ k, g.val.ownBlock = some k → f.val.ownBlock ≠ some k := fun g hgm k hk e => by
    rw [List.pairwise_append, List.pairwise_cons] at hap
    rcases List.mem_append.1 hgm with q | q
    · exact hap.2.2 g q f (by simp) k hk e
    · exact hap.2.1.1 g q k e hk
  have hbk : w1.heap[b]? = w.heap[b]? := hg.block b hlt (fun e => hfb e.symm)
  have hnb : (Value.slice a' n' c').ownBlock ≠ some b := by
    rcases hnew with e | e
    · rw [e]; exact hfb
    · rw [e]; simp; omega
  have hold : ∀ g ∈ L1 ++ L2, ∀ k, g.val.ownBlock = some k → (Value.slice a' n' c').ownBlock ≠ some k := fun g hgm k hk => by
    have h1 : g ∈ L1 ++ f :: L2 := by rcases List.mem_append.1 hgm with q | q <;> simp [q]
    have := ((h.fld g h1).2.1.lt k hk).2
    rcases hnew with e | e
    · rw [e]; exact hother g hgm k hk
    · rw [e]; simp; omega
  have hrow : ∀ g ∈ L1 ++ L2, w1.ownsRow B g.e g.size g.val g.n g.cs := fun g hgm => by
    have h1 : g ∈ L1 ++ f :: L2 := by rcases List.mem_append.1 hgm with q | q <;> simp [q]
    refine (h.fld g h1).2.1.kept hg ?_
    rcases hv : g.val.ownBlock with _ | k
    · exact Or.inl rfl
    · exact Or.inr fun e => hother g hgm k hv e.symm
  have hoffs := h.offs
  have hfoff : ∀ p ∈ nums, p.1 ≠ f.off := fun p hp e => by
    rw [List.nodup_append] at hoffs
    exact hoffs.2.2 p.1 (List.mem_map_of_mem hp) f.off (List.mem_map_of_mem (by simp)) e
  have hgoff : ∀ g ∈ L1 ++ L2, g.off ≠ f.off := fun g hgm e => by
    have := (List.nodup_append.1 hoffs).2.1
    simp only [List.map_append, List.map_cons] at this
    rw [List.nodup_append, List.nodup_cons] at this
    rcases List.mem_append.1 hgm with q | q
    · exact this.2.2 g.off (List.mem_map_of_mem q) f.off (by simp) e
    · exact this.2.1.1 (by rw [← e]; exact List.mem_map_of_mem q)
  have hcell : ∀ j v, w.cell? ⟨b, j, none⟩ = some v → w1.cell? ⟨b, j, none⟩ = some v := fun j v hc => by
    rw [World.cell?_of_block (w := w) (a := ⟨b, j, none⟩) hbk]; exact hc
  have hblk : ∃ cur t, w1.heap[b]? = some (.cells cur t (0, 0)) := by rw [hbk]; exact h.blk
  have hgood : ∀ g ∈ L1 ++ L2, (w1.setCell ⟨b, f.off, none⟩ (.slice a' n' c')).cell? ⟨b, g.off, none⟩ = some g.val ∧ (w1.setCell ⟨b, f.off, none⟩ (.slice a' n' c')).ownsRow B g.e g.size g.val g.n g.cs ∧ g.val.ownBlock ≠ some b := fun g hgm => by
    have h1 : g ∈ L1 ++ f :: L2 := by rcases List.mem_append.1 hgm with q | q <;> simp [q]
    refine ⟨?_, own_set (hrow g hgm) (h.fld g h1).2.2 _, (h.fld g h1).2.2⟩
    rw [cell_set_off (hgoff g hgm).symm]; exact hcell _ _ (h.fld g h1).1
  refine ⟨h.hb, blk_set hblk, fun p hp => ?_, fun g hgm => ?_, ?_, ?_⟩
  · rw [cell_set_off (hfoff p hp).symm]; exact hcell _ _ (h.num p hp)
  · rcases List.mem_append.1 hgm with q | q
    · exact hgood g (List.mem_append_left _ q)
    · rcases List.mem_cons.1 q with rfl | q
      · exact ⟨cell_set_same (hcell _ _ (h.fld f (by simp)).1), own_set ho hnb _, hnb⟩
      · exact hgood g (List.mem_append_right _ q)
  · rw [List.pairwise_append, List.pairwise_cons] at hap ⊢
    obtain ⟨p1, ⟨p2, p3⟩, p4⟩ := hap
    refine ⟨p1, ⟨fun g hgm k hk e => ?_, p3⟩, fun g hg1 g' hg' k hk => ?_⟩
    · exact hold g (by simp [hgm]) k e hk
    · rcases List.mem_cons.1 hg' with rfl | hg'
      · exact hold g (by simp [hg1]) k hk
      · exact p4 g hg1 g' (by simp [hg']) k hk
  · simpa using hoffs
structure Near (M : Mem) : Prop where
  W : M.W.length ≤ 1000
  R : M.roots.length ≤ 100
  K : M.weak.length ≤ 100
  I : M.ids.length ≤ 100
  C : M.cards.length ≤ 1000
theorem Near.few {M : Mem} (h : Near M) : Few M := by
  obtain ⟨h1, h2, h3, h4, h5⟩ := h
  exact ⟨by omega, by omega, by omega, by omega, by omega⟩
theorem infoM : (Tryz.prog.info? 140).map (fun i => (i.zero, i.size, i.bytes)) = some (some (.agg #[.int .u64 0, .int .i64 0]), 2, 16) := by kernel_rfl
theorem undM : Tryz.prog.underlying 80 = some (.slice 140) := by kernel_rfl
def ClonePost (w : World) (e : TypeId) (size : Nat) (m : Nat) (news : List Value) (en : Ending) (w' : World) : Prop :=
  ∃ a c, en = .returned (.slice a m c) ∧ w'.ownsRow w.heap.size e size (.slice a m c) m news ∧ Ext w w'
theorem owns_zero (W : World) (e : TypeId) (size : Nat) : (W.alloc (.cells #[] e)).ownsRow W.heap.size e size (.slice (some ⟨W.heap.size, 0, none⟩) 0 0) 0 [] :=
  ⟨by simp, Or.inr ⟨W.heap.size, 0, #[], rfl, Nat.le_refl _, heap_alloc_new W _, Nat.le_refl _, by unfold maxLen; omega, by simp, by simp⟩⟩
set_option maxRecDepth 100000 in
theorem cloneU_walk (ad : Option Addr) (m c : Nat) (news : List Value) (w : World) (hnil : ad = none → c = 0) (hmc : m ≤ c) (hl : news.length = m * 1) (hR : RSl w ad news) (h1 : ∀ u ∈ news, u.oneCell' = true) (hm : m ≤ 1000000) :
    Calls Tryz.prog 105 #[.slice ad m c] w (ClonePost w 78 1 m news) := by
  obtain ⟨i0, hi, hz0, hz1, hz2⟩ := info_parts infoF0
  cases ad with
  | none =>
    obtain rfl := hnil rfl
    obtain rfl : m = 0 := by omega
    obtain rfl : news = [] := List.eq_nil_of_length_eq_zero (by omega)
    have q : ∀ W, (binOp .eql 76 (.slice none 0 0) (.slice none 0 0)).run Tryz.prog W = .ok (.bool true) W := fun W => _root_.Go.run_eql_slice_nil W _ _ none 0 0 und0
    go_enter Tryz.func105, Tryz.ntmps105
    go_wp2
    go_ret
    exact ⟨none, 0, rfl, World.ownsRow_nil _ _ _ _, Ext.refl w⟩
  | some p =>
    have HR := Lib.hid hR
    have H1 := Lib.hid h1
    clear hR h1 hnil
    have q : ∀ W, (binOp .eql 76 (.slice (some p) m c) (.slice none 0 0)).run Tryz.prog W = .ok (.bool false) W := fun W => _root_.Go.run_eql_slice_nil W _ _ (some p) m c und0
    go_enter Tryz.func105, Tryz.ntmps105
    go_wp2_with (at_builtin; refine wpList_append_src rfl _ _ 76 rfl w.heap.size 78 i0 (.int .u64 0) 1 8 und0 hi hz0 hz1 hz2 rfl (by decide) _ 0 [] rfl (owns_zero w _ _) (some p) m c news rfl (fun h => by cases h) hmc hl (HR.out.ext ((Ext.refl w).alloc_ _)) H1.out (by unfold maxLen; omega) (by omega) (by simp) ?_)
    intro a2 c2 w2 hown hgrow hat
    have hx : Ext w w2 := Below.grown ((Ext.refl w).alloc_ _) hgrow (by simp) (fun g hg => Nat.le_of_eq (Option.some.inj (show some w.heap.size = some g from hg)))
    have HX := Lib.hid hx
    have HO := Lib.hid hown
    clear hown hgrow hat hx
    go_wp2
    go_ret
    exact ⟨a2, c2, rfl, HO.out, HX.out⟩
set_option maxRecDepth 100000 in
theorem cloneI_walk (ad : Option Addr) (m c : Nat) (news : List Value) (w : World) (hnil : ad = none → c = 0) (hmc : m ≤ c) (hl : news.length = m * 2) (hR : RSl w ad news) (h1 : ∀ u ∈ news, u.oneCell' = true) (hm : m ≤ 1000000) :
    Calls Tryz.prog 126 #[.slice ad m c] w (ClonePost w 140 2 m news) := by
  obtain ⟨i0, hi, hz0, hz1, hz2⟩ := info_parts infoM
  cases ad with
  | none =>
    obtain rfl := hnil rfl
    obtain rfl : m = 0 := by omega
    obtain rfl : news = [] := List.eq_nil_of_length_eq_zero (by omega)
    have q : ∀ W, (binOp .eql 80 (.slice none 0 0) (.slice none 0 0)).run Tryz.prog W = .ok (.bool true) W := fun W => _root_.Go.run_eql_slice_nil W _ _ none 0 0 undM
    go_enter Tryz.func126, Tryz.ntmps126
    go_wp2
    go_ret
    exact ⟨none, 0, rfl, World.ownsRow_nil _ _ _ _, Ext.refl w⟩
  | some p =>
    have HR := Lib.hid hR
    have H1 := Lib.hid h1
    clear hR h1 hnil
    have q : ∀ W, (binOp .eql 80 (.slice (some p) m c) (.slice none 0 0)).run Tryz.prog W = .ok (.bool false) W := fun W => _root_.Go.run_eql_slice_nil W _ _ (some p) m c undM
    go_enter Tryz.func126, Tryz.ntmps126
    go_wp2_with (at_builtin; refine wpList_append_src rfl _ _ 80 rfl w.heap.size 140 i0 (.agg #[.int .u64 0, .int .i64 0]) 2 16 undM hi hz0 hz1 hz2 rfl (by decide) _ 0 [] rfl (owns_zero w _ _) (some p) m c news rfl (fun h => by cases h) hmc hl (HR.out.ext ((Ext.refl w).alloc_ _)) H1.out (by unfold maxLen; omega) (by omega) (by simp) ?_)
    intro a2 c2 w2 hown hgrow hat
    have hx : Ext w w2 := Below.grown ((Ext.refl w).alloc_ _) hgrow (by simp) (fun g hg => Nat.le_of_eq (Option.some.inj (show some w.heap.size = some g from hg)))
    have HX := Lib.hid hx
    have HO := Lib.hid hown
    clear hown hgrow hat hx
    go_wp2
    go_ret
    exact ⟨a2, c2, rfl, HO.out, HX.out⟩
set_option maxRecDepth 100000 in
theorem cloneB_walk (ad : Option Addr) (m c : Nat) (news : List Value) (w : World) (hnil : ad = none → c = 0) (hmc : m ≤ c) (hl : news.length = m * 1) (hR : RSl w ad news) (h1 : ∀ u ∈ news, u.oneCell' = true) (hm : m ≤ 1000000) :
    Calls Tryz.prog 127 #[.slice ad m c] w (ClonePost w 4 1 m news) := by
  obtain ⟨i0, hi, hz0, hz1, hz2⟩ := info_parts infoF4
  cases ad with
  | none =>
    obtain rfl := hnil rfl
    obtain rfl : m = 0 := by omega
    obtain rfl : news = [] := List.eq_nil_of_length_eq_zero (by omega)
    have q : ∀ W, (binOp .eql 64 (.slice none 0 0) (.slice none 0 0)).run Tryz.prog W = .ok (.bool true) W := fun W => _root_.Go.run_eql_slice_nil W _ _ none 0 0 und4
    go_enter Tryz.func127, Tryz.ntmps127
    go_wp2
    go_ret
    exact ⟨none, 0, rfl, World.ownsRow_nil _ _ _ _, Ext.refl w⟩
  | some p =>
    have HR := Lib.hid hR
    have H1 := Lib.hid h1
    clear hR h1 hnil
    have q : ∀ W, (binOp .eql 64 (.slice (some p) m c) (.slice none 0 0)).run Tryz.prog W = .ok (.bool false) W := fun W => _root_.Go.run_eql_slice_nil W _ _ (some p) m c und4
    go_enter Tryz.func127, Tryz.ntmps127
    go_wp2_with (at_builtin; refine wpList_append_src rfl _ _ 64 rfl w.heap.size 4 i0 (.bool false) 1 1 und4 hi hz0 hz1 hz2 rfl (by decide) _ 0 [] rfl (owns_zero w _ _) (some p) m c news rfl (fun h => by cases h) hmc hl (HR.out.ext ((Ext.refl w).alloc_ _)) H1.out (by unfold maxLen; omega) (by omega) (by simp) ?_)
    intro a2 c2 w2 hown hgrow hat
    have hx : Ext w w2 := Below.grown ((Ext.refl w).alloc_ _) hgrow (by simp) (fun g hg => Nat.le_of_eq (Option.some.inj (show some w.heap.size = some g from hg)))
    have HX := Lib.hid hx
    have HO := Lib.hid hown
    clear hown hgrow hat hx
    go_wp2
    go_ret
    exact ⟨a2, c2, rfl, HO.out, HX.out⟩
end Go.Proofs.YtelhoppfidibiaaGreatDoor
