/- The law HeapSerials: the closed facts of its row, each by itself. -/
import Derived.Test.YtelhoppfidibiaaGreatDoorCards
import Derived.JoinedCond
import Derived.Lib.SmallJoins
import Derived.ProofKit
import Derived.Test.YtelhoppfidibiaaGreatDoorJOb07
import Derived.Test.YtelhoppfidibiaaGreatDoorJOb04
import Derived.Test.YtelhoppfidibiaaGreatDoorJOb03
import Derived.Test.YtelhoppfidibiaaGreatDoorJOa04
import Derived.Test.YtelhoppfidibiaaGreatDoorJOa36
import Derived.Test.YtelhoppfidibiaaGreatDoorJOb05
import Derived.Test.YtelhoppfidibiaaGreatDoorJOb01
import Derived.Deep.LoopGhost
import Derived.Deep.CutRange
import Derived.Test.YtelhoppfidibiaaGreatDoorJOa08
import Derived.Deep.Fields
import Derived.Deep.SlicePairs
import Derived.OpenShut
import Derived.Test.YtelhoppfidibiaaGreatDoorJOa43
import Derived.Test.YtelhoppfidibiaaGreatDoorJOa42
import Derived.Test.YtelhoppfidibiaaGreatDoorTie
namespace Go.Proofs.YtelhoppfidibiaaGreatDoor.HeapSerials
open Go.ChangeShapes Go.WideShapes Go.ChangeAt Go.RowKit

set_option maxHeartbeats 40000000 in
theorem closed : joinedFacts Tryz.prog 3 Tryz.f3 (OpenSpec.ofChange Rows.heapSerialsSpec).bare Rows.heapSerialsRow = true := by
  unfold joinedFacts
  repeat' (with_reducible refine Bool.and_eq_true_iff.2 ⟨?_, ?_⟩)
  all_goals as_aux_lemma => kernel_rfl
end Go.Proofs.YtelhoppfidibiaaGreatDoor.HeapSerials
/- Numbers, weak references, texts of a memory that holds an ideal one: plainly. -/
namespace Go.Proofs.YtelhoppfidibiaaGreatDoor
open Go.RowKit
set_option linter.unusedVariables false
set_option linter.unusedSimpArgs false

def Ideal.addId (I : Ideal) (u s : Int) : Ideal := { I with ids := I.ids ++ [(u, s)] }
/-- A word that points is its place's. -/
theorem pts_word {u : Int} {a : Nat} (h : ptsW u = (a : Int)) : u = (a : Int) * 4 + 4 := by
  obtain ⟨h1, h2, h3⟩ := pts_at h
  unfold kindW at h1
  unfold placeW at h3
  omega
section
variable {I : Ideal} {M : Mem} {D : Nat → Prop} {f : Nat → Nat} {ten nx : Int}
/-- What a root that points points to. -/
theorem Rep.root_at (h : Rep I M D f) {r a : Nat} (hr : r < I.roots.length) (hp : ptsW (I.roots.getD r 0) = (a : Int)) : D a ∧ ptsW (M.roots.getD r 0) = (f a : Int) ∧ Cor f D (I.roots.getD r 0) (M.roots.getD r 0) := by
  have hc := h.roots r hr
  rcases hc with ⟨q, -⟩ | ⟨b, c1, c2, c3, c4⟩
  · omega
  · obtain rfl : b = a := by omega
    exact ⟨c2, c3, Or.inr ⟨b, c1, c2, c3, c4⟩⟩
theorem ptr_pts {u : Int} {a : Nat} (h : ptsW u = (a : Int)) : ptrB u = true := by
  obtain ⟨h1, h2, -⟩ := pts_at h
  unfold ptrB; rw [h1]; simpa using h2
theorem Rep.head (h : Rep I M D f) {r a : Nat} (hr : r < I.roots.length) (hp : ptsW (I.roots.getD r 0) = (a : Int)) : headC M (r : Int) = 0 := by
  unfold headC
  rw [rootB_true.2 ⟨by omega, by rw [← h.lenR]; omega⟩, Int.toNat_natCast, ptr_pts (h.root_at hr hp).2.1]; rfl
/-- A number that an object has. -/
theorem Rep.ser_old (h : Rep I M D f) {r a i : Nat} (hr : r < I.roots.length) (hp : ptsW (I.roots.getD r 0) = (a : Int)) (hi : i < M.ids.length) (he : (M.ids.getD i (0, 0)).1 = M.roots.getD r 0) : ∃ u, (u, (M.ids.getD i (0, 0)).2) ∈ I.ids ∧ ptsW u = (a : Int) := by
  have hm : ((M.ids.getD i (0, 0)).1, (M.ids.getD i (0, 0)).2) ∈ M.ids := by
    rw [List.getD_eq_getElem?_getD, List.getElem?_eq_getElem hi]
    exact List.getElem_mem hi
  obtain ⟨u, h1, h2⟩ := h.ids2 _ _ hm
  refine ⟨u, h1, ?_⟩
  obtain ⟨r1, r2, -⟩ := h.root_at hr hp
  rw [he] at h2
  rcases h2 with ⟨q, e⟩ | ⟨b, c1, c2, c3, -⟩
  · rw [e] at r2; omega
  · rw [c1, h.morph.inj b a c2 r1 (by omega)]
/-- A number that is given. -/
theorem Rep.ser_new (h : Rep I M D f) {r a : Nat} (hr : r < I.roots.length) (hp : ptsW (I.roots.getD r 0) = (a : Int)) (hn : ∀ x ∈ M.ids, x.1 ≠ M.roots.getD r 0) (s : Int) :
    (∀ u s, (u, s) ∈ I.ids → ptsW u ≠ (a : Int)) ∧ Rep (I.addId (I.roots.getD r 0) s) { M with ids := M.ids ++ [(M.roots.getD r 0, s)] } D f := by
  obtain ⟨r1, r2, r3⟩ := h.root_at hr hp
  refine ⟨fun u t hu e => ?_, h.morph, h.dom, h.apart, h.obj, h.lenR, h.roots, h.lenK, h.weak, fun u t hu b hb hd => ?_, fun v t hv => ?_, h.wkV, fun u t hu => ?_, h.nodes⟩
  · obtain ⟨v, c, hv⟩ := h.ids1 u t hu a e r1
    rcases c with ⟨q, -⟩ | ⟨b, c1, c2, c3, -⟩
    · omega
    · obtain rfl : b = a := by omega
      exact hn _ hv ((pts_word c3).trans (pts_word r2).symm)
  · rcases List.mem_append.1 hu with q | q
    · obtain ⟨v, c, hv⟩ := h.ids1 u t q b hb hd
      exact ⟨v, c, List.mem_append.2 (Or.inl hv)⟩
    · simp only [List.mem_singleton, Prod.mk.injEq] at q
      obtain ⟨rfl, rfl⟩ := q
      exact ⟨_, r3, List.mem_append.2 (Or.inr (by simp))⟩
  · rcases List.mem_append.1 hv with q | q
    · obtain ⟨u, hu, c⟩ := h.ids2 v t q
      exact ⟨u, List.mem_append.2 (Or.inl hu), c⟩
    · simp only [List.mem_singleton, Prod.mk.injEq] at q
      obtain ⟨rfl, rfl⟩ := q
      exact ⟨_, List.mem_append.2 (Or.inr (by simp)), r3⟩
  · rcases List.mem_append.1 hu with q | q
    · exact h.idV u t q
    · simp only [List.mem_singleton, Prod.mk.injEq] at q
      obtain ⟨rfl, rfl⟩ := q
      show ptsW (I.roots.getD r 0) < (I.V.length : Int)
      have := h.dom a r1
      omega
end
end Go.Proofs.YtelhoppfidibiaaGreatDoor
/- The law HeapRings, plainly. -/
namespace Go.Proofs.YtelhoppfidibiaaGreatDoor
open Go.RowKit
set_option linter.unusedVariables false
set_option linter.unusedSimpArgs false

theorem hd9 : hKind (headW 9 0 0 1) = 9 ∧ hSize (headW 9 0 0 1) = 1 ∧ rawB 9 = false := by decide
/-- A ring that is built: so many nodes, each holds the one ahead of it. -/
structure RingI (I : Ideal) (i : Nat) : Prop where
  lenV : I.V.length = 2 * i
  P : I.P = (List.range i).map (2 * ·)
  hd : ∀ j, j < i → wat I.V (2 * j) = headW 9 0 0 1
  fld : ∀ j, 1 ≤ j → j < i → wat I.V (2 * j + 1) = addrW ((2 * (j - 1) : Nat) : Int)
  lenR : I.roots.length = 3
  r0 : I.roots.getD 0 0 = addrW ((0 : Nat) : Int)
  r1 : I.roots.getD 1 0 = addrW ((2 * (i - 1) : Nat) : Int)
theorem rgD_same {l : List Int} {r : Nat} {x : Int} (h : r < l.length) : (l.set r x).getD r 0 = x := by
  rw [List.getD_eq_getElem?_getD, List.getElem?_set_self h]; rfl
theorem rgD_ne {l : List Int} {r s : Nat} {x : Int} (h : r ≠ s) : (l.set r x).getD s 0 = l.getD s 0 := by
  rw [List.getD_eq_getElem?_getD, List.getD_eq_getElem?_getD, List.getElem?_set_ne h]
theorem RingI.at_ {I : Ideal} {i : Nat} (h : RingI I i) {j : Nat} (hj : j < i) : rawB (hKind (wat I.V (2 * j))) = false ∧ szW I.V (2 * j) = 1 := by
  rw [h.hd j hj, hd9.1]
  refine ⟨hd9.2.2, ?_⟩
  unfold szW
  rw [h.hd j hj, hd9.2.1]; rfl
/-- The memory of the law. -/
structure RgM (M : Mem) (old : Int) (i : Nat) : Prop where
  inv : HInv M 1
  old : M.old = old
  lenR : M.roots.length = 3
  ideal : ∃ I, Holds I M ∧ RingI I i
/-- What each walk asks. -/
structure RgA (M : Mem) : Prop where
  inv : HInv M 1
  lenR : M.roots.length = 3
theorem RgM.a {M : Mem} {old : Int} {i : Nat} (h : RgM M old i) : RgA M := ⟨h.inv, h.lenR⟩
/-- The end: the first one holds the last one; other roots hold nothing. -/
def rgE1 (M : Mem) : Mem := storeM M (fieldP M 0 0) (M.roots.getD 1 0)
def rgE3 (M : Mem) : Mem := rootM (rootM (rgE1 M) 1 2) 2 2
def rgE4 (M : Mem) (keep : Bool) : Mem := if keep then rgE3 M else rootM (rgE3 M) 0 2
structure RgEnd (M : Mem) (old : Int) (n : Nat) (keep : Bool) : Prop where
  c : fieldC M 0 0 1 = 0
  a1 : RgA (rgE1 M)
  a2 : RgA (rootM (rgE1 M) 1 2)
  a3 : RgA (rgE3 M)
  inv : HInv (rgE4 M keep) 1
  live : liveM (rgE4 M keep) = if keep then 2 * n else 0
  old : (rgE4 M keep).old = old
end Go.Proofs.YtelhoppfidibiaaGreatDoor
/- The law HeapSerials, plainly. -/
namespace Go.Proofs.YtelhoppfidibiaaGreatDoor
open Go.RowKit
set_option linter.unusedVariables false
set_option linter.unusedSimpArgs false

theorem hd8 : hKind (headW 8 0 0 1) = 8 ∧ hSize (headW 8 0 0 1) = 1 ∧ rawB 8 = false := by decide
theorem fill8 : List.replicate 1 (fillW 8) = [2] := by decide
/-- So many nodes; each root holds one of its own, from i on they hold nothing; which have numbers. -/
structure SrI (I : Ideal) (c n i : Nat) (node : Nat → Nat) (num : List Int) : Prop where
  lenV : I.V.length = 2 * c
  P : I.P = (List.range c).map (2 * ·)
  hd : ∀ j, j < c → wat I.V (2 * j) = headW 8 0 0 1
  lenR : I.roots.length = n
  lenN : num.length = n
  none : ∀ k, i ≤ k → k < n → I.roots.getD k 0 = 2
  r : ∀ k, k < i → I.roots.getD k 0 = addrW ((2 * node k : Nat) : Int) ∧ node k < c
  inj : ∀ k j, k < i → j < i → node k = node j → k = j
  no : ∀ k, k < i → num.getD k 0 = 0 → ∀ u s, (u, s) ∈ I.ids → ptsW u ≠ ((2 * node k : Nat) : Int)
  yes : ∀ k, k < i → num.getD k 0 ≠ 0 → ∃ u, (u, num.getD k 0) ∈ I.ids ∧ ptsW u = ((2 * node k : Nat) : Int)
  one : ∀ k, k < i → ∀ u s, (u, s) ∈ I.ids → ptsW u = ((2 * node k : Nat) : Int) → s = num.getD k 0
  idP : ∀ u s, (u, s) ∈ I.ids → ∃ j, j < c ∧ ptsW u = ((2 * j : Nat) : Int)
structure SrM (M : Mem) (c n i d : Nat) (num : List Int) (nx : Int) : Prop where
  inv : HInv M nx
  old : M.old = 500
  lenR : M.roots.length = n
  ids : M.ids.length ≤ d
  nb : nx ≤ (d : Int) + 1
  ideal : ∃ I node, Holds I M ∧ SrI I c n i node num
section
variable {M : Mem} {c n i d : Nat} {num : List Int} {nx : Int}
theorem sr_live (h : SrM M c n i d num nx) : liveM M ≤ 2 * c := by
  obtain ⟨I, node, ⟨D, f, hR⟩, hr⟩ := h.ideal
  have hg := (chk_zero h.inv.chk).1
  rw [hR.live hg]
  refine Nat.le_trans (hR.live_le hg) (Nat.le_of_eq ?_)
  rw [hr.P, List.map_map]
  have : ∀ n, n ≤ c → ((List.range n).map ((fun a => 1 + szW I.V a) ∘ fun x => 2 * x)).sum = 2 * n := by
    intro n
    induction n with
    | zero => intro _; rfl
    | succ n ih =>
      intro hn
      rw [List.range_succ, List.map_append, List.sum_append, ih (by omega)]
      simp only [List.map_cons, List.map_nil, List.sum_cons, List.sum_nil, Function.comp]
      have hz : szW I.V (2 * n) = 1 := by unfold szW; rw [hr.hd n (by omega), hd8.2.1]; rfl
      rw [hz]; omega
  exact this c (Nat.le_refl _)
theorem sr_moved (h : SrM M c n i d num nx) {N : Mem} (h1 : HInv N nx) (h2 : SameH M N) (h3 : ∀ I, Holds I M → Holds I N) : SrM N c n i d num nx := by
  obtain ⟨I, node, hH, hr⟩ := h.ideal
  exact ⟨h1, h2.old.trans h.old, h2.roots.trans h.lenR, Nat.le_trans h2.ids h.ids, h.nb, I, node, h3 I hH, hr⟩
theorem sr_major (h : SrM M c n i d num nx) (hc : c ≤ 200) : majorC M = 0 ∧ SrM (majorH M) c n i d num nx := by
  have hl := sr_live h
  have ho := h.old
  refine ⟨by unfold majorC; rw [if_pos (by omega)], ?_⟩
  obtain ⟨a, b⟩ := majorH_inv h.inv
  exact sr_moved h a b fun I hH => hH.major h.inv
theorem sr_minor (h : SrM M c n i d num nx) (hc : c ≤ 200) : minorC M = 0 ∧ SrM (minorH M 1) c n i d num nx := by
  refine ⟨by unfold minorC; split; rfl; exact (sr_major h hc).1, ?_⟩
  obtain ⟨a, b⟩ := minorH_inv (ten := 1) (by omega) h.inv
  exact sr_moved h a b fun I hH => hH.minor (by omega) h.inv
def srMk (M : Mem) (k : Nat) : Mem := rootM (objM M 1 8 1) k (addrW (objPl M 1 1))
/-- A new node in a root: one that held a node, or the next. -/
theorem sr_make (h : SrM M c n i d num nx) (hc : c ≤ 200) {k : Nat} (hk : k ≤ i) (hkn : k < n) : objC M 1 1 = 0 ∧ SrM (srMk M k) (c + 1) n (if k = i then i + 1 else i) d (num.set k 0) nx := by
  have hl := sr_live h
  have ho := h.old
  have h0 : objC M 1 1 = 0 := by
    refine Classical.byContradiction fun q => ?_
    have := obj_full (ten := 1) (by omega) h.inv q
    omega
  refine ⟨h0, ?_⟩
  obtain ⟨I, node, hH, hr⟩ := h.ideal
  obtain ⟨i1, s1⟩ := make_inv (ten := 1) (by omega) h.inv 8 1 (by omega) (by omega) h0 k
  have hm := hH.make (ten := 1) (by omega) h.inv 8 1 (by omega) (by omega) h0 k (by rw [hr.lenV]; omega)
  rw [fill8, hr.lenV] at hm
  have e0 : ((I.new 8 [2]).setR k (addrW ((2 * c : Nat) : Int))).roots = I.roots.set k (addrW ((2 * c : Nat) : Int)) := rfl
  have e1 : ((I.new 8 [2]).setR k (addrW ((2 * c : Nat) : Int))).V = (I.new 8 [2]).V := rfl
  have e2 : ((I.new 8 [2]).setR k (addrW ((2 * c : Nat) : Int))).ids = I.ids := rfl
  have hnew : wat (I.new 8 [2]).V (2 * c) = headW 8 0 0 1 := by have := new_hd I 8 [2]; rw [hr.lenV] at this; exact this
  have lR := hr.lenR
  have lN := hr.lenN
  have hi' : ∀ j, j < (if k = i then i + 1 else i) → j = k ∨ (j ≠ k ∧ j < i) := fun j hj => by
    split at hj <;> omega
  have hgn : ∀ j, j ≠ k → (num.set k 0).getD j 0 = num.getD j 0 := fun j hj => by
    rw [List.getD_eq_getElem?_getD, List.getD_eq_getElem?_getD, List.getElem?_set_ne (Ne.symm hj)]
  have hgk : (num.set k 0).getD k 0 = 0 := by
    rw [List.getD_eq_getElem?_getD, List.getElem?_set_self (by omega)]; rfl
  refine ⟨i1, s1.old.trans ho, s1.roots.trans h.lenR, Nat.le_trans s1.ids h.ids, h.nb, _, (fun j => if j = k then c else node j), hm, ?_⟩
  refine ⟨by rw [e1]; unfold Ideal.new; simp [hr.lenV]; omega, ?_, fun j hj => ?_, by rw [e0, List.length_set]; exact lR, by rw [List.length_set]; exact lN, fun j h1 h2 => ?_, fun j hj => ?_, fun a b ha hb e => ?_, fun j hj hz u s hu => ?_, fun j hj hz => ?_, fun j hj u s hu hp => ?_, fun u s hu => ?_⟩
  · show I.P ++ [I.V.length] = _
    rw [hr.P, hr.lenV, List.range_succ, List.map_append]; rfl
  · rw [e1]
    by_cases e : j = c
    · subst e; exact hnew
    · rw [new_old I 8 [2] (by rw [hr.lenV]; omega)]; exact hr.hd j (by omega)
  · rw [e0]
    split at h1
    · rw [rgD_ne (by omega)]; exact hr.none j (by omega) h2
    · rw [rgD_ne (by omega)]; exact hr.none j h1 h2
  · rw [e0]
    rcases hi' j hj with rfl | ⟨q1, q2⟩
    · rw [rgD_same (by omega), if_pos rfl]
      exact ⟨rfl, by omega⟩
    · rw [rgD_ne (Ne.symm q1), if_neg q1]
      have := hr.r j q2
      exact ⟨this.1, by omega⟩
  · have e : (if a = k then c else node a) = (if b = k then c else node b) := e
    rcases hi' a ha with rfl | ⟨p1, p2⟩ <;> rcases hi' b hb with rfl | ⟨q1, q2⟩
    · rfl
    · rw [if_pos rfl, if_neg q1] at e; have := (hr.r b q2).2; omega
    · rw [if_neg p1, if_pos rfl] at e; have := (hr.r a p2).2; omega
    · rw [if_neg p1, if_neg q1] at e; exact hr.inj a b p2 q2 e
  · rw [e2] at hu
    rcases hi' j hj with rfl | ⟨q1, q2⟩
    · rw [if_pos rfl]
      obtain ⟨x, hx, e⟩ := hr.idP u s hu
      rw [e]; omega
    · rw [if_neg q1]
      rw [hgn j q1] at hz
      exact hr.no j q2 hz u s hu
  · rcases hi' j hj with rfl | ⟨q1, q2⟩
    · exact absurd hgk hz
    · rw [hgn j q1] at hz ⊢
      simp only [if_neg q1]
      exact hr.yes j q2 hz
  · rw [e2] at hu
    rcases hi' j hj with rfl | ⟨q1, q2⟩
    · rw [if_pos rfl] at hp
      obtain ⟨x, hx, e⟩ := hr.idP u s hu
      omega
    · rw [if_neg q1] at hp
      rw [hgn j q1]
      exact hr.one j q2 u s hu hp
  · obtain ⟨x, hx, e⟩ := hr.idP u s hu
    exact ⟨x, by omega, e⟩
/-- The number of a root's node. -/
theorem sr_head (h : SrM M c n i d num nx) (hc : c ≤ 200) {k : Nat} (hk : k < i) (hi : i ≤ n) : headC M (k : Int) = 0 := by
  obtain ⟨I, node, ⟨D, f, hR⟩, hr⟩ := h.ideal
  obtain ⟨e, hn⟩ := hr.r k hk
  exact hR.head (a := 2 * node k) (by rw [hr.lenR]; omega) (by rw [e]; exact (pts_addr (by omega)).1)
theorem sr_old (h : SrM M c n i d num nx) (hc : c ≤ 200) {k : Nat} (hk : k < i) (hi : i ≤ n) {x : Nat} (hx : x < M.ids.length) (he : (M.ids.getD x (0, 0)).1 = M.roots.getD k 0) : num.getD k 0 ≠ 0 ∧ (M.ids.getD x (0, 0)).2 = num.getD k 0 := by
  obtain ⟨I, node, ⟨D, f, hR⟩, hr⟩ := h.ideal
  obtain ⟨e, hn⟩ := hr.r k hk
  obtain ⟨u, hu, hp⟩ := hR.ser_old (a := 2 * node k) (by rw [hr.lenR]; omega) (by rw [e]; exact (pts_addr (by omega)).1) hx he
  exact ⟨fun q => hr.no k hk q u _ hu hp, hr.one k hk u _ hu hp⟩
theorem sr_new (h : SrM M c n i d num nx) (hc : c ≤ 200) (hd : d ≤ 1000) {k : Nat} (hk : k < i) (hi : i ≤ n) (hn : ∀ x ∈ M.ids, x.1 ≠ M.roots.getD k 0) :
    num.getD k 0 = 0 ∧ SrM { M with ids := M.ids ++ [(M.roots.getD k 0, nx)] } c n i (d + 1) (num.set k nx) (nx + 1) := by
  obtain ⟨I, node, ⟨D, f, hR⟩, hr⟩ := h.ideal
  obtain ⟨e, hnc⟩ := hr.r k hk
  have hpk : ptsW (I.roots.getD k 0) = ((2 * node k : Nat) : Int) := by rw [e]; exact (pts_addr (by omega)).1
  have hkl : k < I.roots.length := by rw [hr.lenR]; omega
  obtain ⟨q1, q2⟩ := hR.ser_new hkl hpk hn nx
  have hz : num.getD k 0 = 0 := Classical.byContradiction fun q => by
    obtain ⟨u, hu, hp⟩ := hr.yes k hk q
    exact q1 u _ hu hp
  have hH0 := sr_head h hc hk hi
  obtain ⟨rn, x, hrn, hrl, hpt, hkk, hz0, hxm, hpl⟩ := headC_ok (chk_zero h.inv.chk).1 hH0
  obtain rfl : rn = k := by omega
  obtain ⟨lN, lO, hg⟩ := good_of h.inv.chk
  have hnx := h.inv.nx1
  have hids := h.ids
  have hnb := h.nb
  have hI := idM_inv h.inv hg (M.roots.getD rn 0) (root_in h.inv hrl) hkk hz0 (getD_in hg.roots hrl) (by omega) (by omega) hn
  have lN2 := hr.lenN
  have hgn : ∀ j, j ≠ rn → (num.set rn nx).getD j 0 = num.getD j 0 := fun j hj => by
    rw [List.getD_eq_getElem?_getD, List.getD_eq_getElem?_getD, List.getElem?_set_ne (Ne.symm hj)]
  have hgk : (num.set rn nx).getD rn 0 = nx := by
    rw [List.getD_eq_getElem?_getD, List.getElem?_set_self (by omega)]; rfl
  have hmem : ∀ {u s : Int}, (u, s) ∈ (I.addId (I.roots.getD rn 0) nx).ids → (u, s) ∈ I.ids ∨ (u = I.roots.getD rn 0 ∧ s = nx) := fun {u s} hu => by
    rcases List.mem_append.1 (show (u, s) ∈ I.ids ++ [(I.roots.getD rn 0, nx)] from hu) with q | q
    · exact Or.inl q
    · simp only [List.mem_singleton, Prod.mk.injEq] at q
      exact Or.inr q
  refine ⟨hz, hI, h.old, h.lenR, by show (M.ids ++ [_]).length ≤ d + 1; rw [List.length_append]; simp; omega, by omega, _, node, ⟨D, f, q2⟩, ?_⟩
  refine ⟨hr.lenV, hr.P, hr.hd, hr.lenR, by rw [List.length_set]; exact lN2, hr.none, hr.r, hr.inj, fun j hj hz2 u s hu => ?_, fun j hj hz2 => ?_, fun j hj u s hu hp => ?_, fun u s hu => ?_⟩
  · by_cases ej : j = rn
    · subst ej; rw [hgk] at hz2; omega
    · rw [hgn j ej] at hz2
      rcases hmem hu with q | ⟨rfl, rfl⟩
      · exact hr.no j hj hz2 u s q
      · rw [hpk]
        intro q
        exact ej (hr.inj j rn hj hk (by omega))
  · by_cases ej : j = rn
    · subst ej
      rw [hgk]
      exact ⟨_, List.mem_append.2 (Or.inr (by simp)), hpk⟩
    · rw [hgn j ej] at hz2 ⊢
      obtain ⟨u, hu, hp⟩ := hr.yes j hj hz2
      exact ⟨u, List.mem_append.2 (Or.inl hu), hp⟩
  · rcases hmem hu with q | ⟨rfl, rfl⟩
    · by_cases ej : j = rn
      · subst ej
        exact absurd hp (q1 u s q)
      · rw [hgn j ej]; exact hr.one j hj u s q hp
    · rw [hpk] at hp
      obtain rfl : rn = j := hr.inj rn j hk hj (by omega)
      rw [hgk]
  · rcases hmem hu with q | ⟨rfl, rfl⟩
    · exact hr.idP u s q
    · exact ⟨node rn, hnc, hpk⟩
end
theorem sr_first {half : Int} (n : Nat) (hk : newOK half 500 4 = true) (hn : n ≤ 5000) : SrM (newHM half 500 4 n) 0 n 0 0 (List.replicate n 0) 1 := by
  refine ⟨newHM_inv half 500 4 n hk hn, rfl, by simp [newHM], by simp [newHM, newM], by omega, _, (fun _ => 0), holds_fresh half 500 4 n, ?_⟩
  refine ⟨rfl, rfl, fun j hj => by omega, by simp [Ideal.fresh], by simp, fun k h1 h2 => ?_, fun k hk => by omega, fun k j hk => by omega, fun k hk => by omega, fun k hk => by omega, fun k hk => by omega, fun u s hu => by simp [Ideal.fresh] at hu⟩
  show (List.replicate n (2 : Int)).getD k 0 = 2
  rw [List.getD_eq_getElem?_getD, List.getElem?_replicate, if_pos h2]; rfl
end Go.Proofs.YtelhoppfidibiaaGreatDoor
/- A slice that reads as ints. -/
namespace Go.Proofs.YtelhoppfidibiaaGreatDoor
open Go.RowKit
set_option linter.unusedVariables false
set_option linter.unusedSimpArgs false

/-- Ints as cells. -/
def ints (l : List Int) : List Value := l.map fun x => Value.int .i64 x
theorem ints_at (l : List Int) (k : Nat) (h : k < l.length) : (ints l)[k]? = some (.int .i64 (l.getD k 0)) := by
  simp [ints, List.getD_eq_getElem?_getD, h]
/-- A slice that reads as these ints. -/
structure RInts (w : World) (a : Option Addr) (c : Nat) (l : List Int) : Prop where
  row : RSl w a (ints l)
  cap : l.length ≤ c
  nil : a = none → c = 0
theorem RInts.ext {w w' : World} {a : Option Addr} {c : Nat} {l : List Int} (h : RInts w a c l) (hx : Ext w w') : RInts w' a c l := ⟨h.row.ext hx, h.cap, h.nil⟩
theorem RInts.nothing (w : World) : RInts w none 0 [] := ⟨RSl.nil _ _, Nat.le_refl _, fun _ => rfl⟩
theorem RInts.at_ {w : World} {a : Option Addr} {c : Nat} {l : List Int} (h : RInts w a c l) {k : Nat} (hk : k < l.length) : ∃ b o, a = some ⟨b, o, none⟩ ∧ w.cell? ⟨b, o + k, none⟩ = some (.int .i64 (l.getD k 0)) :=
  h.row k _ (ints_at l k hk)
end Go.Proofs.YtelhoppfidibiaaGreatDoor
/- A heap, where other blocks are turned. -/
namespace Go.Proofs.YtelhoppfidibiaaGreatDoor
open Go.RowKit
set_option linter.unusedVariables false
set_option linter.unusedSimpArgs false

/-- A heap, where another block is turned. -/
theorem OHeap.away {w w' : World} {B hb b : Nat} {M : Mem} {S : Sls} {ten nx : Int} (h : OHeap w B hb b M S ten nx) {L : Nat → Prop} (k : Keep L w w') (hL : ∀ i, L i → ¬ HL hb b S i) : OHeap w' B hb b M S ten nx := by
  have nhb : ¬ L hb := fun q => hL hb q (Or.inl rfl)
  refine ⟨OMem.keptA h.mem (fun i hi ho => k.block i hi fun q => hL i q (Or.inr ho)), h.hB, ?_, k.cell (p := ⟨hb, 0, none⟩) nhb h.ptr, k.cell (p := ⟨hb, 1, none⟩) nhb h.tn, k.cell (p := ⟨hb, 2, none⟩) nhb h.nxt, h.ne⟩
  rw [k.block hb h.lt nhb]; exact h.blk
theorem HStep.out {w w' : World} {hb b : Nat} {S S' : Sls} {g : Nat} (h : HStep hb b w S w' S') (hg : ¬ HL hb b S g) (hl : g < w.heap.size) : ¬ HL hb b S' g := fun q => by
  rcases h.own g q with r | r
  · exact hg r
  · omega
end Go.Proofs.YtelhoppfidibiaaGreatDoor
/- The law HeapSerials, walked. -/
namespace Go.Proofs.YtelhoppfidibiaaGreatDoor
open Go.RowKit
set_option linter.unusedVariables false
set_option linter.unusedSimpArgs false

/-- A row of ints in a block of its own. -/
structure NumRow (w : World) (g : Nat) (l : List Int) : Prop where
  blk : ∃ cur t, w.heap[g]? = some (.cells cur t (0, 0))
  at_ : ∀ j, j < l.length → w.cell? ⟨g, j, none⟩ = some (.int .i64 (l.getD j 0))
theorem NumRow.frozen {w : World} {g : Nat} {l : List Int} (h : NumRow w g l) (j : Nat) : w.frozen? ⟨g, j, none⟩ = false := by
  obtain ⟨cur, t, hc⟩ := h.blk
  simp [World.frozen?, hc]
theorem NumRow.lt {w : World} {g : Nat} {l : List Int} (h : NumRow w g l) : g < w.heap.size := by
  obtain ⟨cur, t, hc⟩ := h.blk
  exact (Array.getElem?_eq_some_iff.1 hc).1
theorem NumRow.keep {L : Nat → Prop} {w w' : World} {g : Nat} {l : List Int} (h : NumRow w g l) (k : Keep L w w') (hg : ¬ L g) : NumRow w' g l :=
  ⟨by rw [k.block g h.lt hg]; exact h.blk, fun j hj => k.cell (p := ⟨g, j, none⟩) hg (h.at_ j hj)⟩
theorem NumRow.ext {w w' : World} {g : Nat} {l : List Int} (h : NumRow w g l) (k : Ext w w') : NumRow w' g l := h.keep (L := fun _ => False) (Keep.of_ext k) (fun q => q)
theorem NumRow.set {w : World} {g : Nat} {l : List Int} (h : NumRow w g l) {j : Nat} (hj : j < l.length) (v : Int) : NumRow (w.setCell ⟨g, j, none⟩ (.int .i64 v)) g (l.set j v) := by
  refine ⟨blk_set h.blk, fun i hi => ?_⟩
  rw [List.length_set] at hi
  by_cases e : j = i
  · subst e
    rw [cell_set_same (h.at_ j hj), List.getD_eq_getElem?_getD, List.getElem?_set_self hj]; rfl
  · rw [cell_set_off e, h.at_ i hi, List.getD_eq_getElem?_getD, List.getD_eq_getElem?_getD, List.getElem?_set_ne e]
/-- Behind so many asks. -/
structure SrS (w : World) (B hb b g n k : Nat) (nv : Int) (M : Mem) (S : Sls) (num : List Int) (c : Nat) (wr : World) : Prop where
  heap : OHeap wr B hb b M S 1 (nv + 1)
  m : SrM M c n n k num (nv + 1)
  c : c ≤ n + k
  row : NumRow wr g num
  out : ¬ HL hb b S g
  ext : Ext w wr
theorem SrM.len {M : Mem} {c n i d : Nat} {num : List Int} {nx : Int} (h : SrM M c n i d num nx) : num.length = n := by
  obtain ⟨I, node, -, hr⟩ := h.ideal
  exact hr.lenN
section
variable {w w1 wr : World} {hb b g n k c : Nat} {nv : Int} {M : Mem} {S : Sls} {num : List Int} {B : Nat}
theorem SrS.on (h : SrS w w1.heap.size hb b g n k nv M S num c wr) (hz : w.heap.size ≤ w1.heap.size) {w' : World} {M' : Mem} {S' : Sls} (h1 : OHeap w' w1.heap.size hb b M' S' 1 (nv + 1)) (h2 : HStep hb b wr S w' S') (h3 : SrM M' c n n k num (nv + 1)) : SrS w w1.heap.size hb b g n k nv M' S' num c w' :=
  ⟨h1, h3, h.c, h.row.keep h2.keep h.out, h2.out h.out h.row.lt, HStep.extB h.ext hz h.heap h2⟩
theorem SrS.at (h : SrS w B hb b g n k nv M S num c wr) {w' : World} (hx : Ext wr w') : SrS w B hb b g n k nv M S num c w' :=
  ⟨h.heap.ext hx, h.m, h.c, h.row.ext hx, h.out, h.ext.trans_ hx⟩
end
theorem putS0 {N : Mem} {c : Int} {r : Nat} {x : Int} (h : c = 0) : putR N c r x = rootM N r x := by unfold putR; rw [if_pos h]
theorem replicate_set0 (n k : Nat) : (List.replicate n (0 : Int)).set k 0 = List.replicate n 0 := by
  refine List.ext_getElem (by simp) fun i h1 h2 => ?_
  by_cases e : k = i
  · subst e; simp
  · rw [List.getElem_set_ne e]
theorem numRow_made {w : World} {B g n : Nat} {e : TypeId} (h : w.ownsRow B e 1 (.slice (some ⟨g, 0, none⟩) n n) n (madeCells (Value.int .i64 0).cells (n * 1)).toList) (hn : 0 < n) : NumRow w g (List.replicate n 0) := by
  obtain ⟨g2, e1, -, -, -, -, cur, hc, -, -⟩ := own_block h hn
  obtain rfl : g2 = g := by injection e1 with e1; injection e1 with e1; exact e1.symm
  refine ⟨⟨_, _, hc⟩, fun j hj => ?_⟩
  rw [List.length_replicate] at hj
  have h1 : (madeCells (Value.int .i64 0).cells (n * 1)).toList[j]? = some (.int .i64 0) := by
    rw [Array.getElem?_toList, made_at _ _ _ (by omega)]
    simp [Value.cells, Nat.mod_one]
  have := (row_rsl h).1.at_ h1
  simp only [Nat.zero_add] at this
  rw [this, List.getD_eq_getElem?_getD, List.getElem?_replicate, if_pos hj]; rfl
section
variable {w wr w' : World} {hb b g n j c kk : Nat} {nv : Int} {M : Mem} {S S' : Sls} {num : List Int} {w1 : World}
theorem SrM.up {i d d2 : Nat} {nx : Int} (h : SrM M c n i d num nx) (hd : d ≤ d2) : SrM M c n i d2 num nx :=
  ⟨h.inv, h.old, h.lenR, Nat.le_trans h.ids hd, by have := h.nb; omega, h.ideal⟩
theorem SrS.up (h : SrS w w1.heap.size hb b g n j nv M S num c wr) : SrS w w1.heap.size hb b g n (j + 1) nv M S num c wr :=
  ⟨h.heap, h.m.up (by omega), by have := h.c; omega, h.row, h.out, h.ext⟩
theorem SrS.new (h : SrS w w1.heap.size hb b g n j nv M S num c wr) (hz : w.heap.size ≤ w1.heap.size) (hk : kk < n) {M' : Mem} (h1 : OHeap w' w1.heap.size hb b M' S' 1 (nv + 1 + 1)) (h2 : HStep hb b wr S w' S') (hm : SrM M' c n n (j + 1) (num.set kk (nv + 1)) (nv + 1 + 1)) (hg : w.heap.size ≤ g) :
    SrS w w1.heap.size hb b g n (j + 1) (nv + 1) M' S' (num.set kk (nv + 1)) c (w'.setCell ⟨g, kk, none⟩ (.int .i64 (nv + 1))) := by
  have ho := h2.out h.out h.row.lt
  refine ⟨h1.away (Keep.of_but (but_set w' ⟨g, kk, none⟩ (.int .i64 (nv + 1)))) (fun i e => by rw [e]; exact ho), hm, by have := h.c; omega, (h.row.keep h2.keep h.out).set (by rw [h.m.len]; exact hk) _, ho, (HStep.extB h.ext hz h.heap h2).set_ hg _⟩
theorem SrS.made (h : SrS w w1.heap.size hb b g n (j + 1) nv M S num c wr) (hz : w.heap.size ≤ w1.heap.size) (hc : c ≤ n + j) (hk : kk < n) (h1 : OHeap w' w1.heap.size hb b (srMk M kk) S' 1 (nv + 1)) (h2 : HStep hb b wr S w' S') (hm : SrM (srMk M kk) (c + 1) n n (j + 1) (num.set kk 0) (nv + 1)) (hg : w.heap.size ≤ g) :
    SrS w w1.heap.size hb b g n (j + 1) nv (srMk M kk) S' (num.set kk 0) (c + 1) (w'.setCell ⟨g, kk, none⟩ (.int .i64 0)) := by
  have ho := h2.out h.out h.row.lt
  refine ⟨h1.away (Keep.of_but (but_set w' ⟨g, kk, none⟩ (.int .i64 0))) (fun i e => by rw [e]; exact ho), hm, by omega, (h.row.keep h2.keep h.out).set (by rw [h.m.len]; exact hk) _, ho, (HStep.extB h.ext hz h.heap h2).set_ hg _⟩
end
theorem tmod_lt (v : Int) (n : Nat) (hn : 0 < n) : -(n : Int) < v.tmod (n : Int) ∧ v.tmod (n : Int) < (n : Int) := by
  have h1 := Int.tmod_lt_of_pos v (b := (n : Int)) (by omega)
  have h2 := Int.tmod_lt_of_pos (-v) (b := (n : Int)) (by omega)
  rw [Int.neg_tmod] at h2
  omega
theorem hnewN_yes (half : Int) (n : Nat) (h : newOK half 500 4 = true) (hn : n ≤ 5000) (w : World) :
    Calls Tryz.prog 10 #[.agg #[.int .i64 half, .int .i64 500, .int .i64 4, .int .i64 1], .int .i64 (n : Int)] w (HNewPost w 1 (newHM half 500 4 n)) := hnew_yes half 500 4 1 n h (by omega) hn w
set_option maxRecDepth 100000 in
set_option maxHeartbeats 8000000 in
theorem heapSerials_any (n : Int) (A : Option Addr) (C : Nat) (l : List Int) (half : Int) (w : World) (E : Nat → Addr) (hE : G4 E w) (hT : Tabs w) (hR : RInts w A C l) :
    Calls Tryz.prog 3 #[.int .i64 n, .slice A l.length C, .int .i64 half] w fun e w' => e = .returned (.bool true) ∧ Ext w w' := by
  have HE := Lib.hid hE
  have HT := Lib.hid hT
  have HR := Lib.hid hR
  clear hE hT hR
  have h7 : n < 1 ∨ (¬ n < 1 ∧ 20 < n) ∨ (¬ n < 1 ∧ ¬ 20 < n ∧ 60 < (l.length : Int)) ∨ (¬ n < 1 ∧ ¬ 20 < n ∧ ¬ 60 < (l.length : Int) ∧ half < 1) ∨ (¬ n < 1 ∧ ¬ 20 < n ∧ ¬ 60 < (l.length : Int) ∧ ¬ half < 1 ∧ 200 < half) ∨ (¬ n < 1 ∧ ¬ 20 < n ∧ ¬ 60 < (l.length : Int) ∧ ¬ half < 1 ∧ ¬ 200 < half) := by omega
  rcases h7 with z1 | ⟨z1, z2⟩ | ⟨z1, z2, z3⟩ | ⟨z1, z2, z3, z4⟩ | ⟨z1, z2, z3, z4, z5⟩ | ⟨z1, z2, z3, z4, z5⟩
  rotate_right
  · obtain ⟨m, rfl⟩ : ∃ m : Nat, n = (m : Int) := ⟨n.toNat, by omega⟩
    have hm1 : 1 ≤ m := by omega
    have hm2 : m ≤ 20 := by omega
    have hl6 : l.length ≤ 60 := by omega
    have hok : newOK half 500 4 = true := by
      unfold newOK
      rw [inR_true.2 ⟨by omega, by omega⟩, inR_true.2 ⟨by omega, by omega⟩, inR_true.2 ⟨by omega, by omega⟩]; rfl
    have HOK := Lib.hid hok
    have FI := Lib.hid (sr_first m hok (by omega))
    clear hok
    go_enter Tryz.func3, Tryz.ntmps3
    go_upto_region 4 with (go_at_call 9; refine (hold_walk E _ HE.out HT.out).mono ?_; rintro e w1 ⟨rfl, hq⟩; have HX1 := Lib.hid hq; clear hq)
    have HGB := Lib.hid ((HE.out.ext HX1.out).gb)
    have HZ : Hid (w.heap.size ≤ w1.heap.size) := HX1.out.size
    go_upto_region 8 with (go_at_call 10; refine (hnewN_yes half m HOK.out (by omega) _).mono ?_; rintro e w2 ⟨hb, b, S0, rfl, h1, hq⟩; have HA0 : Hid (OHeap w2 w1.heap.size hb b (newHM half 500 4 m) S0 1 1) := h1; have XA0 : Hid (Ext w w2) := HX1.out.trans_ hq; clear h1 hq)
    go_loopg [10] m (fun r i wr => ∃ (k : Nat) (M : Mem) (S : Sls), k + r = m ∧ i = .int .i64 (k : Int) ∧ Hid (OHeap wr w1.heap.size hb b M S 1 1) ∧ Hid (SrM M k m k 0 (List.replicate m 0) 1) ∧ Hid (Ext w wr))
    case atStart => exact ⟨0, _, S0, by omega, rfl, HA0.out, FI.out, XA0.out⟩
    case round =>
      obtain ⟨k, M, S, hk, rfl, hO, hR, hX⟩ := hrel
      cases gk with
      | succ r =>
        have hlt : (k : Int) < (m : Int) := by omega
        obtain ⟨c1, c2⟩ := sr_make hR.out (by omega) (Nat.le_refl k) (by omega)
        rw [if_pos rfl, replicate_set0] at c2
        have HC := Lib.hid c1
        have B1 := Lib.hid c2
        have HK := Lib.hid hk
        have f1 : IntKind.i64.wrap ((k : Int) + 1) = ((k + 1 : Nat) : Int) := by rw [IntWalk.i64_in _ (by omega)]; omega
        clear c1 c2 hk
        go_wp2_with (go_at_call 11; refine (make_walk _ hO.out hR.out.inv (HE.out.ext hX.out) (by omega) HGB.out (k : Int) (by omega) (rootB_true.2 (by have hrr := hR.out.lenR; omega)) 8 1 (by omega) (by omega)).mono ?_; rintro e w5 ⟨he, SL1, h1, h2⟩; rw [HC.out, show errC E 0 = .nilIface from rfl] at he; subst he; have HL1 : Hid (OHeap w5 w1.heap.size hb b (srMk M k) SL1 1 1) := (by rw [putS0 HC.out] at h1; exact h1); have XL1 : Hid (Ext w w5) := HStep.extB hX.out HZ.out hO.out h2; clear h1 h2)
        go_roundg r
        case measure => omega
        case rel => exact ⟨k + 1, _, _, by have := HK.out; omega, by go_num, HL1.out, B1.out, XL1.out⟩
      | zero =>
        obtain rfl : k = m := by omega
        have hlt : ¬ ((k : Nat) : Int) < ((k : Nat) : Int) := by omega
        clear hk
        obtain ⟨i0, hi0, h0a, h0b, h0c⟩ := info_parts infoInt
        obtain ⟨wn, hr1, ho1, hg1⟩ := run_make_full (P := Tryz.prog) wr wr.heap.size 22 3 i0 (.int .i64 0) 1 undInts hi0 h0a h0b .i64 .i64 k (by rw [h0c]; omega) (by unfold maxLen; omega) (Nat.le_refl _)
        have hxn : Ext wr wn := Below.grown (Below.refl _ _) hg1 (Nat.le_refl _) (fun k hk => by cases hk)
        have hrow : NumRow wn wr.heap.size (List.replicate k 0) := numRow_made ho1 (by omega)
        have hS0 : SrS w w1.heap.size hb b wr.heap.size k 0 0 M S (List.replicate k 0) k wn := ⟨hO.out.ext hxn, hR.out, by omega, hrow, fun q => by have := hO.out.own q; omega, hX.out.trans_ hxn⟩
        have HS0 := Lib.hid hS0
        have hgw : w.heap.size ≤ wr.heap.size := hX.out.size
        clear hS0 hrow hxn ho1 hg1 h0a h0b h0c hi0
        generalize hgg : wr.heap.size = g at *
        clear hgg
        go_upto_region 15 with fail
        go_loopg [12, 13] (l.length) (fun r nx i wr => ∃ (j : Nat) (nv : Int) (M : Mem) (S : Sls) (num : List Int) (c : Nat), j + r = l.length ∧ i = .int .i64 (j : Int) ∧ nx = .int .i64 nv ∧ Hid (SrS w w1.heap.size hb b g k j nv M S num c wr))
        case atStart => exact ⟨0, 0, M, S, List.replicate k 0, k, by omega, rfl, rfl, HS0.out⟩
        case round =>
          obtain ⟨j, nv, M, S, num, c, hj, rfl, rfl, hS⟩ := hrel
          cases gk with
          | succ r =>
            have hjl : j < l.length := by omega
            have hjz : (j : Int) < (l.length : Int) := by omega
            obtain ⟨ab, ao, hA, hcl0⟩ := HR.out.at_ hjl
            subst hA
            have HCL := Lib.hid hcl0
            have hcl := hS.out.ext.cell_ hcl0
            have habl : ab < w.heap.size := cell_lt hcl0
            have hgw2 := hgw
            clear hcl0
            generalize l.getD j 0 = v at *
            have ht := tmod_lt v k (by omega)
            have HJ := Lib.hid hj
            obtain ⟨t, htv⟩ : ∃ t, v.tmod (k : Int) = t := ⟨_, rfl⟩
            rw [htv] at ht
            obtain ⟨u5, hu5⟩ : ∃ u5, v.tmod 5 = u5 := ⟨_, rfl⟩
            have hnz : ¬ (k : Int) = 0 := by omega
            have hnb : ((k : Int) == 0) = false := by simpa using hnz
            have ft : wrap64 t = t := IntWalk.wrap64_in _ ⟨by omega, by omega⟩
            have ft2 : IntKind.i64.wrap t = t := IntWalk.i64_in _ ⟨by omega, by omega⟩
            have f1 : IntKind.i64.wrap ((j : Int) + 1) = ((j + 1 : Nat) : Int) := by rw [IntWalk.i64_in _ (by omega)]; omega
            clear hj
            go_upto_if 75 with fail
            go_cut [14] from 62 to 130 (fun x wx => ∃ kk : Nat, kk < k ∧ x = .int .i64 (kk : Int) ∧ Hid (SrS w w1.heap.size hb b g k j nv M S num c wx))
            case first =>
              by_cases ht0 : t < 0
              · have f2 : wrap64 (t + (k : Int)) = t + (k : Int) := IntWalk.wrap64_in _ ⟨by omega, by omega⟩
                go_wp2
                go_meet
                case rel => exact ⟨(t + k).toNat, by omega, by congr 1; omega, hS.out.at (by repeat (first | exact Ext.refl _ | (refine Ext.drew_ ?_) | (refine Ext.drewN_ ?_ _)))⟩
              · go_wp2
                go_meet
                case rel => exact ⟨t.toNat, by omega, by congr 1; omega, hS.out.at (by repeat (first | exact Ext.refl _ | (refine Ext.drew_ ?_) | (refine Ext.drewN_ ?_ _)))⟩
            case rest =>
              obtain ⟨kk, hkk, rfl, hS2⟩ := hcut
              have hcl := hS2.out.ext.cell_ HCL.out
              have hc200 : c ≤ 200 := by have := hS2.out.c; omega
              have hcb : c ≤ k + j := hS2.out.c
              have MI := Lib.hid (sr_minor hS2.out.m hc200)
              have MA := Lib.hid (sr_major hS2.out.m hc200)
              have h3 : (j : Int).tmod 3 = 1 ∨ (j : Int).tmod 3 = 2 ∨ (j : Int).tmod 3 = 0 := by
                rw [Int.tmod_eq_emod_of_nonneg (by omega)]; omega
              clear hcl
              rcases h3 with h3 | h3 | h3
              · go_upto_region 27 with (go_at_call 12; refine (hMinor_walk _ hS2.out.heap hS2.out.m.inv.ok (HE.out.ext hS2.out.ext) hS2.out.m.inv.chk (by omega) ⟨HGB.out.bound, HGB.out.shape, HGB.out.full⟩).mono ?_; rintro e w5 ⟨he, S5, h1, h2⟩; rw [MI.out.1, show errC E 0 = .nilIface from rfl] at he; subst he; have HS3 : Hid (∃ M3 S3, SrS w w1.heap.size hb b g k j nv M3 S3 num c w5) := ⟨_, S5, hS2.out.on HZ.out h1 h2 MI.out.2⟩; clear h1 h2)
                obtain ⟨M3, S3, hS3⟩ := HS3.out
                have HT3 := Lib.hid hS3
                have HH0 := Lib.hid (sr_head hS3.m hc200 hkk (Nat.le_refl _))
                have hb1 : nv + 1 ≤ 1000000000 := by have := hS3.m.nb; omega
                have hb2 : M3.ids.length ≤ 1000000 := by have := hS3.m.ids; omega
                have hb3 : 0 ≤ nv := by have := hS3.m.inv.nx1; omega
                have hkn : kk < num.length := by rw [hS3.m.len]; exact hkk
                have hgl : g < w1.heap.size ∨ w1.heap.size ≤ g := by omega
                obtain ⟨v0, hv0⟩ : ∃ v0, num.getD kk 0 = v0 := ⟨_, rfl⟩
                have HV0 := Lib.hid hv0
                clear hS3 hv0
                go_upto_region 28 with (go_at_call 14; refine (serial_walk _ HT3.out.heap HT3.out.m.inv (HE.out.ext HT3.out.ext) hb1 hb2 (kk : Int) (by omega) HH0.out).mono ?_; rintro e w6 hq; rcases hq with ⟨i, h1, h2, he, h4⟩ | ⟨h1, S4, rfl, h3, h4⟩; (have q := sr_old HT3.out.m hc200 hkk (Nat.le_refl _) h1 h2; rw [HV0.out] at q; rw [q.2] at he; subst he; have HQ1 := Lib.hid q.1; have HX4 := Lib.hid h4; clear h1 h2 h4 q))
                · have Q1 := HQ1.out
                  have hvz : ¬ v0 = 0 := Q1
                  have hvb : (v0 == 0) = false := by simpa using hvz
                  have HS4 := Lib.hid (HT3.out.at HX4.out).up
                  have c1 := HS4.out.row.at_ kk hkn
                  rw [HV0.out] at c1
                  have c2 := HS4.out.ext.cell_ HCL.out
                  clear Q1
                  by_cases hm5 : u5 = 0
                  · subst hm5
                    have MK := Lib.hid (sr_make HS4.out.m hc200 (Nat.le_of_lt hkk) hkk)
                    go_wp2_with (go_at_call 11; refine (make_walk _ HS4.out.heap HS4.out.m.inv (HE.out.ext HS4.out.ext) (by omega) HGB.out (kk : Int) (by omega) (rootB_true.2 (by have hrr := HS4.out.m.lenR; omega)) 8 1 (by omega) (by omega)).mono ?_; rintro e w7 ⟨he, S7, h1, h2⟩; rw [MK.out.1, show errC E 0 = .nilIface from rfl] at he; subst he; have HS5 := Lib.hid (HS4.out.made HZ.out hcb hkk (by rw [putS0 MK.out.1] at h1; exact h1) h2 (by have q := MK.out.2; rw [if_neg (by omega)] at q; exact q) hgw); have HF7 := Lib.hid ((HS4.out.row.keep h2.keep HS4.out.out)); have c7 := HF7.out.frozen kk; have c8 := HF7.out.at_ kk (by first | exact hkn | exact hkn2); clear h1 h2)
                    go_roundg r
                    case measure => omega
                    case rel => exact ⟨j + 1, nv, _, _, _, c + 1, by have := HJ.out; omega, by go_num, rfl, (HS5.out.at (by repeat (first | exact Ext.refl _ | (refine Ext.drew_ ?_) | (refine Ext.drewN_ ?_ _))))⟩
                  · go_wp2
                    go_roundg r
                    case measure => omega
                    case rel => exact ⟨j + 1, nv, _, _, _, c, by have := HJ.out; omega, by go_num, rfl, (HS4.out.at (by repeat (first | exact Ext.refl _ | (refine Ext.drew_ ?_) | (refine Ext.drewN_ ?_ _))))⟩
                · have q := sr_new HT3.out.m hc200 (by omega) hkk (Nat.le_refl _) h1
                  have hz0 : v0 = 0 := HV0.out.symm.trans q.1
                  have HN := Lib.hid (HT3.out.new HZ.out hkk h3 h4 q.2 hgw)
                  have HF6 := Lib.hid (HT3.out.row.keep h4.keep HT3.out.out)
                  have c1 := HF6.out.at_ kk hkn
                  rw [HV0.out, hz0] at c1
                  have c3 := HF6.out.frozen kk
                  have fn1 : IntKind.i64.wrap (nv + 1) = nv + 1 := IntWalk.i64_in _ (by omega)
                  have fn2 : wrap64 (nv + 1) = nv + 1 := IntWalk.wrap64_in _ ⟨by omega, by omega⟩
                  clear h1 h3 h4 q hz0
                  go_upto_region 31 with fail
                  refine named_world' (fun wD hwD => ?_)
                  have HS4 : Hid (SrS w w1.heap.size hb b g k (j + 1) (nv + 1) { M3 with ids := M3.ids ++ [(M3.roots.getD kk 0, nv + 1)] } S4 (num.set kk (nv + 1)) c wD) := by rw [hwD]; exact HN.out.at (by repeat (first | exact Ext.refl _ | (refine Ext.drew_ ?_) | (refine Ext.drewN_ ?_ _)))
                  have hkn2 : kk < (num.set kk (nv + 1)).length := by rw [List.length_set]; exact hkn
                  have c4 := HS4.out.row.at_ kk hkn2
                  rw [show (num.set kk (nv + 1)).getD kk 0 = nv + 1 by rw [List.getD_eq_getElem?_getD, List.getElem?_set_self hkn]; rfl] at c4
                  have c2 := HS4.out.ext.cell_ HCL.out
                  clear c1 c3 hwD
                  by_cases hm5 : u5 = 0
                  · subst hm5
                    have MK := Lib.hid (sr_make HS4.out.m hc200 (Nat.le_of_lt hkk) hkk)
                    go_wp2_with (go_at_call 11; refine (make_walk _ HS4.out.heap HS4.out.m.inv (HE.out.ext HS4.out.ext) (by omega) HGB.out (kk : Int) (by omega) (rootB_true.2 (by have hrr := HS4.out.m.lenR; omega)) 8 1 (by omega) (by omega)).mono ?_; rintro e w7 ⟨he, S7, h1, h2⟩; rw [MK.out.1, show errC E 0 = .nilIface from rfl] at he; subst he; have HS5 := Lib.hid (HS4.out.made HZ.out hcb hkk (by rw [putS0 MK.out.1] at h1; exact h1) h2 (by have q := MK.out.2; rw [if_neg (by omega)] at q; exact q) hgw); have HF7 := Lib.hid ((HS4.out.row.keep h2.keep HS4.out.out)); have c7 := HF7.out.frozen kk; have c8 := HF7.out.at_ kk (by first | exact hkn | exact hkn2); clear h1 h2)
                    go_roundg r
                    case measure => omega
                    case rel => exact ⟨j + 1, nv + 1, _, _, _, c + 1, by have := HJ.out; omega, by go_num, rfl, (HS5.out.at (by repeat (first | exact Ext.refl _ | (refine Ext.drew_ ?_) | (refine Ext.drewN_ ?_ _))))⟩
                  · go_wp2
                    go_roundg r
                    case measure => omega
                    case rel => exact ⟨j + 1, nv + 1, _, _, _, c, by have := HJ.out; omega, by go_num, rfl, (HS4.out.at (by repeat (first | exact Ext.refl _ | (refine Ext.drew_ ?_) | (refine Ext.drewN_ ?_ _))))⟩
              · go_upto_region 27 with (go_at_call 13; refine (hMajor_walk _ hS2.out.heap hS2.out.m.inv.ok (HE.out.ext hS2.out.ext) hS2.out.m.inv.chk).mono ?_; rintro e w5 ⟨he, S5, h1, h2⟩; rw [MA.out.1, show errC E 0 = .nilIface from rfl] at he; subst he; have HS3 : Hid (∃ M3 S3, SrS w w1.heap.size hb b g k j nv M3 S3 num c w5) := ⟨_, S5, hS2.out.on HZ.out h1 h2 MA.out.2⟩; clear h1 h2)
                obtain ⟨M3, S3, hS3⟩ := HS3.out
                have HT3 := Lib.hid hS3
                have HH0 := Lib.hid (sr_head hS3.m hc200 hkk (Nat.le_refl _))
                have hb1 : nv + 1 ≤ 1000000000 := by have := hS3.m.nb; omega
                have hb2 : M3.ids.length ≤ 1000000 := by have := hS3.m.ids; omega
                have hb3 : 0 ≤ nv := by have := hS3.m.inv.nx1; omega
                have hkn : kk < num.length := by rw [hS3.m.len]; exact hkk
                have hgl : g < w1.heap.size ∨ w1.heap.size ≤ g := by omega
                obtain ⟨v0, hv0⟩ : ∃ v0, num.getD kk 0 = v0 := ⟨_, rfl⟩
                have HV0 := Lib.hid hv0
                clear hS3 hv0
                go_upto_region 28 with (go_at_call 14; refine (serial_walk _ HT3.out.heap HT3.out.m.inv (HE.out.ext HT3.out.ext) hb1 hb2 (kk : Int) (by omega) HH0.out).mono ?_; rintro e w6 hq; rcases hq with ⟨i, h1, h2, he, h4⟩ | ⟨h1, S4, rfl, h3, h4⟩; (have q := sr_old HT3.out.m hc200 hkk (Nat.le_refl _) h1 h2; rw [HV0.out] at q; rw [q.2] at he; subst he; have HQ1 := Lib.hid q.1; have HX4 := Lib.hid h4; clear h1 h2 h4 q))
                · have Q1 := HQ1.out
                  have hvz : ¬ v0 = 0 := Q1
                  have hvb : (v0 == 0) = false := by simpa using hvz
                  have HS4 := Lib.hid (HT3.out.at HX4.out).up
                  have c1 := HS4.out.row.at_ kk hkn
                  rw [HV0.out] at c1
                  have c2 := HS4.out.ext.cell_ HCL.out
                  clear Q1
                  by_cases hm5 : u5 = 0
                  · subst hm5
                    have MK := Lib.hid (sr_make HS4.out.m hc200 (Nat.le_of_lt hkk) hkk)
                    go_wp2_with (go_at_call 11; refine (make_walk _ HS4.out.heap HS4.out.m.inv (HE.out.ext HS4.out.ext) (by omega) HGB.out (kk : Int) (by omega) (rootB_true.2 (by have hrr := HS4.out.m.lenR; omega)) 8 1 (by omega) (by omega)).mono ?_; rintro e w7 ⟨he, S7, h1, h2⟩; rw [MK.out.1, show errC E 0 = .nilIface from rfl] at he; subst he; have HS5 := Lib.hid (HS4.out.made HZ.out hcb hkk (by rw [putS0 MK.out.1] at h1; exact h1) h2 (by have q := MK.out.2; rw [if_neg (by omega)] at q; exact q) hgw); have HF7 := Lib.hid ((HS4.out.row.keep h2.keep HS4.out.out)); have c7 := HF7.out.frozen kk; have c8 := HF7.out.at_ kk (by first | exact hkn | exact hkn2); clear h1 h2)
                    go_roundg r
                    case measure => omega
                    case rel => exact ⟨j + 1, nv, _, _, _, c + 1, by have := HJ.out; omega, by go_num, rfl, (HS5.out.at (by repeat (first | exact Ext.refl _ | (refine Ext.drew_ ?_) | (refine Ext.drewN_ ?_ _))))⟩
                  · go_wp2
                    go_roundg r
                    case measure => omega
                    case rel => exact ⟨j + 1, nv, _, _, _, c, by have := HJ.out; omega, by go_num, rfl, (HS4.out.at (by repeat (first | exact Ext.refl _ | (refine Ext.drew_ ?_) | (refine Ext.drewN_ ?_ _))))⟩
                · have q := sr_new HT3.out.m hc200 (by omega) hkk (Nat.le_refl _) h1
                  have hz0 : v0 = 0 := HV0.out.symm.trans q.1
                  have HN := Lib.hid (HT3.out.new HZ.out hkk h3 h4 q.2 hgw)
                  have HF6 := Lib.hid (HT3.out.row.keep h4.keep HT3.out.out)
                  have c1 := HF6.out.at_ kk hkn
                  rw [HV0.out, hz0] at c1
                  have c3 := HF6.out.frozen kk
                  have fn1 : IntKind.i64.wrap (nv + 1) = nv + 1 := IntWalk.i64_in _ (by omega)
                  have fn2 : wrap64 (nv + 1) = nv + 1 := IntWalk.wrap64_in _ ⟨by omega, by omega⟩
                  clear h1 h3 h4 q hz0
                  go_upto_region 31 with fail
                  refine named_world' (fun wD hwD => ?_)
                  have HS4 : Hid (SrS w w1.heap.size hb b g k (j + 1) (nv + 1) { M3 with ids := M3.ids ++ [(M3.roots.getD kk 0, nv + 1)] } S4 (num.set kk (nv + 1)) c wD) := by rw [hwD]; exact HN.out.at (by repeat (first | exact Ext.refl _ | (refine Ext.drew_ ?_) | (refine Ext.drewN_ ?_ _)))
                  have hkn2 : kk < (num.set kk (nv + 1)).length := by rw [List.length_set]; exact hkn
                  have c4 := HS4.out.row.at_ kk hkn2
                  rw [show (num.set kk (nv + 1)).getD kk 0 = nv + 1 by rw [List.getD_eq_getElem?_getD, List.getElem?_set_self hkn]; rfl] at c4
                  have c2 := HS4.out.ext.cell_ HCL.out
                  clear c1 c3 hwD
                  by_cases hm5 : u5 = 0
                  · subst hm5
                    have MK := Lib.hid (sr_make HS4.out.m hc200 (Nat.le_of_lt hkk) hkk)
                    go_wp2_with (go_at_call 11; refine (make_walk _ HS4.out.heap HS4.out.m.inv (HE.out.ext HS4.out.ext) (by omega) HGB.out (kk : Int) (by omega) (rootB_true.2 (by have hrr := HS4.out.m.lenR; omega)) 8 1 (by omega) (by omega)).mono ?_; rintro e w7 ⟨he, S7, h1, h2⟩; rw [MK.out.1, show errC E 0 = .nilIface from rfl] at he; subst he; have HS5 := Lib.hid (HS4.out.made HZ.out hcb hkk (by rw [putS0 MK.out.1] at h1; exact h1) h2 (by have q := MK.out.2; rw [if_neg (by omega)] at q; exact q) hgw); have HF7 := Lib.hid ((HS4.out.row.keep h2.keep HS4.out.out)); have c7 := HF7.out.frozen kk; have c8 := HF7.out.at_ kk (by first | exact hkn | exact hkn2); clear h1 h2)
                    go_roundg r
                    case measure => omega
                    case rel => exact ⟨j + 1, nv + 1, _, _, _, c + 1, by have := HJ.out; omega, by go_num, rfl, (HS5.out.at (by repeat (first | exact Ext.refl _ | (refine Ext.drew_ ?_) | (refine Ext.drewN_ ?_ _))))⟩
                  · go_wp2
                    go_roundg r
                    case measure => omega
                    case rel => exact ⟨j + 1, nv + 1, _, _, _, c, by have := HJ.out; omega, by go_num, rfl, (HS4.out.at (by repeat (first | exact Ext.refl _ | (refine Ext.drew_ ?_) | (refine Ext.drewN_ ?_ _))))⟩
              · go_upto_region 27 with fail
                have HS3 : Hid (∃ M3 S3, SrS w w1.heap.size hb b g k j nv M3 S3 num c _) := ⟨M, S, hS2.out.at (by repeat (first | exact Ext.refl _ | (refine Ext.drew_ ?_) | (refine Ext.drewN_ ?_ _)))⟩
                obtain ⟨M3, S3, hS3⟩ := HS3.out
                have HT3 := Lib.hid hS3
                have HH0 := Lib.hid (sr_head hS3.m hc200 hkk (Nat.le_refl _))
                have hb1 : nv + 1 ≤ 1000000000 := by have := hS3.m.nb; omega
                have hb2 : M3.ids.length ≤ 1000000 := by have := hS3.m.ids; omega
                have hb3 : 0 ≤ nv := by have := hS3.m.inv.nx1; omega
                have hkn : kk < num.length := by rw [hS3.m.len]; exact hkk
                have hgl : g < w1.heap.size ∨ w1.heap.size ≤ g := by omega
                obtain ⟨v0, hv0⟩ : ∃ v0, num.getD kk 0 = v0 := ⟨_, rfl⟩
                have HV0 := Lib.hid hv0
                clear hS3 hv0
                go_upto_region 28 with (go_at_call 14; refine (serial_walk _ HT3.out.heap HT3.out.m.inv (HE.out.ext HT3.out.ext) hb1 hb2 (kk : Int) (by omega) HH0.out).mono ?_; rintro e w6 hq; rcases hq with ⟨i, h1, h2, he, h4⟩ | ⟨h1, S4, rfl, h3, h4⟩; (have q := sr_old HT3.out.m hc200 hkk (Nat.le_refl _) h1 h2; rw [HV0.out] at q; rw [q.2] at he; subst he; have HQ1 := Lib.hid q.1; have HX4 := Lib.hid h4; clear h1 h2 h4 q))
                · have Q1 := HQ1.out
                  have hvz : ¬ v0 = 0 := Q1
                  have hvb : (v0 == 0) = false := by simpa using hvz
                  have HS4 := Lib.hid (HT3.out.at HX4.out).up
                  have c1 := HS4.out.row.at_ kk hkn
                  rw [HV0.out] at c1
                  have c2 := HS4.out.ext.cell_ HCL.out
                  clear Q1
                  by_cases hm5 : u5 = 0
                  · subst hm5
                    have MK := Lib.hid (sr_make HS4.out.m hc200 (Nat.le_of_lt hkk) hkk)
                    go_wp2_with (go_at_call 11; refine (make_walk _ HS4.out.heap HS4.out.m.inv (HE.out.ext HS4.out.ext) (by omega) HGB.out (kk : Int) (by omega) (rootB_true.2 (by have hrr := HS4.out.m.lenR; omega)) 8 1 (by omega) (by omega)).mono ?_; rintro e w7 ⟨he, S7, h1, h2⟩; rw [MK.out.1, show errC E 0 = .nilIface from rfl] at he; subst he; have HS5 := Lib.hid (HS4.out.made HZ.out hcb hkk (by rw [putS0 MK.out.1] at h1; exact h1) h2 (by have q := MK.out.2; rw [if_neg (by omega)] at q; exact q) hgw); have HF7 := Lib.hid ((HS4.out.row.keep h2.keep HS4.out.out)); have c7 := HF7.out.frozen kk; have c8 := HF7.out.at_ kk (by first | exact hkn | exact hkn2); clear h1 h2)
                    go_roundg r
                    case measure => omega
                    case rel => exact ⟨j + 1, nv, _, _, _, c + 1, by have := HJ.out; omega, by go_num, rfl, (HS5.out.at (by repeat (first | exact Ext.refl _ | (refine Ext.drew_ ?_) | (refine Ext.drewN_ ?_ _))))⟩
                  · go_wp2
                    go_roundg r
                    case measure => omega
                    case rel => exact ⟨j + 1, nv, _, _, _, c, by have := HJ.out; omega, by go_num, rfl, (HS4.out.at (by repeat (first | exact Ext.refl _ | (refine Ext.drew_ ?_) | (refine Ext.drewN_ ?_ _))))⟩
                · have q := sr_new HT3.out.m hc200 (by omega) hkk (Nat.le_refl _) h1
                  have hz0 : v0 = 0 := HV0.out.symm.trans q.1
                  have HN := Lib.hid (HT3.out.new HZ.out hkk h3 h4 q.2 hgw)
                  have HF6 := Lib.hid (HT3.out.row.keep h4.keep HT3.out.out)
                  have c1 := HF6.out.at_ kk hkn
                  rw [HV0.out, hz0] at c1
                  have c3 := HF6.out.frozen kk
                  have fn1 : IntKind.i64.wrap (nv + 1) = nv + 1 := IntWalk.i64_in _ (by omega)
                  have fn2 : wrap64 (nv + 1) = nv + 1 := IntWalk.wrap64_in _ ⟨by omega, by omega⟩
                  clear h1 h3 h4 q hz0
                  go_upto_region 31 with fail
                  refine named_world' (fun wD hwD => ?_)
                  have HS4 : Hid (SrS w w1.heap.size hb b g k (j + 1) (nv + 1) { M3 with ids := M3.ids ++ [(M3.roots.getD kk 0, nv + 1)] } S4 (num.set kk (nv + 1)) c wD) := by rw [hwD]; exact HN.out.at (by repeat (first | exact Ext.refl _ | (refine Ext.drew_ ?_) | (refine Ext.drewN_ ?_ _)))
                  have hkn2 : kk < (num.set kk (nv + 1)).length := by rw [List.length_set]; exact hkn
                  have c4 := HS4.out.row.at_ kk hkn2
                  rw [show (num.set kk (nv + 1)).getD kk 0 = nv + 1 by rw [List.getD_eq_getElem?_getD, List.getElem?_set_self hkn]; rfl] at c4
                  have c2 := HS4.out.ext.cell_ HCL.out
                  clear c1 c3 hwD
                  by_cases hm5 : u5 = 0
                  · subst hm5
                    have MK := Lib.hid (sr_make HS4.out.m hc200 (Nat.le_of_lt hkk) hkk)
                    go_wp2_with (go_at_call 11; refine (make_walk _ HS4.out.heap HS4.out.m.inv (HE.out.ext HS4.out.ext) (by omega) HGB.out (kk : Int) (by omega) (rootB_true.2 (by have hrr := HS4.out.m.lenR; omega)) 8 1 (by omega) (by omega)).mono ?_; rintro e w7 ⟨he, S7, h1, h2⟩; rw [MK.out.1, show errC E 0 = .nilIface from rfl] at he; subst he; have HS5 := Lib.hid (HS4.out.made HZ.out hcb hkk (by rw [putS0 MK.out.1] at h1; exact h1) h2 (by have q := MK.out.2; rw [if_neg (by omega)] at q; exact q) hgw); have HF7 := Lib.hid ((HS4.out.row.keep h2.keep HS4.out.out)); have c7 := HF7.out.frozen kk; have c8 := HF7.out.at_ kk (by first | exact hkn | exact hkn2); clear h1 h2)
                    go_roundg r
                    case measure => omega
                    case rel => exact ⟨j + 1, nv + 1, _, _, _, c + 1, by have := HJ.out; omega, by go_num, rfl, (HS5.out.at (by repeat (first | exact Ext.refl _ | (refine Ext.drew_ ?_) | (refine Ext.drewN_ ?_ _))))⟩
                  · go_wp2
                    go_roundg r
                    case measure => omega
                    case rel => exact ⟨j + 1, nv + 1, _, _, _, c, by have := HJ.out; omega, by go_num, rfl, (HS4.out.at (by repeat (first | exact Ext.refl _ | (refine Ext.drew_ ?_) | (refine Ext.drewN_ ?_ _))))⟩
          | zero =>
            obtain rfl : j = l.length := by omega
            have hjz : ¬ ((l.length : Nat) : Int) < ((l.length : Nat) : Int) := by omega
            have HXE := Lib.hid hS.out.ext
            clear hj
            go_wp2
            go_ret
            exact ⟨rfl, HXE.out⟩
  all_goals
    go_enter Tryz.func3, Tryz.ntmps3
    go_wp2_with (go_at_call 9; refine (hold_walk E _ HE.out HT.out).mono ?_; rintro e w1 ⟨rfl, hq⟩; have HX1 := Lib.hid hq; clear hq)
    go_ret
    exact ⟨rfl, HX1.out⟩
end Go.Proofs.YtelhoppfidibiaaGreatDoor
/- A memory among the arguments: what its reading tells of the world. -/
namespace Go.Proofs.YtelhoppfidibiaaGreatDoor
open Go.ChangeShapes Go.WideShapes Go.RowKit Go.Deep
set_option linter.unusedVariables false
set_option linter.unusedSimpArgs false

section
variable {H : Type} {enc : TypeId × Value → H} {w : World} {base : Nat} {spare : Nat → Bool} {held : Bool}

theorem rsl_of (a : Addr) (cs : List Value) (h : ∀ i v, cs[i]? = some v → w.cell? (a.add i) = some v) : RSl w (some a) cs := fun j u hu => by
  obtain ⟨b, off, spot⟩ := a
  obtain ⟨hj, _⟩ := List.getElem?_eq_some_iff.1 hu
  have h0 := h 0 (cs[0]'(by omega)) (by simp)
  have hs : spot = none := by simpa [Addr.add] using World.cell?_spot h0
  subst hs
  have hj0 := h j u hu
  refine ⟨b, off, rfl, ?_⟩
  by_cases e : j = 0
  · subst e; simpa [Addr.add] using hj0
  · simpa [Addr.add, e] using hj0
end
end Go.Proofs.YtelhoppfidibiaaGreatDoor
/- Ints among the arguments. -/
namespace Go.Proofs.YtelhoppfidibiaaGreatDoor
open Go.ChangeShapes Go.WideShapes Go.RowKit Go.Deep
set_option linter.unusedVariables false
set_option linter.unusedSimpArgs false

section
variable {H : Type} {enc : TypeId × Value → H} {w : World} {base : Nat} {spare : Nat → Bool} {held : Bool}
theorem read_ints {fuel : Nat} {v : Value} {x : DataW H × List MemPlace} (h : DataW.trod enc Tryz.prog w base spare held fuel 22 [v] = some x) :
    ∃ (a : Option Addr) (c : Nat) (l : List Int), v = .slice a l.length c ∧ RInts w a c l := by
  rcases open_ints (e := 3) (k := .i64) (by kernel_rfl) (by kernel_rfl) (by kernel_rfl) h with ⟨hcs, _⟩ | ⟨a, len, cap, zs, hcs, _, hl, hm, hz, _, hcell, hwf⟩
  · obtain rfl := List.singleton_inj.1 hcs
    exact ⟨none, 0, [], rfl, RInts.nothing w⟩
  · obtain rfl := List.singleton_inj.1 hcs
    have hle : len ≤ zs.length := by rw [hz]; split <;> omega
    have hln : (zs.take len).length = len := by simp; omega
    refine ⟨some a, cap, zs.take len, by rw [hln], rsl_of a _ fun i v hi => ?_, by rw [hln]; exact hl, (fun e => by cases e)⟩
    obtain ⟨hi', hv⟩ := List.getElem?_eq_some_iff.1 hi
    simp only [ints, List.length_map, hln] at hi'
    rw [hcell i (by omega), ← hv]
    simp [ints, List.getD_eq_getElem?_getD, show i < zs.length by omega]
end
end Go.Proofs.YtelhoppfidibiaaGreatDoor
/- The law HeapSerials: its contract: whatever it is given it answers true, and leaves what was there. -/
namespace Go.Proofs.YtelhoppfidibiaaGreatDoor.HeapSerials
open Go.ChangeShapes Go.WideShapes Go.ChangeAt Go.RowKit
open Go.ChangeMaps (open_string)
set_option linter.unusedVariables false
set_option linter.unusedSimpArgs false

set_option maxRecDepth 100000 in
theorem contract (H : Type) (enc : TypeId × Value → H) (W : World) (base : Nat) (args : Array Value) (ds gs : List (DataW H)) (before : List MemPlace)
    (hval : ∀ (j : Nat) t v, Tryz.f3.params[j]? = some t → args[j]? = some v → Value.okWide Tryz.prog W .any base t v)
    (hW : DataW.Whole enc Tryz.prog Tryz.f3.params.toList Rows.heapSerialsSpec.vars false W args.toList ds gs before)
    (hsz : (DataW.weightsEach Tryz.prog (Tryz.f3.params.toList ++ (OpenSpec.ofChange Rows.heapSerialsSpec).bare.plain.varTypes Tryz.prog) (ds ++ gs)).all (· ≤ reachBytes) = true) (hL : laidMetH Tryz.prog Rows.heapSerialsRow.laid W) :
    Calls Tryz.prog 3 args W fun e W' => ∃ v, e = .returned v ∧ Rows.heapSerialsSpec.post enc Tryz.prog Tryz.f3 false true false false W args v W' := by
  have hW' := hW
  obtain ⟨p, q, hA0, hV, rfl, hfz, hnd⟩ := hW
  have hA : DataW.TrodAll enc Tryz.prog W 0 (fun _ => true) true Tryz.f3.params.toList args.toList ds p := hA0
  rw [Tryz.params3] at hA hval
  obtain ⟨v0, vs0, d0, ds0, p0, q0, hargs, rfl, rfl, h0, r0⟩ := trodAll_cons hA
  obtain ⟨v1, vs1, d1, ds1, p1, q1, rfl, rfl, rfl, h1, r1⟩ := trodAll_cons r0
  obtain ⟨v2, vs2, d2, ds2, p2, q2, rfl, rfl, rfl, h2, r2⟩ := trodAll_cons r1
  obtain ⟨rfl, rfl, rfl⟩ := trodAll_nil r2
  obtain rfl : args = #[v0, v1, v2] := by cases args; simp_all
  obtain ⟨rfl, rfl⟩ := trodVars_none hV
  obtain ⟨x0, rfl, rfl, rfl, w0⟩ := open_int Tryz.underlying3 (hval 0 3 v0 rfl rfl) h0
  obtain ⟨pa1, pl1, pc1, rfl⟩ := okWide_slice Tryz.underlying22 (hval 1 22 v1 rfl rfl)
  obtain ⟨fuel1, hh1⟩ := id h1
  obtain ⟨a1, c1, x1, e1, hR1⟩ := read_ints hh1
  obtain ⟨rfl, rfl, rfl⟩ := Value.slice.inj e1
  obtain ⟨x2, rfl, rfl, rfl, w2⟩ := open_int Tryz.underlying3 (hval 2 3 v2 rfl rfl) h2
  obtain ⟨E, hE⟩ := g4_of_laid (W := W) (hL.filter fun x => laid4.any (·.1 == x.1))
  have hT : Tabs W := tabs_of_laid (hL.filter fun x => x.1 == "math/bits.deBruijn64tab" || x.1 == "internal/strconv.uint64pow10")
  clear hA0
  refine (heapSerials_any x0 pa1 pc1 x1 x2 W E hE hT hR1).mono fun e W' ⟨he, hg⟩ => ?_
  subst he
  exact ⟨_, rfl, law_post rfl rfl hW' (by simp [Rows.heapSerialsSpec]) (by decide +kernel) hg⟩
end Go.Proofs.YtelhoppfidibiaaGreatDoor.HeapSerials
/- The law HeapSerials: its row's step, out of the contract; an input that fits. -/
namespace Go.Proofs.YtelhoppfidibiaaGreatDoor.HeapSerials
open Go.ChangeShapes Go.WideShapes Go.ChangeAt Go.RowKit

theorem laid_met (os : Os) : laidMetH Tryz.prog Rows.heapSerialsRow.laid ((World.doorLaid Tryz.prog 200 os).forCall (fun _ _ => 0) ⟨#[], #[.int .i64 0, .slice none 0 0, .int .i64 0], []⟩).memory :=
  laidMetH_of_parts3 (fuel := 8) (laidMet_of_run' 8 (by kernel_rfl) (by kernel_rfl)) (by kernel_rfl) (by kernel_rfl)
theorem reads (os : Os) {H : Type} (enc : TypeId × Value → H) : ∃ places, DataW.whole enc Tryz.prog ((World.doorLaid Tryz.prog 200 os).forCall (fun _ _ => 0) ⟨#[], #[.int .i64 0, .slice none 0 0, .int .i64 0], []⟩).memory Tryz.f3.params.toList Rows.heapSerialsSpec.vars false #[.int .i64 0, .slice none 0 0, .int .i64 0].toList 8 = some ([.lit (.int .i64 0), .nil, .lit (.int .i64 0)], [], places) :=
  ⟨[], by kernel_rfl⟩

set_option maxRecDepth 100000 in
theorem lifted (os : Os) (started : os.Started) (H : Type) (enc : TypeId × Value → H) (F : Stop.Interp) :
    ReturnsInHanded {} Tryz.checked os 3 .any ((OpenSpec.ofChange Rows.heapSerialsSpec).preRow enc Tryz.prog Tryz.f3 Rows.heapSerialsRow.domain false Rows.heapSerialsRow.laid) (((OpenSpec.ofChange Rows.heapSerialsSpec).at F).post enc Tryz.prog Tryz.f3 false true false false) := by
  obtain ⟨places, hx⟩ := reads os enc
  refine returnsInHanded_of_row (C := Tryz.checked) (s := OpenSpec.ofChange Rows.heapSerialsSpec) own started (by kernel_rfl) Tryz.func3
    (witness_row_atRef (enc := enc) (C := Tryz.checked) false (World.doorLaid Tryz.prog 200 os) #[.int .i64 0, .slice none 0 0, .int .i64 0] rfl (by kernel_rfl) (by kernel_rfl) (by kernel_rfl)
      (OpenSpec.preRow_of_cond 8 hx (by kernel_rfl) (fun k hk => by cases hk) (by kernel_rfl) (laid_met os))) ?_
  intro W base args ds gs before hval hW _ _ hsz hL _ _
  exact contract H enc W base args ds gs before hval hW hsz hL
end Go.Proofs.YtelhoppfidibiaaGreatDoor.HeapSerials
/- The law HeapSerials: the statement, closed. -/
namespace Go.Proofs.YtelhoppfidibiaaGreatDoor.HeapSerials
open Go.ChangeShapes Go.WideShapes Go.ChangeAt Go.RowKit

set_option maxRecDepth 100000 in
theorem said : Rows.HeapSerialsSaid :=
  OpenClaim.holds_of_cond 3 Tryz.f3 rfl rfl rfl rfl rfl rfl rfl ⟨rfl, rfl, rfl, rfl, rfl⟩ rfl rfl rfl rfl rfl (by kernel_rfl) Tryz.func3 closed
    (of_decide_eq_true (by kernel_rfl)) (by unfold Func.isWrapper; first | (rw [if_pos (by decide +kernel)]; kernel_rfl) | (rw [if_neg (by decide +kernel)]; exact ⟨rfl, rfl⟩))
    (fun os started H enc _ F => by rw [OpenClaim.pre_eq_preRow]; exact lifted os started H enc F)

theorem looks0 : true = Tryz.pinned.checked.prog.looks [] := by kernel_rfl
/-- No parameter wants a stand-in; the looks are the program's own. -/
theorem plain (f : FuncId) (fn : Func) (hf : Tryz.pinned.checked.prog.funcNamed "nurserypy/nurserypylaw3.HeapSerials" = some f) (hfn : Tryz.pinned.checked.prog.funcs[f]? = some fn) :
    true = Tryz.pinned.checked.prog.looks [] ∧ ∀ (j : Nat) t, fn.params[j]? = some t → Tryz.pinned.checked.prog.wantsStandIn t = false := by
  obtain rfl : f = 3 := Option.some.inj ((show Tryz.prog.funcNamed "nurserypy/nurserypylaw3.HeapSerials" = some 3 by kernel_rfl).symm.trans hf) |>.symm
  obtain rfl : fn = Tryz.f3 := (Option.some.inj (Tryz.func3.symm.trans hfn)).symm
  refine ⟨looks0, fun j t ht => ?_⟩
  rw [Tryz.params3] at ht
  have hm := Array.mem_of_getElem? ht
  simp only [List.mem_toArray, List.mem_cons, List.not_mem_nil, or_false] at hm
  rcases hm with rfl | rfl | rfl
  · exact (show Tryz.prog.wantsStandIn 3 = false by kernel_rfl)
  · exact (show Tryz.prog.wantsStandIn 22 = false by kernel_rfl)
  · exact (show Tryz.prog.wantsStandIn 3 = false by kernel_rfl)
theorem wfT : Rows.heapSerialsRow.wfByText (OpenSpec.ofChange Rows.heapSerialsSpec) = true := by kernel_rfl
theorem goesB : false = Rows.heapSerialsRow.goesBy Tryz.pinned.checked.prog := by kernel_rfl
theorem mainI : Tryz.pinned.checked.prog.mainIs = some (Rows.heapSerialsCard.stood.harness.1, Rows.heapSerialsCard.stood.harness.2.toList) := by kernel_rfl

/-- THE STATEMENT. -/
theorem heapSerials_holds : Rows.HeapSerialsCardSaid :=
  Claim7.holds_tied_plain_at .later [] _ _ _ _ said (fun _ h => by cases h) wfT (fun _ h => by cases h) heapSerials_row_tie rfl ⟨rfl, rfl⟩ mainI rfl plain goesB
end Go.Proofs.YtelhoppfidibiaaGreatDoor.HeapSerials
