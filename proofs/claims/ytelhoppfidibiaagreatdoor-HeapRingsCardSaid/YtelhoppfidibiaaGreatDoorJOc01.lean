/- The law HeapRings: the closed facts of its row, each by itself. -/
import Derived.Test.YtelhoppfidibiaaGreatDoorCards
import Derived.JoinedCond
import Derived.Lib.SmallJoins
import Derived.ProofKit
import Derived.Test.YtelhoppfidibiaaGreatDoorJOb07
import Derived.Test.YtelhoppfidibiaaGreatDoorJOb03
import Derived.Test.YtelhoppfidibiaaGreatDoorJOb05
import Derived.Test.YtelhoppfidibiaaGreatDoorJOb01
import Derived.Deep.LoopGhost
import Derived.Test.YtelhoppfidibiaaGreatDoorJOa43
import Derived.Test.YtelhoppfidibiaaGreatDoorJOa42
import Derived.Test.YtelhoppfidibiaaGreatDoorTie
namespace Go.Proofs.YtelhoppfidibiaaGreatDoor.HeapRings
open Go.ChangeShapes Go.WideShapes Go.ChangeAt Go.RowKit

set_option maxHeartbeats 40000000 in
theorem closed : joinedFacts Tryz.prog 5 Tryz.f5 (OpenSpec.ofChange Rows.heapRingsSpec).bare Rows.heapRingsRow = true := by
  unfold joinedFacts
  repeat' (with_reducible refine Bool.and_eq_true_iff.2 ⟨?_, ?_⟩)
  all_goals as_aux_lemma => kernel_rfl
end Go.Proofs.YtelhoppfidibiaaGreatDoor.HeapRings
/- The law HeapRings, plainly. -/
namespace Go.Proofs.YtelhoppfidibiaaGreatDoor
open Go.RowKit
set_option linter.unusedVariables false
set_option linter.unusedSimpArgs false

theorem hd9 : hKind (headW 9 0 0 1) = 9 ∧ hSize (headW 9 0 0 1) = 1 ∧ rawB 9 = false := by decide
theorem fill9 : List.replicate 1 (fillW 9) = [2] := by decide
/-- A ring that is built: so many nodes, each holds the one ahead of it. -/
structure RingI (I : Ideal) (i : Nat) : Prop where
  lenV : I.V.length = 2 * i
  P : I.P = (List.range i).map (2 * ·)
  hd : ∀ j, j < i → wat I.V (2 * j) = headW 9 0 0 1
  fld : ∀ j, 1 ≤ j → j < i → wat I.V (2 * j + 1) = addrW ((2 * (j - 1) : Nat) : Int)
  lenR : I.roots.length = 3
  r0 : I.roots.getD 0 0 = addrW ((0 : Nat) : Int)
  r1 : I.roots.getD 1 0 = addrW ((2 * (i - 1) : Nat) : Int)
theorem rgD_same {l : List Int} {r : Nat} {x : Int} (h : r < l.length) : (l.set r x).getD r 0 = x := by
  rw [List.getD_eq_getElem?_getD, List.getElem?_set_self h]; rfl
theorem rgD_ne {l : List Int} {r s : Nat} {x : Int} (h : r ≠ s) : (l.set r x).getD s 0 = l.getD s 0 := by
  rw [List.getD_eq_getElem?_getD, List.getD_eq_getElem?_getD, List.getElem?_set_ne h]
theorem RingI.at_ {I : Ideal} {i : Nat} (h : RingI I i) {j : Nat} (hj : j < i) : rawB (hKind (wat I.V (2 * j))) = false ∧ szW I.V (2 * j) = 1 := by
  rw [h.hd j hj, hd9.1]
  refine ⟨hd9.2.2, ?_⟩
  unfold szW
  rw [h.hd j hj, hd9.2.1]; rfl
theorem ring_sum {I : Ideal} {i : Nat} (h : RingI I i) : (I.P.map fun a => 1 + szW I.V a).sum = 2 * i := by
  rw [h.P, List.map_map]
  have e : ((fun a => 1 + szW I.V a) ∘ fun x => 2 * x) = fun x => 1 + szW I.V (2 * x) := rfl
  rw [e]
  have : ∀ n, n ≤ i → ((List.range n).map fun x => 1 + szW I.V (2 * x)).sum = 2 * n := by
    intro n
    induction n with
    | zero => intro _; rfl
    | succ n ih =>
      intro hn
      rw [List.range_succ, List.map_append, List.sum_append, ih (by omega)]
      simp only [List.map_cons, List.map_nil, List.sum_cons, List.sum_nil]
      rw [(h.at_ (show n < i by omega)).2]; omega
  exact this i (Nat.le_refl _)
/-- The memory of the law. -/
structure RgM (M : Mem) (old : Int) (i : Nat) : Prop where
  inv : HInv M 1
  old : M.old = old
  lenR : M.roots.length = 3
  ideal : ∃ I, Holds I M ∧ RingI I i
/-- What each walk asks. -/
structure RgA (M : Mem) : Prop where
  inv : HInv M 1
  lenR : M.roots.length = 3
theorem RgM.a {M : Mem} {old : Int} {i : Nat} (h : RgM M old i) : RgA M := ⟨h.inv, h.lenR⟩
def rgM1 (M : Mem) (r : Nat) : Mem := rootM (objM M 1 9 1) r (addrW (objPl M 1 1))
theorem rgM1_inv {M : Mem} (h : HInv M 1) (hc : objC M 1 1 = 0) (r : Nat) : HInv (rgM1 M r) 1 ∧ SameH M (rgM1 M r) := by
  exact make_inv (ten := 1) (by omega) h 9 1 (by omega) (by omega) hc r
theorem rg_first {half old : Int} (hk : newOK half old 4 = true) :
    (objC (newHM half old 4 3) 1 1 ≠ 0 → old < 2) ∧ (objC (newHM half old 4 3) 1 1 = 0 → RgA (rgM1 (newHM half old 4 3) 0) ∧ RgM (rootM (rgM1 (newHM half old 4 3) 0) 1 ((rgM1 (newHM half old 4 3) 0).roots.getD 0 0)) old 1) := by
  have hI := newHM_inv half old 4 3 hk (by omega)
  have hH := holds_fresh half old 4 3
  refine ⟨fun hc => ?_, fun hc => ?_⟩
  · have h1 := obj_full (ten := 1) (by omega) hI hc
    rw [hH.live hI, live_none _ (fun u hu => by rw [show u = 2 from (List.mem_replicate.1 hu).2]; decide)] at h1
    have e : (newHM half old 4 3).old = old := rfl
    rw [e] at h1
    omega
  · obtain ⟨i1, s1⟩ := rgM1_inv hI hc 0
    have hm := hH.make (ten := 1) (by omega) hI 9 1 (by omega) (by omega) hc 0 (by simp [Ideal.fresh])
    rw [fill9] at hm
    have l1 : (rgM1 (newHM half old 4 3) 0).roots.length = 3 := by rw [s1.roots]; simp [newHM]
    have hcp := hm.copy 1 (s := 0) (by simp [Ideal.setR, Ideal.new, Ideal.fresh])
    obtain ⟨i2, s2⟩ := copyR_inv i1 1 0 (by omega)
    refine ⟨⟨i1, l1⟩, i2, s2.old.trans s1.old, by rw [s2.roots, l1], _, hcp, ?_⟩
    refine ⟨by simp [Ideal.setR, Ideal.new, Ideal.fresh], by simp [Ideal.setR, Ideal.new, Ideal.fresh], fun j hj => ?_, fun j h1 h2 => by omega, by simp [Ideal.setR, Ideal.new, Ideal.fresh], ?_, ?_⟩
    · obtain rfl : j = 0 := by omega
      exact new_hd (Ideal.fresh 3) 9 [2]
    · simp [Ideal.setR, Ideal.new, Ideal.fresh]
    · simp [Ideal.setR, Ideal.new, Ideal.fresh]
def rgM2 (M : Mem) : Mem := storeM (rgM1 M 2) (fieldP (rgM1 M 2) 2 0) ((rgM1 M 2).roots.getD 1 0)
def rgM3 (M : Mem) : Mem := rootM (rgM2 M) 1 ((rgM2 M).roots.getD 2 0)
theorem rg_live {M : Mem} {old : Int} {i : Nat} (h : RgM M old i) : liveM M ≤ 2 * i := by
  obtain ⟨I, ⟨D, f, hR⟩, hr⟩ := h.ideal
  have hg := (chk_zero h.inv.chk).1
  rw [hR.live hg, ← ring_sum hr]
  exact hR.live_le hg
theorem rg_step {M : Mem} {old : Int} {i : Nat} (h : RgM M old i) (hi : 1 ≤ i) (hi2 : i ≤ 1000) :
    (objC M 1 1 ≠ 0 → old < 2 * ((i : Int) + 1)) ∧ (objC M 1 1 = 0 → RgA (rgM1 M 2) ∧ fieldC (rgM1 M 2) 2 0 1 = 0 ∧ RgA (rgM2 M) ∧ RgM (rgM3 M) old (i + 1)) := by
  refine ⟨fun hc => ?_, fun hc => ?_⟩
  · have h1 := obj_full (ten := 1) (by omega) h.inv hc
    have h2 := rg_live h
    rw [h.old] at h1
    omega
  · obtain ⟨I, hH, hr⟩ := h.ideal
    obtain ⟨i1, s1⟩ := rgM1_inv h.inv hc 2
    have hm := hH.make (ten := 1) (by omega) h.inv 9 1 (by omega) (by omega) hc 2 (by rw [hr.lenV]; omega)
    rw [fill9, hr.lenV] at hm
    have l1 : (rgM1 M 2).roots.length = 3 := by rw [s1.roots]; exact h.lenR
    have e0 : ((I.new 9 [2]).setR 2 (addrW ((2 * i : Nat) : Int))).roots = I.roots.set 2 (addrW ((2 * i : Nat) : Int)) := rfl
    have e1 : ((I.new 9 [2]).setR 2 (addrW ((2 * i : Nat) : Int))).V = (I.new 9 [2]).V := rfl
    have lr : ((I.new 9 [2]).setR 2 (addrW ((2 * i : Nat) : Int))).roots.length = 3 := by rw [e0, List.length_set]; exact hr.lenR
    have hnew : wat (I.new 9 [2]).V (2 * i) = headW 9 0 0 1 := by have := new_hd I 9 [2]; rw [hr.lenV] at this; exact this
    have hat : RootAt ((I.new 9 [2]).setR 2 (addrW ((2 * i : Nat) : Int))) 2 (2 * i) 0 := by
      refine ⟨by omega, ?_, ?_, ?_⟩
      · rw [e0, rgD_same (by rw [hr.lenR]; omega)]
        exact (pts_addr (by omega)).1
      · rw [e1, hnew, hd9.1]; exact hd9.2.2
      · rw [e1]; unfold szW; rw [hnew, hd9.2.1]; decide
    obtain ⟨c1, hp⟩ := Holds.put hm i1 (s := 1) hat (by omega)
    have c2 : fieldC (rgM1 M 2) 2 0 1 = 0 := c1
    obtain ⟨i2, s2⟩ := put_inv i1 c2
    have l2 : (rgM2 M).roots.length = 3 := by
      have := s2.roots
      show (storeM (rgM1 M 2) (fieldP (rgM1 M 2) 2 0) ((rgM1 M 2).roots.getD 1 0)).roots.length = 3
      rw [show (1 : Int).toNat = 1 from rfl] at this
      rw [this, l1]
    have hp2 : Holds (((I.new 9 [2]).setR 2 (addrW ((2 * i : Nat) : Int))).put (2 * i + 1 + 0) (((I.new 9 [2]).setR 2 (addrW ((2 * i : Nat) : Int))).roots.getD 1 0)) (rgM2 M) := hp
    have i2' : HInv (rgM2 M) 1 := i2
    have o2 : (rgM2 M).old = M.old := by have := s2.old; exact this.trans s1.old
    have hcp := hp2.copy 1 (s := 2) (by show 2 < (I.roots.set 2 _).length; rw [List.length_set, hr.lenR]; omega)
    obtain ⟨i3, s3⟩ := copyR_inv i2' 1 2 (by omega)
    refine ⟨⟨i1, l1⟩, c2, ⟨i2', l2⟩, i3, s3.old.trans (o2.trans h.old), by show (rootM (rgM2 M) 1 ((rgM2 M).roots.getD 2 0)).roots.length = 3; rw [s3.roots, l2], _, hcp, ?_⟩
    have r1e : (((I.new 9 [2]).setR 2 (addrW ((2 * i : Nat) : Int))).roots.getD 1 0) = addrW ((2 * (i - 1) : Nat) : Int) := by
      rw [e0, rgD_ne (by omega)]; exact hr.r1
    rw [r1e]
    have eV : ((((I.new 9 [2]).setR 2 (addrW ((2 * i : Nat) : Int))).put (2 * i + 1 + 0) (addrW ((2 * (i - 1) : Nat) : Int))).setR 1 ((((I.new 9 [2]).setR 2 (addrW ((2 * i : Nat) : Int))).put (2 * i + 1 + 0) (addrW ((2 * (i - 1) : Nat) : Int))).roots.getD 2 0)).V = (I.new 9 [2]).V.set (2 * i + 1) (addrW ((2 * (i - 1) : Nat) : Int)) := rfl
    have eR : ((((I.new 9 [2]).setR 2 (addrW ((2 * i : Nat) : Int))).put (2 * i + 1 + 0) (addrW ((2 * (i - 1) : Nat) : Int))).setR 1 ((((I.new 9 [2]).setR 2 (addrW ((2 * i : Nat) : Int))).put (2 * i + 1 + 0) (addrW ((2 * (i - 1) : Nat) : Int))).roots.getD 2 0)).roots = (I.roots.set 2 (addrW ((2 * i : Nat) : Int))).set 1 ((I.roots.set 2 (addrW ((2 * i : Nat) : Int))).getD 2 0) := rfl
    have lnew : (I.new 9 [2]).V.length = 2 * i + 2 := by unfold Ideal.new; simp [hr.lenV]
    refine ⟨by rw [eV, List.length_set, lnew]; omega, ?_, fun j hj => ?_, fun j h1 h2 => ?_, by rw [eR, List.length_set, List.length_set]; exact hr.lenR, ?_, ?_⟩
    · show I.P ++ [I.V.length] = _
      rw [hr.P, hr.lenV, List.range_succ, List.map_append]; rfl
    · rw [eV, wat_set _ _ _ _ (by omega)]
      by_cases e : j = i
      · subst e; exact hnew
      · rw [new_old I 9 [2] (by rw [hr.lenV]; omega)]; exact hr.hd j (by omega)
    · rw [eV]
      by_cases e : j = i
      · subst e
        rw [wat_set_same _ _ _ (by rw [lnew]; omega)]
      · rw [wat_set _ _ _ _ (by omega), new_old I 9 [2] (by rw [hr.lenV]; omega)]; exact hr.fld j h1 (by omega)
    · rw [eR, rgD_ne (by omega), rgD_ne (by omega)]; exact hr.r0
    · rw [eR, rgD_same (by rw [List.length_set, hr.lenR]; omega), rgD_same (by rw [hr.lenR]; omega)]; rfl
/-- The end: the first one holds the last one; other roots hold nothing. -/
def rgE1 (M : Mem) : Mem := storeM M (fieldP M 0 0) (M.roots.getD 1 0)
def rgE3 (M : Mem) : Mem := rootM (rootM (rgE1 M) 1 2) 2 2
def rgE4 (M : Mem) (keep : Bool) : Mem := if keep then rgE3 M else rootM (rgE3 M) 0 2
structure RgEnd (M : Mem) (old : Int) (n : Nat) (keep : Bool) : Prop where
  c : fieldC M 0 0 1 = 0
  a1 : RgA (rgE1 M)
  a2 : RgA (rootM (rgE1 M) 1 2)
  a3 : RgA (rgE3 M)
  inv : HInv (rgE4 M keep) 1
  live : liveM (rgE4 M keep) = if keep then 2 * n else 0
  old : (rgE4 M keep).old = old
theorem rg_end {M : Mem} {old : Int} {n : Nat} (h : RgM M old n) (hn : 1 ≤ n) (hn2 : n ≤ 1000) (keep : Bool) : RgEnd M old n keep := by
  obtain ⟨I, hH, hr⟩ := h.ideal
  have hat : RootAt I 0 0 0 := ⟨by rw [hr.lenR]; omega, by rw [hr.r0]; exact (pts_addr (by omega)).1, (hr.at_ (j := 0) (by omega)).1, by have := (hr.at_ (j := 0) (by omega)).2; rw [Nat.mul_zero] at this; omega⟩
  obtain ⟨c1, hp⟩ := Holds.put hH h.inv (s := 1) hat (by rw [hr.lenR]; omega)
  have c2 : fieldC M 0 0 1 = 0 := c1
  obtain ⟨i1, s1⟩ := put_inv h.inv c2
  have i1' : HInv (rgE1 M) 1 := i1
  have l1 : (rgE1 M).roots.length = 3 := by
    have := s1.roots
    show (storeM M (fieldP M 0 0) (M.roots.getD 1 0)).roots.length = 3
    rw [show (1 : Int).toNat = 1 from rfl] at this
    rw [this]; exact h.lenR
  have o1 : (rgE1 M).old = old := by have := s1.old; exact this.trans h.old
  have hp1 : Holds (I.put (0 + 1 + 0) (I.roots.getD 1 0)) (rgE1 M) := hp
  obtain ⟨i2, s2⟩ := none_inv i1' 1
  obtain ⟨i3, s3⟩ := none_inv i2 2
  have hp3 : Holds (((I.put (0 + 1 + 0) (I.roots.getD 1 0)).setR 1 2).setR 2 2) (rgE3 M) := (hp1.plain 1 (u := 2) (by decide)).plain 2 (u := 2) (by decide)
  have l2 : (rootM (rgE1 M) 1 2).roots.length = 3 := by rw [s2.roots, l1]
  have l3 : (rgE3 M).roots.length = 3 := by show (rootM (rootM (rgE1 M) 1 2) 2 2).roots.length = 3; rw [s3.roots, l2]
  have o3 : (rgE3 M).old = old := s3.old.trans (s2.old.trans o1)
  obtain ⟨i4, s4⟩ := none_inv (show HInv (rgE3 M) 1 from i3) 0
  refine ⟨c2, ⟨i1', l1⟩, ⟨i2, l2⟩, ⟨i3, l3⟩, ?_, ?_, ?_⟩
  · unfold rgE4; split
    · exact i3
    · exact i4
  · have eR : (((I.put (0 + 1 + 0) (I.roots.getD 1 0)).setR 1 2).setR 2 2).roots = (I.roots.set 1 2).set 2 2 := rfl
    have eV : (((I.put (0 + 1 + 0) (I.roots.getD 1 0)).setR 1 2).setR 2 2).V = I.V.set 1 (I.roots.getD 1 0) := rfl
    cases keep with
    | false =>
      unfold rgE4
      rw [if_neg (by simp), if_neg (by simp)]
      rw [(hp3.plain 0 (u := 2) (by decide)).live i4]
      refine live_none _ fun u hu => ?_
      have e : ((((I.put (0 + 1 + 0) (I.roots.getD 1 0)).setR 1 2).setR 2 2).setR 0 2).roots = ((I.roots.set 1 2).set 2 2).set 0 2 := rfl
      rw [e] at hu
      have h3 := hr.lenR
      generalize I.roots = R at *
      match R, h3 with
      | [a, b, c], _ =>
        simp at hu
        rw [hu]; decide
    | true =>
      unfold rgE4
      rw [if_pos rfl, if_pos rfl]
      rw [hp3.live (show HInv (rgE3 M) 1 from i3)]
      obtain ⟨D, f, hR⟩ := hp3
      have hg := (chk_zero (show HInv (rgE3 M) 1 from i3).chk).1
      have hdk : ∀ j, j < n → wat (((I.put (0 + 1 + 0) (I.roots.getD 1 0)).setR 1 2).setR 2 2).V (2 * j) = headW 9 0 0 1 := fun j hj => by rw [eV, wat_set _ _ _ _ (by omega)]; exact hr.hd j hj
      have hat2 : ∀ j, j < n → rawB (hKind (wat (((I.put (0 + 1 + 0) (I.roots.getD 1 0)).setR 1 2).setR 2 2).V (2 * j))) = false ∧ szW (((I.put (0 + 1 + 0) (I.roots.getD 1 0)).setR 1 2).setR 2 2).V (2 * j) = 1 := fun j hj => by
        unfold szW
        rw [hdk j hj, hd9.1, hd9.2.1]
        exact ⟨hd9.2.2, rfl⟩
      have z : 0 ∈ (reachI (((I.put (0 + 1 + 0) (I.roots.getD 1 0)).setR 1 2).setR 2 2)).map (·.a) := by
        refine reachI_roots _ (u := addrW ((0 : Nat) : Int)) ?_ (pts_addr (by omega)).1
        rw [eR, ← hr.r0]
        have h3 := hr.lenR
        generalize I.roots = R at *
        match R, h3 with
        | [a, b, c], _ => simp
      have last : 2 * (n - 1) ∈ (reachI (((I.put (0 + 1 + 0) (I.roots.getD 1 0)).setR 1 2).setR 2 2)).map (·.a) := by
        refine hR.shut hg z (k := 0) (hat2 0 (by omega)).1 (by have := (hat2 0 (by omega)).2; rw [Nat.mul_zero] at this; omega) ?_
        rw [eV, wat_set_same _ _ _ (by rw [hr.lenV]; omega), hr.r1]
        exact (pts_addr (by omega)).1
      have all_ : ∀ d, d < n → 2 * (n - 1 - d) ∈ (reachI (((I.put (0 + 1 + 0) (I.roots.getD 1 0)).setR 1 2).setR 2 2)).map (·.a) := by
        intro d
        induction d with
        | zero => intro _; exact last
        | succ d ih =>
          intro hd
          have hj : n - 1 - d < n := by omega
          refine hR.shut hg (ih (by omega)) (k := 0) (hat2 _ hj).1 (by rw [(hat2 _ hj).2]; omega) ?_
          rw [eV, wat_set _ _ _ _ (by omega), show 2 * (n - 1 - d) + 1 + 0 = 2 * (n - 1 - d) + 1 from rfl, hr.fld _ (by omega) hj]
          rw [show n - 1 - d - 1 = n - 1 - (d + 1) by omega]
          exact (pts_addr (by omega)).1
      have eP : (((I.put (0 + 1 + 0) (I.roots.getD 1 0)).setR 1 2).setR 2 2).P = (List.range n).map (2 * ·) := hr.P
      rw [hR.live_all hg (by
        rw [eP]
        unfold List.Nodup
        rw [List.pairwise_map]
        exact List.nodup_range.imp fun {a b} hab e => hab (by omega)) (fun a ha => by
        rw [eP] at ha
        obtain ⟨j, hj, rfl⟩ := List.mem_map.1 ha
        have hj2 := List.mem_range.1 hj
        have := all_ (n - 1 - j) (by omega)
        rwa [show n - 1 - (n - 1 - j) = j by omega] at this)]
      rw [eP, List.map_map]
      have : ∀ m, m ≤ n → ((List.range m).map ((fun a => 1 + szW (((I.put (0 + 1 + 0) (I.roots.getD 1 0)).setR 1 2).setR 2 2).V a) ∘ fun x => 2 * x)).sum = 2 * m := by
        intro m
        induction m with
        | zero => intro _; rfl
        | succ m ih =>
          intro hm
          rw [List.range_succ, List.map_append, List.sum_append, ih (by omega)]
          simp only [List.map_cons, List.map_nil, List.sum_cons, List.sum_nil, Function.comp]
          rw [(hat2 m (by omega)).2]; omega
      exact this n (Nat.le_refl _)
  · unfold rgE4; split
    · exact o3
    · exact s4.old.trans o3
end Go.Proofs.YtelhoppfidibiaaGreatDoor
/- The law HeapRings, walked. -/
namespace Go.Proofs.YtelhoppfidibiaaGreatDoor
open Go.RowKit
set_option linter.unusedVariables false
set_option linter.unusedSimpArgs false

theorem hnew3r_yes (half old card ten : Int) (h : newOK half old card = true) (ht : 0 ≤ ten ∧ ten ≤ 15) (w : World) :
    Calls Tryz.prog 10 #[.agg #[.int .i64 half, .int .i64 old, .int .i64 card, .int .i64 ten], .int .i64 3] w (HNewPost w ten (newHM half old card 3)) := hnew_yes half old card ten 3 h ht (by omega) w
theorem putR0 {N : Mem} {c : Int} {r : Nat} {x : Int} (h : c = 0) : putR N c r x = rootM N r x := by unfold putR; rw [if_pos h]
theorem errC_no {E : Nat → Addr} {c : Int} (h : c ≠ 0) : ∃ ea, errC E c = errV ea := ⟨_, by unfold errC; rw [if_neg h]⟩
theorem rga_const {M : Mem} (h : RgA M) {w : World} {B hb b r : Nat} {S : Sls} {ten nx : Int} (_ : OHeap w B hb b (putR M (constC 0) r (constV 0)) S ten nx) : RgA (putR M (constC 0) r (constV 0)) := by
  obtain ⟨i1, s1⟩ := none_inv h.inv r
  exact ⟨i1, s1.roots.trans h.lenR⟩
set_option maxRecDepth 100000 in
set_option maxHeartbeats 8000000 in
theorem heapRings_any (n half old : Int) (keep : Bool) (w : World) (E : Nat → Addr) (hE : G4 E w) (hT : Tabs w) :
    Calls Tryz.prog 5 #[.int .i64 n, .int .i64 half, .int .i64 old, .bool keep] w fun e w' => e = .returned (.bool true) ∧ Ext w w' := by
  have HE := Lib.hid hE
  have HT := Lib.hid hT
  clear hE hT
  have h7 : n < 1 ∨ (¬ n < 1 ∧ 40 < n) ∨ (¬ n < 1 ∧ ¬ 40 < n ∧ half < 1) ∨ (¬ n < 1 ∧ ¬ 40 < n ∧ ¬ half < 1 ∧ 200 < half) ∨ (¬ n < 1 ∧ ¬ 40 < n ∧ ¬ half < 1 ∧ ¬ 200 < half ∧ old < 1) ∨ (¬ n < 1 ∧ ¬ 40 < n ∧ ¬ half < 1 ∧ ¬ 200 < half ∧ ¬ old < 1 ∧ 1000 < old) ∨ (¬ n < 1 ∧ ¬ 40 < n ∧ ¬ half < 1 ∧ ¬ 200 < half ∧ ¬ old < 1 ∧ ¬ 1000 < old) := by omega
  rcases h7 with z1 | ⟨z1, z2⟩ | ⟨z1, z2, z3⟩ | ⟨z1, z2, z3, z4⟩ | ⟨z1, z2, z3, z4, z5⟩ | ⟨z1, z2, z3, z4, z5, z6⟩ | ⟨z1, z2, z3, z4, z5, z6⟩
  rotate_right
  · obtain ⟨m, rfl⟩ : ∃ m : Nat, n = (m : Int) := ⟨n.toNat, by omega⟩
    have hm1 : 1 ≤ m := by omega
    have hm2 : m ≤ 40 := by omega
    have hok : newOK half old 4 = true := by
      unfold newOK
      rw [inR_true.2 ⟨by omega, by omega⟩, inR_true.2 ⟨by omega, by omega⟩, inR_true.2 ⟨by omega, by omega⟩]; rfl
    have HOK := Lib.hid hok
    have FI := Lib.hid (rg_first hok)
    have I0 := Lib.hid (newHM_inv half old 4 3 hok (by omega))
    have L0 : Hid ((newHM half old 4 3).roots.length = 3) := by simp [Hid, newHM]
    clear hok
    go_enter Tryz.func5, Tryz.ntmps5
    go_upto_region 4 with (go_at_call 9; refine (hold_walk E _ HE.out HT.out).mono ?_; rintro e w1 ⟨rfl, hq⟩; have HX1 := Lib.hid hq; clear hq)
    have HGB := Lib.hid ((HE.out.ext HX1.out).gb)
    have HZ : Hid (w.heap.size ≤ w1.heap.size) := HX1.out.size
    go_upto_region 7 with (go_at_call 10; refine (hnew3r_yes half old 4 1 HOK.out (by omega) _).mono ?_; rintro e w2 ⟨hb, b, S0, rfl, h1, hq⟩; have HA0 : Hid (OHeap w2 w1.heap.size hb b (newHM half old 4 3) S0 1 1) := h1; have XA0 : Hid (Ext w w2) := HX1.out.trans_ hq; clear h1 hq)
    by_cases hc : objC (newHM half old 4 3) 1 1 = 0
    · have HC := Lib.hid hc
      obtain ⟨a1, r1⟩ := FI.out.2 hc
      have A1 := Lib.hid a1
      have R1 := Lib.hid r1
      clear hc a1 r1
      go_upto_region 10 with (first
        | (go_at_call 11; refine (make_walk _ HA0.out I0.out (HE.out.ext XA0.out) (by omega) HGB.out 0 (by omega) (rootB_true.2 (by have hrr := L0.out; omega)) 9 1 (by omega) (by omega)).mono ?_; rintro e w3 ⟨he, SA1, h1, h2⟩; rw [HC.out, show errC E 0 = .nilIface from rfl] at he; subst he; have HA1 : Hid (OHeap w3 w1.heap.size hb b (rgM1 (newHM half old 4 3) 0) SA1 1 1) := (by rw [putR0 HC.out] at h1; exact h1); have XA1 : Hid (Ext w w3) := HStep.extB XA0.out HZ.out HA0.out h2; clear h1 h2)
        | (go_at_call 21; refine (hcopy_walk _ HA1.out A1.out.inv (HE.out.ext XA1.out) 1 (by omega) 0 (by omega) (by rw [rootB_true.2 (by have hrr := A1.out.lenR; omega), rootB_true.2 (by have hrr := A1.out.lenR; omega)]; rfl)).mono ?_; rintro e w4 ⟨he, SA2, h1, h2⟩; skip; subst he; have HA2 : Hid (OHeap w4 w1.heap.size hb b (rootM (rgM1 (newHM half old 4 3) 0) 1 ((rgM1 (newHM half old 4 3) 0).roots.getD 0 0)) SA2 1 1) := (by exact h1); have XA2 : Hid (Ext w w4) := HStep.extB XA1.out HZ.out HA1.out h2; clear h1 h2))
      obtain ⟨p, rfl⟩ : ∃ p : Nat, m = p + 1 := ⟨m - 1, by omega⟩
      go_loopg [12] p (fun r i wr => ∃ (k : Nat) (M : Mem) (S : Sls), k + r = p ∧ i = .int .i64 ((k + 1 : Nat) : Int) ∧ Hid (OHeap wr w1.heap.size hb b M S 1 1) ∧ Hid (RgM M old (k + 1)) ∧ Hid (Ext w wr))
      case atStart => exact ⟨0, _, SA2, by omega, rfl, HA2.out, R1.out, XA2.out⟩
      case round =>
        obtain ⟨k, M, S, hk, rfl, hO, hR, hX⟩ := hrel
        cases gk with
        | succ r =>
          have hlt : ((k + 1 : Nat) : Int) < ((p + 1 : Nat) : Int) := by omega
          have HL := hO
          have XL := hX
          obtain ⟨st1, st2⟩ := rg_step hR.out (by omega) (by omega)
          have HK := Lib.hid hk
          by_cases hc : objC M 1 1 = 0
          · obtain ⟨b1, b2, b3, b4⟩ := st2 hc
            have HC := Lib.hid hc
            have B1 := Lib.hid b1
            have B2 := Lib.hid b2
            have B3 := Lib.hid b3
            have B4 := Lib.hid b4
            clear hc b1 b2 b3 b4 st1 st2
            go_wp2_with (first
              | (go_at_call 11; refine (make_walk _ HL.out hR.out.inv (HE.out.ext XL.out) (by omega) HGB.out 2 (by omega) (rootB_true.2 (by have hrr := hR.out.lenR; omega)) 9 1 (by omega) (by omega)).mono ?_; rintro e w5 ⟨he, SL1, h1, h2⟩; rw [HC.out, show errC E 0 = .nilIface from rfl] at he; subst he; have HL1 : Hid (OHeap w5 w1.heap.size hb b (rgM1 M 2) SL1 1 1) := (by rw [putR0 HC.out] at h1; exact h1); have XL1 : Hid (Ext w w5) := HStep.extB XL.out HZ.out HL.out h2; clear h1 h2)
              | (go_at_call 16; refine (put_walk _ HL1.out B1.out.inv (HE.out.ext XL1.out) 2 0 1 (by omega) (by omega) B2.out).mono ?_; rintro e w6 ⟨he, SL2, h1, h2⟩; rw [show errC E 0 = .nilIface from rfl] at he; subst he; have HL2 : Hid (OHeap w6 w1.heap.size hb b (rgM2 M) SL2 1 1) := (by exact h1); have XL2 : Hid (Ext w w6) := HStep.extB XL1.out HZ.out HL1.out h2; clear h1 h2)
              | (go_at_call 21; refine (hcopy_walk _ HL2.out B3.out.inv (HE.out.ext XL2.out) 1 (by omega) 2 (by omega) (by rw [rootB_true.2 (by have hrr := B3.out.lenR; omega), rootB_true.2 (by have hrr := B3.out.lenR; omega)]; rfl)).mono ?_; rintro e w7 ⟨he, SL3, h1, h2⟩; skip; subst he; have HL3 : Hid (OHeap w7 w1.heap.size hb b (rgM3 M) SL3 1 1) := (by exact h1); have XL3 : Hid (Ext w w7) := HStep.extB XL2.out HZ.out HL2.out h2; clear h1 h2))
            go_roundg r
            case measure => omega
            case rel => exact ⟨k + 1, _, _, by have := HK.out; omega, by go_num, HL3.out, B4.out, XL3.out⟩
          · have hq := st1 hc
            obtain ⟨ea, hv⟩ := errC_no (E := E) hc
            have HV := Lib.hid hv
            clear st1 st2 hc hv
            have f0 : wrap64 (((k + 1 : Nat) : Int) + 1) = ((k + 1 : Nat) : Int) + 1 := IntWalk.wrap64_in _ ⟨by omega, by omega⟩
            have f1 : wrap64 (2 * wrap64 (((k + 1 : Nat) : Int) + 1)) = 2 * (((k + 1 : Nat) : Int) + 1) := by rw [f0, IntWalk.wrap64_in _ ⟨by omega, by omega⟩]
            go_wp2_with (first
              | (go_at_call 11; refine (make_walk _ HL.out hR.out.inv (HE.out.ext XL.out) (by omega) HGB.out 2 (by omega) (rootB_true.2 (by have hrr := hR.out.lenR; omega)) 9 1 (by omega) (by omega)).mono ?_; rintro e w5 ⟨he, SL1, h1, h2⟩; rw [HV.out] at he; subst he; have XL1 : Hid (Ext w w5) := HStep.extB XL.out HZ.out HL.out h2; clear h1 h2))
            go_ret
            exact ⟨by first | (simp; done) | (simp; omega), XL1.out⟩
        | zero =>
          obtain rfl : k = p := by omega
          have hlt : ¬ ((k + 1 : Nat) : Int) < ((k + 1 : Nat) : Int) := by omega
          clear hk
          have HL := hO
          have XL := hX
          have AL := Lib.hid hR.out.a
          have EN := Lib.hid (rg_end hR.out (by omega) (by omega) keep)
          have f1 : wrap64 (2 * ((k + 1 : Nat) : Int)) = 2 * ((k + 1 : Nat) : Int) := by rw [IntWalk.wrap64_in _ ⟨by omega, by omega⟩]
          cases keep with
          | false =>
            have hl : (liveM (rgE4 M false) : Int) ≤ (rgE4 M false).old := by rw [EN.out.live, EN.out.old]; simp; omega
            have c1 : majorC (rgE4 M false) = 0 := by unfold majorC; rw [if_pos hl]
            have c2 : (majorH (rgE4 M false)).top = 0 := by unfold majorH; rw [if_pos hl]; rfl
            have c3 : (majorH (rgE4 M false)).oldTop = 0 := by unfold majorH; rw [if_pos hl]; show ((liveM (rgE4 M false) : Nat) : Int) = 0; rw [EN.out.live]; rfl
            have C1 := Lib.hid c1
            have C2 := Lib.hid c2
            have C3 := Lib.hid c3
            clear hl c1 c2 c3
            go_wp2_with (first
              | (go_at_call 16; refine (put_walk _ HL.out hR.out.inv (HE.out.ext XL.out) 0 0 1 (by omega) (by omega) EN.out.c).mono ?_; rintro e w5 ⟨he, SN, h1, h2⟩; rw [show errC E 0 = .nilIface from rfl] at he; subst he; have HN : Hid (OHeap w5 w1.heap.size hb b (rgE1 M) SN 1 1) := h1; have XN : Hid (Ext w w5) := HStep.extB XL.out HZ.out HL.out h2; have AN : Hid (RgA (rgE1 M)) := Lib.hid EN.out.a1; clear h1 h2 HL XL AL; have HL := HN; have XL := XN; have AL := AN; clear HN XN AN)
              | (go_at_call 22; refine (const_walk _ HL.out AL.out.inv (HE.out.ext XL.out) _ ?_ ?_ 0).mono ?_; (focus omega); (focus exact rootB_true.2 (by have hrr := AL.out.lenR; omega)); rintro e w6 ⟨he, SN, h1, h2⟩; rw [show constC 0 = 0 from rfl, show errC E 0 = .nilIface from rfl] at he; subst he; have HN := Lib.hid h1; have XN : Hid (Ext w w6) := HStep.extB XL.out HZ.out HL.out h2; have AN := Lib.hid (rga_const AL.out h1); clear h1 h2 HL XL AL; have HL := HN; have XL := XN; have AL := AN; clear HN XN AN)
              | (go_at_call 13; refine (hMajor_walk _ (show OHeap _ _ _ _ (rgE4 M false) _ _ _ from HL.out) EN.out.inv.ok (HE.out.ext XL.out) EN.out.inv.chk).mono ?_; rintro e w9 ⟨he, SM, h1, h2⟩; rw [C1.out, show errC E 0 = .nilIface from rfl] at he; subst he; have HM := Lib.hid h1; have XM : Hid (Ext w w9) := HStep.extB XL.out HZ.out HL.out h2; clear h1 h2)
              | (go_at_call 23; refine (words_walk _ HM.out).mono ?_; rintro e w10 ⟨he, hq⟩; rw [C2.out, C3.out] at he; subst he; have XW : Hid (Ext w w10) := XM.out.trans_ hq; clear hq))
            go_ret
            exact ⟨rfl, XW.out⟩
          | true =>
            by_cases hl : (liveM (rgE4 M true) : Int) ≤ (rgE4 M true).old
            · have c1 : majorC (rgE4 M true) = 0 := by unfold majorC; rw [if_pos hl]
              have c2 : (majorH (rgE4 M true)).top = 0 := by unfold majorH; rw [if_pos hl]; rfl
              have c3 : (majorH (rgE4 M true)).oldTop = 2 * ((k + 1 : Nat) : Int) := by unfold majorH; rw [if_pos hl]; show ((liveM (rgE4 M true) : Nat) : Int) = _; rw [EN.out.live]; simp
              have C1 := Lib.hid c1
              have C2 := Lib.hid c2
              have C3 := Lib.hid c3
              clear hl c1 c2 c3
              go_wp2_with (first
                | (go_at_call 16; refine (put_walk _ HL.out hR.out.inv (HE.out.ext XL.out) 0 0 1 (by omega) (by omega) EN.out.c).mono ?_; rintro e w5 ⟨he, SN, h1, h2⟩; rw [show errC E 0 = .nilIface from rfl] at he; subst he; have HN : Hid (OHeap w5 w1.heap.size hb b (rgE1 M) SN 1 1) := h1; have XN : Hid (Ext w w5) := HStep.extB XL.out HZ.out HL.out h2; have AN : Hid (RgA (rgE1 M)) := Lib.hid EN.out.a1; clear h1 h2 HL XL AL; have HL := HN; have XL := XN; have AL := AN; clear HN XN AN)
                | (go_at_call 22; refine (const_walk _ HL.out AL.out.inv (HE.out.ext XL.out) _ ?_ ?_ 0).mono ?_; (focus omega); (focus exact rootB_true.2 (by have hrr := AL.out.lenR; omega)); rintro e w6 ⟨he, SN, h1, h2⟩; rw [show constC 0 = 0 from rfl, show errC E 0 = .nilIface from rfl] at he; subst he; have HN := Lib.hid h1; have XN : Hid (Ext w w6) := HStep.extB XL.out HZ.out HL.out h2; have AN := Lib.hid (rga_const AL.out h1); clear h1 h2 HL XL AL; have HL := HN; have XL := XN; have AL := AN; clear HN XN AN)
                | (go_at_call 13; refine (hMajor_walk _ (show OHeap _ _ _ _ (rgE4 M true) _ _ _ from HL.out) EN.out.inv.ok (HE.out.ext XL.out) EN.out.inv.chk).mono ?_; rintro e w9 ⟨he, SM, h1, h2⟩; rw [C1.out, show errC E 0 = .nilIface from rfl] at he; subst he; have HM := Lib.hid h1; have XM : Hid (Ext w w9) := HStep.extB XL.out HZ.out HL.out h2; clear h1 h2)
                | (go_at_call 23; refine (words_walk _ HM.out).mono ?_; rintro e w10 ⟨he, hq⟩; rw [C2.out, C3.out] at he; subst he; have XW : Hid (Ext w w10) := XM.out.trans_ hq; clear hq))
              go_ret
              exact ⟨rfl, XW.out⟩
            · have hq : old < 2 * ((k + 1 : Nat) : Int) := by
                have h1 := EN.out.live
                have h2 := EN.out.old
                rw [h1, h2] at hl
                simp at hl
                omega
              have hc : majorC (rgE4 M true) ≠ 0 := by unfold majorC; rw [if_neg hl]; decide
              obtain ⟨ea, hv⟩ := errC_no (E := E) hc
              have HV := Lib.hid hv
              clear hl hc hv
              go_wp2_with (first
                | (go_at_call 16; refine (put_walk _ HL.out hR.out.inv (HE.out.ext XL.out) 0 0 1 (by omega) (by omega) EN.out.c).mono ?_; rintro e w5 ⟨he, SN, h1, h2⟩; rw [show errC E 0 = .nilIface from rfl] at he; subst he; have HN : Hid (OHeap w5 w1.heap.size hb b (rgE1 M) SN 1 1) := h1; have XN : Hid (Ext w w5) := HStep.extB XL.out HZ.out HL.out h2; have AN : Hid (RgA (rgE1 M)) := Lib.hid EN.out.a1; clear h1 h2 HL XL AL; have HL := HN; have XL := XN; have AL := AN; clear HN XN AN)
                | (go_at_call 22; refine (const_walk _ HL.out AL.out.inv (HE.out.ext XL.out) _ ?_ ?_ 0).mono ?_; (focus omega); (focus exact rootB_true.2 (by have hrr := AL.out.lenR; omega)); rintro e w6 ⟨he, SN, h1, h2⟩; rw [show constC 0 = 0 from rfl, show errC E 0 = .nilIface from rfl] at he; subst he; have HN := Lib.hid h1; have XN : Hid (Ext w w6) := HStep.extB XL.out HZ.out HL.out h2; have AN := Lib.hid (rga_const AL.out h1); clear h1 h2 HL XL AL; have HL := HN; have XL := XN; have AL := AN; clear HN XN AN)
                | (go_at_call 13; refine (hMajor_walk _ (show OHeap _ _ _ _ (rgE4 M true) _ _ _ from HL.out) EN.out.inv.ok (HE.out.ext XL.out) EN.out.inv.chk).mono ?_; rintro e w9 ⟨he, SM, h1, h2⟩; rw [HV.out] at he; subst he; have XM : Hid (Ext w w9) := HStep.extB XL.out HZ.out HL.out h2; clear h1 h2))
              go_ret
              exact ⟨by first | (simp; done) | (simp; omega), XM.out⟩
    · have hq := FI.out.1 hc
      obtain ⟨ea, hv⟩ := errC_no (E := E) hc
      have HV := Lib.hid hv
      clear hc hv
      go_wp2_with (first
        | (go_at_call 11; refine (make_walk _ HA0.out I0.out (HE.out.ext XA0.out) (by omega) HGB.out 0 (by omega) (rootB_true.2 (by have hrr := L0.out; omega)) 9 1 (by omega) (by omega)).mono ?_; rintro e w3 ⟨he, SA1, h1, h2⟩; rw [HV.out] at he; subst he; have XA1 : Hid (Ext w w3) := HStep.extB XA0.out HZ.out HA0.out h2; clear h1 h2))
      go_ret
      exact ⟨by first | (simp; done) | (simp; omega), XA1.out⟩
  all_goals
    go_enter Tryz.func5, Tryz.ntmps5
    go_wp2_with (go_at_call 9; refine (hold_walk E _ HE.out HT.out).mono ?_; rintro e w1 ⟨rfl, hq⟩; have HX1 := Lib.hid hq; clear hq)
    go_ret
    exact ⟨rfl, HX1.out⟩
end Go.Proofs.YtelhoppfidibiaaGreatDoor
/- The law HeapRings: its contract: whatever it is given it answers true, and leaves what was there. -/
namespace Go.Proofs.YtelhoppfidibiaaGreatDoor.HeapRings
open Go.ChangeShapes Go.WideShapes Go.ChangeAt Go.RowKit
open Go.ChangeMaps (open_string)
set_option linter.unusedVariables false
set_option linter.unusedSimpArgs false

set_option maxRecDepth 100000 in
theorem contract (H : Type) (enc : TypeId × Value → H) (W : World) (base : Nat) (args : Array Value) (ds gs : List (DataW H)) (before : List MemPlace)
    (hval : ∀ (j : Nat) t v, Tryz.f5.params[j]? = some t → args[j]? = some v → Value.okWide Tryz.prog W .any base t v)
    (hW : DataW.Whole enc Tryz.prog Tryz.f5.params.toList Rows.heapRingsSpec.vars false W args.toList ds gs before)
    (hsz : (DataW.weightsEach Tryz.prog (Tryz.f5.params.toList ++ (OpenSpec.ofChange Rows.heapRingsSpec).bare.plain.varTypes Tryz.prog) (ds ++ gs)).all (· ≤ reachBytes) = true) (hL : laidMetH Tryz.prog Rows.heapRingsRow.laid W) :
    Calls Tryz.prog 5 args W fun e W' => ∃ v, e = .returned v ∧ Rows.heapRingsSpec.post enc Tryz.prog Tryz.f5 false true false false W args v W' := by
  have hW' := hW
  obtain ⟨p, q, hA0, hV, rfl, hfz, hnd⟩ := hW
  have hA : DataW.TrodAll enc Tryz.prog W 0 (fun _ => true) true Tryz.f5.params.toList args.toList ds p := hA0
  rw [Tryz.params5] at hA hval
  obtain ⟨v0, vs0, d0, ds0, p0, q0, hargs, rfl, rfl, h0, r0⟩ := trodAll_cons hA
  obtain ⟨v1, vs1, d1, ds1, p1, q1, rfl, rfl, rfl, h1, r1⟩ := trodAll_cons r0
  obtain ⟨v2, vs2, d2, ds2, p2, q2, rfl, rfl, rfl, h2, r2⟩ := trodAll_cons r1
  obtain ⟨v3, vs3, d3, ds3, p3, q3, rfl, rfl, rfl, h3, r3⟩ := trodAll_cons r2
  obtain ⟨rfl, rfl, rfl⟩ := trodAll_nil r3
  obtain rfl : args = #[v0, v1, v2, v3] := by cases args; simp_all
  obtain ⟨rfl, rfl⟩ := trodVars_none hV
  obtain ⟨x0, rfl, rfl, rfl, w0⟩ := open_int Tryz.underlying3 (hval 0 3 v0 rfl rfl) h0
  obtain ⟨x1, rfl, rfl, rfl, w1⟩ := open_int Tryz.underlying3 (hval 1 3 v1 rfl rfl) h1
  obtain ⟨x2, rfl, rfl, rfl, w2⟩ := open_int Tryz.underlying3 (hval 2 3 v2 rfl rfl) h2
  obtain ⟨x3, rfl, rfl, rfl⟩ := open_bool Tryz.underlying4 (hval 3 4 v3 rfl rfl) h3
  obtain ⟨E, hE⟩ := g4_of_laid (W := W) (hL.filter fun x => laid4.any (·.1 == x.1))
  have hT : Tabs W := tabs_of_laid (hL.filter fun x => x.1 == "math/bits.deBruijn64tab" || x.1 == "internal/strconv.uint64pow10")
  clear hA0
  refine (heapRings_any x0 x1 x2 x3 W E hE hT ).mono fun e W' ⟨he, hg⟩ => ?_
  subst he
  exact ⟨_, rfl, law_post rfl rfl hW' (by simp [Rows.heapRingsSpec]) (by decide +kernel) hg⟩
end Go.Proofs.YtelhoppfidibiaaGreatDoor.HeapRings
/- The law HeapRings: its row's step, out of the contract; an input that fits. -/
namespace Go.Proofs.YtelhoppfidibiaaGreatDoor.HeapRings
open Go.ChangeShapes Go.WideShapes Go.ChangeAt Go.RowKit

theorem laid_met (os : Os) : laidMetH Tryz.prog Rows.heapRingsRow.laid ((World.doorLaid Tryz.prog 200 os).forCall (fun _ _ => 0) ⟨#[], #[.int .i64 0, .int .i64 0, .int .i64 0, .bool false], []⟩).memory :=
  laidMetH_of_parts3 (fuel := 8) (laidMet_of_run' 8 (by kernel_rfl) (by kernel_rfl)) (by kernel_rfl) (by kernel_rfl)
theorem reads (os : Os) {H : Type} (enc : TypeId × Value → H) : ∃ places, DataW.whole enc Tryz.prog ((World.doorLaid Tryz.prog 200 os).forCall (fun _ _ => 0) ⟨#[], #[.int .i64 0, .int .i64 0, .int .i64 0, .bool false], []⟩).memory Tryz.f5.params.toList Rows.heapRingsSpec.vars false #[.int .i64 0, .int .i64 0, .int .i64 0, .bool false].toList 8 = some ([.lit (.int .i64 0), .lit (.int .i64 0), .lit (.int .i64 0), .lit (.bool false)], [], places) :=
  ⟨[], by kernel_rfl⟩

set_option maxRecDepth 100000 in
theorem lifted (os : Os) (started : os.Started) (H : Type) (enc : TypeId × Value → H) (F : Stop.Interp) :
    ReturnsInHanded {} Tryz.checked os 5 .any ((OpenSpec.ofChange Rows.heapRingsSpec).preRow enc Tryz.prog Tryz.f5 Rows.heapRingsRow.domain false Rows.heapRingsRow.laid) (((OpenSpec.ofChange Rows.heapRingsSpec).at F).post enc Tryz.prog Tryz.f5 false true false false) := by
  obtain ⟨places, hx⟩ := reads os enc
  refine returnsInHanded_of_row (C := Tryz.checked) (s := OpenSpec.ofChange Rows.heapRingsSpec) own started (by kernel_rfl) Tryz.func5
    (witness_row_atRef (enc := enc) (C := Tryz.checked) false (World.doorLaid Tryz.prog 200 os) #[.int .i64 0, .int .i64 0, .int .i64 0, .bool false] rfl (by kernel_rfl) (by kernel_rfl) (by kernel_rfl)
      (OpenSpec.preRow_of_cond 8 hx (by kernel_rfl) (fun k hk => by cases hk) (by kernel_rfl) (laid_met os))) ?_
  intro W base args ds gs before hval hW _ _ hsz hL _ _
  exact contract H enc W base args ds gs before hval hW hsz hL
end Go.Proofs.YtelhoppfidibiaaGreatDoor.HeapRings
/- The law HeapRings: the statement, closed. -/
namespace Go.Proofs.YtelhoppfidibiaaGreatDoor.HeapRings
open Go.ChangeShapes Go.WideShapes Go.ChangeAt Go.RowKit

set_option maxRecDepth 100000 in
theorem said : Rows.HeapRingsSaid :=
  OpenClaim.holds_of_cond 5 Tryz.f5 rfl rfl rfl rfl rfl rfl rfl ⟨rfl, rfl, rfl, rfl, rfl⟩ rfl rfl rfl rfl rfl (by kernel_rfl) Tryz.func5 closed
    (of_decide_eq_true (by kernel_rfl)) (by unfold Func.isWrapper; first | (rw [if_pos (by decide +kernel)]; kernel_rfl) | (rw [if_neg (by decide +kernel)]; exact ⟨rfl, rfl⟩))
    (fun os started H enc _ F => by rw [OpenClaim.pre_eq_preRow]; exact lifted os started H enc F)

theorem looks0 : true = Tryz.pinned.checked.prog.looks [] := by kernel_rfl
/-- No parameter wants a stand-in; the looks are the program's own. -/
theorem plain (f : FuncId) (fn : Func) (hf : Tryz.pinned.checked.prog.funcNamed "nurserypy/nurserypylaw3.HeapRings" = some f) (hfn : Tryz.pinned.checked.prog.funcs[f]? = some fn) :
    true = Tryz.pinned.checked.prog.looks [] ∧ ∀ (j : Nat) t, fn.params[j]? = some t → Tryz.pinned.checked.prog.wantsStandIn t = false := by
  obtain rfl : f = 5 := Option.some.inj ((show Tryz.prog.funcNamed "nurserypy/nurserypylaw3.HeapRings" = some 5 by kernel_rfl).symm.trans hf) |>.symm
  obtain rfl : fn = Tryz.f5 := (Option.some.inj (Tryz.func5.symm.trans hfn)).symm
  refine ⟨looks0, fun j t ht => ?_⟩
  rw [Tryz.params5] at ht
  have hm := Array.mem_of_getElem? ht
  simp only [List.mem_toArray, List.mem_cons, List.not_mem_nil, or_false] at hm
  rcases hm with rfl | rfl | rfl | rfl
  · exact (show Tryz.prog.wantsStandIn 3 = false by kernel_rfl)
  · exact (show Tryz.prog.wantsStandIn 3 = false by kernel_rfl)
  · exact (show Tryz.prog.wantsStandIn 3 = false by kernel_rfl)
  · exact (show Tryz.prog.wantsStandIn 4 = false by kernel_rfl)
theorem wfT : Rows.heapRingsRow.wfByText (OpenSpec.ofChange Rows.heapRingsSpec) = true := by kernel_rfl
theorem goesB : false = Rows.heapRingsRow.goesBy Tryz.pinned.checked.prog := by kernel_rfl
theorem mainI : Tryz.pinned.checked.prog.mainIs = some (Rows.heapRingsCard.stood.harness.1, Rows.heapRingsCard.stood.harness.2.toList) := by kernel_rfl

/-- THE STATEMENT. -/
theorem heapRings_holds : Rows.HeapRingsCardSaid :=
  Claim7.holds_tied_plain_at .later [] _ _ _ _ said (fun _ h => by cases h) wfT (fun _ h => by cases h) heapRings_row_tie rfl ⟨rfl, rfl⟩ mainI rfl plain goesB
end Go.Proofs.YtelhoppfidibiaaGreatDoor.HeapRings
