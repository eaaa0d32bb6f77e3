/- The walks of package word: ints and addresses; the closed fact on the number 5. -/
import Derived.Test.YtelhoppfidibiaaGreatDoorJOa03
import Derived.Test.YtelhoppfidibiaaGreatDoorJOa37
import Derived.Test.YtelhoppfidibiaaGreatDoorJOa02
import Derived.Test.YtelhoppfidibiaaGreatDoorJOa01
import Derived.Shelf.Strings.BuilderK
import Derived.Shelf.LaysM
import Derived.Shelf.Strconv.Itoa4
import Derived.Shelf.Bits.Mul64
import Derived.Shelf.Strings.Repeat
namespace Go.Proofs.YtelhoppfidibiaaGreatDoor
open Go.RowKit
set_option linter.unusedVariables false
set_option linter.unusedSimpArgs false
def rootM (M : Mem) (r : Nat) (x : Int) : Mem := { M with roots := M.roots.set r x }
section
variable {B hb b : Nat} {M : Mem} {S : Sls} {E : Nat → Addr} {ten nx : Int}
theorem set_no (a : Addr) (r x : Int) (w : World) :
    Calls Tryz.prog 42 #[.pointer (some ⟨hb, 0, none⟩), .int .i64 r, .int .u64 x, errV a] w fun e w' => e = .returned (errV a) ∧ w' = w := by
  go_enter Tryz.func42, Tryz.ntmps42
  go_wp2
  go_ret
  exact ⟨rfl, rfl⟩
set_option maxRecDepth 100000 in
set_option maxHeartbeats 2000000 in
theorem set_yes (w : World) (hH : OHeap w B hb b M S ten nx) (hok : M.Ok) (r : Nat) (hr : r < M.roots.length) (x : Int) :
    Calls Tryz.prog 42 #[.pointer (some ⟨hb, 0, none⟩), .int .i64 (r : Int), .int .u64 x, .nilIface] w (HPost w B hb b S ten (rootM M r x) nx .nilIface) := by
  obtain ⟨g, hg, hgB, hgl, hgf, hgc, -⟩ := own_block hH.mem.fR (by omega)
  have hM := hH.mem.mem hok
  have q0 := hH.ptr
  have c7 := hM.roots
  simp only [Nat.zero_add] at c7
  rw [hg] at c7
  have hcell : w.cell? ⟨g, r, none⟩ = some (.int .u64 (M.roots.getD r 0)) := by
    have := hM.rR
    rw [hg] at this
    simpa using this.at_ (wcells_at M.roots r hr)
  have hfg := hgf r
  have hwl := hok.lenR
  have hltz : (r : Int) < (M.roots.length : Int) := by omega
  have HH := Lib.hid hH
  have HG := Lib.hid hg
  have HR := Lib.hid hr
  clear hH hM hg hgf hr
  go_enter Tryz.func42, Tryz.ntmps42
  go_wp2
  go_ret
  obtain ⟨g1, g2⟩ := HH.out.step (OMem.setR HH.out.mem HG.out r HR.out x) (Keep.set_ (L := OwnA b S) (Keep.refl _ w) (p := ⟨g, r, none⟩) (Or.inl (Or.inr (Or.inr (Or.inl HG.out)))) _) (fun _ q => Or.inl q)
  exact ⟨rfl, S, g1, g2⟩
end
def rootB (M : Mem) (r : Int) : Bool := !noR M.roots.length r
theorem rootB_true {M : Mem} {r : Int} : rootB M r = true ↔ 0 ≤ r ∧ r < (M.roots.length : Int) := by
  unfold rootB noR; simp
def putR (N : Mem) (c : Int) (r : Nat) (x : Int) : Mem := if c = 0 then rootM N r x else N
def numV (M : Mem) (ten v : Int) : Int := if smallB v then intW v else if objC M ten 1 = 0 then addrW (objPl M ten 1) else 0
def numC (M : Mem) (ten v : Int) : Int := if smallB v then 0 else objC M ten 1
def bigM (N : Mem) (a : Nat) (v : Int) : Mem := { N with W := N.W.set (a + 1) (IntKind.u64.wrap v) }
def numM (M : Mem) (ten v : Int) : Mem := if smallB v then M else if objC M ten 1 = 0 then bigM (objM M ten 1 1) (objPl M ten 1).toNat v else objM M ten 1 1
section
variable {B hb b : Nat} {M : Mem} {S : Sls} {E : Nat → Addr} {ten nx : Int}
theorem set_any (w : World) (hH : OHeap w B hb b M S ten nx) (hok : M.Ok) (c : Int) (r : Nat) (hr : r < M.roots.length) (x : Int) :
    Calls Tryz.prog 42 #[.pointer (some ⟨hb, 0, none⟩), .int .i64 (r : Int), .int .u64 x, errC E c] w (HPost w B hb b S ten (putR M c r x) nx (errC E c)) := by
  by_cases hc : c = 0
  · have e1 : errC E c = .nilIface := by rw [hc]; rfl
    have e2 : putR M c r x = rootM M r x := if_pos hc
    rw [e1, e2]
    exact set_yes w hH hok r hr x
  · have e2 : putR M c r x = M := if_neg hc
    rw [errC_pos E c hc, e2]
    refine (set_no _ (r : Int) x w).mono ?_
    rintro e w' ⟨rfl, rfl⟩
    exact ⟨rfl, S, hH, HStep.of_ext (Ext.refl _)⟩
theorem root1_any (w : World) (hH : OHeap w B hb b M S ten nx) (hok : M.Ok) (lb : Nat) (r : Int) (h0 : -9223372036854775808 ≤ r) (h1 : r ≤ 9223372036854775807) (hc : w.cell? ⟨lb, 0, none⟩ = some (.int .i64 r)) :
    Calls Tryz.prog 40 #[.pointer (some ⟨hb, 0, none⟩), .slice (some ⟨lb, 0, none⟩) 1 1] w fun e w' => e = .returned (.bool (rootB M r)) ∧ Ext w w' := by
  have hM := hH.mem.mem hok
  have c7 := hM.roots
  simp only [Nat.zero_add] at c7
  have := root_walk w hb b S.R.1 M.roots.length S.R.2 hH.ptr c7 (some ⟨lb, 0, none⟩) 1 [r] (by simp) (fun j u hj => by
    obtain rfl : j = 0 := by
      rcases Nat.eq_zero_or_pos j with q | q
      · exact q
      · rw [List.getElem?_eq_none (by simp [ncells]; omega)] at hj; cases hj
    simp [ncells] at hj; subst hj
    exact ⟨lb, 0, rfl, hc⟩) (by intro x hx; rw [List.mem_singleton.1 hx]; exact ⟨h0, h1⟩)
  simpa [rootB] using this
theorem root2_any (w : World) (hH : OHeap w B hb b M S ten nx) (hok : M.Ok) (lb : Nat) (r s : Int) (h0 : -9223372036854775808 ≤ r ∧ r ≤ 9223372036854775807) (h1 : -9223372036854775808 ≤ s ∧ s ≤ 9223372036854775807) (hc : w.cell? ⟨lb, 0, none⟩ = some (.int .i64 r)) (hd : w.cell? ⟨lb, 1, none⟩ = some (.int .i64 s)) :
    Calls Tryz.prog 40 #[.pointer (some ⟨hb, 0, none⟩), .slice (some ⟨lb, 0, none⟩) 2 2] w fun e w' => e = .returned (.bool (rootB M r && rootB M s)) ∧ Ext w w' := by
  have hM := hH.mem.mem hok
  have c7 := hM.roots
  simp only [Nat.zero_add] at c7
  have := root_walk w hb b S.R.1 M.roots.length S.R.2 hH.ptr c7 (some ⟨lb, 0, none⟩) 2 [r, s] (by simp) (fun j u hj => by
    rcases Nat.lt_or_ge j 2 with q | q
    · have q2 : j = 0 ∨ j = 1 := by omega
      rcases q2 with rfl | rfl
      · simp [ncells] at hj; subst hj
        exact ⟨lb, 0, rfl, hc⟩
      · simp [ncells] at hj; subst hj
        exact ⟨lb, 0, rfl, hd⟩
    · rw [List.getElem?_eq_none (by simp [ncells]; omega)] at hj; cases hj) (by
    intro x hx
    rcases List.mem_cons.1 hx with rfl | hx
    · exact h0
    · rw [List.mem_singleton.1 hx]; exact h1)
  simpa [rootB] using this
theorem isSmallB_any (v : Int) (w : World) : Calls Tryz.prog 108 #[.int .i64 v] w fun e w' => e = .returned (.bool (smallB v)) ∧ Ext w w' := by
  refine (isSmall_any v w).mono ?_
  rintro e w9 ⟨rfl, rfl⟩
  exact ⟨rfl, Ext.refl _⟩
theorem object1_walk (w : World) (hH : OHeap w B hb b M S ten nx) (hI : HInv M nx) (hE : G4 E w) (ht : 0 ≤ ten ∧ ten ≤ 15) (hB : GB B) :
    Calls Tryz.prog 41 #[.pointer (some ⟨hb, 0, none⟩), .int .i64 1, .int .i64 1] w (OPost w B hb b M S E ten nx 1 1) := object_walk 1 1 w hH hI hE ht hB (by omega) (by omega)
set_option maxRecDepth 100000 in
set_option maxHeartbeats 4000000 in
theorem number_walk (w : World) (hH : OHeap w B hb b M S ten nx) (hI : HInv M nx) (hE : G4 E w) (ht : 0 ≤ ten ∧ ten ≤ 15) (hB : GB B) (v : Int) :
    Calls Tryz.prog 49 #[.pointer (some ⟨hb, 0, none⟩), .int .i64 v] w (HPost w B hb b S ten (numM M ten v) nx (.tuple #[.int .u64 (numV M ten v), errC E (numC M ten v)])) := by
  have HH := Lib.hid hH
  have HI := Lib.hid hI
  have HE := Lib.hid hE
  have HB := Lib.hid hB
  obtain ⟨i1, i2, i3⟩ := objM_inv (sz := 1) ht hI 1 (by omega) (by omega)
  have I1 := Lib.hid i1
  have I3 := Lib.hid i3
  clear hH hI hE hB i1 i2 i3
  cases hs : smallB v with
  | true =>
    have e1 : numM M ten v = M := by unfold numM; rw [hs]; rfl
    have e2 : numV M ten v = intW v := by unfold numV; rw [hs]; rfl
    have e3 : errC E (numC M ten v) = .nilIface := by unfold numC; rw [hs]; rfl
    rw [e1, e2, e3]
    have HSM := Lib.hid hs
    clear hs e1 e2 e3
    go_enter Tryz.func49, Tryz.ntmps49
    go_wp2_with (first
      | (go_at_call 108; refine (isSmallB_any v _).mono ?_; rintro e w1 ⟨he, hq⟩; rw [HSM.out] at he; subst he; have HX1 := Lib.hid hq; clear hq)
      | (go_at_call 109; refine (int_any v _).mono ?_; rintro e w9 ⟨rfl, hw9⟩; have hw9 := hw9.symm; subst hw9))
    go_ret2
    exact ⟨rfl, S, HH.out.ext HX1.out, HStep.of_ext HX1.out⟩
  | false =>
    by_cases hc : objC M ten 1 = 0
    · obtain ⟨a, ha, hN⟩ := I3.out hc
      have e1 : numM M ten v = bigM (objM M ten 1 1) a v := by unfold numM; rw [hs]; simp only [Bool.false_eq_true, if_false, if_pos hc]; rw [ha]; rfl
      have e2 : numV M ten v = addrW (a : Int) := by unfold numV; rw [hs]; simp only [Bool.false_eq_true, if_false, if_pos hc]; rw [ha]
      have e3 : errC E (numC M ten v) = .nilIface := by unfold numC; rw [hs]; simp only [Bool.false_eq_true, if_false]; rw [hc]; rfl
      rw [e1, e2, e3]
      have hlen := hN.len
      have hla := len_small (good_parts (chk_zero I1.out.chk).1).1
      have f1 : IntKind.i64.wrap ((a : Int) + 1) = ((a + 1 : Nat) : Int) := by rw [IntWalk.i64_in _ (by omega)]; omega
      have HSM := Lib.hid hs
      have HC0 : Hid (errC E (objC M ten 1) = .nilIface) := by rw [Hid, hc]; rfl
      have HPL := Lib.hid ha
      obtain ⟨N, hN2⟩ : ∃ N, N = objM M ten 1 1 := ⟨_, rfl⟩
      rw [← hN2] at hlen hla ⊢
      have HN2 := Lib.hid hN2
      clear hs e1 e2 e3 hN ha hc hN2
      go_enter Tryz.func49, Tryz.ntmps49
      go_upto_region 6 with (first
        | (go_at_call 108; refine (isSmallB_any v _).mono ?_; rintro e w1 ⟨he, hq⟩; rw [HSM.out] at he; subst he; have HX1 := Lib.hid hq; clear hq)
        | (go_at_call 41; refine (object1_walk w1 (HH.out.ext HX1.out) HI.out (HE.out.ext HX1.out) ht HB.out).mono ?_; rintro e w2 ⟨he, S2, h1, h2⟩; rw [HC0.out, HPL.out] at he; subst he; rw [← HN2.out] at h1; have HH2 := Lib.hid h1; have HS2 : Hid (HStep hb b w S w2 S2) := (HStep.of_ext HX1.out).trans_ h2; clear h1 h2))
      have q0 := HH2.out.ptr
      obtain ⟨g, hg, -, -, hgf, -, -⟩ := own_block (OMem.fW HH2.out.mem) (by omega)
      have hfg := hgf (a + 1)
      have c3 := (HH2.out.mem.fld ⟨3, 78, 1, S2.W.1, N.W.length, S2.W.2, wcells N.W⟩ (by simp [memFlds])).1
      have hcell := ((row_rsl (OMem.fW HH2.out.mem)).1)
      rw [hg] at hcell
      replace hcell := hcell.at_ (wcells_at N.W (a + 1) (by omega))
      simp only [Nat.zero_add] at hcell
      simp only [Fld.val, hg] at c3
      have hjl : a + 1 < N.W.length := by omega
      obtain ⟨z1, z2⟩ := HH2.out.setW hg (a + 1) hjl (IntKind.u64.wrap v)
      have HZ1 := Lib.hid z1
      have HZ2 := Lib.hid (HS2.out.trans_ z2)
      generalize N.W.getD (a + 1) 0 = xx at *
      clear z1 z2 hgf hg
      go_wp2_with (go_at_call 43; refine (addr_any _ _).mono ?_; rintro e w9 ⟨rfl, hw9⟩; have hw9 := hw9.symm; subst hw9)
      go_ret2
      exact ⟨rfl, S2, HZ1.out, HZ2.out⟩
    · have e1 : numM M ten v = objM M ten 1 1 := by unfold numM; rw [hs]; simp only [Bool.false_eq_true, if_false, if_neg hc]
      have e2 : numV M ten v = 0 := by unfold numV; rw [hs]; simp only [Bool.false_eq_true, if_false, if_neg hc]
      obtain ⟨ea, hv⟩ : ∃ ea, Hid (errC E (objC M ten 1) = errV ea) := ⟨_, errC_pos E _ hc⟩
      have e3 : errC E (numC M ten v) = errV ea := by unfold numC; rw [hs]; exact hv.out
      rw [e1, e2, e3]
      have HSM := Lib.hid hs
      clear hs e1 e2 e3 hc
      go_enter Tryz.func49, Tryz.ntmps49
      go_wp2_with (first
        | (go_at_call 108; refine (isSmallB_any v _).mono ?_; rintro e w1 ⟨he, hq⟩; rw [HSM.out] at he; subst he; have HX1 := Lib.hid hq; clear hq)
        | (go_at_call 41; refine (object1_walk w1 (HH.out.ext HX1.out) HI.out (HE.out.ext HX1.out) ht HB.out).mono ?_; rintro e w2 ⟨he, S2, h1, h2⟩; rw [hv.out] at he; subst he; have HH2 := Lib.hid h1; have HS2 : Hid (HStep hb b w S w2 S2) := (HStep.of_ext HX1.out).trans_ h2; clear h1 h2))
      go_ret2
      exact ⟨rfl, S2, HH2.out, HS2.out⟩
theorem numM_inv {v : Int} (ht : 0 ≤ ten ∧ ten ≤ 15) (hI : HInv M nx) : HInv (numM M ten v) nx ∧ SameH M (numM M ten v) := by
  unfold numM
  split
  · exact ⟨hI, SameH.refl M⟩
  · obtain ⟨i1, i2, i3⟩ := objM_inv (sz := 1) ht hI 1 (by omega) (by omega)
    split
    · rename_i hc
      obtain ⟨a, ha, hN⟩ := i3 hc
      obtain ⟨lN, lO, hg, hm⟩ := hN.good
      have hr : rawB (hKind (wat (objM M ten 1 1).W a)) = true := by rw [hN.hd]; decide
      have hsz : szW (objM M ten 1 1).W a = 1 := by unfold szW; rw [hN.hd]; decide
      have hl := hN.len
      rw [ha]
      obtain ⟨k1, k2, k3⟩ := rawM_inv i1 hg hm hr ((objM M ten 1 1).W.set (a + 1) (IntKind.u64.wrap v)) (by simp) (fun i hi => by rw [hsz] at hi; rw [wat_set _ _ _ _ (by omega)]) (fun x hx => by
        rcases List.mem_or_eq_of_mem_set hx with q | q
        · exact i1.ok.W x q
        · rw [q, IntKind.wrap_u64]; omega)
      exact ⟨k1, i2.trans k2⟩
    · exact ⟨i1, i2⟩
set_option maxRecDepth 100000 in
set_option maxHeartbeats 4000000 in
theorem int_place (w : World) (hH : OHeap w B hb b M S ten nx) (hI : HInv M nx) (hE : G4 E w) (r : Int) (hr0 : -9223372036854775808 ≤ r ∧ r ≤ 9223372036854775807) (v : Int) (hR : rootB M r = false) :
    Calls Tryz.prog 15 #[.pointer (some ⟨hb, 0, none⟩), .int .i64 r, .int .i64 v] w (HPost w B hb b S ten M nx (errC E 5)) := by
  have HH := Lib.hid hH
  have HI := Lib.hid hI
  have HE := Lib.hid hE
  have HR := Lib.hid hR
  have k2 : ∀ W, Ext w W → W.cell? ⟨1, 0, none⟩ = some (errV (E 4)) := fun W hX => (hE.ext hX).place
  clear hH hI hE hR
  go_enter Tryz.func15, Tryz.ntmps15
  go_wp2_with (go_at_call 40; refine (root1_any _ (HH.out.ext ((Ext.refl w).alloc_ _)) HI.out.ok w.heap.size r hr0.1 hr0.2 (by rw [World.cell?, heap_alloc_new]; rfl)).mono ?_; rintro e w1 ⟨he, hq⟩; rw [HR.out] at he; subst he; have HX1 : Hid (Ext w w1) := ((Ext.refl w).alloc_ _).trans_ hq; clear hq; have k3 := (HE.out.ext HX1.out).place)
  go_ret
  exact ⟨rfl, S, HH.out.ext HX1.out, HStep.of_ext HX1.out⟩
set_option maxRecDepth 100000 in
set_option maxHeartbeats 4000000 in
theorem int_walk (w : World) (hH : OHeap w B hb b M S ten nx) (hI : HInv M nx) (hE : G4 E w) (ht : 0 ≤ ten ∧ ten ≤ 15) (hB : GB B) (r : Int) (hr0 : -9223372036854775808 ≤ r ∧ r ≤ 9223372036854775807) (hR : rootB M r = true) (v : Int) :
    Calls Tryz.prog 15 #[.pointer (some ⟨hb, 0, none⟩), .int .i64 r, .int .i64 v] w (HPost w B hb b S ten (putR (numM M ten v) (numC M ten v) r.toNat (numV M ten v)) nx (errC E (numC M ten v))) := by
  have HH := Lib.hid hH
  have HI := Lib.hid hI
  have HE := Lib.hid hE
  have HR := Lib.hid hR
  have HB := Lib.hid hB
  obtain ⟨rn, rfl⟩ : ∃ rn : Nat, r = (rn : Int) := ⟨r.toNat, by have := (rootB_true.1 hR).1; omega⟩
  have hrl : rn < M.roots.length := by have := (rootB_true.1 hR).2; omega
  have hIN := numM_inv (v := v) ht hI
  have HIN := Lib.hid hIN.1
  have hrl2 : rn < (numM M ten v).roots.length := by rw [hIN.2.roots]; exact hrl
  simp only [Int.toNat_natCast]
  have HRL := Lib.hid hrl2
  generalize hV : numV M ten v = V
  have HV := Lib.hid hV
  clear hH hI hE hR hB hIN hrl2 hV
  go_enter Tryz.func15, Tryz.ntmps15
  go_wp2_with (first
    | (go_at_call 40; refine (root1_any _ (HH.out.ext ((Ext.refl w).alloc_ _)) HI.out.ok w.heap.size (rn : Int) hr0.1 hr0.2 (by rw [World.cell?, heap_alloc_new]; rfl)).mono ?_; rintro e w1 ⟨he, hq⟩; rw [HR.out] at he; subst he; have HX1 : Hid (Ext w w1) := ((Ext.refl w).alloc_ _).trans_ hq; clear hq)
    | (go_at_call 49; refine (number_walk _ (HH.out.ext HX1.out) HI.out (HE.out.ext HX1.out) ht HB.out v).mono ?_; rintro e w2 ⟨he, S2, h1, h2⟩; rw [HV.out] at he; subst he; have HH2 := Lib.hid h1; have HS2 : Hid (HStep hb b w S w2 S2) := (HStep.of_ext HX1.out).trans_ h2; clear h1 h2)
    | (go_at_call 42; refine (set_any (E := E) w2 HH2.out HIN.out.ok (numC M ten v) rn HRL.out V).mono ?_; rintro e w3 ⟨rfl, S3, h3, h4⟩; have HH3 := Lib.hid h3; have HS3 : Hid (HStep hb b w S w3 S3) := HS2.out.trans_ h4; clear h3 h4))
  go_ret
  exact ⟨rfl, S3, HH3.out, HS3.out⟩
set_option maxRecDepth 100000 in
set_option maxHeartbeats 4000000 in
theorem const_place (w : World) (hH : OHeap w B hb b M S ten nx) (hI : HInv M nx) (hE : G4 E w) (r : Int) (hr0 : -9223372036854775808 ≤ r ∧ r ≤ 9223372036854775807) (v : Int) (hR : rootB M r = false) :
    Calls Tryz.prog 22 #[.pointer (some ⟨hb, 0, none⟩), .int .i64 r, .int .i64 v] w (HPost w B hb b S ten M nx (errC E 5)) := by
  have HH := Lib.hid hH
  have HI := Lib.hid hI
  have HE := Lib.hid hE
  have HR := Lib.hid hR
  have k2 : ∀ W, Ext w W → W.cell? ⟨1, 0, none⟩ = some (errV (E 4)) := fun W hX => (hE.ext hX).place
  clear hH hI hE hR
  go_enter Tryz.func22, Tryz.ntmps22
  go_wp2_with (go_at_call 40; refine (root1_any _ (HH.out.ext ((Ext.refl w).alloc_ _)) HI.out.ok w.heap.size r hr0.1 hr0.2 (by rw [World.cell?, heap_alloc_new]; rfl)).mono ?_; rintro e w1 ⟨he, hq⟩; rw [HR.out] at he; subst he; have HX1 : Hid (Ext w w1) := ((Ext.refl w).alloc_ _).trans_ hq; clear hq; have k3 := (HE.out.ext HX1.out).place)
  go_ret
  exact ⟨rfl, S, HH.out.ext HX1.out, HStep.of_ext HX1.out⟩
def constC (v : Int) : Int := if 0 ≤ v ∧ v ≤ 2 then 0 else 2
def constV (v : Int) : Int := if 0 ≤ v ∧ v ≤ 2 then constW v else 0
theorem ofConst_any (v : Int) (w : World) (hE : G4 E w) : Calls Tryz.prog 67 #[.int .i64 v] w fun e w' => e = .returned (.tuple #[.int .u64 (constV v), errC E (constC v)]) ∧ Ext w w' := by
  unfold constV constC
  by_cases h : 0 ≤ v ∧ v ≤ 2
  · rw [if_pos h, if_pos h]
    refine (ofConst_yes v h w).mono ?_
    rintro e w9 ⟨rfl, hq⟩
    refine ⟨rfl, ?_⟩
    first | exact hq | (rw [hq]; exact Ext.refl _)
  · rw [if_neg h, if_neg h]
    refine (ofConst_no v h w (E 1) hE.bound).mono ?_
    rintro e w9 ⟨rfl, hq⟩
    refine ⟨rfl, ?_⟩
    first | exact hq | (rw [hq]; exact Ext.refl _)
set_option maxRecDepth 100000 in
set_option maxHeartbeats 4000000 in
theorem const_walk (w : World) (hH : OHeap w B hb b M S ten nx) (hI : HInv M nx) (hE : G4 E w) (r : Int) (hr0 : -9223372036854775808 ≤ r ∧ r ≤ 9223372036854775807) (hR : rootB M r = true) (v : Int) :
    Calls Tryz.prog 22 #[.pointer (some ⟨hb, 0, none⟩), .int .i64 r, .int .i64 v] w (HPost w B hb b S ten (putR M (constC v) r.toNat (constV v)) nx (errC E (constC v))) := by
  have HH := Lib.hid hH
  have HI := Lib.hid hI
  have HE := Lib.hid hE
  have HR := Lib.hid hR
  obtain ⟨rn, rfl⟩ : ∃ rn : Nat, r = (rn : Int) := ⟨r.toNat, by have := (rootB_true.1 hR).1; omega⟩
  have hrl : rn < M.roots.length := by have := (rootB_true.1 hR).2; omega
  simp only [Int.toNat_natCast]
  have HRL := Lib.hid hrl
  generalize hV : constV v = V
  have HV := Lib.hid hV
  clear hH hI hE hR hrl hV
  go_enter Tryz.func22, Tryz.ntmps22
  go_wp2_with (first
    | (go_at_call 40; refine (root1_any _ (HH.out.ext ((Ext.refl w).alloc_ _)) HI.out.ok w.heap.size (rn : Int) hr0.1 hr0.2 (by rw [World.cell?, heap_alloc_new]; rfl)).mono ?_; rintro e w1 ⟨he, hq⟩; rw [HR.out] at he; subst he; have HX1 : Hid (Ext w w1) := ((Ext.refl w).alloc_ _).trans_ hq; clear hq)
    | (go_at_call 67; refine (ofConst_any v _ (HE.out.ext HX1.out)).mono ?_; rintro e w2 ⟨he, hq⟩; rw [HV.out] at he; subst he; have HX2 : Hid (Ext w w2) := HX1.out.trans_ hq; have HH2 := Lib.hid (HH.out.ext HX2.out); have HS2 : Hid (HStep hb b w S w2 S) := HStep.of_ext HX2.out; clear hq)
    | (go_at_call 42; refine (set_any (E := E) w2 HH2.out HI.out.ok (constC v) rn HRL.out V).mono ?_; rintro e w3 ⟨rfl, S3, h3, h4⟩; have HH3 := Lib.hid h3; have HS3 : Hid (HStep hb b w S w3 S3) := HS2.out.trans_ h4; clear h3 h4))
  go_ret
  exact ⟨rfl, S3, HH3.out, HS3.out⟩
set_option maxRecDepth 100000 in
set_option maxHeartbeats 4000000 in
theorem make_place (w : World) (hH : OHeap w B hb b M S ten nx) (hI : HInv M nx) (hE : G4 E w) (r : Int) (hr0 : -9223372036854775808 ≤ r ∧ r ≤ 9223372036854775807) (kind sz : Int) (hR : rootB M r = false) :
    Calls Tryz.prog 11 #[.pointer (some ⟨hb, 0, none⟩), .int .i64 r, .int .i64 kind, .int .i64 sz] w (HPost w B hb b S ten M nx (errC E 5)) := by
  have HH := Lib.hid hH
  have HI := Lib.hid hI
  have HE := Lib.hid hE
  have HR := Lib.hid hR
  have k2 : ∀ W, Ext w W → W.cell? ⟨1, 0, none⟩ = some (errV (E 4)) := fun W hX => (hE.ext hX).place
  clear hH hI hE hR
  go_enter Tryz.func11, Tryz.ntmps11
  go_wp2_with (go_at_call 40; refine (root1_any _ (HH.out.ext ((Ext.refl w).alloc_ _)) HI.out.ok w.heap.size r hr0.1 hr0.2 (by rw [World.cell?, heap_alloc_new]; rfl)).mono ?_; rintro e w1 ⟨he, hq⟩; rw [HR.out] at he; subst he; have HX1 : Hid (Ext w w1) := ((Ext.refl w).alloc_ _).trans_ hq; clear hq; have k3 := (HE.out.ext HX1.out).place)
  go_ret
  exact ⟨rfl, S, HH.out.ext HX1.out, HStep.of_ext HX1.out⟩
set_option maxRecDepth 100000 in
set_option maxHeartbeats 4000000 in
theorem make_bound (w : World) (hH : OHeap w B hb b M S ten nx) (hI : HInv M nx) (hE : G4 E w) (r : Int) (hr0 : -9223372036854775808 ≤ r ∧ r ≤ 9223372036854775807) (hR : rootB M r = true) (kind sz : Int) (hb1 : kind < 8 ∨ 255 < kind ∨ sz < 0 ∨ 4096 < sz) :
    Calls Tryz.prog 11 #[.pointer (some ⟨hb, 0, none⟩), .int .i64 r, .int .i64 kind, .int .i64 sz] w (HPost w B hb b S ten M nx (errC E 2)) := by
  have HH := Lib.hid hH
  have HI := Lib.hid hI
  have HE := Lib.hid hE
  have HR := Lib.hid hR
  clear hH hI hE hR
  have hb2 : kind < 8 ∨ (¬ kind < 8 ∧ 255 < kind) ∨ (¬ kind < 8 ∧ ¬ 255 < kind ∧ sz < 0) ∨ (¬ kind < 8 ∧ ¬ 255 < kind ∧ ¬ sz < 0 ∧ 4096 < sz) := by omega
  clear hb1
  rcases hb2 with b1 | ⟨b1, b2⟩ | ⟨b1, b2, b3⟩ | ⟨b1, b2, b3, b4⟩
  all_goals
    go_enter Tryz.func11, Tryz.ntmps11
    go_wp2_with (go_at_call 40; refine (root1_any _ (HH.out.ext ((Ext.refl w).alloc_ _)) HI.out.ok w.heap.size r hr0.1 hr0.2 (by rw [World.cell?, heap_alloc_new]; rfl)).mono ?_; rintro e w1 ⟨he, hq⟩; rw [HR.out] at he; subst he; have HX1 : Hid (Ext w w1) := ((Ext.refl w).alloc_ _).trans_ hq; clear hq; have k3 := (HE.out.ext HX1.out).bound)
    go_ret
    exact ⟨rfl, S, HH.out.ext HX1.out, HStep.of_ext HX1.out⟩
set_option maxRecDepth 100000 in
set_option maxHeartbeats 4000000 in
theorem make_walk (w : World) (hH : OHeap w B hb b M S ten nx) (hI : HInv M nx) (hE : G4 E w) (ht : 0 ≤ ten ∧ ten ≤ 15) (hB : GB B) (r : Int) (hr0 : -9223372036854775808 ≤ r ∧ r ≤ 9223372036854775807) (hR : rootB M r = true) (kind : Int) (sz : Nat) (hk : 8 ≤ kind ∧ kind ≤ 255) (hz : sz ≤ 4096) :
    Calls Tryz.prog 11 #[.pointer (some ⟨hb, 0, none⟩), .int .i64 r, .int .i64 kind, .int .i64 (sz : Int)] w (HPost w B hb b S ten (putR (objM M ten kind sz) (objC M ten sz) r.toNat (addrW (objPl M ten sz))) nx (errC E (objC M ten sz))) := by
  have HH := Lib.hid hH
  have HI := Lib.hid hI
  have HE := Lib.hid hE
  have HR := Lib.hid hR
  have HB := Lib.hid hB
  obtain ⟨rn, rfl⟩ : ∃ rn : Nat, r = (rn : Int) := ⟨r.toNat, by have := (rootB_true.1 hR).1; omega⟩
  have hrl : rn < M.roots.length := by have := (rootB_true.1 hR).2; omega
  have hIN := objM_inv ht hI kind sz (by omega) hz
  have HIN := Lib.hid hIN.1
  have hrl2 : rn < (objM M ten kind sz).roots.length := by rw [hIN.2.1.roots]; exact hrl
  simp only [Int.toNat_natCast]
  have HRL := Lib.hid hrl2
  generalize hV : objPl M ten sz = V
  have HV := Lib.hid hV
  have t1 : ¬ kind < 8 := by omega
  have t2 : ¬ 255 < kind := by omega
  have t3 : ¬ (sz : Int) < 0 := by omega
  have t4 : ¬ 4096 < (sz : Int) := by omega
  clear hH hI hE hR hB hIN hrl2 hV
  go_enter Tryz.func11, Tryz.ntmps11
  go_wp2_with (first
    | (go_at_call 40; refine (root1_any _ (HH.out.ext ((Ext.refl w).alloc_ _)) HI.out.ok w.heap.size (rn : Int) hr0.1 hr0.2 (by rw [World.cell?, heap_alloc_new]; rfl)).mono ?_; rintro e w1 ⟨he, hq⟩; rw [HR.out] at he; subst he; have HX1 : Hid (Ext w w1) := ((Ext.refl w).alloc_ _).trans_ hq; clear hq)
    | (go_at_call 41; refine (object_walk kind sz _ (HH.out.ext HX1.out) HI.out (HE.out.ext HX1.out) ht HB.out ⟨by omega, hk.2⟩ hz).mono ?_; rintro e w2 ⟨he, S2, h1, h2⟩; rw [HV.out] at he; subst he; have HH2 := Lib.hid h1; have HS2 : Hid (HStep hb b w S w2 S2) := (HStep.of_ext HX1.out).trans_ h2; clear h1 h2)
    | (go_at_call 43; refine (addr_any _ _).mono ?_; rintro e w9 ⟨rfl, hw9⟩; have hw9 := hw9.symm; subst hw9)
    | (go_at_call 42; refine (set_any (E := E) w2 HH2.out HIN.out.ok (objC M ten sz) rn HRL.out (addrW V)).mono ?_; rintro e w3 ⟨rfl, S3, h3, h4⟩; have HH3 := Lib.hid h3; have HS3 : Hid (HStep hb b w S w3 S3) := HS2.out.trans_ h4; clear h3 h4))
  go_ret
  exact ⟨rfl, S3, HH3.out, HS3.out⟩
set_option maxRecDepth 100000 in
set_option maxHeartbeats 4000000 in
theorem hcopy_place (w : World) (hH : OHeap w B hb b M S ten nx) (hI : HInv M nx) (hE : G4 E w) (r : Int) (hr0 : -9223372036854775808 ≤ r ∧ r ≤ 9223372036854775807) (s : Int) (hs0 : -9223372036854775808 ≤ s ∧ s ≤ 9223372036854775807) (hR : (rootB M r && rootB M s) = false) :
    Calls Tryz.prog 21 #[.pointer (some ⟨hb, 0, none⟩), .int .i64 r, .int .i64 s] w (HPost w B hb b S ten M nx (errC E 5)) := by
  have HH := Lib.hid hH
  have HI := Lib.hid hI
  have HE := Lib.hid hE
  have HR := Lib.hid hR
  clear hH hI hE hR
  go_enter Tryz.func21, Tryz.ntmps21
  go_wp2_with (go_at_call 40; refine (root2_any _ (HH.out.ext ((Ext.refl w).alloc_ _)) HI.out.ok w.heap.size r s hr0 hs0 (by rw [World.cell?, heap_alloc_new]; rfl) (by rw [World.cell?, heap_alloc_new]; rfl)).mono ?_; rintro e w1 ⟨he, hq⟩; rw [HR.out] at he; subst he; have HX1 : Hid (Ext w w1) := ((Ext.refl w).alloc_ _).trans_ hq; clear hq; have k3 := (HE.out.ext HX1.out).place)
  go_ret
  exact ⟨rfl, S, HH.out.ext HX1.out, HStep.of_ext HX1.out⟩
set_option maxRecDepth 100000 in
set_option maxHeartbeats 4000000 in
theorem hcopy_walk (w : World) (hH : OHeap w B hb b M S ten nx) (hI : HInv M nx) (hE : G4 E w) (r : Int) (hr0 : -9223372036854775808 ≤ r ∧ r ≤ 9223372036854775807) (s : Int) (hs0 : -9223372036854775808 ≤ s ∧ s ≤ 9223372036854775807) (hR : (rootB M r && rootB M s) = true) :
    Calls Tryz.prog 21 #[.pointer (some ⟨hb, 0, none⟩), .int .i64 r, .int .i64 s] w (HPost w B hb b S ten (rootM M r.toNat (M.roots.getD s.toNat 0)) nx (.nilIface)) := by
  have HH := Lib.hid hH
  have HI := Lib.hid hI
  have HE := Lib.hid hE
  have HR := Lib.hid hR
  obtain ⟨hR1, hR2⟩ := Bool.and_eq_true_iff.1 hR
  obtain ⟨rn, rfl⟩ : ∃ rn : Nat, r = (rn : Int) := ⟨r.toNat, by have := (rootB_true.1 hR1).1; omega⟩
  obtain ⟨sn, rfl⟩ : ∃ sn : Nat, s = (sn : Int) := ⟨s.toNat, by have := (rootB_true.1 hR2).1; omega⟩
  have hrl : rn < M.roots.length := by have := (rootB_true.1 hR1).2; omega
  have hsl : sn < M.roots.length := by have := (rootB_true.1 hR2).2; omega
  simp only [Int.toNat_natCast]
  clear hH hI hE hR hR1 hR2
  go_enter Tryz.func21, Tryz.ntmps21
  go_upto_region 3 with (go_at_call 40; refine (root2_any _ (HH.out.ext ((Ext.refl w).alloc_ _)) HI.out.ok w.heap.size (rn : Int) (sn : Int) hr0 hs0 (by rw [World.cell?, heap_alloc_new]; rfl) (by rw [World.cell?, heap_alloc_new]; rfl)).mono ?_; rintro e w1 ⟨he, hq⟩; rw [HR.out] at he; subst he; have HX1 : Hid (Ext w w1) := ((Ext.refl w).alloc_ _).trans_ hq; clear hq)
  have hH1 := HH.out.ext HX1.out
  have q0 := hH1.ptr
  obtain ⟨g, hg, -, -, hgf, -, -⟩ := own_block (OMem.fR hH1.mem) (by omega)
  have hfg := hgf rn
  have c7 := (hH1.mem.fld ⟨7, 78, 1, S.R.1, M.roots.length, S.R.2, wcells M.roots⟩ (by simp [memFlds])).1
  have hrow := ((row_rsl (OMem.fR hH1.mem)).1)
  rw [hg] at hrow
  have hcell := hrow.at_ (wcells_at M.roots sn hsl)
  have hcel2 := hrow.at_ (wcells_at M.roots rn hrl)
  simp only [Nat.zero_add] at hcell hcel2
  simp only [Fld.val, hg] at c7
  generalize M.roots.getD sn 0 = xx at *
  generalize M.roots.getD rn 0 = yy at *
  have HG := Lib.hid hg
  have HRL := Lib.hid hrl
  clear hH1 hgf hg hrow
  go_region
  go_wp2
  go_ret
  obtain ⟨z1, z2⟩ := (HH.out.ext (HX1.out.drew_)).step (OMem.setR (HH.out.ext (HX1.out.drew_)).mem HG.out rn HRL.out xx) (Keep.set_ (L := OwnA b S) (Keep.refl _ _) (p := ⟨g, rn, none⟩) (Or.inl (Or.inr (Or.inr (Or.inl HG.out)))) _) (fun _ q => Or.inl q)
  exact ⟨rfl, S, z1, (HStep.of_ext (HX1.out.drew_)).trans_ z2⟩
end
open Go.Shelf Go.RowKit

def textRen : Ren where
  f := fun x => match x with
    | 129 => 170
    | 166 => 54
    | 169 => 62
    | 171 => 57
    | 173 => 58
    | 212 => 84
    | 240 => 113
    | 243 => 116
    | 246 => 117
    | 263 => 130
    | 264 => 131
    | 276 => 147
    | 283 => 149
    | 284 => 150
    | 285 => 151
    | 286 => 152
    | 317 => 171
    | 318 => 172
    | 319 => 173
    | 320 => 174
    | 337 => 182
    | 338 => 183
    | n => n
  t := fun x => match x with
    | 0 => 0
    | 2 => 2
    | 3 => 3
    | 4 => 4
    | 5 => 5
    | 9 => 9
    | 20 => 20
    | 37 => 107
    | 46 => 143
    | 51 => 192
    | 53 => 78
    | 70 => 106
    | 72 => 109
    | 75 => 26
    | 76 => 33
    | 80 => 42
    | 109 => 144
    | 127 => 177
    | 146 => 193
    | 148 => 195
    | 164 => 216
    | 171 => 218
    | 173 => 220
    | 212 => 245
    | 213 => 246
    | 232 => 259
    | 233 => 260
    | n => n
  g := fun x => match x with
    | 17 => 8
    | 18 => 9
    | 19 => 10
    | n => n
set_option maxRecDepth 100000 in
theorem writeL : Lays.n166 Tryz.prog textRen := {
  mixed := by kernel_rfl, f166 := Tryz.func54.trans (congrArg some (by kernel_rfl)), f240 := Tryz.func113.trans (congrArg some (by kernel_rfl)),
  f276 := Tryz.func147.trans (congrArg some (by kernel_rfl)), t0 := Tryz.underlying0, a0 := Tryz.isAgg0, z0 := Tryz.sizeOf0, v0 := Tryz.zeroValue0, t3 := Tryz.underlying3,
  a3 := Tryz.isAgg3, z3 := Tryz.sizeOf3, v3 := Tryz.zeroValue3, t4 := Tryz.underlying4, a4 := Tryz.isAgg4, z4 := Tryz.sizeOf4, v4 := Tryz.zeroValue4, t9 := Tryz.underlying9,
  a9 := Tryz.isAgg9, z9 := Tryz.sizeOf9, v9 := Tryz.zeroValue9, t20 := Tryz.underlying20, a20 := Tryz.isAgg20, z20 := Tryz.sizeOf20,
  v20 := Tryz.zeroValue20, t37 := Tryz.underlying107, a37 := Tryz.isAgg107, z37 := Tryz.sizeOf107, v37 := Tryz.zeroValue107, t70 := Tryz.underlying106,
  a70 := Tryz.isAgg106, z70 := Tryz.sizeOf106, v70 := Tryz.zeroValue106, t72 := Tryz.underlying109, a72 := Tryz.isAgg109,
  z72 := Tryz.sizeOf109, v72 := Tryz.zeroValue109, t75 := Tryz.underlying26, a75 := Tryz.isAgg26, z75 := Tryz.sizeOf26, v75 := Tryz.zeroValue26,
  t164 := Tryz.underlying216, a164 := Tryz.isAgg216, z164 := Tryz.sizeOf216, v164 := Tryz.zeroValue216 }
set_option maxRecDepth 100000 in
theorem stringL : Lays.n169 Tryz.prog textRen := {
  mixed := by kernel_rfl, f169 := Tryz.func62.trans (congrArg some (by kernel_rfl)), t0 := Tryz.underlying0, a0 := Tryz.isAgg0, z0 := Tryz.sizeOf0, v0 := Tryz.zeroValue0,
  t3 := Tryz.underlying3, a3 := Tryz.isAgg3, z3 := Tryz.sizeOf3, v3 := Tryz.zeroValue3, t9 := Tryz.underlying9, a9 := Tryz.isAgg9, z9 := Tryz.sizeOf9,
  v9 := Tryz.zeroValue9, t37 := Tryz.underlying107, a37 := Tryz.isAgg107, z37 := Tryz.sizeOf107, v37 := Tryz.zeroValue107, t70 := Tryz.underlying106,
  a70 := Tryz.isAgg106, z70 := Tryz.sizeOf106, v70 := Tryz.zeroValue106, t72 := Tryz.underlying109, a72 := Tryz.isAgg109,
  z72 := Tryz.sizeOf109, v72 := Tryz.zeroValue109, t127 := Tryz.underlying177, a127 := Tryz.isAgg177, z127 := Tryz.sizeOf177, v127 := Tryz.zeroValue177 }
set_option maxRecDepth 100000 in
theorem mulL : Lays.n212 Tryz.prog textRen := {
  mixed := by kernel_rfl, f212 := Tryz.func84.trans (congrArg some (by kernel_rfl)), f263 := Tryz.func130.trans (congrArg some (by kernel_rfl)),
  f264 := Tryz.func131.trans (congrArg some (by kernel_rfl)), t46 := Tryz.underlying143, a46 := Tryz.isAgg143, z46 := Tryz.sizeOf143, v46 := Tryz.zeroValue143, t51 := Tryz.underlying192,
  a51 := Tryz.isAgg192, z51 := Tryz.sizeOf192, v51 := Tryz.zeroValue192, t53 := Tryz.underlying78, a53 := Tryz.isAgg78, z53 := Tryz.sizeOf78, v53 := Tryz.zeroValue78,
  t146 := Tryz.underlying193, a146 := Tryz.isAgg193, z146 := Tryz.sizeOf193, v146 := Tryz.zeroValue193, t148 := Tryz.underlying195,
  a148 := Tryz.isAgg195, z148 := Tryz.sizeOf195, v148 := Tryz.zeroValue195 }
set_option maxRecDepth 100000 in
theorem itoaL : LaysM.n171 Tryz.prog textRen := {
  mixed := by kernel_rfl, f129 := Tryz.func170.trans (congrArg some (by kernel_rfl)), f171 := Tryz.func57.trans (congrArg some (by kernel_rfl)),
  f243 := Tryz.func116.trans (congrArg some (by kernel_rfl)), f246 := Tryz.func117.trans (congrArg some (by kernel_rfl)),
  f283 := Tryz.func149.trans (congrArg some (by kernel_rfl)), f284 := Tryz.func150.trans (congrArg some (by kernel_rfl)),
  f285 := Tryz.func151.trans (congrArg some (by kernel_rfl)), f286 := Tryz.func152.trans (congrArg some (by kernel_rfl)),
  f317 := Tryz.func171.trans (congrArg some (by kernel_rfl)), f318 := Tryz.func172.trans (congrArg some (by kernel_rfl)),
  f319 := Tryz.func173.trans (congrArg some (by kernel_rfl)), f320 := Tryz.func174.trans (congrArg some (by kernel_rfl)),
  f337 := Tryz.func182.trans (congrArg some (by kernel_rfl)), f338 := Tryz.func183.trans (congrArg some (by kernel_rfl)), t0 := Tryz.underlying0, a0 := Tryz.isAgg0,
  z0 := Tryz.sizeOf0, v0 := Tryz.zeroValue0, t2 := Tryz.underlying2, a2 := Tryz.isAgg2, z2 := Tryz.sizeOf2, v2 := Tryz.zeroValue2, t3 := Tryz.underlying3, a3 := Tryz.isAgg3,
  z3 := Tryz.sizeOf3, v3 := Tryz.zeroValue3, t4 := Tryz.underlying4, a4 := Tryz.isAgg4, z4 := Tryz.sizeOf4, v4 := Tryz.zeroValue4, t5 := Tryz.underlying5, a5 := Tryz.isAgg5,
  z5 := Tryz.sizeOf5, v5 := Tryz.zeroValue5, t9 := Tryz.underlying9, a9 := Tryz.isAgg9, z9 := Tryz.sizeOf9, v9 := Tryz.zeroValue9, t20 := Tryz.underlying20,
  a20 := Tryz.isAgg20, z20 := Tryz.sizeOf20, v20 := Tryz.zeroValue20, t37 := Tryz.underlying107, a37 := Tryz.isAgg107, z37 := Tryz.sizeOf107,
  v37 := Tryz.zeroValue107, t46 := Tryz.underlying143, a46 := Tryz.isAgg143, z46 := Tryz.sizeOf143, v46 := Tryz.zeroValue143, t51 := Tryz.underlying192, a51 := Tryz.isAgg192,
  z51 := Tryz.sizeOf192, v51 := Tryz.zeroValue192, t53 := Tryz.underlying78, a53 := Tryz.isAgg78, z53 := Tryz.sizeOf78, v53 := Tryz.zeroValue78, t171 := Tryz.underlying218,
  a171 := Tryz.isAgg218, z171 := Tryz.sizeOf218, v171 := Tryz.zeroValue218, t173 := Tryz.underlying220, a173 := Tryz.isAgg220,
  z173 := Tryz.sizeOf220, v173 := Tryz.zeroValue220, t212 := Tryz.underlying245, a212 := Tryz.isAgg245, z212 := Tryz.sizeOf245,
  v212 := Tryz.zeroValue245, t213 := Tryz.underlying246, a213 := Tryz.isAgg246, z213 := Tryz.sizeOf246, t232 := Tryz.underlying259, a232 := Tryz.isAgg259,
  z232 := Tryz.sizeOf259, v232 := Tryz.zeroValue259, t233 := Tryz.underlying260, a233 := Tryz.isAgg260, z233 := Tryz.sizeOf260, v233 := Tryz.zeroValue260,
  g17 := by kernel_rfl, g18 := by kernel_rfl, g19 := by kernel_rfl, i0 := by kernel_rfl, i2 := by kernel_rfl, i3 := by kernel_rfl, i4 := by kernel_rfl, i5 := by kernel_rfl, i9 := by kernel_rfl, i20 := by kernel_rfl,
  i37 := by kernel_rfl, i46 := by kernel_rfl, i51 := by kernel_rfl, i53 := by kernel_rfl, i171 := by kernel_rfl, i173 := by kernel_rfl, i212 := by kernel_rfl, i232 := by kernel_rfl, i233 := by kernel_rfl, m17 := by kernel_rfl,
  m18 := by kernel_rfl, m19 := by kernel_rfl }
set_option maxRecDepth 100000 in
theorem fmtL : LaysM.n173 Tryz.prog textRen := { itoaL with
  f173 := Tryz.func58.trans (congrArg some (by kernel_rfl)) }
theorem builderX : Builder.Extra Tryz.prog textRen := {
  sizeBuilder := by kernel_rfl, liesBuilder := by kernel_rfl, t5 := Tryz.underlying5, a5 := Tryz.isAgg5, z5 := Tryz.sizeOf5, v5 := Tryz.zeroValue5, infoByte := by kernel_rfl,
  cellsByte := by kernel_rfl, sizeByte := by kernel_rfl, neB5 := by decide }
/-- A builder that the call has made, and what it holds. -/
def Bld (B b : Nat) (s : ByteArray) (w : World) : Prop := Lib.IsBuilderF 109 5 B b (Lib.strCells s) w
theorem strCells_app (a b : ByteArray) : Lib.strCells (a ++ b) = Lib.strCells a ++ Lib.strCells b := by
  simp [Lib.strCells_eq, Lib.byteCells]
theorem write_any (B b : Nat) (out s : ByteArray) (w : World) (h : Bld B b out w) (hl : out.size + s.size ≤ 140737488355328) (hB : B ≤ w.heap.size) :
    Calls Tryz.prog 54 #[.pointer (some ⟨b, 0, none⟩), .string s] w fun e w' => e = .returned (.tuple #[.int .i64 s.size, .nilIface]) ∧ Bld B b (out ++ s) w' ∧ Below B w w' ∧ Lib.OthersKept 5 (some b) w w' := by
  refine (Any.Builder_WriteString_k (ρ := textRen) writeL builderX B b (Lib.strCells out) s w h (by rw [Lib.strCells_length]; exact hl) hB).mono ?_
  rintro e w' ⟨he, h1, h2, h3⟩
  refine ⟨he, ?_, h2, h3⟩
  unfold Bld
  rw [strCells_app]
  exact Or.inr h1
/-- The same; how many bytes were written is not told. -/
theorem write_ex (B b : Nat) (out s : ByteArray) (w : World) (h : Bld B b out w) (hl : out.size + s.size ≤ 140737488355328) (hB : B ≤ w.heap.size) :
    Calls Tryz.prog 54 #[.pointer (some ⟨b, 0, none⟩), .string s] w fun e w' => ∃ z : Int, e = .returned (.tuple #[.int .i64 z, .nilIface]) ∧ Bld B b (out ++ s) w' ∧ Below B w w' ∧ Lib.OthersKept 5 (some b) w w' :=
  (write_any B b out s w h hl hB).mono fun _ _ h => ⟨_, h⟩
theorem string_any (B b : Nat) (s : ByteArray) (w : World) (h : Bld B b s w) (hB : B ≤ w.heap.size) :
    Calls Tryz.prog 62 #[.pointer (some ⟨b, 0, none⟩)] w fun e w' => e = .returned (.string s) ∧ Below B w w' := by
  refine (Any.Builder_String_any_k (ρ := textRen) stringL builderX B b s.data.toList w h hB).mono ?_
  rintro e w' ⟨he, h1, h2, h3⟩
  exact ⟨he, h2⟩
theorem itoa_any (n : Int) (h0 : -9223372036854775808 ≤ n) (h1 : n ≤ 9223372036854775807) (w : World) (htab : Lib.TabIs Tryz.prog w "internal/strconv.uint64pow10" .u64 Lib.pow10Tab) :
    Calls Tryz.prog 57 #[.int .i64 n] w fun e w' => e = .returned (.string ⟨(Lib.itoa n).toArray⟩) ∧ ∃ k os, w' = Sort.grow (w.drewN k) os := Any.strconv_Itoa itoaL n h0 h1 w htab
theorem fmt_any (n : Int) (h0 : -9223372036854775808 ≤ n) (h1 : n ≤ 9223372036854775807) (w : World) (htab : Lib.TabIs Tryz.prog w "internal/strconv.uint64pow10" .u64 Lib.pow10Tab) :
    Calls Tryz.prog 58 #[.int .i64 n, .int .i64 10] w fun e w' => e = .returned (.string ⟨(Lib.itoa n).toArray⟩) ∧ ∃ k os, w' = Sort.grow (w.drewN k) os := Any.strconv_FormatInt_10 fmtL n h0 h1 w htab
theorem mul_any (x y : Nat) (hx : x < 18446744073709551616) (hy : y < 18446744073709551616) (w : World) :
    Calls Tryz.prog 84 #[.int .u64 x, .int .u64 y] w fun e w' => e = .returned (.tuple #[.int .u64 ((x * y / 18446744073709551616 : Nat) : Int), .int .u64 ((x * y % 18446744073709551616 : Nat) : Int)]) ∧ w' = w := Any.bits_Mul mulL x y hx hy w
end Go.Proofs.YtelhoppfidibiaaGreatDoor
