/- The law MemCopies: its walk. -/
import Derived.Test.YtecbbbaafcoliaaDoorJCo08
import Derived.Test.YtecbbbaafcoliaaDoorJCo11
import Derived.Test.YtecbbbaafcoliaaDoorJCo12
import Derived.Test.YtecbbbaafcoliaaDoorJCo13
import Derived.Test.YtecbbbaafcoliaaDoorJCo03
import Derived.ProofKit
import Derived.Deep.Fields
import Derived.Deep.SlicePairs
import Derived.OpenShut
import Derived.Test.YtecbbbaafcoliaaDoorCards
import Derived.Test.YtecbbbaafcoliaaDoorTie
import Derived.Test.YtecbbbaafcoliaaDoorJCo01
import Derived.LaidLaws
import Derived.LaidSub
import Derived.LaidMore
import Derived.Deep.DeepHandedRow
import Derived.Deep.DeepWitnessRowRef
namespace Go.Proofs.YtecbbbaafcoliaaDoor
open Go.RowKit
set_option linter.unusedVariables false
set_option linter.unusedSimpArgs false

theorem memCopies_nil (kind : Int) (w : World) (E : Nat → Addr) (h : G4 E w) :
    Calls Tryd.prog 3 #[.pointer none, .int .i64 kind] w fun e w' => e = .returned (.bool true) ∧ Ext w w' := by
  have H := Lib.hid h
  clear h
  go_enter Tryd.func3, Tryd.ntmps3
  go_wp2_with (first
    | (go_at_call 11; refine (fresh_any _ E H.out.toG3).mono ?_; rintro e w' ⟨rfl, hq⟩; have hb := Lib.hid hq; clear hq)
    | (go_at_call 12; refine (near_nil _).mono ?_; rintro e w' ⟨rfl, rfl⟩))
  go_ret
  exact ⟨rfl, hb.out⟩
theorem memCopies_far (b o : Nat) (M : Mem) (S : Sls) (hn : ¬ Near M) (kind : Int) (w : World) (hM : RMem w b o M S) (E : Nat → Addr) (h : G4 E w) :
    Calls Tryd.prog 3 #[.pointer (some ⟨b, o, none⟩), .int .i64 kind] w fun e w' => e = .returned (.bool true) ∧ Ext w w' := by
  have H := Lib.hid h
  have HM := Lib.hid hM
  have HN := Lib.hid hn
  clear h hM hn
  go_enter Tryd.func3, Tryd.ntmps3
  go_wp2_with (first
    | (go_at_call 11; refine (fresh_any _ E H.out.toG3).mono ?_; rintro e w' ⟨rfl, hq⟩; have hb := Lib.hid hq; clear hq)
    | (go_at_call 12; refine (near_no b o M S HN.out _ (HM.out.ext hb.out)).mono ?_; rintro e w' ⟨rfl, rfl⟩))
  go_ret
  exact ⟨rfl, hb.out⟩
theorem rsl_one (w : World) (t : TypeId) (x : Int) : RSl (w.alloc (.cells #[.int .u64 x] t)) (some ⟨w.heap.size, 0, none⟩) (wcells [x]) := fun j u hu => ⟨_, 0, rfl, by
  rw [Nat.zero_add, cell_of_row _ w.heap.size j _ t (0, 0) (heap_alloc_new w _)]
  simpa [wcells] using hu⟩
/-- What of Alloc the law leans on: whatever it answers, the memory is its own still, of the same lengths. -/
def ASome (w : World) (B b : Nat) (M : Mem) (S : Sls) (e : Ending) (w' : World) : Prop :=
  ∃ p v M', e = .returned (.tuple #[.int .u64 p, v]) ∧ OMem w' B b 72 M' S ∧ M'.W.length = M.W.length ∧ M'.roots.length = M.roots.length ∧ M'.cards.length = M.cards.length ∧ Below B w w'
theorem alloc_some (B b : Nat) (M : Mem) (S : Sls) (E : Nat → Addr) (kind : Int) (w : World) (hO : OMem w B b 72 M S) (hok : M.Ok) (hE : G4 E w) :
    Calls Tryd.prog 17 #[.pointer (some ⟨b, 0, none⟩), .int .i64 kind, .slice none 0 0] w (ASome w B b M S) := by
  refine (alloc_any B b M S E kind none [] 0 w hO hok hE (by simp) (RSl.nil _ _) (by simp) (by simp)).mono ?_
  rintro e w' (⟨h1, rfl, hx⟩ | ⟨h1, rfl, h2, h3, h4, h5⟩)
  · exact ⟨_, _, M, rfl, OM.ext hO hx, rfl, rfl, rfl, Below.mono hx hO.hbs⟩
  · refine ⟨_, _, allocM M kind [], rfl, h2, ?_, rfl, rfl, h3.belowO hO hO.hbs⟩
    simp only [allocM]
    rw [length_splice _ _ _ (by simpa using h5)]
    simp
set_option maxRecDepth 100000 in
set_option maxHeartbeats 8000000 in
theorem memCopies_yes (b o : Nat) (M : Mem) (S : Sls) (hn : Near M) (kind : Int) (w : World) (hM : RMem w b o M S) (E : Nat → Addr) (h : G4 E w) :
    Calls Tryd.prog 3 #[.pointer (some ⟨b, o, none⟩), .int .i64 kind] w fun e w' => e = .returned (.bool true) ∧ Ext w w' := by
  obtain ⟨i0, hi, hz0, hz1, hz2⟩ := info_parts infoF0
  have HF := Lib.hid hn.few
  have HOK := Lib.hid hM.ok
  have H := Lib.hid h
  have HM := Lib.hid hM
  have HN := Lib.hid hn
  clear h hM hn
  go_enter Tryd.func3, Tryd.ntmps3
  go_wp2_with (first
    | (go_at_call 11; refine (fresh_any _ E H.out.toG3).mono ?_; rintro e w0 ⟨rfl, hq⟩; have hb := Lib.hid hq; clear hq)
    | (go_at_call 12; refine (near_yes b o M S HN.out _ (HM.out.ext hb.out)).mono ?_; rintro e w' ⟨rfl, rfl⟩)
    | (go_at_call 13; refine (memOf_walk b o M S _ (HM.out.ext hb.out) HF.out).mono ?_; rintro e w1 ⟨bx, Sx, rfl, hq1, hq2⟩; have HX := Lib.hid (hq1.mem HOK.out); have HE1 : Hid (Ext w w1) := Ext.trans_ hb.out hq2; clear hq1 hq2)
    | (go_at_call 14; refine (copy_walk bx M Sx _ HX.out HF.out).mono ?_; rintro e w2 ⟨bq, Sy, rfl, hq1, hq2⟩; have HY := Lib.hid hq1; have HE2 : Hid (Ext w1 w2) := hq2; clear hq1 hq2)
    | (go_at_call 16; refine (memBack_walk bq 0 M Sy _ (HY.out.mem HOK.out) HF.out).mono ?_; rintro e w3 ⟨B3, b3, S3, rfl, hq1, hq2, hq3⟩; have H3 := Lib.hid (hq1.mem HOK.out); have HE3 : Hid (Ext w1 w3) := Ext.trans_ HE2.out hq3; have HY3 : Hid (OMem w3 w1.heap.size bq 72 M Sy) := OM.ext HY.out hq3; clear hq1 hq2 hq3)
    | (go_at_call 15; refine (sameMemory_yes b3 0 b o M S3 S _ H3.out (HM.out.ext (Ext.trans_ HE1.out HE3.out))).mono ?_; rintro e w4 ⟨rfl, hq⟩; have HE4 : Hid (Ext w1 w4) := Ext.trans_ HE3.out hq; have HY4 : Hid (OMem w4 w1.heap.size bq 72 M Sy) := OM.ext HY3.out hq; clear hq)
    | (go_at_call 17; refine (alloc_some w1.heap.size bq M Sy E kind _ HY4.out HOK.out ((H.out.ext (Ext.trans_ HE1.out HE4.out)))).mono ?_; rintro e w5 ⟨pp, vv, M5, rfl, hq1, hq2, hq3, hq4, hq5⟩; have HY5 := Lib.hid hq1; have HL5 := Lib.hid (And.intro hq2 (And.intro hq3 hq4)); have HE5 : Hid (Ext w1 w5) := Below.trans HE4.out hq5; clear hq1 hq2 hq3 hq4 hq5; have n7 := (HY5.out.fld ⟨7, 30, 1, Sy.R.1, M5.roots.length, Sy.R.2, wcells M5.roots⟩ (by simp [memFlds])).1; simp only [Fld.val] at n7; have f7 := HY5.out.frozen 7; have l7 := OM.lt HY5.out; have hr5 : M5.roots.length ≤ 100 := by have h1 := HL5.out.2.1; have h2 := HN.out.R; omega)
    | (at_builtin; refine wpList_append_src rfl _ _ 35 rfl w1.heap.size 30 i0 (.int .u64 0) 1 8 und0 hi hz0 hz1 hz2 rfl (by decide) _ M5.roots.length (wcells M5.roots) rfl ((OM.ext HY5.out ((Ext.refl w5).alloc_ _)).fld ⟨7, 30, 1, Sy.R.1, M5.roots.length, Sy.R.2, wcells M5.roots⟩ (by simp [memFlds])).2.1 (some ⟨w5.heap.size, 0, none⟩) 1 1 (wcells [0]) rfl (fun h => by cases h) (Nat.le_refl _) rfl (rsl_one w5 _ 0) (wcells_one _) (by unfold maxLen; omega) (by omega) (by have := HY5.out.hbs; simp; omega) ?_))
  intro a2 c2 w6 hown hgrow hat
  have hY6 : OMem (w6.setCell ⟨bq, 7, none⟩ (.slice a2 (M5.roots.length + 1) c2)) w1.heap.size bq 72 { M5 with roots := M5.roots ++ [0] } { Sy with R := (a2, c2) } :=
    OMem.pushRoot (OM.ext HY5.out ((Ext.refl w5).alloc_ _)) 0 a2 c2 hgrow hown (by rw [show (w5.alloc (.cells #[.int .u64 0] 30)).heap.size = w5.heap.size + 1 from by simp]; exact hat)
  have k7 : w6.cell? ⟨bq, 7, none⟩ = some (.slice Sy.R.1 M5.roots.length Sy.R.2) := by
    have hb := hgrow.block bq (by simp; omega) (fun e => ((OM.ext HY5.out ((Ext.refl w5).alloc_ (.cells #[.int .u64 0] 30))).fld ⟨7, 30, 1, Sy.R.1, M5.roots.length, Sy.R.2, wcells M5.roots⟩ (by simp [memFlds])).2.2 e.symm)
    rw [World.cell?_of_block (w := w5.alloc (.cells #[.int .u64 0] 30)) (a := ⟨bq, 7, none⟩) hb]
    exact ((Ext.refl w5).alloc_ _).cell_ n7
  have j7 : w6.frozen? ⟨bq, 7, none⟩ = false := by
    have hb := hgrow.block bq (by simp; omega) (fun e => ((OM.ext HY5.out ((Ext.refl w5).alloc_ (.cells #[.int .u64 0] 30))).fld ⟨7, 30, 1, Sy.R.1, M5.roots.length, Sy.R.2, wcells M5.roots⟩ (by simp [memFlds])).2.2 e.symm)
    rw [World.frozen?_of_block (w := w5.alloc (.cells #[.int .u64 0] 30)) (a := ⟨bq, 7, none⟩) hb]
    exact (OM.ext HY5.out ((Ext.refl w5).alloc_ _)).frozen 7
  have hE6 : Ext w1 w6 := Below.grown (Ext.alloc_ HE5.out _) hgrow (by have := HE5.out.size; simp; omega) (fun g hg => (HY5.out.fld ⟨7, 30, 1, Sy.R.1, M5.roots.length, Sy.R.2, wcells M5.roots⟩ (by simp [memFlds])).2.1.lt g hg |>.1)
  have HY6 := Lib.hid hY6
  have HE6 : Hid (Ext w1 (w6.setCell ⟨bq, 7, none⟩ (.slice a2 (M5.roots.length + 1) c2))) := hE6.set_ (HY5.out.hb) _
  clear hown hgrow hat hE6 hY6 n7 f7
  obtain ⟨M6, hM6⟩ : ∃ M6, M6 = { M5 with roots := M5.roots ++ [0] } := ⟨_, rfl⟩
  obtain ⟨Sz, hSz⟩ : ∃ Sz, Sz = { Sy with R := (a2, c2) } := ⟨_, rfl⟩
  obtain ⟨n, hn⟩ : ∃ n : Nat, n = M.W.length := ⟨_, rfl⟩
  obtain ⟨m, hm⟩ : ∃ m : Nat, m = M.cards.length := ⟨_, rfl⟩
  have hY7 := HY6.out
  rw [← hM6, ← hSz] at hY7
  have HN6 : Hid (M6.W.length = n ∧ M6.cards.length = m) := ⟨by rw [hM6, hn]; exact HL5.out.1, by rw [hM6, hm]; exact HL5.out.2.2⟩
  have hn1 : n ≤ 1000 := by rw [hn]; exact HN.out.W
  have hm1 : m ≤ 1000 := by rw [hm]; exact HN.out.C
  have HY7 := Lib.hid hY7
  clear hM6 hSz hn hm hY7 HY6
  go_wp2
  generalize w6.setCell ⟨bq, 7, none⟩ (.slice a2 (M5.roots.length + 1) c2) = W7 at *
  clear k7 j7
  go_loopw [8] (fun i wr => ∃ (k : Nat) (l : List Int), k ≤ n ∧ i = .int .i64 (k : Int) ∧ Hid (l.length = n) ∧ Hid (OMem wr w1.heap.size bq 72 { M6 with W := l } Sz) ∧ Hid (Ext w1 wr)) (fun i _ => n - (intOf i).toNat)
  case atStart => exact ⟨0, M6.W, Nat.zero_le _, rfl, HN6.out.1, HY7.out, HE6.out⟩
  case round =>
    obtain ⟨k, l, hk, rfl, hL, hO, hE⟩ := hrel
    have n3 : wr.cell? ⟨bq, 3, none⟩ = some (.slice Sz.W.1 n Sz.W.2) := by
      have := (hO.out.fld ⟨3, 30, 1, Sz.W.1, l.length, Sz.W.2, wcells l⟩ (by simp [memFlds])).1
      simp only [Fld.val, hL.out] at this
      exact this
    by_cases hlt : k < n
    · obtain ⟨g, hg, hgB, hgl, hgf, hgc, -⟩ := own_block hO.out.fW (by show 0 < l.length; rw [hL.out]; omega)
      have hc : wr.cell? ⟨g, k, none⟩ = some (.int .u64 (l.getD k 0)) := by
        have := (row_rsl hO.out.fW).1
        rw [hg] at this
        simpa using this.at_ (wcells_at l k (by rw [hL.out]; exact hlt))
      have hf := hgf k
      have HG := Lib.hid hg
      rw [hg] at n3
      have hltz : (k : Int) < (n : Int) := by omega
      have hgB2 : w1.heap.size ≤ g := hgB
      clear hg hgf hgc hgB
      go_wp2
      go_roundw
      case rel => exact ⟨k + 1, l.set k 0, by omega, by go_num, Lib.hid (by rw [List.length_set]; exact hL.out), OMem.setW hO.out HG.out k (by show k < l.length; rw [hL.out]; exact hlt) 0, Ext.set_ hE.out hgB2 _⟩
      case measure => simp [intOf]; omega
    · have hltz : ¬ (k : Int) < (n : Int) := by omega
      go_wp2
      generalize hM8 : { M6 with W := l } = M8 at hO
      have HM8 : Hid (M8.cards.length = m) := by rw [Hid, ← hM8]; exact HN6.out.2
      have HO8 := hO
      have HE8 := hE
      clear hM8 hO hE n3 hL
      go_loopw [9] (fun i wr => ∃ (k : Nat) (l : List Bool), k ≤ m ∧ i = .int .i64 (k : Int) ∧ Hid (l.length = m) ∧ Hid (OMem wr w1.heap.size bq 72 { M8 with cards := l } Sz) ∧ Hid (Ext w1 wr)) (fun i _ => m - (intOf i).toNat)
      case atStart => exact ⟨0, M8.cards, Nat.zero_le _, rfl, HM8.out, HO8.out, HE8.out⟩
      case round =>
        obtain ⟨k, l, hk, rfl, hL, hO, hE⟩ := hrel
        have n10 : wr.cell? ⟨bq, 10, none⟩ = some (.slice Sz.C.1 m Sz.C.2) := by
          have := (hO.out.fld ⟨10, 4, 1, Sz.C.1, l.length, Sz.C.2, bcells l⟩ (by simp [memFlds])).1
          simp only [Fld.val, hL.out] at this
          exact this
        by_cases hlt : k < m
        · obtain ⟨g, hg, hgB, hgl, hgf, hgc, -⟩ := own_block hO.out.fC (by show 0 < l.length; rw [hL.out]; omega)
          have hc : wr.cell? ⟨g, k, none⟩ = some (.bool (l.getD k false)) := by
            have := (row_rsl hO.out.fC).1
            rw [hg] at this
            simpa using this.at_ (bcells_at l k (by rw [hL.out]; exact hlt))
          have hf := hgf k
          have HG := Lib.hid hg
          rw [hg] at n10
          have hltz : (k : Int) < (m : Int) := by omega
          have hgB2 : w1.heap.size ≤ g := hgB
          clear hg hgf hgc hgB
          go_wp2
          go_roundw
          case rel => exact ⟨k + 1, l.set k true, by omega, by go_num, Lib.hid (by rw [List.length_set]; exact hL.out), OMem.setC hO.out HG.out k (by show k < l.length; rw [hL.out]; exact hlt) true, Ext.set_ hE.out hgB2 _⟩
          case measure => simp [intOf]; omega
        · have hltz : ¬ (k : Int) < (m : Int) := by omega
          clear hlt
          go_wp2_with (first
            | (go_at_call 16; refine (memBack_walk bx 0 M Sx _ (HX.out.ext hE.out) HF.out).mono ?_; rintro e w9 ⟨B9, b9, S9, rfl, hq1, hq2, hq3⟩; have H9 := Lib.hid (hq1.mem HOK.out); have HE9 : Hid (Ext w w9) := Ext.trans_ HE1.out (Ext.trans_ hE.out hq3); clear hq1 hq2 hq3)
            | (go_at_call 15; refine (sameMemory_yes b9 0 b o M S9 S _ H9.out (HM.out.ext HE9.out)).mono ?_; rintro e w10 ⟨rfl, hq⟩; have HE10 : Hid (Ext w w10) := Ext.trans_ HE9.out hq; clear hq))
          go_ret
          exact ⟨rfl, HE10.out⟩
theorem memCopies_any (b o : Nat) (M : Mem) (S : Sls) (kind : Int) (w : World) (hM : RMem w b o M S) (E : Nat → Addr) (h : G4 E w) :
    Calls Tryd.prog 3 #[.pointer (some ⟨b, o, none⟩), .int .i64 kind] w fun e w' => e = .returned (.bool true) ∧ Ext w w' := by
  by_cases hn : Near M
  · exact memCopies_yes b o M S hn kind w hM E h
  · exact memCopies_far b o M S hn kind w hM E h
end Go.Proofs.YtecbbbaafcoliaaDoor
/- A memory among the arguments: what its reading tells of the world. -/
namespace Go.Proofs.YtecbbbaafcoliaaDoor
open Go.ChangeShapes Go.WideShapes Go.RowKit Go.Deep
set_option linter.unusedVariables false
set_option linter.unusedSimpArgs false

section
variable {H : Type} {enc : TypeId × Value → H} {w : World} {base : Nat} {spare : Nat → Bool} {held : Bool}

theorem rsl_of (a : Addr) (cs : List Value) (h : ∀ i v, cs[i]? = some v → w.cell? (a.add i) = some v) : RSl w (some a) cs := fun j u hu => by
  obtain ⟨b, off, spot⟩ := a
  obtain ⟨hj, _⟩ := List.getElem?_eq_some_iff.1 hu
  have h0 := h 0 (cs[0]'(by omega)) (by simp)
  have hs : spot = none := by simpa [Addr.add] using World.cell?_spot h0
  subst hs
  have hj0 := h j u hu
  refine ⟨b, off, rfl, ?_⟩
  by_cases e : j = 0
  · subst e; simpa [Addr.add] using hj0
  · simpa [Addr.add, e] using hj0
theorem read_u64s {fuel : Nat} {v : Value} {x : DataW H × List MemPlace} (h : DataW.trod enc Tryd.prog w base spare held fuel 35 [v] = some x) :
    ∃ a c l, v = .slice a l.length c ∧ RSl w a (wcells l) ∧ l.length ≤ c ∧ (a = none → c = 0) ∧ c ≤ 9223372036854775807 ∧ ∀ z ∈ l, 0 ≤ z ∧ z ≤ 18446744073709551615 := by
  rcases open_ints (e := 30) (k := .u64) (by kernel_rfl) (by kernel_rfl) (by kernel_rfl) h with ⟨hcs, _⟩ | ⟨a, len, cap, zs, hcs, _, hl, hm, hz, _, hcell, hwf⟩
  · obtain rfl := List.singleton_inj.1 hcs
    exact ⟨none, 0, [], rfl, RSl.nil _ _, Nat.le_refl _, fun _ => rfl, by omega, by simp⟩
  · obtain rfl := List.singleton_inj.1 hcs
    have hle : len ≤ zs.length := by rw [hz]; split <;> omega
    have hln : (zs.take len).length = len := by simp; omega
    refine ⟨some a, cap, zs.take len, by rw [hln], rsl_of a _ fun i v hi => ?_, by rw [hln]; exact hl, (fun e => by cases e), by unfold maxLen at hm; omega, fun z hz' => ?_⟩
    · obtain ⟨hi', hv⟩ := List.getElem?_eq_some_iff.1 hi
      simp only [wcells, List.length_map, hln] at hi'
      rw [hcell i (by omega), ← hv]
      simp [wcells, List.getD_eq_getElem?_getD, show i < zs.length by omega]
    · exact wf_u64 (hwf z (List.mem_of_mem_take hz'))
theorem read_bools {fuel : Nat} {v : Value} {x : DataW H × List MemPlace} (h : DataW.trod enc Tryd.prog w base spare held fuel 37 [v] = some x) :
    ∃ a c l, v = .slice a l.length c ∧ RSl w a (bcells l) ∧ l.length ≤ c ∧ (a = none → c = 0) ∧ c ≤ 9223372036854775807 := by
  rcases open_slice1 (e := 4) (by kernel_rfl) (by kernel_rfl) h with ⟨hcs, _⟩ | ⟨a, len, cap, m, n, V, D, Pl, hcs, _, hl, hm, hmm, _, hx⟩
  · obtain rfl := List.singleton_inj.1 hcs
    exact ⟨none, 0, [], rfl, RSl.nil _ _, Nat.le_refl _, fun _ => rfl, by omega⟩
  · obtain rfl := List.singleton_inj.1 hcs
    have hle : len ≤ m := by rw [hmm]; split <;> omega
    have hb : ∀ i, i < m → ∃ q : Bool, V i = .bool q := fun i hi => by
      obtain ⟨q, hq, _⟩ := DataW.trod_bool (by kernel_rfl) (hx i hi).2
      exact ⟨q, List.singleton_inj.1 hq⟩
    obtain ⟨B, hB⟩ := choose_lt (α := Bool) (p := fun i q => V i = .bool q) hb
    have hln : ((List.range len).map B).length = len := by simp
    refine ⟨some a, cap, (List.range len).map B, by rw [hln], rsl_of a _ fun i v hi => ?_, by rw [hln]; exact hl, (fun e => by cases e), by unfold maxLen at hm; omega⟩
    obtain ⟨hi', hv⟩ := List.getElem?_eq_some_iff.1 hi
    simp only [bcells, List.length_map, List.length_range] at hi'
    rw [(hx i (by omega)).1, hB i (by omega), ← hv]
    simp [bcells]
theorem rsl_ids (a : Addr) (l : List (Int × Int)) (h : ∀ (i : Nat) (hi : i < l.length), w.cell? (a.add (i * 2)) = some (.int .u64 l[i].1) ∧ w.cell? (a.add (i * 2 + 1)) = some (.int .i64 l[i].2)) : RSl w (some a) (icells l) :=
  rsl_of a _ fun i v hv => by
    obtain ⟨hi, _⟩ := List.getElem?_eq_some_iff.1 hv
    rw [icells_len] at hi
    obtain ⟨h1, h2⟩ := icells_at l (i / 2) (by omega)
    obtain ⟨h3, h4⟩ := h (i / 2) (by omega)
    rcases Nat.mod_two_eq_zero_or_one i with e | e
    · have e2 : i / 2 * 2 = i := by omega
      rw [e2] at h1 h3
      rw [hv] at h1; rw [h3, h1]
    · have e2 : i / 2 * 2 + 1 = i := by omega
      rw [e2] at h2 h4
      rw [hv] at h2; rw [h4, h2]
theorem read_ids {fuel : Nat} {v : Value} {x : DataW H × List MemPlace} (h : DataW.trod enc Tryd.prog w base spare held fuel 49 [v] = some x) :
    ∃ a c l, v = .slice a l.length c ∧ RSl w a (icells l) ∧ l.length ≤ c ∧ (a = none → c = 0) ∧ c ≤ 9223372036854775807 ∧ ∀ z ∈ l, (0 ≤ z.1 ∧ z.1 ≤ 18446744073709551615) ∧ (-9223372036854775808 ≤ z.2 ∧ z.2 ≤ 9223372036854775807) := by
  rcases open_slice_pairs (e := 71) (by kernel_rfl) (Tryd.underlying71) (by kernel_rfl) rfl rfl (by kernel_rfl) (by kernel_rfl) h with ⟨hcs, _⟩ | ⟨a, len, cap, m, n, V0, V1, D0, D1, P0, P1, hcs, _, hl, hm, hmm, _, hx⟩
  · obtain rfl := List.singleton_inj.1 hcs
    exact ⟨none, 0, [], rfl, RSl.nil _ _, Nat.le_refl _, fun _ => rfl, by omega, by simp⟩
  · obtain rfl := List.singleton_inj.1 hcs
    have hle : len ≤ m := by rw [hmm]; split <;> omega
    have hb : ∀ i, i < m → ∃ q : Int × Int, (V0 i = .int .u64 q.1 ∧ V1 i = .int .i64 q.2) ∧ (0 ≤ q.1 ∧ q.1 ≤ 18446744073709551615) ∧ (-9223372036854775808 ≤ q.2 ∧ q.2 ≤ 9223372036854775807) := fun i hi => by
      obtain ⟨_, _, h3, h4⟩ := hx i hi
      obtain ⟨q0, e0, _, w0⟩ := DataW.trod_int (k := .u64) (by kernel_rfl) h3
      obtain ⟨q1, e1, _, w1⟩ := DataW.trod_int (k := .i64) (by kernel_rfl) h4
      exact ⟨(q0, q1), ⟨List.singleton_inj.1 e0, List.singleton_inj.1 e1⟩, wf_u64 w0, wf_i64 w1⟩
    obtain ⟨B, hB⟩ := choose_lt (p := fun i (q : Int × Int) => (V0 i = .int .u64 q.1 ∧ V1 i = .int .i64 q.2) ∧ (0 ≤ q.1 ∧ q.1 ≤ 18446744073709551615) ∧ (-9223372036854775808 ≤ q.2 ∧ q.2 ≤ 9223372036854775807)) hb
    have hln : ((List.range len).map B).length = len := by simp
    refine ⟨some a, cap, (List.range len).map B, by rw [hln], rsl_ids a _ fun i hi => ?_, by rw [hln]; exact hl, (fun e => by cases e), by unfold maxLen at hm; omega, fun z hz => ?_⟩
    · simp only [List.length_map, List.length_range] at hi
      obtain ⟨g1, g2, _, _⟩ := hx i (by omega)
      obtain ⟨⟨g3, g4⟩, _⟩ := hB i (by omega)
      rw [g1, g2, g3, g4]
      simp
    · obtain ⟨i, hi, rfl⟩ := List.mem_map.1 hz
      exact (hB i (by have := List.mem_range.1 hi; omega)).2
/-- THE ARGUMENT: nil, or a memory that lies there. -/
theorem read_mem {fuel : Nat} {cs : List Value} {x : DataW H × List MemPlace} (h : DataW.trod enc Tryd.prog w base spare held fuel 22 cs = some x) :
    cs = [.pointer none] ∨ ∃ b o M S, cs = [.pointer (some ⟨b, o, none⟩)] ∧ RMem w b o M S := by
  rcases open_ptr_fields (tp := 22) (ts := 51) (by kernel_rfl) (Tryd.underlying51) (hone_of (by kernel_rfl)) (by kernel_rfl) (by decide) h with ⟨h0, _⟩ | ⟨b, o, n, V, Y, rfl, hb, rfl, hf⟩
  · exact Or.inl h0
  right
  obtain ⟨k0, t0⟩ := hf 0 _ rfl
  obtain ⟨k1, t1⟩ := hf 1 _ rfl
  obtain ⟨k2, t2⟩ := hf 2 _ rfl
  obtain ⟨k3, t3⟩ := hf 3 _ rfl
  obtain ⟨k4, t4⟩ := hf 4 _ rfl
  obtain ⟨k5, t5⟩ := hf 5 _ rfl
  obtain ⟨k6, t6⟩ := hf 6 _ rfl
  obtain ⟨k7, t7⟩ := hf 7 _ rfl
  obtain ⟨k8, t8⟩ := hf 8 _ rfl
  obtain ⟨k9, t9⟩ := hf 9 _ rfl
  obtain ⟨k10, t10⟩ := hf 10 _ rfl
  obtain ⟨half, e0, _, w0⟩ := DataW.trod_int (k := .i64) (by kernel_rfl) t0
  obtain ⟨old, e1, _, w1⟩ := DataW.trod_int (k := .i64) (by kernel_rfl) t1
  obtain ⟨card, e2, _, w2⟩ := DataW.trod_int (k := .i64) (by kernel_rfl) t2
  obtain ⟨a3, c3, W, e3, r3, l3, n3, m3, b3⟩ := read_u64s t3
  obtain ⟨used, e4, _, w4⟩ := DataW.trod_int (k := .i64) (by kernel_rfl) t4
  obtain ⟨top, e5, _, w5⟩ := DataW.trod_int (k := .i64) (by kernel_rfl) t5
  obtain ⟨oldTop, e6, _, w6⟩ := DataW.trod_int (k := .i64) (by kernel_rfl) t6
  obtain ⟨a7, c7, R, e7, r7, l7, n7, m7, b7⟩ := read_u64s t7
  obtain ⟨a8, c8, K, e8, r8, l8, n8, m8, b8⟩ := read_u64s t8
  obtain ⟨a9, c9, I, e9, r9, l9, n9, m9, b9⟩ := read_ids t9
  obtain ⟨a10, c10, C, e10, r10, l10, n10, m10⟩ := read_bools t10
  have e0 := List.singleton_inj.1 e0
  have e1 := List.singleton_inj.1 e1
  have e2 := List.singleton_inj.1 e2
  have e4 := List.singleton_inj.1 e4
  have e5 := List.singleton_inj.1 e5
  have e6 := List.singleton_inj.1 e6
  rw [e0] at k0; rw [e1] at k1; rw [e2] at k2; rw [e3] at k3; rw [e4] at k4; rw [e5] at k5; rw [e6] at k6; rw [e7] at k7; rw [e8] at k8; rw [e9] at k9; rw [e10] at k10
  exact ⟨b, o, ⟨half, old, card, W, used, top, oldTop, R, K, I, C⟩, ⟨(a3, c3), (a7, c7), (a8, c8), (a9, c9), (a10, c10)⟩, rfl,
    ⟨k0, k1, k2, k3, k4, k5, k6, k7, k8, k9, k10, r3, r7, r8, r9, r10, l3, l7, l8, l9, l10, n3, n7, n8, n9, n10,
      ⟨wf_i64 w0, wf_i64 w1, wf_i64 w2, wf_i64 w4, wf_i64 w5, wf_i64 w6, b3, b7, b8, b9, Nat.le_trans l3 m3, Nat.le_trans l7 m7, Nat.le_trans l8 m8, Nat.le_trans l9 m9, Nat.le_trans l10 m10⟩⟩⟩
end
end Go.Proofs.YtecbbbaafcoliaaDoor
/- What the rows' listed package-level errors give a walk: each variable's cell holds an error of its own. -/
namespace Go.Proofs.YtecbbbaafcoliaaDoor
open Go.ChangeShapes Go.WideShapes Go.ChangeAt Go.RowKit
set_option linter.unusedVariables false
set_option linter.unusedSimpArgs false

theorem own : ownKnob Tryd.prog.godebug = none := by kernel_rfl
theorem esName : Tryd.prog.typeName? 3 189 = some "*errors.errorString" := by kernel_rfl
theorem esStar : "*" ++ "errors.errorString" = "*errors.errorString" := by decide
theorem esRow (u : TypeId) (h : Tryd.prog.typeName? 3 u = some "*errors.errorString") : u = 189 :=
  typeName_ptr_named (nm := "errors.errorString") (by rw [esStar]; kernel_rfl) (by kernel_rfl) (by decide) u (by rw [esStar]; exact h)
theorem esCells : Tryd.prog.cellsOf 209 = 1 := by kernel_rfl
theorem strCells : Tryd.prog.cellsOf 9 = 1 := by kernel_rfl

/-- An error as errors.New makes it, as a datum. -/
abbrev errD (text : List UInt8) : DataW Unit := .iface "*errors.errorString" (.ptr (.agg [.lit (.string text)]))

set_option maxRecDepth 100000 in
/-- One listed error. -/
theorem one_of_laid {W : World} {n : String} {text : List UInt8} {g : Nat} (hg : Tryd.prog.globalNamed n = some g) (ht : (Tryd.prog.globals[g]?).map (·.type) = some 32)
    (h : laidMet Tryd.prog [(n, errD text)] W) : ∃ a s, W.cell? ⟨g, 0, none⟩ = some (errV a) ∧ W.cell? a = some (.string s) ∧ s.data.toList = text := by
  obtain ⟨ps, ⟨g0, t0, cs0, f0, p0, q0, hg0, ht0, hv0, hd0, _, e0⟩, hnd, hrows⟩ := h
  obtain rfl := Option.some.inj (hg.symm.trans hg0)
  obtain rfl := Option.some.inj (ht.symm.trans ht0)
  subst e0
  obtain ⟨l0⟩ := cs0
  have ok0 : ∀ u v, l0 = [.iface u v] → Value.okWide Tryd.prog W .any 0 u v := fun u v e => by
    subst e
    exact (hrows g 0 (by simp [MemPlace.row])).2 u v (by simpa using World.var?_cell hg0 hv0 0)
  obtain ⟨a0, s0, rfl, hc0, hs0, hz0, rfl⟩ := errorString_of_trod Tryd.underlying32 esRow Tryd.underlying189 Tryd.underlying209 rfl rfl Tryd.underlying9 esCells strCells hd0 ok0
  exact ⟨a0, s0, by simpa using World.var?_cell hg0 hv0 0, hc0, hs0⟩

set_option maxRecDepth 100000 in
/-- The block of a listed error. -/
theorem blk_of_laid {W : World} {n : String} {text : List UInt8} {g : Nat} (hg : Tryd.prog.globalNamed n = some g) (ht : (Tryd.prog.globals[g]?).map (·.type) = some 32)
    (h : laidMet Tryd.prog [(n, errD text)] W) {a : Addr} (ha : W.cell? ⟨g, 0, none⟩ = some (errV a)) : ∃ c t, W.heap[a.block]? = some (.cells c t (0, 0)) := by
  obtain ⟨ps, ⟨g0, t0, cs0, f0, p0, q0, hg0, ht0, hv0, hd0, _, e0⟩, hnd, hrows⟩ := h
  obtain rfl := Option.some.inj (hg.symm.trans hg0)
  obtain rfl := Option.some.inj (ht.symm.trans ht0)
  subst e0
  obtain ⟨l0⟩ := cs0
  have ok0 : ∀ u v, l0 = [.iface u v] → Value.okWide Tryd.prog W .any 0 u v := fun u v e => by
    subst e
    exact (hrows g 0 (by simp [MemPlace.row])).2 u v (by simpa using World.var?_cell hg0 hv0 0)
  obtain ⟨a0, s0, rfl, hc0, hs0, hz0, rfl⟩ := errorString_of_trod Tryd.underlying32 esRow Tryd.underlying189 Tryd.underlying209 rfl rfl Tryd.underlying9 esCells strCells hd0 ok0
  have e0 : W.cell? ⟨g, 0, none⟩ = some (errV a0) := by simpa using World.var?_cell hg0 hv0 0
  rw [e0] at ha
  have ea : a0 = a := by injection ha with ha; injection ha with _ ha; injection ha with ha; injection ha
  subst ea
  exact (hrows a0.block a0.off (by simp [MemPlace.row])).1

set_option maxRecDepth 100000 in
/-- Two listed errors are two. -/
theorem two_of_laid {W : World} {n m : String} {tn tm : List UInt8} {g k : Nat} (hg : Tryd.prog.globalNamed n = some g) (ht : (Tryd.prog.globals[g]?).map (·.type) = some 32)
    (hk : Tryd.prog.globalNamed m = some k) (hkt : (Tryd.prog.globals[k]?).map (·.type) = some 32)
    (h : laidMet Tryd.prog [(n, errD tn), (m, errD tm)] W) {a b : Addr} (ha : W.cell? ⟨g, 0, none⟩ = some (errV a)) (hb : W.cell? ⟨k, 0, none⟩ = some (errV b)) : a ≠ b := by
  obtain ⟨ps, ⟨g0, t0, cs0, f0, p0, q0, hg0, ht0, hv0, hd0, ⟨g1, t1, cs1, f1, p1, q1, hg1, ht1, hv1, hd1, hq1, e1⟩, e0⟩, hnd, hrows⟩ := h
  obtain rfl := Option.some.inj (hg.symm.trans hg0)
  obtain rfl := Option.some.inj (hk.symm.trans hg1)
  obtain rfl := Option.some.inj (ht.symm.trans ht0)
  obtain rfl := Option.some.inj (hkt.symm.trans ht1)
  have hq1' : q1 = [] := hq1
  subst hq1'
  subst e1
  subst e0
  obtain ⟨l0⟩ := cs0
  obtain ⟨l1⟩ := cs1
  have ok0 : ∀ u v, l0 = [.iface u v] → Value.okWide Tryd.prog W .any 0 u v := fun u v e => by
    subst e
    exact (hrows g 0 (by simp [MemPlace.row])).2 u v (by simpa using World.var?_cell hg0 hv0 0)
  have ok1 : ∀ u v, l1 = [.iface u v] → Value.okWide Tryd.prog W .any 0 u v := fun u v e => by
    subst e
    exact (hrows k 0 (by simp [MemPlace.row])).2 u v (by simpa using World.var?_cell hg1 hv1 0)
  obtain ⟨a0, s0, rfl, hc0, hs0, hz0, rfl⟩ := errorString_of_trod Tryd.underlying32 esRow Tryd.underlying189 Tryd.underlying209 rfl rfl Tryd.underlying9 esCells strCells hd0 ok0
  obtain ⟨a1, s1, rfl, hc1, hs1, hz1, rfl⟩ := errorString_of_trod Tryd.underlying32 esRow Tryd.underlying189 Tryd.underlying209 rfl rfl Tryd.underlying9 esCells strCells hd1 ok1
  have e0 : W.cell? ⟨g, 0, none⟩ = some (errV a0) := by simpa using World.var?_cell hg0 hv0 0
  have e1 : W.cell? ⟨k, 0, none⟩ = some (errV a1) := by simpa using World.var?_cell hg1 hv1 0
  rw [e0] at ha; rw [e1] at hb
  have ea : a0 = a := by injection ha with ha; injection ha with _ ha; injection ha with ha; injection ha
  have eb : a1 = b := by injection hb with hb; injection hb with _ hb; injection hb with hb; injection hb
  subst ea eb
  rintro rfl
  simp [MemPlace.row] at hnd

theorem gB : Tryd.prog.globalNamed "nurserypy/api.ErrBound" = some 0 := by kernel_rfl
theorem gBt : (Tryd.prog.globals[0]?).map (·.type) = some 32 := by kernel_rfl
theorem gS : Tryd.prog.globalNamed "nurserypy/api.ErrShape" = some 1 := by kernel_rfl
theorem gSt : (Tryd.prog.globals[1]?).map (·.type) = some 32 := by kernel_rfl
theorem gP : Tryd.prog.globalNamed "nurserypy/api.ErrPlace" = some 3 := by kernel_rfl
theorem gPt : (Tryd.prog.globals[3]?).map (·.type) = some 32 := by kernel_rfl
theorem gF : Tryd.prog.globalNamed "nurserypy/api.ErrFull" = some 2 := by kernel_rfl
theorem gFt : (Tryd.prog.globals[2]?).map (·.type) = some 32 := by kernel_rfl

theorem laidOut : laidOutB Tryd.prog = true := by kernel_rfl

/-- The arguments read behind the call as they did before. -/
theorem trodAll_stays {H : Type} {enc : TypeId × Value → H} {W W' : World} (hb : Ext W W') : ∀ {ts : List TypeId} {vs : List Value} {ds : List (DataW H)} {ps : List MemPlace},
    (∀ t ∈ ts, Tryd.prog.readableRec t = true ∧ t < Tryd.prog.types.size) → (∀ x ∈ ps, x.block < W.heap.size) →
    DataW.TrodAll enc Tryd.prog W 0 (fun _ => true) true ts vs ds ps → DataW.TrodAll enc Tryd.prog W' 0 (fun b => decide (b < W.heap.size)) true ts vs ds ps := by
  intro ts
  induction ts with
  | nil =>
    intro vs ds ps _ _ h
    obtain ⟨rfl, rfl, rfl⟩ := trodAll_nil h
    exact trodAll_mk0
  | cons t ts ih =>
    intro vs ds ps hr hlt h
    obtain ⟨v, vs', d, ds', p, q, rfl, rfl, rfl, h0, r0⟩ := trodAll_cons h
    have ht := hr t (by simp)
    exact trodAll_cons_mk (Below.trod laidOut ht.1 ht.2 h0 hb (fun x hx => hlt x (by simp [hx]))) (ih (fun t h => hr t (by simp [h])) (fun x hx => hlt x (by simp [hx])) r0)

/-- A law that answers true and leaves what was there. -/
theorem law_post {H : Type} {enc : TypeId × Value → H} {f : Func} {s : ChangeSpec} {W W' : World} {args : Array Value} {ds gs : List (DataW H)} {before : List MemPlace}
    (hrt : f.resultTypes = #[4]) (hsv : s.vars = []) (hW : DataW.Whole enc Tryd.prog f.params.toList s.vars false W args.toList ds gs before)
    (hfn : s.fn H (ds ++ gs) = { results := [.lit (.bool true)], args := ds }) (hr : ∀ t ∈ f.params.toList, Tryd.prog.readableRec t = true ∧ t < Tryd.prog.types.size) (hb : Ext W W') :
    s.post enc Tryd.prog f false true false false W args (.bool true) W' := by
  have hlt := fun x hx => hW.lt x hx
  obtain ⟨p, q, hA, hV, hpq, hfz, hnd⟩ := id hW
  rw [hsv] at hV
  obtain ⟨rfl, rfl⟩ := trodVars_none hV
  subst hpq
  refine ⟨ds, [], _, [], p, [], hW, ?_, ?_, ?_, ?_, fun h => by cases h⟩
  · rw [hfn, hrt]; exact trodAll_mk1 (shut_bool Tryd.underlying4 true)
  · rw [hfn]; exact trodAll_stays hb hr (fun x hx => by simpa using hlt x (by simp [hx])) hA
  · rw [hfn, hsv]; rfl
  · exact hb.frame _
end Go.Proofs.YtecbbbaafcoliaaDoor
/- The listed errors of laws on memories, as the walks want them. -/
namespace Go.Proofs.YtecbbbaafcoliaaDoor
open Go.ChangeShapes Go.WideShapes Go.ChangeAt Go.RowKit
set_option linter.unusedVariables false
set_option linter.unusedSimpArgs false

def laid3 : List (String × DataW Unit) := [("nurserypy/api.ErrBound", Rows.laid_nurserypy_api_ErrBound), ("nurserypy/api.ErrShape", Rows.laid_nurserypy_api_ErrShape), ("nurserypy/api.ErrPlace", Rows.laid_nurserypy_api_ErrPlace)]
def laid4 : List (String × DataW Unit) := [("nurserypy/api.ErrBound", Rows.laid_nurserypy_api_ErrBound), ("nurserypy/api.ErrShape", Rows.laid_nurserypy_api_ErrShape), ("nurserypy/api.ErrPlace", Rows.laid_nurserypy_api_ErrPlace), ("nurserypy/api.ErrFull", Rows.laid_nurserypy_api_ErrFull)]
theorem g3_of_laid {W : World} (h : laidMetH Tryd.prog laid3 W) : ∃ E, G3 E W := by
  obtain ⟨a1, _, c1, _⟩ := one_of_laid (W := W) (n := "nurserypy/api.ErrBound") (text := _) gB gBt (h.filter fun x => x.1 == "nurserypy/api.ErrBound")
  obtain ⟨a2, _, c2, _⟩ := one_of_laid (W := W) (n := "nurserypy/api.ErrShape") (text := _) gS gSt (h.filter fun x => x.1 == "nurserypy/api.ErrShape")
  obtain ⟨a4, _, c4, _⟩ := one_of_laid (W := W) (n := "nurserypy/api.ErrPlace") (text := _) gP gPt (h.filter fun x => x.1 == "nurserypy/api.ErrPlace")
  exact ⟨fun i => match i with | 1 => a1 | 2 => a2 | _ => a4, c1, c2, c4⟩
theorem g4_of_laid {W : World} (h : laidMetH Tryd.prog laid4 W) : ∃ E, G4 E W := by
  obtain ⟨a1, _, c1, _⟩ := one_of_laid (W := W) (n := "nurserypy/api.ErrBound") (text := _) gB gBt (h.filter fun x => x.1 == "nurserypy/api.ErrBound")
  obtain ⟨a2, _, c2, _⟩ := one_of_laid (W := W) (n := "nurserypy/api.ErrShape") (text := _) gS gSt (h.filter fun x => x.1 == "nurserypy/api.ErrShape")
  obtain ⟨a4, _, c4, _⟩ := one_of_laid (W := W) (n := "nurserypy/api.ErrPlace") (text := _) gP gPt (h.filter fun x => x.1 == "nurserypy/api.ErrPlace")
  obtain ⟨a5, _, c5, _⟩ := one_of_laid (W := W) (n := "nurserypy/api.ErrFull") (text := _) gF gFt (h.filter fun x => x.1 == "nurserypy/api.ErrFull")
  exact ⟨fun i => match i with | 1 => a1 | 2 => a2 | 4 => a4 | _ => a5, ⟨c1, c2, c4⟩, c5⟩
end Go.Proofs.YtecbbbaafcoliaaDoor
/- The law MemCopies: its contract: whatever it is given it answers true, and leaves what was there. -/
namespace Go.Proofs.YtecbbbaafcoliaaDoor.MemCopies
open Go.ChangeShapes Go.WideShapes Go.ChangeAt Go.RowKit
open Go.ChangeMaps (open_string)
set_option linter.unusedVariables false
set_option linter.unusedSimpArgs false

set_option maxRecDepth 100000 in
theorem contract (H : Type) (enc : TypeId × Value → H) (W : World) (base : Nat) (args : Array Value) (ds gs : List (DataW H)) (before : List MemPlace)
    (hval : ∀ (j : Nat) t v, Tryd.f3.params[j]? = some t → args[j]? = some v → Value.okWide Tryd.prog W .any base t v)
    (hW : DataW.Whole enc Tryd.prog Tryd.f3.params.toList Rows.memCopiesSpec.vars false W args.toList ds gs before)
    (hsz : (DataW.weightsEach Tryd.prog (Tryd.f3.params.toList ++ (OpenSpec.ofChange Rows.memCopiesSpec).bare.plain.varTypes Tryd.prog) (ds ++ gs)).all (· ≤ reachBytes) = true) (hL : laidMetH Tryd.prog Rows.memCopiesRow.laid W) :
    Calls Tryd.prog 3 args W fun e W' => ∃ v, e = .returned v ∧ Rows.memCopiesSpec.post enc Tryd.prog Tryd.f3 false true false false W args v W' := by
  have hW' := hW
  obtain ⟨p, q, hA0, hV, rfl, hfz, hnd⟩ := hW
  have hA : DataW.TrodAll enc Tryd.prog W 0 (fun _ => true) true Tryd.f3.params.toList args.toList ds p := hA0
  rw [Tryd.params3] at hA hval
  obtain ⟨v0, vs0, d0, ds0, p0, q0, hargs, rfl, rfl, h0, r0⟩ := trodAll_cons hA
  obtain ⟨v1, vs1, d1, ds1, p1, q1, rfl, rfl, rfl, h1, r1⟩ := trodAll_cons r0
  obtain ⟨rfl, rfl, rfl⟩ := trodAll_nil r1
  obtain rfl : args = #[v0, v1] := by cases args; simp_all
  obtain ⟨rfl, rfl⟩ := trodVars_none hV
  obtain ⟨x1, rfl, rfl, rfl, w1⟩ := open_int Tryd.underlying3 (hval 1 3 v1 rfl rfl) h1
  obtain ⟨E, hE⟩ := g4_of_laid (W := W) (hL.filter fun x => laid4.any (·.1 == x.1))
  clear hA0
  obtain ⟨fuel0, hh0⟩ := id h0
  obtain ⟨pa0, rfl⟩ := okWide_pointer Tryd.underlying22 (hval 0 22 v0 rfl rfl)
  rcases read_mem hh0 with e0 | ⟨b0, o0, M0, S0, e0, hM0⟩
  · obtain rfl := Value.pointer.inj (List.singleton_inj.1 e0)
    refine (memCopies_nil x1 W E hE ).mono fun e W' ⟨he, hg⟩ => ?_
    subst he
    exact ⟨_, rfl, law_post rfl rfl hW' (by simp [Rows.memCopiesSpec]) (by decide +kernel) hg⟩
  · obtain rfl := Value.pointer.inj (List.singleton_inj.1 e0)
    refine (memCopies_any b0 o0 M0 S0 x1 W hM0 E hE ).mono fun e W' ⟨he, hg⟩ => ?_
    subst he
    exact ⟨_, rfl, law_post rfl rfl hW' (by simp [Rows.memCopiesSpec]) (by decide +kernel) hg⟩
end Go.Proofs.YtecbbbaafcoliaaDoor.MemCopies
