/- The law MemWalks: its walk. -/
import Derived.Test.YtecbbbaafcoliaaDoorJWa06
import Derived.Test.YtecbbbaafcoliaaDoorJWa09
import Derived.Test.YtecbbbaafcoliaaDoorJWa10
import Derived.Test.YtecbbbaafcoliaaDoorJWa12
import Derived.Test.YtecbbbaafcoliaaDoorJWa13
import Derived.Test.YtecbbbaafcoliaaDoorJWa14
import Derived.Deep.RegionHeld3
import Derived.Test.YtecbbbaafcoliaaDoorJWa03
import Derived.ProofKit
import Derived.Deep.Fields
import Derived.Deep.SlicePairs
import Derived.OpenShut
import Derived.Test.YtecbbbaafcoliaaDoorCards
import Derived.Test.YtecbbbaafcoliaaDoorTie
import Derived.Test.YtecbbbaafcoliaaDoorJWa01
import Derived.LaidLaws
import Derived.LaidSub
import Derived.LaidMore
import Derived.Deep.DeepHandedRow
import Derived.Deep.DeepWitnessRowRef
namespace Go.Proofs.YtecbbbaafcoliaaDoor
open Go.RowKit
set_option linter.unusedVariables false
set_option linter.unusedSimpArgs false

set_option maxRecDepth 100000 in
set_option maxHeartbeats 4000000 in
theorem memWalks_nil (w : World) (E : Nat → Addr) (h : G3 E w) :
    Calls Tryd.prog 4 #[.pointer none] w fun e w' => e = .returned (.bool true) ∧ Ext w w' := by
  have H := Lib.hid h
  clear h
  go_enter Tryd.func4, Tryd.ntmps4
  go_wp2_with (first
    | (go_at_call 11; refine (fresh_any _ E H.out).mono ?_; rintro e w1 ⟨rfl, hq⟩; have HB1 := Lib.hid hq; clear hq)
    | (go_at_call 12; refine (near_nil _).mono ?_; rintro e w' ⟨rfl, hw9⟩; have hw9 := hw9.symm; subst hw9)
    | (go_at_call 18; refine (kCheck_nil _).mono ?_; rintro e w2 ⟨rfl, hq⟩; have HB2 : Hid (Ext w w2) := Ext.trans_ HB1.out hq; clear hq))
  go_ret
  exact ⟨rfl, HB2.out⟩
set_option maxRecDepth 100000 in
set_option maxHeartbeats 4000000 in
theorem memWalks_far (b o : Nat) (M : Mem) (S : Sls) (hn : ¬ Near M) (w : World) (hM : RMem w b o M S) (E : Nat → Addr) (h : G3 E w) :
    Calls Tryd.prog 4 #[.pointer (some ⟨b, o, none⟩)] w fun e w' => e = .returned (.bool true) ∧ Ext w w' := by
  have H := Lib.hid h
  have HM := Lib.hid hM
  have HN := Lib.hid hn
  clear h hM hn
  go_enter Tryd.func4, Tryd.ntmps4
  go_wp2_with (first
    | (go_at_call 11; refine (fresh_any _ E H.out).mono ?_; rintro e w1 ⟨rfl, hq⟩; have HB1 := Lib.hid hq; clear hq)
    | (go_at_call 12; refine (near_no b o M S HN.out _ (HM.out.ext HB1.out)).mono ?_; rintro e w' ⟨rfl, hw9⟩; have hw9 := hw9.symm; subst hw9))
  go_ret
  exact ⟨rfl, HB1.out⟩
set_option maxRecDepth 100000 in
set_option maxHeartbeats 4000000 in
theorem memWalks_bad (b o : Nat) (M : Mem) (S : Sls) (hn : Near M) (hc : 0 < chk M) (w : World) (hM : RMem w b o M S) (E : Nat → Addr) (h : G3 E w) :
    Calls Tryd.prog 4 #[.pointer (some ⟨b, o, none⟩)] w fun e w' => e = .returned (.bool true) ∧ Ext w w' := by
  obtain ⟨c, hcc⟩ : ∃ c, chk M = c := ⟨_, rfl⟩
  rw [hcc] at hc
  have HC := Lib.hid hcc
  have H := Lib.hid h
  have HM := Lib.hid hM
  have HN := Lib.hid hn
  clear h hM hn hcc
  go_enter Tryd.func4, Tryd.ntmps4
  go_wp2_with (first
    | (go_at_call 11; refine (fresh_any _ E H.out).mono ?_; rintro e w1 ⟨rfl, hq⟩; have HB1 := Lib.hid hq; clear hq)
    | (go_at_call 12; refine (near_yes b o M S HN.out _ (HM.out.ext HB1.out)).mono ?_; rintro e w' ⟨rfl, hw9⟩; have hw9 := hw9.symm; subst hw9)
    | (go_at_call 18; refine (kCheck_any b o M S _ (HM.out.ext HB1.out)).mono ?_; rintro e w2 ⟨he, hq⟩; rw [HC.out] at he; subst he; have HB2 : Hid (Ext w w2) := Ext.trans_ HB1.out hq; clear hq))
  go_ret
  exact ⟨rfl, HB2.out⟩
theorem OMem.cards_eq {w : World} {B b : Nat} {tI : TypeId} {M M' : Mem} {S : Sls} (h : OMem w B b tI M S) (e : M = M') : OMem w B b tI M' S := e ▸ h
set_option maxRecDepth 100000 in
set_option maxHeartbeats 8000000 in
theorem memWalks_yes (b o : Nat) (M : Mem) (S : Sls) (hn : Near M) (hc : chk M = 0) (w : World) (hM : RMem w b o M S) (E : Nat → Addr) (h : G3 E w) :
    Calls Tryd.prog 4 #[.pointer (some ⟨b, o, none⟩)] w fun e w' => e = .returned (.bool true) ∧ Ext w w' := by
  obtain ⟨hs, hob, hfr, hfk, hfo, -⟩ := good_parts (chk_zero hc).1
  have hlen := len_small hs
  have hw0 : 0 < M.W.length := by have h1 := hs.w; have h2 := hs.h1; have h3 := hs.o1; omega
  have HFO := Lib.hid hfo
  have HKB : Hid (((kN M).2 && (kO M).2) = true) := by
    cases hb : ((kN M).2 && (kO M).2) with
    | true => rfl
    | false => have := kAll_bad hb; rw [this] at hob; cases hob
  have HLI : Hid ((kN M).1 ++ (kO M).1 = objsAll M) := (kAll_ok HKB.out).1
  obtain ⟨l, hl⟩ : ∃ l, l = objsAll M := ⟨_, rfl⟩
  have HL := Lib.hid hl
  have HLI2 : Hid ((kN M).1 ++ (kO M).1 = l) := by rw [Hid, hl]; exact HLI.out
  have HLN : Hid (l.length ≤ 400000) := by
    have h1 := partK_len M.W M.base (M.base + M.top.toNat)
    have h2 := partK_len M.W (2 * M.half).toNat ((2 * M.half).toNat + M.oldTop.toNat)
    have h3 := congrArg List.length HLI2.out
    rw [List.length_append] at h3
    have e1 : (kN M).1 = (partK M.W M.base (M.base + M.top.toNat)).1 := rfl
    have e2 : (kO M).1 = (partK M.W (2 * M.half).toNat ((2 * M.half).toNat + M.oldTop.toNat)).1 := rfl
    rw [e1, e2] at h3
    have h4 := hs.t2; have h5 := hs.p2; have h6 := hs.h2; have h7 := hs.o2; have h8 := hs.t1; have h9 := hs.p1
    unfold Hid; omega
  have hll := HLN.out
  obtain ⟨wb, wo, hWa, -⟩ := hM.rW 0 _ (wcells_at M.W 0 hw0)
  have c_W := hM.W
  rw [hWa] at c_W
  have HWA := Lib.hid hWa
  have c_T := hM.top
  have c_P := hM.oldTop
  have hcap := hM.capW
  have HF := Lib.hid hn.few
  have HOK := Lib.hid hM.ok
  have HC := Lib.hid hc
  have HS := Lib.hid hs
  have H := Lib.hid h
  have HM := Lib.hid hM
  have HN := Lib.hid hn
  have hltb := hM.lt
  clear h hM hn hc hs hob hfr hfk hfo hl hWa
  go_enter Tryd.func4, Tryd.ntmps4
  go_wp2_with (first
    | (go_at_call 11; refine (fresh_any _ E H.out).mono ?_; rintro e w1 ⟨rfl, hq⟩; have HB1 := Lib.hid hq; clear hq)
    | (go_at_call 12; refine (near_yes b o M S HN.out _ (HM.out.ext HB1.out)).mono ?_; rintro e w' ⟨rfl, hw9⟩; have hw9 := hw9.symm; subst hw9)
    | (go_at_call 18; refine (kCheck_any b o M S _ (HM.out.ext HB1.out)).mono ?_; rintro e w2 ⟨he, hq⟩; rw [HC.out] at he; subst he; have HB2 : Hid (Ext w w2) := Ext.trans_ HB1.out hq; clear hq)
    | (go_at_call 13; refine (memOf_walk b o M S _ (HM.out.ext HB2.out) HF.out).mono ?_; rintro e w3 ⟨bx, Sx, rfl, hq1, hq2⟩; have HX := Lib.hid hq1; have HB3 : Hid (Ext w w3) := Ext.trans_ HB2.out hq2; have HE23 : Hid (Ext w2 w3) := hq2; clear hq1 hq2)
    | (go_at_call 19; refine (kAll_walk b o M S HS.out _ (HM.out.ext HB3.out)).mono ?_; rintro e w4 ⟨la, lc, he, hown, hq⟩; rw [HKB.out, HLI2.out] at he; rw [HLI2.out] at hown; subst he; have HB4 : Hid (Ext w w4) := Ext.trans_ HB3.out hq; have HE24 : Hid (Ext w2 w4) := Ext.trans_ HE23.out hq; have HX4 : Hid (OMem w4 w2.heap.size bx 72 M Sx) := OM.ext HX.out hq; have HLR := Lib.hid (own_rsl hown); have HLN := Lib.hid (own_nil hown); have hlc := own_cap hown; have HNL := Lib.hid (not_own HX.out hown); clear hq hown))
  have hsz2 : w.heap.size ≤ w2.heap.size := HB2.out.size
  go_loopw [7] (fun i wr => ∃ (k : Nat) (C : List Bool), k ≤ l.length ∧ i = .int .i64 (k : Int) ∧ Hid (More C M) ∧ Hid (OMem wr w2.heap.size bx 72 (withC M C) Sx) ∧ Hid (Ext w2 wr) ∧ Hid (RSl wr la (ocells l))) (fun i _ => l.length - (intOf i).toNat)
  case atStart => exact ⟨0, M.cards, Nat.zero_le _, rfl, More.refl M, HX4.out, HE24.out, HLR.out⟩
  case round =>
    obtain ⟨k, C, hk, rfl, hC, hO, hE, hR⟩ := hrel
    by_cases hlt : k < l.length
    · have hltz : (k : Int) < (l.length : Int) := by omega
      have HXM : Hid (l[k] ∈ objsAll M) := by rw [Hid, ← HL.out]; exact List.getElem_mem hlt
      have HQ := fun (W : World) (hW : RSl W la (ocells l)) => ob_cells hW hlt
      generalize l[k] = x at *
      have HQ := Lib.hid HQ
      obtain ⟨m1, m2, m3⟩ := mem_in HS.out HXM.out
      have hsn : (x.n : Int) = hSize x.w := (found_n HOK.out HS.out HXM.out)
      have HMW := Lib.hid m2
      clear m2 m3
      go_wp2
      go_loopw [8] (fun i wr => ∃ (j : Nat) (C : List Bool), j ≤ x.n ∧ i = .int .i64 (j : Int) ∧ Hid (More C M) ∧ Hid (OMem wr w2.heap.size bx 72 (withC M C) Sx) ∧ Hid (Ext w2 wr) ∧ Hid (RSl wr la (ocells l))) (fun i _ => x.n - (intOf i).toNat)
      case atStart => exact ⟨0, C, Nat.zero_le _, rfl, hC, hO, hE, hR⟩
      case round =>
        clear hC hO hE hR
        obtain ⟨j, C, hj, rfl, hC, hO, hE, hR⟩ := hrel
        obtain ⟨ob, oo, hla, q0, q1, q3⟩ := HQ.out wr hR.out
        by_cases hjl : j < x.n
        · have hjz : (j : Int) < hSize x.w := by omega
          have HJL := Lib.hid hjl
          have hEw : Ext w wr := Ext.trans_ HB2.out hE.out
          have d_W := hEw.cell_ c_W
          have hati : x.a + 1 + j < M.W.length := by omega
          have HAT := Lib.hid hati
          have d_c := (HWA.out ▸ (HM.out.ext hEw).rW).at_ (wcells_at M.W (x.a + 1 + j) hati)
          have hin := wat_in HOK.out (x.a + 1 + j)
          have HGET := get_yes bx 0 (withC M C) Sx E (addrW (x.a : Int)) (j : Int) (addrW_wd _).1 (addrW_wd _).2.1 wr (hO.out.mem (withC_ok HOK.out hC.out.1)) (H.out.ext hEw) x j (found_at (withC_ok HOK.out hC.out.1) (chk_more hC.out HC.out) HXM.out hjl)
          have HFL : Hid (rawB (hKind x.w) = false → fldB (startsM M) (wat M.W (x.a + 1 + j)) = true) := fun hr => fld_ok HFO.out HXM.out hr j HJL.out
          have HSAME := Lib.hid (store_same hC.out (x.a + 1 + j) hati)
          have HV : Hid (wat (withC M C).W (x.a + 1 + j) = wat M.W (x.a + 1 + j)) := rfl
          rw [HV.out] at HGET
          have d_c' : wr.cell? ⟨wb, wo + (x.a + 1 + j), none⟩ = some (.int .u64 (wat M.W (x.a + 1 + j))) := d_c
          have HVV : Hid (∃ v, v = wat M.W (x.a + 1 + j)) := ⟨_, rfl⟩
          obtain ⟨v, hv⟩ := HVV.out
          rw [← hv] at HGET d_c' hin HFL HSAME
          have HVE := Lib.hid hv
          have HGT := Lib.hid HGET
          obtain ⟨a1, ha1⟩ : ∃ a : Nat, a = x.a + 1 + j := ⟨_, rfl⟩
          rw [← ha1] at d_c' hati
          have hatz : (a1 : Int) < (M.W.length : Int) := by omega
          have hasum : (x.a : Int) + 1 + (j : Int) = (a1 : Int) := by omega
          have HAS := Lib.hid hasum
          have HA1 := Lib.hid ha1
          have hwz : wb < wr.heap.size := cell_lt d_c'
          have hbz : b < wr.heap.size := by have := hEw.size; omega
          have hobz : ob < wr.heap.size := cell_lt q0
          have HEW := Lib.hid hEw
          obtain ⟨hv0, hv1⟩ := hin
          clear d_c HGET hv hEw HVV hasum ha1
          subst hla
          go_wp2_with (first
            | (go_at_call 21; refine (kAddrWord_any _ _).mono ?_; rintro e w' ⟨rfl, hw9⟩; have hw9 := hw9.symm; subst hw9)
            | (go_at_call 20; refine HGT.out.mono ?_; rintro e wg ⟨rfl, hq⟩; have HEG := Lib.hid hq; have g0 := hq.cell_ q0; have g1 := hq.cell_ q1; have g3 := hq.cell_ q3; have gW := hq.cell_ d_W; have gc := hq.cell_ d_c'; clear hq))
          have e3 : IntKind.i64.wrap ((x.a : Int) + 1) = (x.a : Int) + 1 := IntWalk.i64_in _ (by omega)
          have e4 : IntKind.i64.wrap ((x.a : Int) + 1 + (j : Int)) = (a1 : Int) := by have := HAS.out; rw [IntWalk.i64_in _ (by omega)]; exact this
          go_quiet (fail)
          clear e3 e4
          cases hr : decide (7 < hKind x.w) with
          | false =>
            go_wp2
            go_roundw
            case rel => exact ⟨j + 1, C, by omega, by go_num, hC, OM.ext hO.out (by (repeat (first | exact HEG.out | (refine Ext.drew_ ?_) | (refine Ext.drewN_ ?_ _)))), Ext.trans_ hE.out (by (repeat (first | exact HEG.out | (refine Ext.drew_ ?_) | (refine Ext.drewN_ ?_ _)))), RSl.ext hR.out (by (repeat (first | exact HEG.out | (refine Ext.drew_ ?_) | (refine Ext.drewN_ ?_ _))))⟩
            case measure => simp [intOf]; omega
          | true =>
            have HRW : Hid (rawB (hKind x.w) = false) := by unfold Hid rawB; rw [decide_eq_false]; have := of_decide_eq_true hr; omega
            go_wp2_with (first
              | (go_at_call 21; refine (kAddrWord_any _ _).mono ?_; rintro e w' ⟨rfl, hw9⟩; have hw9 := hw9.symm; subst hw9)
              | (go_at_call 22; refine (put_yes w2.heap.size bx (withC M C) Sx E (addrW (x.a : Int)) (j : Int) v (addrW_wd _).1 (addrW_wd _).2.1 hv0 hv1 _ (OM.ext hO.out (by (repeat (first | exact HEG.out | (refine Ext.drew_ ?_) | (refine Ext.drewN_ ?_ _))))) (withC_ok HOK.out hC.out.1) (H.out.ext (Ext.trans_ HEW.out (by (repeat (first | exact HEG.out | (refine Ext.drew_ ?_) | (refine Ext.drewN_ ?_ _)))))) x j (found_at (withC_ok HOK.out hC.out.1) (chk_more hC.out HC.out) HXM.out HJL.out) HRW.out (HFL.out HRW.out)).mono ?_; rintro e wp ⟨rfl, hq1, hq2⟩; have HOP := Lib.hid hq1; have HKP := Lib.hid hq2; clear hq1 hq2))
            obtain ⟨D, hD1, hD2⟩ := HSAME.out
            go_roundw
            case rel => exact ⟨j + 1, D, by omega, by go_num, hD2, HOP.out.cards_eq hD1, Below.trans (Ext.trans_ hE.out (by (repeat (first | exact HEG.out | (refine Ext.drew_ ?_) | (refine Ext.drewN_ ?_ _))))) (Keep.belowO HKP.out (OM.ext hO.out (by (repeat (first | exact HEG.out | (refine Ext.drew_ ?_) | (refine Ext.drewN_ ?_ _))))) (Nat.le_trans hE.out.size (by have := HEG.out.size; simp; omega))), RSl.keep (RSl.ext hR.out (by (repeat (first | exact HEG.out | (refine Ext.drew_ ?_) | (refine Ext.drewN_ ?_ _))))) HKP.out HNL.out⟩
            case measure => simp [intOf]; omega
        · have hjz : ¬ (j : Int) < hSize x.w := by omega
          subst hla
          go_wp2
          go_roundw
          case rel => exact ⟨k + 1, C, by omega, by go_num, hC, hO, hE, hR⟩
          case measure => simp [intOf]; omega
    · have hltz : ¬ (k : Int) < (l.length : Int) := by omega
      have hEw : Ext w wr := Ext.trans_ HB2.out hE.out
      have hMx := hO.out.mem (withC_ok HOK.out hC.out.1)
      have x3 : wr.cell? ⟨bx, 3, none⟩ = some (.slice Sx.W.1 M.W.length Sx.W.2) := by have := hMx.W; simp only [Nat.zero_add] at this; exact this
      have x5 : wr.cell? ⟨bx, 5, none⟩ = some (.int .i64 M.top) := by have := hMx.top; simp only [Nat.zero_add] at this; exact this
      have x6 : wr.cell? ⟨bx, 6, none⟩ = some (.int .i64 M.oldTop) := by have := hMx.oldTop; simp only [Nat.zero_add] at this; exact this
      have m3 := hEw.cell_ c_W
      have m5 := hEw.cell_ c_T
      have m6 := hEw.cell_ c_P
      have HRX : Hid (RSl wr Sx.W.1 (wcells M.W)) := hMx.rW
      have HRM : Hid (RSl wr (some ⟨wb, wo, none⟩) (wcells M.W)) := HWA.out ▸ (HM.out.ext hEw).rW
      have HMX := Lib.hid hMx
      have HCX : Hid (errC E (chk (withC M C)) = .nilIface) := by rw [Hid, chk_more hC.out HC.out]; rfl
      have HG := Lib.hid (H.out.ext hEw)
      have HEW := Lib.hid hEw
      have hbz : b < wr.heap.size := by have := hEw.size; omega
      clear hMx hEw
      go_wp2
      refine wp_region_held_drew (S := fun W => W.cell? ⟨bx, 3, none⟩ = some (.slice Sx.W.1 M.W.length Sx.W.2) ∧ W.cell? ⟨bx, 5, none⟩ = some (.int .i64 M.top) ∧ W.cell? ⟨bx, 6, none⟩ = some (.int .i64 M.oldTop) ∧ W.cell? ⟨b, o + 3, none⟩ = some (.slice (some ⟨wb, wo, none⟩) M.W.length S.W.2) ∧ W.cell? ⟨b, o + 5, none⟩ = some (.int .i64 M.top) ∧ W.cell? ⟨b, o + 6, none⟩ = some (.int .i64 M.oldTop)) (by kernel_rfl) ?_ (fun hHeld => ?_)
      · exact ⟨x3, x5, x6, m3, m5, m6⟩
      refine wpAnyH_take (i := 0) (oi := ⟨some 98, _, _, _, _, _⟩) (v := ?_) rfl (by kernel_rfl) (by kernel_rfl) (by kernel_rfl) (fun _ _ _ h => h) (Or.inl ⟨by rfl, ?_⟩) (by assumption) ?_
      rotate_left
      · (intro w hSw; (try dsimp only at hSw); go_simp; try with_reducible rfl)
      try simp only [Act.put, List.setIfInBounds_toArray, List.set_cons_zero, List.set_cons_succ]
      refine wpAnyH_take (i := 1) (oi := ⟨some 99, _, _, _, _, _⟩) (v := ?_) rfl (by kernel_rfl) (by kernel_rfl) (by kernel_rfl) (fun _ _ _ h => h) (Or.inl ⟨by rfl, ?_⟩) (by assumption) ?_
      rotate_left
      · (intro w hSw; (try dsimp only at hSw); go_simp; try with_reducible rfl)
      try simp only [Act.put, List.setIfInBounds_toArray, List.set_cons_zero, List.set_cons_succ]
      refine wpAnyH_take (i := 2) (oi := ⟨some 100, _, _, _, _, _⟩) (v := ?_) rfl (by kernel_rfl) (by kernel_rfl) (by kernel_rfl) (fun _ _ _ h => h) (Or.inl ⟨by rfl, ?_⟩) (by assumption) ?_
      rotate_left
      · (intro w hSw; (try dsimp only at hSw); go_simp; try with_reducible rfl)
      try simp only [Act.put, List.setIfInBounds_toArray, List.set_cons_zero, List.set_cons_succ]
      refine wpAnyH_take (i := 3) (oi := ⟨some 101, _, _, _, _, _⟩) (v := ?_) rfl (by kernel_rfl) (by kernel_rfl) (by kernel_rfl) (fun _ _ _ h => h) (Or.inl ⟨by rfl, ?_⟩) (by assumption) ?_
      rotate_left
      · (intro w hSw; (try dsimp only at hSw); go_simp; try with_reducible rfl)
      try simp only [Act.put, List.setIfInBounds_toArray, List.set_cons_zero, List.set_cons_succ]
      refine wpAnyH_take (i := 4) (oi := ⟨some 102, _, _, _, _, _⟩) (v := ?_) rfl (by kernel_rfl) (by kernel_rfl) (by kernel_rfl) (fun _ _ _ h => h) (Or.inl ⟨by rfl, ?_⟩) (by assumption) ?_
      rotate_left
      · (intro w hSw; (try dsimp only at hSw); go_simp; try with_reducible rfl)
      try simp only [Act.put, List.setIfInBounds_toArray, List.set_cons_zero, List.set_cons_succ]
      refine wpAnyH_take (i := 5) (oi := ⟨some 103, _, _, _, _, _⟩) (v := ?_) rfl (by kernel_rfl) (by kernel_rfl) (by kernel_rfl) (fun _ _ _ h => h) (Or.inl ⟨by rfl, ?_⟩) (by assumption) ?_
      rotate_left
      · (intro w hSw; (try dsimp only at hSw); go_simp; try with_reducible rfl)
      try simp only [Act.put, List.setIfInBounds_toArray, List.set_cons_zero, List.set_cons_succ]
      refine wpAnyH_take (i := 6) (oi := ⟨some 104, _, _, _, _, _⟩) (v := ?_) rfl (by kernel_rfl) (by kernel_rfl) (by kernel_rfl) (fun _ _ _ h => h) (Or.inl ⟨by rfl, ?_⟩) (by assumption) ?_
      rotate_left
      · (intro w hSw; (try dsimp only at hSw); go_simp; try with_reducible rfl)
      try simp only [Act.put, List.setIfInBounds_toArray, List.set_cons_zero, List.set_cons_succ]
      refine wpAnyH_take (i := 7) (oi := ⟨some 105, _, _, _, _, _⟩) (v := ?_) rfl (by kernel_rfl) (by kernel_rfl) (by kernel_rfl) (fun _ _ _ h => h) (Or.inl ⟨by rfl, ?_⟩) (by assumption) ?_
      rotate_left
      · (intro w hSw; (try dsimp only at hSw); go_simp; try with_reducible rfl)
      try simp only [Act.put, List.setIfInBounds_toArray, List.set_cons_zero, List.set_cons_succ]
      refine wpAnyH_ready (rs := [8]) (by kernel_rfl) (by simp) ?_
      refine AllReadyH.cons (o := ⟨some 106, _, _, _, _, _⟩) rfl (fun K hK => ?_) AllReadyH.nil
      go_simp
      refine (sameWords_yes Sx.W.1 (some ⟨wb, wo, none⟩) Sx.W.2 S.W.2 M.W _ HOK.out.lenW (HRX.out.ext (by repeat (first | exact Ext.refl _ | (refine Ext.drew_ ?_) | (refine Ext.drewN_ ?_ _)))) (HRM.out.ext (by repeat (first | exact Ext.refl _ | (refine Ext.drew_ ?_) | (refine Ext.drewN_ ?_ _))))).mono ?_
      rintro e w' ⟨rfl, nq, hw9⟩
      have hE9 : Ext wr w' := by rw [hw9]; repeat (first | exact Ext.refl _ | (refine Ext.drew_ ?_) | (refine Ext.drewN_ ?_ _))
      have HE9 := Lib.hid hE9
      clear hw9 hE9
      refine hK.out _ _ ?_ (fun hHeld => ?_)
      · (try dsimp only); exact ⟨HE9.out.cell_ x3, HE9.out.cell_ x5, HE9.out.cell_ x6, HE9.out.cell_ m3, HE9.out.cell_ m5, HE9.out.cell_ m6⟩
      clear hK K
      try simp only [Act.put, List.setIfInBounds_toArray, List.set_cons_zero, List.set_cons_succ]
      refine wpAnyH_take (i := 9) (oi := ⟨some 107, _, _, _, _, _⟩) (v := ?_) rfl (by kernel_rfl) (by kernel_rfl) (by kernel_rfl) (fun _ _ _ h => h) (Or.inl ⟨by rfl, ?_⟩) (by assumption) ?_
      rotate_left
      · (intro w hSw; (try dsimp only at hSw); go_simp; try with_reducible rfl)
      try simp only [Act.put, List.setIfInBounds_toArray, List.set_cons_zero, List.set_cons_succ]
      refine wpAnyH_take (i := 10) (oi := ⟨some 108, _, _, _, _, _⟩) (v := ?_) rfl (by kernel_rfl) (by kernel_rfl) (by kernel_rfl) (fun _ _ _ h => h) (Or.inl ⟨by rfl, ?_⟩) (by assumption) ?_
      rotate_left
      · (intro w hSw; (try dsimp only at hSw); go_simp; try with_reducible rfl)
      try simp only [Act.put, List.setIfInBounds_toArray, List.set_cons_zero, List.set_cons_succ]
      refine wpAnyH_ready (rs := [11]) (by kernel_rfl) (by simp) ?_
      refine AllReadyH.cons (o := ⟨some 109, _, _, _, _, _⟩) rfl (fun K hK => ?_) AllReadyH.nil
      go_simp
      refine (check_c bx 0 (withC M C) Sx E _ (HMX.out.ext (by repeat (first | exact HE9.out | (refine Ext.drew_ ?_) | (refine Ext.drewN_ ?_ _)))) (HG.out.ext (by repeat (first | exact HE9.out | (refine Ext.drew_ ?_) | (refine Ext.drewN_ ?_ _))))).mono ?_
      rintro e wc ⟨he, hq⟩
      rw [HCX.out] at he
      subst he
      have HEC : Hid (Ext wr wc) := Ext.trans_ (by repeat (first | exact HE9.out | (refine Ext.drew_ ?_) | (refine Ext.drewN_ ?_ _))) hq
      clear hq
      refine hK.out _ _ ?_ (fun hHeld => ?_)
      · (try dsimp only); exact ⟨HEC.out.cell_ x3, HEC.out.cell_ x5, HEC.out.cell_ x6, HEC.out.cell_ m3, HEC.out.cell_ m5, HEC.out.cell_ m6⟩
      clear hK K
      try simp only [Act.put, List.setIfInBounds_toArray, List.set_cons_zero, List.set_cons_succ]
      refine wpAnyH_take (i := 12) (oi := ⟨some 110, _, _, _, _, _⟩) (v := ?_) rfl (by kernel_rfl) (by kernel_rfl) (by kernel_rfl) (fun _ _ _ h => h) (Or.inl ⟨by rfl, ?_⟩) (by assumption) ?_
      rotate_left
      · (intro w hSw; (try dsimp only at hSw); go_simp; try with_reducible rfl)
      try simp only [Act.put, List.setIfInBounds_toArray, List.set_cons_zero, List.set_cons_succ]
      refine wpAnyH_take (i := 13) (oi := ⟨some 111, _, _, _, _, _⟩) (v := ?_) rfl (by kernel_rfl) (by kernel_rfl) (by kernel_rfl) (fun _ _ _ h => h) (Or.inl ⟨by rfl, ?_⟩) (by assumption) ?_
      rotate_left
      · (intro w hSw; (try dsimp only at hSw); go_simp; try with_reducible rfl)
      try simp only [Act.put, List.setIfInBounds_toArray, List.set_cons_zero, List.set_cons_succ]
      refine wpAnyH_take (i := 14) (oi := ⟨some 112, _, _, _, _, _⟩) (v := ?_) rfl (by kernel_rfl) (by kernel_rfl) (by kernel_rfl) (fun _ _ _ h => h) (Or.inl ⟨by rfl, ?_⟩) (by assumption) ?_
      rotate_left
      · (intro w hSw; (try dsimp only at hSw); go_simp; try with_reducible rfl)
      try simp only [Act.put, List.setIfInBounds_toArray, List.set_cons_zero, List.set_cons_succ]
      refine wpAnyH_take (i := 15) (oi := ⟨some 113, _, _, _, _, _⟩) (v := ?_) rfl (by kernel_rfl) (by kernel_rfl) (by kernel_rfl) (fun _ _ _ h => h) (Or.inl ⟨by rfl, ?_⟩) (by assumption) ?_
      rotate_left
      · (intro w hSw; (try dsimp only at hSw); go_simp; try with_reducible rfl)
      try simp only [Act.put, List.setIfInBounds_toArray, List.set_cons_zero, List.set_cons_succ]
      refine wpAnyH_take (i := 16) (oi := ⟨some 114, _, _, _, _, _⟩) (v := ?_) rfl (by kernel_rfl) (by kernel_rfl) (by kernel_rfl) (fun _ _ _ h => h) (Or.inl ⟨by rfl, ?_⟩) (by assumption) ?_
      rotate_left
      · (intro w hSw; (try dsimp only at hSw); go_simp; try with_reducible rfl)
      try simp only [Act.put, List.setIfInBounds_toArray, List.set_cons_zero, List.set_cons_succ]
      refine wpAnyH_take (i := 17) (oi := ⟨some 115, _, _, _, _, _⟩) (v := ?_) rfl (by kernel_rfl) (by kernel_rfl) (by kernel_rfl) (fun _ _ _ h => h) (Or.inl ⟨by rfl, ?_⟩) (by assumption) ?_
      rotate_left
      · (intro w hSw; (try dsimp only at hSw); go_simp; try with_reducible rfl)
      try simp only [Act.put, List.setIfInBounds_toArray, List.set_cons_zero, List.set_cons_succ]
      refine wpAnyH_take (i := 18) (oi := ⟨some 116, _, _, _, _, _⟩) (v := ?_) rfl (by kernel_rfl) (by kernel_rfl) (by kernel_rfl) (fun _ _ _ h => h) (Or.inl ⟨by rfl, ?_⟩) (by assumption) ?_
      rotate_left
      · (intro w hSw; (try dsimp only at hSw); go_simp; try with_reducible rfl)
      try simp only [Act.put, List.setIfInBounds_toArray, List.set_cons_zero, List.set_cons_succ]
      refine wpAnyH_take (i := 19) (oi := ⟨some 117, _, _, _, _, _⟩) (v := ?_) rfl (by kernel_rfl) (by kernel_rfl) (by kernel_rfl) (fun _ _ _ h => h) (Or.inl ⟨by rfl, ?_⟩) (by assumption) ?_
      rotate_left
      · (intro w hSw; (try dsimp only at hSw); go_simp; try with_reducible rfl)
      try simp only [Act.put, List.setIfInBounds_toArray, List.set_cons_zero, List.set_cons_succ]
      refine wpAnyH_take (i := 20) (oi := ⟨some 118, _, _, _, _, _⟩) (v := ?_) rfl (by kernel_rfl) (by kernel_rfl) (by kernel_rfl) (fun _ _ _ h => h) (Or.inl ⟨by rfl, ?_⟩) (by assumption) ?_
      rotate_left
      · (intro w hSw; (try dsimp only at hSw); go_simp; try with_reducible rfl)
      try simp only [Act.put, List.setIfInBounds_toArray, List.set_cons_zero, List.set_cons_succ]
      refine wpAnyH_take (i := 21) (oi := ⟨some 119, _, _, _, _, _⟩) (v := ?_) rfl (by kernel_rfl) (by kernel_rfl) (by kernel_rfl) (fun _ _ _ h => h) (Or.inl ⟨by rfl, ?_⟩) (by assumption) ?_
      rotate_left
      · (intro w hSw; (try dsimp only at hSw); go_simp; try with_reducible rfl)
      try simp only [Act.put, List.setIfInBounds_toArray, List.set_cons_zero, List.set_cons_succ]
      refine wpAnyH_take (i := 22) (oi := ⟨some 120, _, _, _, _, _⟩) (v := ?_) rfl (by kernel_rfl) (by kernel_rfl) (by kernel_rfl) (fun _ _ _ h => h) (Or.inl ⟨by rfl, ?_⟩) (by assumption) ?_
      rotate_left
      · (intro w hSw; (try dsimp only at hSw); go_simp; try with_reducible rfl)
      try simp only [Act.put, List.setIfInBounds_toArray, List.set_cons_zero, List.set_cons_succ]
      refine wpAnyH_take (i := 23) (oi := ⟨some 121, _, _, _, _, _⟩) (v := ?_) rfl (by kernel_rfl) (by kernel_rfl) (by kernel_rfl) (fun _ _ _ h => h) (Or.inl ⟨by rfl, ?_⟩) (by assumption) ?_
      rotate_left
      · (intro w hSw; (try dsimp only at hSw); go_simp; try with_reducible rfl)
      try simp only [Act.put, List.setIfInBounds_toArray, List.set_cons_zero, List.set_cons_succ]
      refine wpAnyH_take (i := 24) (oi := ⟨some 122, _, _, _, _, _⟩) (v := ?_) rfl (by kernel_rfl) (by kernel_rfl) (by kernel_rfl) (fun _ _ _ h => h) (Or.inl ⟨by rfl, ?_⟩) (by assumption) ?_
      rotate_left
      · (intro w hSw; (try dsimp only at hSw); go_simp; try with_reducible rfl)
      try simp only [Act.put, List.setIfInBounds_toArray, List.set_cons_zero, List.set_cons_succ]
      refine wpAnyH_take (i := 25) (oi := ⟨some 123, _, _, _, _, _⟩) (v := ?_) rfl (by kernel_rfl) (by kernel_rfl) (by kernel_rfl) (fun _ _ _ h => h) (Or.inl ⟨by rfl, ?_⟩) (by assumption) ?_
      rotate_left
      · (intro w hSw; (try dsimp only at hSw); go_simp; try with_reducible rfl)
      try simp only [Act.put, List.setIfInBounds_toArray, List.set_cons_zero, List.set_cons_succ]
      refine wpAnyH_take (i := 26) (oi := ⟨some 124, _, _, _, _, _⟩) (v := ?_) rfl (by kernel_rfl) (by kernel_rfl) (by kernel_rfl) (fun _ _ _ h => h) (Or.inl ⟨by rfl, ?_⟩) (by assumption) ?_
      rotate_left
      · (intro w hSw; (try dsimp only at hSw); go_simp; try with_reducible rfl)
      try simp only [Act.put, List.setIfInBounds_toArray, List.set_cons_zero, List.set_cons_succ]
      refine wpAnyH_take (i := 27) (oi := ⟨some 125, _, _, _, _, _⟩) (v := ?_) rfl (by kernel_rfl) (by kernel_rfl) (by kernel_rfl) (fun _ _ _ h => h) (Or.inl ⟨by rfl, ?_⟩) (by assumption) ?_
      rotate_left
      · (intro w hSw; (try dsimp only at hSw); go_simp; try with_reducible rfl)
      try simp only [Act.put, List.setIfInBounds_toArray, List.set_cons_zero, List.set_cons_succ]
      refine wpAnyH_take (i := 28) (oi := ⟨some 126, _, _, _, _, _⟩) (v := ?_) rfl (by kernel_rfl) (by kernel_rfl) (by kernel_rfl) (fun _ _ _ h => h) (Or.inl ⟨by rfl, ?_⟩) (by assumption) ?_
      rotate_left
      · (intro w hSw; (try dsimp only at hSw); go_simp; try with_reducible rfl)
      try simp only [Act.put, List.setIfInBounds_toArray, List.set_cons_zero, List.set_cons_succ]
      refine wpAnyH_take (i := 29) (oi := ⟨some 127, _, _, _, _, _⟩) (v := ?_) rfl (by kernel_rfl) (by kernel_rfl) (by kernel_rfl) (fun _ _ _ h => h) (Or.inl ⟨by rfl, ?_⟩) (by assumption) ?_
      rotate_left
      · (intro w hSw; (try dsimp only at hSw); go_simp; try with_reducible rfl)
      try simp only [Act.put, List.setIfInBounds_toArray, List.set_cons_zero, List.set_cons_succ]
      refine wpAnyH_take (i := 30) (oi := ⟨some 128, _, _, _, _, _⟩) (v := ?_) rfl (by kernel_rfl) (by kernel_rfl) (by kernel_rfl) (fun _ _ _ h => h) (Or.inl ⟨by rfl, ?_⟩) (by assumption) ?_
      rotate_left
      · (intro w hSw; (try dsimp only at hSw); go_simp; try with_reducible rfl)
      try simp only [Act.put, List.setIfInBounds_toArray, List.set_cons_zero, List.set_cons_succ]
      refine wpAnyH_take (i := 31) (oi := ⟨some 129, _, _, _, _, _⟩) (v := ?_) rfl (by kernel_rfl) (by kernel_rfl) (by kernel_rfl) (fun _ _ _ h => h) (Or.inl ⟨by rfl, ?_⟩) (by assumption) ?_
      rotate_left
      · (intro w hSw; (try dsimp only at hSw); go_simp; try with_reducible rfl)
      try simp only [Act.put, List.setIfInBounds_toArray, List.set_cons_zero, List.set_cons_succ]
      refine wpAnyH_take (i := 32) (oi := ⟨some 130, _, _, _, _, _⟩) (v := ?_) rfl (by kernel_rfl) (by kernel_rfl) (by kernel_rfl) (fun _ _ _ h => h) (Or.inl ⟨by rfl, ?_⟩) (by assumption) ?_
      rotate_left
      · (intro w hSw; (try dsimp only at hSw); go_simp; try with_reducible rfl)
      try simp only [Act.put, List.setIfInBounds_toArray, List.set_cons_zero, List.set_cons_succ]
      refine wpAnyH_take (i := 33) (oi := ⟨some 131, _, _, _, _, _⟩) (v := ?_) rfl (by kernel_rfl) (by kernel_rfl) (by kernel_rfl) (fun _ _ _ h => h) (Or.inl ⟨by rfl, ?_⟩) (by assumption) ?_
      rotate_left
      · (intro w hSw; (try dsimp only at hSw); go_simp; try with_reducible rfl)
      try simp only [Act.put, List.setIfInBounds_toArray, List.set_cons_zero, List.set_cons_succ]
      refine wpAnyH_take (i := 34) (oi := ⟨some 132, _, _, _, _, _⟩) (v := ?_) rfl (by kernel_rfl) (by kernel_rfl) (by kernel_rfl) (fun _ _ _ h => h) (Or.inl ⟨by rfl, ?_⟩) (by assumption) ?_
      rotate_left
      · (intro w hSw; (try dsimp only at hSw); go_simp; try with_reducible rfl)
      try simp only [Act.put, List.setIfInBounds_toArray, List.set_cons_zero, List.set_cons_succ]
      refine wpAnyH_take (i := 35) (oi := ⟨some 133, _, _, _, _, _⟩) (v := ?_) rfl (by kernel_rfl) (by kernel_rfl) (by kernel_rfl) (fun _ _ _ h => h) (Or.inl ⟨by rfl, ?_⟩) (by assumption) ?_
      rotate_left
      · (intro w hSw; (try dsimp only at hSw); go_simp; try with_reducible rfl)
      try simp only [Act.put, List.setIfInBounds_toArray, List.set_cons_zero, List.set_cons_succ]
      refine wpAnyH_take (i := 36) (oi := ⟨some 2, _, _, _, _, _⟩) (v := ?_) rfl (by kernel_rfl) (by kernel_rfl) (by kernel_rfl) (fun _ _ _ h => h) (Or.inl ⟨by rfl, ?_⟩) (by assumption) ?_
      rotate_left
      · (intro w hSw; (try dsimp only at hSw); go_simp; try with_reducible rfl)
      try simp only [Act.put, List.setIfInBounds_toArray, List.set_cons_zero, List.set_cons_succ]
      refine wpAnyH_done (by kernel_rfl) ?_ _
      go_wp2
      go_ret
      exact ⟨rfl, Ext.trans_ HEW.out (by repeat (first | exact HEC.out | (refine Ext.drew_ ?_) | (refine Ext.drewN_ ?_ _)))⟩
theorem memWalks_any (b o : Nat) (M : Mem) (S : Sls) (w : World) (hM : RMem w b o M S) (E : Nat → Addr) (h : G3 E w) :
    Calls Tryd.prog 4 #[.pointer (some ⟨b, o, none⟩)] w fun e w' => e = .returned (.bool true) ∧ Ext w w' := by
  by_cases hn : Near M
  · by_cases hc : chk M = 0
    · exact memWalks_yes b o M S hn hc w hM E h
    · exact memWalks_bad b o M S hn (by unfold chk at hc ⊢; split <;> (try split) <;> simp_all) w hM E h
  · exact memWalks_far b o M S hn w hM E h
end Go.Proofs.YtecbbbaafcoliaaDoor
/- A memory among the arguments: what its reading tells of the world. -/
namespace Go.Proofs.YtecbbbaafcoliaaDoor
open Go.ChangeShapes Go.WideShapes Go.RowKit Go.Deep
set_option linter.unusedVariables false
set_option linter.unusedSimpArgs false

section
variable {H : Type} {enc : TypeId × Value → H} {w : World} {base : Nat} {spare : Nat → Bool} {held : Bool}

theorem rsl_of (a : Addr) (cs : List Value) (h : ∀ i v, cs[i]? = some v → w.cell? (a.add i) = some v) : RSl w (some a) cs := fun j u hu => by
  obtain ⟨b, off, spot⟩ := a
  obtain ⟨hj, _⟩ := List.getElem?_eq_some_iff.1 hu
  have h0 := h 0 (cs[0]'(by omega)) (by simp)
  have hs : spot = none := by simpa [Addr.add] using World.cell?_spot h0
  subst hs
  have hj0 := h j u hu
  refine ⟨b, off, rfl, ?_⟩
  by_cases e : j = 0
  · subst e; simpa [Addr.add] using hj0
  · simpa [Addr.add, e] using hj0
theorem read_u64s {fuel : Nat} {v : Value} {x : DataW H × List MemPlace} (h : DataW.trod enc Tryd.prog w base spare held fuel 35 [v] = some x) :
    ∃ a c l, v = .slice a l.length c ∧ RSl w a (wcells l) ∧ l.length ≤ c ∧ (a = none → c = 0) ∧ c ≤ 9223372036854775807 ∧ ∀ z ∈ l, 0 ≤ z ∧ z ≤ 18446744073709551615 := by
  rcases open_ints (e := 30) (k := .u64) (by kernel_rfl) (by kernel_rfl) (by kernel_rfl) h with ⟨hcs, _⟩ | ⟨a, len, cap, zs, hcs, _, hl, hm, hz, _, hcell, hwf⟩
  · obtain rfl := List.singleton_inj.1 hcs
    exact ⟨none, 0, [], rfl, RSl.nil _ _, Nat.le_refl _, fun _ => rfl, by omega, by simp⟩
  · obtain rfl := List.singleton_inj.1 hcs
    have hle : len ≤ zs.length := by rw [hz]; split <;> omega
    have hln : (zs.take len).length = len := by simp; omega
    refine ⟨some a, cap, zs.take len, by rw [hln], rsl_of a _ fun i v hi => ?_, by rw [hln]; exact hl, (fun e => by cases e), by unfold maxLen at hm; omega, fun z hz' => ?_⟩
    · obtain ⟨hi', hv⟩ := List.getElem?_eq_some_iff.1 hi
      simp only [wcells, List.length_map, hln] at hi'
      rw [hcell i (by omega), ← hv]
      simp [wcells, List.getD_eq_getElem?_getD, show i < zs.length by omega]
    · exact wf_u64 (hwf z (List.mem_of_mem_take hz'))
theorem read_bools {fuel : Nat} {v : Value} {x : DataW H × List MemPlace} (h : DataW.trod enc Tryd.prog w base spare held fuel 37 [v] = some x) :
    ∃ a c l, v = .slice a l.length c ∧ RSl w a (bcells l) ∧ l.length ≤ c ∧ (a = none → c = 0) ∧ c ≤ 9223372036854775807 := by
  rcases open_slice1 (e := 4) (by kernel_rfl) (by kernel_rfl) h with ⟨hcs, _⟩ | ⟨a, len, cap, m, n, V, D, Pl, hcs, _, hl, hm, hmm, _, hx⟩
  · obtain rfl := List.singleton_inj.1 hcs
    exact ⟨none, 0, [], rfl, RSl.nil _ _, Nat.le_refl _, fun _ => rfl, by omega⟩
  · obtain rfl := List.singleton_inj.1 hcs
    have hle : len ≤ m := by rw [hmm]; split <;> omega
    have hb : ∀ i, i < m → ∃ q : Bool, V i = .bool q := fun i hi => by
      obtain ⟨q, hq, _⟩ := DataW.trod_bool (by kernel_rfl) (hx i hi).2
      exact ⟨q, List.singleton_inj.1 hq⟩
    obtain ⟨B, hB⟩ := choose_lt (α := Bool) (p := fun i q => V i = .bool q) hb
    have hln : ((List.range len).map B).length = len := by simp
    refine ⟨some a, cap, (List.range len).map B, by rw [hln], rsl_of a _ fun i v hi => ?_, by rw [hln]; exact hl, (fun e => by cases e), by unfold maxLen at hm; omega⟩
    obtain ⟨hi', hv⟩ := List.getElem?_eq_some_iff.1 hi
    simp only [bcells, List.length_map, List.length_range] at hi'
    rw [(hx i (by omega)).1, hB i (by omega), ← hv]
    simp [bcells]
theorem rsl_ids (a : Addr) (l : List (Int × Int)) (h : ∀ (i : Nat) (hi : i < l.length), w.cell? (a.add (i * 2)) = some (.int .u64 l[i].1) ∧ w.cell? (a.add (i * 2 + 1)) = some (.int .i64 l[i].2)) : RSl w (some a) (icells l) :=
  rsl_of a _ fun i v hv => by
    obtain ⟨hi, _⟩ := List.getElem?_eq_some_iff.1 hv
    rw [icells_len] at hi
    obtain ⟨h1, h2⟩ := icells_at l (i / 2) (by omega)
    obtain ⟨h3, h4⟩ := h (i / 2) (by omega)
    rcases Nat.mod_two_eq_zero_or_one i with e | e
    · have e2 : i / 2 * 2 = i := by omega
      rw [e2] at h1 h3
      rw [hv] at h1; rw [h3, h1]
    · have e2 : i / 2 * 2 + 1 = i := by omega
      rw [e2] at h2 h4
      rw [hv] at h2; rw [h4, h2]
theorem read_ids {fuel : Nat} {v : Value} {x : DataW H × List MemPlace} (h : DataW.trod enc Tryd.prog w base spare held fuel 49 [v] = some x) :
    ∃ a c l, v = .slice a l.length c ∧ RSl w a (icells l) ∧ l.length ≤ c ∧ (a = none → c = 0) ∧ c ≤ 9223372036854775807 ∧ ∀ z ∈ l, (0 ≤ z.1 ∧ z.1 ≤ 18446744073709551615) ∧ (-9223372036854775808 ≤ z.2 ∧ z.2 ≤ 9223372036854775807) := by
  rcases open_slice_pairs (e := 71) (by kernel_rfl) (Tryd.underlying71) (by kernel_rfl) rfl rfl (by kernel_rfl) (by kernel_rfl) h with ⟨hcs, _⟩ | ⟨a, len, cap, m, n, V0, V1, D0, D1, P0, P1, hcs, _, hl, hm, hmm, _, hx⟩
  · obtain rfl := List.singleton_inj.1 hcs
    exact ⟨none, 0, [], rfl, RSl.nil _ _, Nat.le_refl _, fun _ => rfl, by omega, by simp⟩
  · obtain rfl := List.singleton_inj.1 hcs
    have hle : len ≤ m := by rw [hmm]; split <;> omega
    have hb : ∀ i, i < m → ∃ q : Int × Int, (V0 i = .int .u64 q.1 ∧ V1 i = .int .i64 q.2) ∧ (0 ≤ q.1 ∧ q.1 ≤ 18446744073709551615) ∧ (-9223372036854775808 ≤ q.2 ∧ q.2 ≤ 9223372036854775807) := fun i hi => by
      obtain ⟨_, _, h3, h4⟩ := hx i hi
      obtain ⟨q0, e0, _, w0⟩ := DataW.trod_int (k := .u64) (by kernel_rfl) h3
      obtain ⟨q1, e1, _, w1⟩ := DataW.trod_int (k := .i64) (by kernel_rfl) h4
      exact ⟨(q0, q1), ⟨List.singleton_inj.1 e0, List.singleton_inj.1 e1⟩, wf_u64 w0, wf_i64 w1⟩
    obtain ⟨B, hB⟩ := choose_lt (p := fun i (q : Int × Int) => (V0 i = .int .u64 q.1 ∧ V1 i = .int .i64 q.2) ∧ (0 ≤ q.1 ∧ q.1 ≤ 18446744073709551615) ∧ (-9223372036854775808 ≤ q.2 ∧ q.2 ≤ 9223372036854775807)) hb
    have hln : ((List.range len).map B).length = len := by simp
    refine ⟨some a, cap, (List.range len).map B, by rw [hln], rsl_ids a _ fun i hi => ?_, by rw [hln]; exact hl, (fun e => by cases e), by unfold maxLen at hm; omega, fun z hz => ?_⟩
    · simp only [List.length_map, List.length_range] at hi
      obtain ⟨g1, g2, _, _⟩ := hx i (by omega)
      obtain ⟨⟨g3, g4⟩, _⟩ := hB i (by omega)
      rw [g1, g2, g3, g4]
      simp
    · obtain ⟨i, hi, rfl⟩ := List.mem_map.1 hz
      exact (hB i (by have := List.mem_range.1 hi; omega)).2
/-- THE ARGUMENT: nil, or a memory that lies there. -/
theorem read_mem {fuel : Nat} {cs : List Value} {x : DataW H × List MemPlace} (h : DataW.trod enc Tryd.prog w base spare held fuel 22 cs = some x) :
    cs = [.pointer none] ∨ ∃ b o M S, cs = [.pointer (some ⟨b, o, none⟩)] ∧ RMem w b o M S := by
  rcases open_ptr_fields (tp := 22) (ts := 51) (by kernel_rfl) (Tryd.underlying51) (hone_of (by kernel_rfl)) (by kernel_rfl) (by decide) h with ⟨h0, _⟩ | ⟨b, o, n, V, Y, rfl, hb, rfl, hf⟩
  · exact Or.inl h0
  right
  obtain ⟨k0, t0⟩ := hf 0 _ rfl
  obtain ⟨k1, t1⟩ := hf 1 _ rfl
  obtain ⟨k2, t2⟩ := hf 2 _ rfl
  obtain ⟨k3, t3⟩ := hf 3 _ rfl
  obtain ⟨k4, t4⟩ := hf 4 _ rfl
  obtain ⟨k5, t5⟩ := hf 5 _ rfl
  obtain ⟨k6, t6⟩ := hf 6 _ rfl
  obtain ⟨k7, t7⟩ := hf 7 _ rfl
  obtain ⟨k8, t8⟩ := hf 8 _ rfl
  obtain ⟨k9, t9⟩ := hf 9 _ rfl
  obtain ⟨k10, t10⟩ := hf 10 _ rfl
  obtain ⟨half, e0, _, w0⟩ := DataW.trod_int (k := .i64) (by kernel_rfl) t0
  obtain ⟨old, e1, _, w1⟩ := DataW.trod_int (k := .i64) (by kernel_rfl) t1
  obtain ⟨card, e2, _, w2⟩ := DataW.trod_int (k := .i64) (by kernel_rfl) t2
  obtain ⟨a3, c3, W, e3, r3, l3, n3, m3, b3⟩ := read_u64s t3
  obtain ⟨used, e4, _, w4⟩ := DataW.trod_int (k := .i64) (by kernel_rfl) t4
  obtain ⟨top, e5, _, w5⟩ := DataW.trod_int (k := .i64) (by kernel_rfl) t5
  obtain ⟨oldTop, e6, _, w6⟩ := DataW.trod_int (k := .i64) (by kernel_rfl) t6
  obtain ⟨a7, c7, R, e7, r7, l7, n7, m7, b7⟩ := read_u64s t7
  obtain ⟨a8, c8, K, e8, r8, l8, n8, m8, b8⟩ := read_u64s t8
  obtain ⟨a9, c9, I, e9, r9, l9, n9, m9, b9⟩ := read_ids t9
  obtain ⟨a10, c10, C, e10, r10, l10, n10, m10⟩ := read_bools t10
  have e0 := List.singleton_inj.1 e0
  have e1 := List.singleton_inj.1 e1
  have e2 := List.singleton_inj.1 e2
  have e4 := List.singleton_inj.1 e4
  have e5 := List.singleton_inj.1 e5
  have e6 := List.singleton_inj.1 e6
  rw [e0] at k0; rw [e1] at k1; rw [e2] at k2; rw [e3] at k3; rw [e4] at k4; rw [e5] at k5; rw [e6] at k6; rw [e7] at k7; rw [e8] at k8; rw [e9] at k9; rw [e10] at k10
  exact ⟨b, o, ⟨half, old, card, W, used, top, oldTop, R, K, I, C⟩, ⟨(a3, c3), (a7, c7), (a8, c8), (a9, c9), (a10, c10)⟩, rfl,
    ⟨k0, k1, k2, k3, k4, k5, k6, k7, k8, k9, k10, r3, r7, r8, r9, r10, l3, l7, l8, l9, l10, n3, n7, n8, n9, n10,
      ⟨wf_i64 w0, wf_i64 w1, wf_i64 w2, wf_i64 w4, wf_i64 w5, wf_i64 w6, b3, b7, b8, b9, Nat.le_trans l3 m3, Nat.le_trans l7 m7, Nat.le_trans l8 m8, Nat.le_trans l9 m9, Nat.le_trans l10 m10⟩⟩⟩
end
end Go.Proofs.YtecbbbaafcoliaaDoor
/- What the rows' listed package-level errors give a walk: each variable's cell holds an error of its own. -/
namespace Go.Proofs.YtecbbbaafcoliaaDoor
open Go.ChangeShapes Go.WideShapes Go.ChangeAt Go.RowKit
set_option linter.unusedVariables false
set_option linter.unusedSimpArgs false

theorem own : ownKnob Tryd.prog.godebug = none := by kernel_rfl
theorem esName : Tryd.prog.typeName? 3 189 = some "*errors.errorString" := by kernel_rfl
theorem esStar : "*" ++ "errors.errorString" = "*errors.errorString" := by decide
theorem esRow (u : TypeId) (h : Tryd.prog.typeName? 3 u = some "*errors.errorString") : u = 189 :=
  typeName_ptr_named (nm := "errors.errorString") (by rw [esStar]; kernel_rfl) (by kernel_rfl) (by decide) u (by rw [esStar]; exact h)
theorem esCells : Tryd.prog.cellsOf 209 = 1 := by kernel_rfl
theorem strCells : Tryd.prog.cellsOf 9 = 1 := by kernel_rfl

/-- An error as errors.New makes it, as a datum. -/
abbrev errD (text : List UInt8) : DataW Unit := .iface "*errors.errorString" (.ptr (.agg [.lit (.string text)]))

set_option maxRecDepth 100000 in
/-- One listed error. -/
theorem one_of_laid {W : World} {n : String} {text : List UInt8} {g : Nat} (hg : Tryd.prog.globalNamed n = some g) (ht : (Tryd.prog.globals[g]?).map (·.type) = some 32)
    (h : laidMet Tryd.prog [(n, errD text)] W) : ∃ a s, W.cell? ⟨g, 0, none⟩ = some (errV a) ∧ W.cell? a = some (.string s) ∧ s.data.toList = text := by
  obtain ⟨ps, ⟨g0, t0, cs0, f0, p0, q0, hg0, ht0, hv0, hd0, _, e0⟩, hnd, hrows⟩ := h
  obtain rfl := Option.some.inj (hg.symm.trans hg0)
  obtain rfl := Option.some.inj (ht.symm.trans ht0)
  subst e0
  obtain ⟨l0⟩ := cs0
  have ok0 : ∀ u v, l0 = [.iface u v] → Value.okWide Tryd.prog W .any 0 u v := fun u v e => by
    subst e
    exact (hrows g 0 (by simp [MemPlace.row])).2 u v (by simpa using World.var?_cell hg0 hv0 0)
  obtain ⟨a0, s0, rfl, hc0, hs0, hz0, rfl⟩ := errorString_of_trod Tryd.underlying32 esRow Tryd.underlying189 Tryd.underlying209 rfl rfl Tryd.underlying9 esCells strCells hd0 ok0
  exact ⟨a0, s0, by simpa using World.var?_cell hg0 hv0 0, hc0, hs0⟩

set_option maxRecDepth 100000 in
/-- The block of a listed error. -/
theorem blk_of_laid {W : World} {n : String} {text : List UInt8} {g : Nat} (hg : Tryd.prog.globalNamed n = some g) (ht : (Tryd.prog.globals[g]?).map (·.type) = some 32)
    (h : laidMet Tryd.prog [(n, errD text)] W) {a : Addr} (ha : W.cell? ⟨g, 0, none⟩ = some (errV a)) : ∃ c t, W.heap[a.block]? = some (.cells c t (0, 0)) := by
  obtain ⟨ps, ⟨g0, t0, cs0, f0, p0, q0, hg0, ht0, hv0, hd0, _, e0⟩, hnd, hrows⟩ := h
  obtain rfl := Option.some.inj (hg.symm.trans hg0)
  obtain rfl := Option.some.inj (ht.symm.trans ht0)
  subst e0
  obtain ⟨l0⟩ := cs0
  have ok0 : ∀ u v, l0 = [.iface u v] → Value.okWide Tryd.prog W .any 0 u v := fun u v e => by
    subst e
    exact (hrows g 0 (by simp [MemPlace.row])).2 u v (by simpa using World.var?_cell hg0 hv0 0)
  obtain ⟨a0, s0, rfl, hc0, hs0, hz0, rfl⟩ := errorString_of_trod Tryd.underlying32 esRow Tryd.underlying189 Tryd.underlying209 rfl rfl Tryd.underlying9 esCells strCells hd0 ok0
  have e0 : W.cell? ⟨g, 0, none⟩ = some (errV a0) := by simpa using World.var?_cell hg0 hv0 0
  rw [e0] at ha
  have ea : a0 = a := by injection ha with ha; injection ha with _ ha; injection ha with ha; injection ha
  subst ea
  exact (hrows a0.block a0.off (by simp [MemPlace.row])).1

set_option maxRecDepth 100000 in
/-- Two listed errors are two. -/
theorem two_of_laid {W : World} {n m : String} {tn tm : List UInt8} {g k : Nat} (hg : Tryd.prog.globalNamed n = some g) (ht : (Tryd.prog.globals[g]?).map (·.type) = some 32)
    (hk : Tryd.prog.globalNamed m = some k) (hkt : (Tryd.prog.globals[k]?).map (·.type) = some 32)
    (h : laidMet Tryd.prog [(n, errD tn), (m, errD tm)] W) {a b : Addr} (ha : W.cell? ⟨g, 0, none⟩ = some (errV a)) (hb : W.cell? ⟨k, 0, none⟩ = some (errV b)) : a ≠ b := by
  obtain ⟨ps, ⟨g0, t0, cs0, f0, p0, q0, hg0, ht0, hv0, hd0, ⟨g1, t1, cs1, f1, p1, q1, hg1, ht1, hv1, hd1, hq1, e1⟩, e0⟩, hnd, hrows⟩ := h
  obtain rfl := Option.some.inj (hg.symm.trans hg0)
  obtain rfl := Option.some.inj (hk.symm.trans hg1)
  obtain rfl := Option.some.inj (ht.symm.trans ht0)
  obtain rfl := Option.some.inj (hkt.symm.trans ht1)
  have hq1' : q1 = [] := hq1
  subst hq1'
  subst e1
  subst e0
  obtain ⟨l0⟩ := cs0
  obtain ⟨l1⟩ := cs1
  have ok0 : ∀ u v, l0 = [.iface u v] → Value.okWide Tryd.prog W .any 0 u v := fun u v e => by
    subst e
    exact (hrows g 0 (by simp [MemPlace.row])).2 u v (by simpa using World.var?_cell hg0 hv0 0)
  have ok1 : ∀ u v, l1 = [.iface u v] → Value.okWide Tryd.prog W .any 0 u v := fun u v e => by
    subst e
    exact (hrows k 0 (by simp [MemPlace.row])).2 u v (by simpa using World.var?_cell hg1 hv1 0)
  obtain ⟨a0, s0, rfl, hc0, hs0, hz0, rfl⟩ := errorString_of_trod Tryd.underlying32 esRow Tryd.underlying189 Tryd.underlying209 rfl rfl Tryd.underlying9 esCells strCells hd0 ok0
  obtain ⟨a1, s1, rfl, hc1, hs1, hz1, rfl⟩ := errorString_of_trod Tryd.underlying32 esRow Tryd.underlying189 Tryd.underlying209 rfl rfl Tryd.underlying9 esCells strCells hd1 ok1
  have e0 : W.cell? ⟨g, 0, none⟩ = some (errV a0) := by simpa using World.var?_cell hg0 hv0 0
  have e1 : W.cell? ⟨k, 0, none⟩ = some (errV a1) := by simpa using World.var?_cell hg1 hv1 0
  rw [e0] at ha; rw [e1] at hb
  have ea : a0 = a := by injection ha with ha; injection ha with _ ha; injection ha with ha; injection ha
  have eb : a1 = b := by injection hb with hb; injection hb with _ hb; injection hb with hb; injection hb
  subst ea eb
  rintro rfl
  simp [MemPlace.row] at hnd

theorem gB : Tryd.prog.globalNamed "nurserypy/api.ErrBound" = some 0 := by kernel_rfl
theorem gBt : (Tryd.prog.globals[0]?).map (·.type) = some 32 := by kernel_rfl
theorem gS : Tryd.prog.globalNamed "nurserypy/api.ErrShape" = some 1 := by kernel_rfl
theorem gSt : (Tryd.prog.globals[1]?).map (·.type) = some 32 := by kernel_rfl
theorem gP : Tryd.prog.globalNamed "nurserypy/api.ErrPlace" = some 3 := by kernel_rfl
theorem gPt : (Tryd.prog.globals[3]?).map (·.type) = some 32 := by kernel_rfl
theorem gF : Tryd.prog.globalNamed "nurserypy/api.ErrFull" = some 2 := by kernel_rfl
theorem gFt : (Tryd.prog.globals[2]?).map (·.type) = some 32 := by kernel_rfl

theorem laidOut : laidOutB Tryd.prog = true := by kernel_rfl

/-- The arguments read behind the call as they did before. -/
theorem trodAll_stays {H : Type} {enc : TypeId × Value → H} {W W' : World} (hb : Ext W W') : ∀ {ts : List TypeId} {vs : List Value} {ds : List (DataW H)} {ps : List MemPlace},
    (∀ t ∈ ts, Tryd.prog.readableRec t = true ∧ t < Tryd.prog.types.size) → (∀ x ∈ ps, x.block < W.heap.size) →
    DataW.TrodAll enc Tryd.prog W 0 (fun _ => true) true ts vs ds ps → DataW.TrodAll enc Tryd.prog W' 0 (fun b => decide (b < W.heap.size)) true ts vs ds ps := by
  intro ts
  induction ts with
  | nil =>
    intro vs ds ps _ _ h
    obtain ⟨rfl, rfl, rfl⟩ := trodAll_nil h
    exact trodAll_mk0
  | cons t ts ih =>
    intro vs ds ps hr hlt h
    obtain ⟨v, vs', d, ds', p, q, rfl, rfl, rfl, h0, r0⟩ := trodAll_cons h
    have ht := hr t (by simp)
    exact trodAll_cons_mk (Below.trod laidOut ht.1 ht.2 h0 hb (fun x hx => hlt x (by simp [hx]))) (ih (fun t h => hr t (by simp [h])) (fun x hx => hlt x (by simp [hx])) r0)

/-- A law that answers true and leaves what was there. -/
theorem law_post {H : Type} {enc : TypeId × Value → H} {f : Func} {s : ChangeSpec} {W W' : World} {args : Array Value} {ds gs : List (DataW H)} {before : List MemPlace}
    (hrt : f.resultTypes = #[4]) (hsv : s.vars = []) (hW : DataW.Whole enc Tryd.prog f.params.toList s.vars false W args.toList ds gs before)
    (hfn : s.fn H (ds ++ gs) = { results := [.lit (.bool true)], args := ds }) (hr : ∀ t ∈ f.params.toList, Tryd.prog.readableRec t = true ∧ t < Tryd.prog.types.size) (hb : Ext W W') :
    s.post enc Tryd.prog f false true false false W args (.bool true) W' := by
  have hlt := fun x hx => hW.lt x hx
  obtain ⟨p, q, hA, hV, hpq, hfz, hnd⟩ := id hW
  rw [hsv] at hV
  obtain ⟨rfl, rfl⟩ := trodVars_none hV
  subst hpq
  refine ⟨ds, [], _, [], p, [], hW, ?_, ?_, ?_, ?_, fun h => by cases h⟩
  · rw [hfn, hrt]; exact trodAll_mk1 (shut_bool Tryd.underlying4 true)
  · rw [hfn]; exact trodAll_stays hb hr (fun x hx => by simpa using hlt x (by simp [hx])) hA
  · rw [hfn, hsv]; rfl
  · exact hb.frame _
end Go.Proofs.YtecbbbaafcoliaaDoor
/- The listed errors of laws on memories, as the walks want them. -/
namespace Go.Proofs.YtecbbbaafcoliaaDoor
open Go.ChangeShapes Go.WideShapes Go.ChangeAt Go.RowKit
set_option linter.unusedVariables false
set_option linter.unusedSimpArgs false

def laid3 : List (String × DataW Unit) := [("nurserypy/api.ErrBound", Rows.laid_nurserypy_api_ErrBound), ("nurserypy/api.ErrShape", Rows.laid_nurserypy_api_ErrShape), ("nurserypy/api.ErrPlace", Rows.laid_nurserypy_api_ErrPlace)]
def laid4 : List (String × DataW Unit) := [("nurserypy/api.ErrBound", Rows.laid_nurserypy_api_ErrBound), ("nurserypy/api.ErrShape", Rows.laid_nurserypy_api_ErrShape), ("nurserypy/api.ErrPlace", Rows.laid_nurserypy_api_ErrPlace), ("nurserypy/api.ErrFull", Rows.laid_nurserypy_api_ErrFull)]
theorem g3_of_laid {W : World} (h : laidMetH Tryd.prog laid3 W) : ∃ E, G3 E W := by
  obtain ⟨a1, _, c1, _⟩ := one_of_laid (W := W) (n := "nurserypy/api.ErrBound") (text := _) gB gBt (h.filter fun x => x.1 == "nurserypy/api.ErrBound")
  obtain ⟨a2, _, c2, _⟩ := one_of_laid (W := W) (n := "nurserypy/api.ErrShape") (text := _) gS gSt (h.filter fun x => x.1 == "nurserypy/api.ErrShape")
  obtain ⟨a4, _, c4, _⟩ := one_of_laid (W := W) (n := "nurserypy/api.ErrPlace") (text := _) gP gPt (h.filter fun x => x.1 == "nurserypy/api.ErrPlace")
  exact ⟨fun i => match i with | 1 => a1 | 2 => a2 | _ => a4, c1, c2, c4⟩
theorem g4_of_laid {W : World} (h : laidMetH Tryd.prog laid4 W) : ∃ E, G4 E W := by
  obtain ⟨a1, _, c1, _⟩ := one_of_laid (W := W) (n := "nurserypy/api.ErrBound") (text := _) gB gBt (h.filter fun x => x.1 == "nurserypy/api.ErrBound")
  obtain ⟨a2, _, c2, _⟩ := one_of_laid (W := W) (n := "nurserypy/api.ErrShape") (text := _) gS gSt (h.filter fun x => x.1 == "nurserypy/api.ErrShape")
  obtain ⟨a4, _, c4, _⟩ := one_of_laid (W := W) (n := "nurserypy/api.ErrPlace") (text := _) gP gPt (h.filter fun x => x.1 == "nurserypy/api.ErrPlace")
  obtain ⟨a5, _, c5, _⟩ := one_of_laid (W := W) (n := "nurserypy/api.ErrFull") (text := _) gF gFt (h.filter fun x => x.1 == "nurserypy/api.ErrFull")
  exact ⟨fun i => match i with | 1 => a1 | 2 => a2 | 4 => a4 | _ => a5, ⟨c1, c2, c4⟩, c5⟩
end Go.Proofs.YtecbbbaafcoliaaDoor
/- The law MemWalks: its contract: whatever it is given it answers true, and leaves what was there. -/
namespace Go.Proofs.YtecbbbaafcoliaaDoor.MemWalks
open Go.ChangeShapes Go.WideShapes Go.ChangeAt Go.RowKit
open Go.ChangeMaps (open_string)
set_option linter.unusedVariables false
set_option linter.unusedSimpArgs false

set_option maxRecDepth 100000 in
theorem contract (H : Type) (enc : TypeId × Value → H) (W : World) (base : Nat) (args : Array Value) (ds gs : List (DataW H)) (before : List MemPlace)
    (hval : ∀ (j : Nat) t v, Tryd.f4.params[j]? = some t → args[j]? = some v → Value.okWide Tryd.prog W .any base t v)
    (hW : DataW.Whole enc Tryd.prog Tryd.f4.params.toList Rows.memWalksSpec.vars false W args.toList ds gs before)
    (hsz : (DataW.weightsEach Tryd.prog (Tryd.f4.params.toList ++ (OpenSpec.ofChange Rows.memWalksSpec).bare.plain.varTypes Tryd.prog) (ds ++ gs)).all (· ≤ reachBytes) = true) (hL : laidMetH Tryd.prog Rows.memWalksRow.laid W) :
    Calls Tryd.prog 4 args W fun e W' => ∃ v, e = .returned v ∧ Rows.memWalksSpec.post enc Tryd.prog Tryd.f4 false true false false W args v W' := by
  have hW' := hW
  obtain ⟨p, q, hA0, hV, rfl, hfz, hnd⟩ := hW
  have hA : DataW.TrodAll enc Tryd.prog W 0 (fun _ => true) true Tryd.f4.params.toList args.toList ds p := hA0
  rw [Tryd.params4] at hA hval
  obtain ⟨v0, vs0, d0, ds0, p0, q0, hargs, rfl, rfl, h0, r0⟩ := trodAll_cons hA
  obtain ⟨rfl, rfl, rfl⟩ := trodAll_nil r0
  obtain rfl : args = #[v0] := by cases args; simp_all
  obtain ⟨rfl, rfl⟩ := trodVars_none hV
  obtain ⟨E, hE⟩ := g3_of_laid (W := W) (hL.filter fun x => laid3.any (·.1 == x.1))
  clear hA0
  obtain ⟨fuel0, hh0⟩ := id h0
  obtain ⟨pa0, rfl⟩ := okWide_pointer Tryd.underlying22 (hval 0 22 v0 rfl rfl)
  rcases read_mem hh0 with e0 | ⟨b0, o0, M0, S0, e0, hM0⟩
  · obtain rfl := Value.pointer.inj (List.singleton_inj.1 e0)
    refine (memWalks_nil  W E hE ).mono fun e W' ⟨he, hg⟩ => ?_
    subst he
    exact ⟨_, rfl, law_post rfl rfl hW' (by simp [Rows.memWalksSpec]) (by decide +kernel) hg⟩
  · obtain rfl := Value.pointer.inj (List.singleton_inj.1 e0)
    refine (memWalks_any b0 o0 M0 S0  W hM0 E hE ).mono fun e W' ⟨he, hg⟩ => ?_
    subst he
    exact ⟨_, rfl, law_post rfl rfl hW' (by simp [Rows.memWalksSpec]) (by decide +kernel) hg⟩
end Go.Proofs.YtecbbbaafcoliaaDoor.MemWalks
/- The law MemWalks: its row's step, out of the contract; an input that fits. -/
namespace Go.Proofs.YtecbbbaafcoliaaDoor.MemWalks
open Go.ChangeShapes Go.WideShapes Go.ChangeAt Go.RowKit

theorem laid_met (os : Os) : laidMetH Tryd.prog Rows.memWalksRow.laid ((World.doorLaid Tryd.prog 200 os).forCall (fun _ _ => 0) ⟨#[], #[.pointer none], []⟩).memory :=
  laidMetH_of_parts3 (fuel := 8) (laidMet_of_run' 8 (by kernel_rfl) (by kernel_rfl)) (by kernel_rfl) (by kernel_rfl)
theorem reads (os : Os) {H : Type} (enc : TypeId × Value → H) : ∃ places, DataW.whole enc Tryd.prog ((World.doorLaid Tryd.prog 200 os).forCall (fun _ _ => 0) ⟨#[], #[.pointer none], []⟩).memory Tryd.f4.params.toList Rows.memWalksSpec.vars false #[.pointer none].toList 8 = some ([.nil], [], places) :=
  ⟨[], by kernel_rfl⟩

set_option maxRecDepth 100000 in
theorem lifted (os : Os) (started : os.Started) (H : Type) (enc : TypeId × Value → H) (F : Stop.Interp) :
    ReturnsInHanded {} Tryd.checked os 4 .any ((OpenSpec.ofChange Rows.memWalksSpec).preRow enc Tryd.prog Tryd.f4 Rows.memWalksRow.domain false Rows.memWalksRow.laid) (((OpenSpec.ofChange Rows.memWalksSpec).at F).post enc Tryd.prog Tryd.f4 false true false false) := by
  obtain ⟨places, hx⟩ := reads os enc
  refine returnsInHanded_of_row (C := Tryd.checked) (s := OpenSpec.ofChange Rows.memWalksSpec) own started (by kernel_rfl) Tryd.func4
    (witness_row_atRef (enc := enc) (C := Tryd.checked) false (World.doorLaid Tryd.prog 200 os) #[.pointer none] rfl (by kernel_rfl) (by kernel_rfl) (by kernel_rfl)
      (OpenSpec.preRow_of_cond 8 hx (by kernel_rfl) (fun k hk => by cases hk) (by kernel_rfl) (laid_met os))) ?_
  intro W base args ds gs before hval hW _ _ hsz hL _ _
  exact contract H enc W base args ds gs before hval hW hsz hL
end Go.Proofs.YtecbbbaafcoliaaDoor.MemWalks
