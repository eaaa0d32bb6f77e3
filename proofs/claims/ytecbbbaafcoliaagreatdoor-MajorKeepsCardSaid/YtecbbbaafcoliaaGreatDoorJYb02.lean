/- The walk of the document's LiveOf. -/
import Derived.Test.YtecbbbaafcoliaaGreatDoorJYa29
import Derived.Test.YtecbbbaafcoliaaGreatDoorJYa39
import Derived.Test.YtecbbbaafcoliaaGreatDoorJYa31
import Derived.Deep.LoopGhost
import Derived.Test.YtecbbbaafcoliaaGreatDoorJYa42
import Derived.Test.YtecbbbaafcoliaaGreatDoorJYb01
import Derived.Test.YtecbbbaafcoliaaGreatDoorJYa36
import Derived.Test.YtecbbbaafcoliaaGreatDoorJYa37
import Derived.Test.YtecbbbaafcoliaaGreatDoorJYa38
import Derived.Deep.Cut
namespace Go.Proofs.YtecbbbaafcoliaaGreatDoor
open Go.RowKit
set_option linter.unusedVariables false
set_option linter.unusedSimpArgs false

set_option maxRecDepth 100000 in
set_option maxHeartbeats 8000000 in
theorem liveOf_walk (b o : Nat) (M : Mem) (S : Sls) (w : World) (hM : RMem w b o M S) (hg : goodB M = true) :
    Calls Tryz.prog 17 #[.pointer (some ⟨b, o, none⟩)] w fun e w' => e = .returned (.int .i64 (liveM M : Int)) ∧ Ext w w' := by
  obtain ⟨hs, -⟩ := good_parts hg
  have hlM := len_small hs
  have hlr := words_len hg (reachP_gath hg)
  have hmem : Hid (∀ x ∈ reachP M, x ∈ objsAll M) := fun x hx => (reachP_gath hg).mem x hx
  have hn4 : Hid (∀ x ∈ reachP M, x.n ≤ 4096) := fun x hx => by
    have h1 := found_n hM.ok hs (hmem.out x hx)
    have h2 : hSize x.w ≤ 4096 := ((isHd_iff x.w).1 (mem_in hs (hmem.out x hx)).2.2).2.2
    omega
  have HM := Lib.hid hM
  have HG := Lib.hid hg
  have HS := Lib.hid hs
  clear hM hg hs
  go_enter Tryz.func17, Tryz.ntmps17
  go_wp2_with (go_at_call 42; refine (reached_walk b o M S _ HM.out HG.out).mono ?_; rintro e w1 ⟨ra, rc, rfl, hq1, hq2⟩; have HR := Lib.hid (own_rsl hq1); have HE1 := Lib.hid hq2; clear hq1 hq2)
  generalize hl : reachP M = l at *
  have HL := Lib.hid hl
  clear hl
  generalize hTA : ra = TA
  have HTA := Lib.hid hTA
  clear hTA
  go_loopg [4, 5] (l.length) (fun r s i wr => ∃ k : Nat, k + r = l.length ∧ i = .int .i64 (k : Int) ∧ s = .int .i64 ((sumO (l.take k) : Nat) : Int) ∧ Hid (Ext w1 wr))
  case atStart => exact ⟨0, by omega, rfl, rfl, Ext.refl _⟩
  case round =>
    obtain ⟨k, hk, rfl, rfl, hE⟩ := hrel
    cases gk with
    | succ r =>
      have hlt : k < l.length := by omega
      have hltz : (k : Int) < (l.length : Int) := by omega
      obtain ⟨tb, tp, hTe, -, -, -, c3⟩ := ob_cells4 (HR.out.ext hE.out) hlt
      obtain rfl : TA = some ⟨tb, tp, none⟩ := HTA.out.symm.trans hTe
      have hm := hmem.out _ (List.getElem_mem hlt)
      have hsz := found_n HM.out.ok HS.out hm
      have hz4 := hn4.out _ (List.getElem_mem hlt)
      have hsn := sumO_snoc l k hlt
      have hsl := sumO_le (l.take k) fun x hx => hn4.out x (List.mem_of_mem_take hx)
      rw [List.length_take] at hsl
      generalize l[k] = x at *
      generalize sumO (l.take k) = s at *
      have e1 : IntKind.i64.wrap ((s : Int) + 1) = (s : Int) + 1 := IntWalk.i64_in _ (by omega)
      have e2 : IntKind.i64.wrap ((s : Int) + 1 + hSize x.w) = (s : Int) + 1 + hSize x.w := IntWalk.i64_in _ (by omega)
      have HK := Lib.hid hk
      have HSN := Lib.hid hsn
      have HSZ := Lib.hid hsz
      clear hk hm hsz hz4 hsn hsl hlt hTe
      go_wp2
      go_roundg r
      case measure => omega
      case rel =>
        refine ⟨k + 1, by have := HK.out; omega, by go_num, ?_, hE.out⟩
        have h1 := HSN.out
        have h2 := HSZ.out
        congr 1
        omega
    | zero =>
      obtain rfl : k = l.length := by omega
      have hltz : ¬ ((l.length : Nat) : Int) < (l.length : Int) := by omega
      have hfin : sumO (l.take l.length) = liveM M := by rw [List.take_length, ← HL.out]; rfl
      rw [hfin]
      clear hfin hk
      go_wp2
      go_ret
      exact ⟨rfl, HE1.out.trans_ hE.out⟩
set_option maxRecDepth 100000 in
set_option maxHeartbeats 4000000 in
theorem majorKeeps_nil (w : World) (E : Nat → Addr) (h : ErrEnv E w) :
    Calls Tryz.prog 4 #[.pointer none] w fun e w' => e = .returned (.bool true) ∧ Ext w w' := by
  have H := Lib.hid h
  have hc1 : (1 : Int) ≤ 3 := by decide
  have hc2 : (3 : Int) ≤ 7 := by decide
  clear h
  go_enter Tryz.func4, Tryz.ntmps4
  go_upto_region 5 with (first
    | (go_at_call 6; refine (still_any _ E H.out.g4).mono ?_; rintro e w1 ⟨rfl, hq⟩; have HB1 := Lib.hid hq; clear hq)
    | (go_at_call 7; refine (near_nil _).mono ?_; rintro e w' ⟨rfl, hw9⟩; have hw9 := hw9.symm; subst hw9)
    | (go_at_call 8; refine (kCheck_nil _).mono ?_; rintro e w2 ⟨rfl, hq⟩; have HB2 : Hid (Ext w w2) := Ext.trans_ HB1.out hq; clear hq))
  go_quiet (fail)
  go_wp2_with (first
    | (go_at_call 9; refine (memOf_nil _).mono ?_; rintro e w' ⟨rfl, hw9⟩; have hw9 := hw9.symm; subst hw9)
    | (go_at_call 18; refine (major_nil E _ (H.out.ext (HB2.out.trans_ (by repeat (first | exact Ext.refl _ | (refine Ext.drew_ ?_) | (refine Ext.drewN_ ?_ _))))).g3).mono ?_; rintro e w4 ⟨rfl, hq⟩; have HB4 : Hid (Ext w w4) := Ext.trans_ (HB2.out.trans_ (by repeat (first | exact Ext.refl _ | (refine Ext.drew_ ?_) | (refine Ext.drewN_ ?_ _)))) hq; clear hq)
    | (go_at_call 11; refine (coded_c (H.out.ext HB4.out) 3 hc1 hc2).mono ?_; rintro e w5 ⟨rfl, hq⟩; have HE45 := Lib.hid hq; clear hq))
  go_ret
  exact ⟨rfl, HB4.out.trans_ HE45.out⟩
set_option maxRecDepth 100000 in
set_option maxHeartbeats 4000000 in
theorem majorKeeps_far (b o : Nat) (M : Mem) (S : Sls) (w : World) (hM : RMem w b o M S) (E : Nat → Addr) (h : ErrEnv E w) (hn : ¬ Near M) :
    Calls Tryz.prog 4 #[.pointer (some ⟨b, o, none⟩)] w fun e w' => e = .returned (.bool true) ∧ Ext w w' := by
  have H := Lib.hid h
  have HM := Lib.hid hM
  have HN := Lib.hid hn
  clear h hM hn
  go_enter Tryz.func4, Tryz.ntmps4
  go_wp2_with (first
    | (go_at_call 6; refine (still_any _ E H.out.g4).mono ?_; rintro e w1 ⟨rfl, hq⟩; have HB1 := Lib.hid hq; clear hq)
    | (go_at_call 7; refine (near_no b o M S HN.out _ (HM.out.ext HB1.out)).mono ?_; rintro e w' ⟨rfl, hw9⟩; have hw9 := hw9.symm; subst hw9))
  go_ret
  exact ⟨rfl, HB1.out⟩
set_option maxRecDepth 100000 in
set_option maxHeartbeats 8000000 in
theorem majorKeeps_chk (b o : Nat) (M : Mem) (S : Sls) (hn : Near M) (w : World) (hM : RMem w b o M S) (E : Nat → Addr) (h : ErrEnv E w) (c : Int) (hc : chk M = c) (hc0 : c ≠ 0) (hc1 : 1 ≤ c) (hc2 : c ≤ 7) :
    Calls Tryz.prog 4 #[.pointer (some ⟨b, o, none⟩)] w fun e w' => e = .returned (.bool true) ∧ Ext w w' := by
  have HF := Lib.hid hn.few
  have HOK := Lib.hid hM.ok
  have H := Lib.hid h
  have HM := Lib.hid hM
  have HN := Lib.hid hn
  have HCK := Lib.hid hc
  have k0 : (c == 0) = false := by simpa using hc0
  have k1 : 0 < c := by omega
  clear h hM hn hc
  go_enter Tryz.func4, Tryz.ntmps4
  go_upto_region 5 with (first
    | (go_at_call 6; refine (still_any _ E H.out.g4).mono ?_; rintro e w1 ⟨rfl, hq⟩; have HB1 := Lib.hid hq; clear hq)
    | (go_at_call 7; refine (near_yes b o M S HN.out _ (HM.out.ext HB1.out)).mono ?_; rintro e w' ⟨rfl, hw9⟩; have hw9 := hw9.symm; subst hw9)
    | (go_at_call 8; refine (kCheck_any b o M S _ (HM.out.ext HB1.out)).mono ?_; rintro e w2 ⟨he, hq⟩; rw [HCK.out] at he; subst he; have HB2 : Hid (Ext w w2) := Ext.trans_ HB1.out hq; have d1 := (HM.out.ext (Ext.trans_ HB1.out hq)).old; have hb2 := (HM.out.ext (Ext.trans_ HB1.out hq)).lt; clear hq))
  go_quiet (fail)
  have HBX := HB2
  go_wp2_with (first
    | (go_at_call 9; refine (memOf_walk b o M S _ (HM.out.ext (HBX.out.trans_ (by repeat (first | exact Ext.refl _ | (refine Ext.drew_ ?_) | (refine Ext.drewN_ ?_ _))))) HF.out).mono ?_; rintro e w3 ⟨bx, Sx, rfl, hq1, hq2⟩; have HX := Lib.hid hq1; have HB3 : Hid (Ext w w3) := Ext.trans_ (HBX.out.trans_ (by repeat (first | exact Ext.refl _ | (refine Ext.drew_ ?_) | (refine Ext.drewN_ ?_ _)))) hq2; have HE23 := Lib.hid hq2; clear hq1 hq2)
    | (go_at_call 18; refine (major_chk bx 0 M Sx E _ (HX.out.mem HOK.out) (H.out.ext HB3.out).g3 (by rw [HCK.out]; exact hc0)).mono ?_; rintro e w4 ⟨he, hq⟩; rw [HCK.out] at he; subst he; have HE34 := Lib.hid hq; have HB4 : Hid (Ext w w4) := Ext.trans_ HB3.out hq; clear hq)
    | (go_at_call 11; refine (coded_c (H.out.ext HB4.out) c hc1 hc2).mono ?_; rintro e w5 ⟨rfl, hq⟩; have HE45 := Lib.hid hq; clear hq)
    | (go_at_call 13; refine (memBack_walk bx 0 M Sx _ ((HX.out.mem HOK.out).ext (HE34.out.trans_ HE45.out)) HF.out).mono ?_; rintro e w6 ⟨B6, b6, S6, rfl, hq1, hq2, hq3⟩; have H6 := Lib.hid (hq1.mem HOK.out); have HB6 : Hid (Ext w w6) := Ext.trans_ (HB4.out.trans_ HE45.out) hq3; clear hq1 hq2 hq3)
    | (go_at_call 12; refine (sameMemory_yes b6 0 b o M S6 S _ H6.out (HM.out.ext HB6.out)).mono ?_; rintro e w7 ⟨rfl, hq⟩; have HB7 : Hid (Ext w w7) := Ext.trans_ HB6.out hq; clear hq))
  go_ret
  exact ⟨rfl, HB7.out⟩
set_option maxRecDepth 100000 in
set_option maxHeartbeats 8000000 in
theorem majorKeeps_full (b o : Nat) (M : Mem) (S : Sls) (hn : Near M) (w : World) (hM : RMem w b o M S) (E : Nat → Addr) (h : ErrEnv E w) (hc : chk M = 0) (hfu : M.old < (liveM M : Int)) :
    Calls Tryz.prog 4 #[.pointer (some ⟨b, o, none⟩)] w fun e w' => e = .returned (.bool true) ∧ Ext w w' := by
  have HF := Lib.hid hn.few
  have HOK := Lib.hid hM.ok
  have H := Lib.hid h
  have HM := Lib.hid hM
  have HN := Lib.hid hn
  have HCK := Lib.hid hc
  have HGM := Lib.hid (chk_zero hc).1
  have hc1 : (1 : Int) ≤ 6 := by decide
  have hc2 : (6 : Int) ≤ 7 := by decide
  have HFU := Lib.hid hfu
  clear h hM hn hc
  go_enter Tryz.func4, Tryz.ntmps4
  go_upto_region 5 with (first
    | (go_at_call 6; refine (still_any _ E H.out.g4).mono ?_; rintro e w1 ⟨rfl, hq⟩; have HB1 := Lib.hid hq; clear hq)
    | (go_at_call 7; refine (near_yes b o M S HN.out _ (HM.out.ext HB1.out)).mono ?_; rintro e w' ⟨rfl, hw9⟩; have hw9 := hw9.symm; subst hw9)
    | (go_at_call 8; refine (kCheck_any b o M S _ (HM.out.ext HB1.out)).mono ?_; rintro e w2 ⟨he, hq⟩; rw [HCK.out] at he; subst he; have HB2 : Hid (Ext w w2) := Ext.trans_ HB1.out hq; have d1 := (HM.out.ext (Ext.trans_ HB1.out hq)).old; have hb2 := (HM.out.ext (Ext.trans_ HB1.out hq)).lt; clear hq))
  refine wp_region_held_drew (S := fun W => W.cell? ⟨b, o + 1, none⟩ = some (.int .i64 M.old)) (by kernel_rfl) ?_ (fun hHeld => ?_)
  · exact d1
  refine tk 0 ⟨some 24, _, _, _, _, _⟩ ?_ rfl ?_ ?_
  rotate_left
  · (intro w hSw; (try dsimp only at hSw); go_simp; try with_reducible rfl)
  try simp only [tkS]
  refine tk 1 ⟨some 25, _, _, _, _, _⟩ ?_ rfl ?_ ?_
  rotate_left
  · (intro w hSw; (try dsimp only at hSw); go_simp; try with_reducible rfl)
  try simp only [tkS]
  refine tk 2 ⟨some 26, _, _, _, _, _⟩ ?_ rfl ?_ ?_
  rotate_left
  · (intro w hSw; (try dsimp only at hSw); go_simp; try with_reducible rfl)
  try simp only [tkS]
  refine tk 3 ⟨some 27, _, _, _, _, _⟩ ?_ rfl ?_ ?_
  rotate_left
  · (intro w hSw; (try dsimp only at hSw); go_simp; try with_reducible rfl)
  try simp only [tkS]
  refine tk 5 ⟨some 29, _, _, _, _, _⟩ ?_ rfl ?_ ?_
  rotate_left
  · (intro w hSw; (try dsimp only at hSw); go_simp; try with_reducible rfl)
  try simp only [tkS]
  refine tk 6 ⟨some 30, _, _, _, _, _⟩ ?_ rfl ?_ ?_
  rotate_left
  · (intro w hSw; (try dsimp only at hSw); go_simp; try with_reducible rfl)
  try simp only [tkS]
  refine tk 7 ⟨some 31, _, _, _, _, _⟩ ?_ rfl ?_ ?_
  rotate_left
  · (intro w hSw; (try dsimp only at hSw); go_simp; try with_reducible rfl)
  try simp only [tkS]
  refine tk 8 ⟨some 32, _, _, _, _, _⟩ ?_ rfl ?_ ?_
  rotate_left
  · (intro w hSw; (try dsimp only at hSw); go_simp; try with_reducible rfl)
  try simp only [tkS]
  refine wpAnyH_ready (rs := [4]) (by kernel_rfl) (by simp) ?_
  refine AllReadyH.cons (o := ⟨some 28, _, _, _, _, _⟩) rfl (fun K hK => ?_) AllReadyH.nil
  go_simp
  refine (liveOf_walk b o M S _ (HM.out.ext (HB2.out.trans_ (by repeat (first | exact Ext.refl _ | (refine Ext.drew_ ?_) | (refine Ext.drewN_ ?_ _))))) HGM.out).mono ?_
  rintro e wL ⟨rfl, hq⟩
  have hL5 := hq.cell_ hHeld
  have HBX : Hid (Ext w wL) := Ext.trans_ (HB2.out.trans_ (by repeat (first | exact Ext.refl _ | (refine Ext.drew_ ?_) | (refine Ext.drewN_ ?_ _)))) hq
  clear hq
  refine hK.out _ _ ?_ (fun hHeld => ?_)
  · (try dsimp only); exact hL5
  clear hK K
  try simp only [tkS]
  refine tk 9 ⟨some 33, _, _, _, _, _⟩ ?_ rfl ?_ ?_
  rotate_left
  · (intro w hSw; (try dsimp only at hSw); go_simp; try with_reducible rfl)
  try simp only [tkS]
  refine tk 10 ⟨some 34, _, _, _, _, _⟩ ?_ rfl ?_ ?_
  rotate_left
  · (intro w hSw; (try dsimp only at hSw); go_simp; try with_reducible rfl)
  try simp only [tkS]
  refine wpAnyH_done (by kernel_rfl) ?_ _
  clear hHeld hL5 d1 hb2
  go_wp2_with (first
    | (go_at_call 9; refine (memOf_walk b o M S _ (HM.out.ext (HBX.out.trans_ (by repeat (first | exact Ext.refl _ | (refine Ext.drew_ ?_) | (refine Ext.drewN_ ?_ _))))) HF.out).mono ?_; rintro e w3 ⟨bx, Sx, rfl, hq1, hq2⟩; have HX := Lib.hid hq1; have HB3 : Hid (Ext w w3) := Ext.trans_ (HBX.out.trans_ (by repeat (first | exact Ext.refl _ | (refine Ext.drew_ ?_) | (refine Ext.drewN_ ?_ _)))) hq2; have HE23 := Lib.hid hq2; clear hq1 hq2)
    | (go_at_call 18; refine (major_full bx M Sx E _ (HX.out.mem HOK.out) (H.out.ext HB3.out).g4 HCK.out HFU.out).mono ?_; rintro e w4 ⟨rfl, hq⟩; have HE34 := Lib.hid hq; have HB4 : Hid (Ext w w4) := Ext.trans_ HB3.out hq; clear hq)
    | (go_at_call 11; refine (coded_c (H.out.ext HB4.out) 6 hc1 hc2).mono ?_; rintro e w5 ⟨rfl, hq⟩; have HE45 := Lib.hid hq; clear hq)
    | (go_at_call 13; refine (memBack_walk bx 0 M Sx _ ((HX.out.mem HOK.out).ext (HE34.out.trans_ HE45.out)) HF.out).mono ?_; rintro e w6 ⟨B6, b6, S6, rfl, hq1, hq2, hq3⟩; have H6 := Lib.hid (hq1.mem HOK.out); have HB6 : Hid (Ext w w6) := Ext.trans_ (HB4.out.trans_ HE45.out) hq3; clear hq1 hq2 hq3)
    | (go_at_call 12; refine (sameMemory_yes b6 0 b o M S6 S _ H6.out (HM.out.ext HB6.out)).mono ?_; rintro e w7 ⟨rfl, hq⟩; have HB7 : Hid (Ext w w7) := Ext.trans_ HB6.out hq; clear hq))
  go_ret
  exact ⟨rfl, HB7.out⟩
set_option maxRecDepth 100000 in
set_option maxHeartbeats 8000000 in
theorem majorKeeps_main (b o : Nat) (M : Mem) (S : Sls) (hn : Near M) (w : World) (hM : RMem w b o M S) (E : Nat → Addr) (h : ErrEnv E w) (hc : chk M = 0) (hroom : (liveM M : Int) ≤ M.old) :
    Calls Tryz.prog 4 #[.pointer (some ⟨b, o, none⟩)] w fun e w' => e = .returned (.bool true) ∧ Ext w w' := by
  have hf : Full M := ⟨hM.ok, hc, hroom⟩
  have hkp := hf.kept
  have HWO := Lib.hid hkp.weakOK
  have HIO := Lib.hid hkp.idsOK
  have hgr := hf.graph
  have hlv := hf.live
  have hcn := hf.chkN
  have hfn := hf.few hn.few
  have hokn := hf.okN
  have hgn := (chk_zero hcn).1
  have q6 : (majM M).roots.length = M.roots.length := by show (M.roots.map (fw1 M)).length = _; rw [List.length_map]
  have qt : (majM M).top = 0 := rfl
  have qo : (majM M).oldTop = (liveM M : Int) := rfl
  have qc : ∀ u ∈ (majM M).cards, u = false := fun u hu => List.eq_of_mem_replicate (show u ∈ List.replicate M.cards.length false from hu)
  have hgb : 0 < w.heap.size ∧ 2 < w.heap.size := ⟨cell_lt h.g4.bound, cell_lt h.g4.shape⟩
  have HFU := Lib.hid hf
  have HGM := Lib.hid (chk_zero hc).1
  have HF := Lib.hid hn.few
  have HOK := Lib.hid hM.ok
  have H := Lib.hid h
  have HM := Lib.hid hM
  have HN := Lib.hid hn
  have HGB := Lib.hid hgb
  have HCK := Lib.hid hc
  obtain ⟨NN, hNN⟩ : ∃ NN, NN = majM M := ⟨_, rfl⟩
  rw [← hNN] at q6 qt qo qc HWO HIO hgr hlv hcn hfn hokn hgn
  have HNN := Lib.hid hNN
  have HQ6 := Lib.hid q6
  have HQT := Lib.hid qt
  have HQO := Lib.hid qo
  have HQC := Lib.hid qc
  have HGR := Lib.hid hgr
  have HLV := Lib.hid hlv
  have HCN := Lib.hid hcn
  have HFN := Lib.hid hfn
  have HOKN := Lib.hid hokn
  have HGN := Lib.hid hgn
  have hle : ¬ M.old < (liveM M : Int) := by omega
  have hnR := hn.R
  have hnK := hn.K
  have hnI := hn.I
  clear h hM hn hc hroom hf q6 qt qo qc hgr hlv hcn hfn hokn hgn hNN hgb hkp
  go_enter Tryz.func4, Tryz.ntmps4
  go_upto_region 5 with (first
    | (go_at_call 6; refine (still_any _ E H.out.g4).mono ?_; rintro e w1 ⟨rfl, hq⟩; have HB1 := Lib.hid hq; clear hq)
    | (go_at_call 7; refine (near_yes b o M S HN.out _ (HM.out.ext HB1.out)).mono ?_; rintro e w' ⟨rfl, hw9⟩; have hw9 := hw9.symm; subst hw9)
    | (go_at_call 8; refine (kCheck_any b o M S _ (HM.out.ext HB1.out)).mono ?_; rintro e w2 ⟨he, hq⟩; rw [HCK.out] at he; subst he; have HB2 : Hid (Ext w w2) := Ext.trans_ HB1.out hq; have d1 := (HM.out.ext (Ext.trans_ HB1.out hq)).old; have hb2 := (HM.out.ext (Ext.trans_ HB1.out hq)).lt; clear hq))
  refine wp_region_held_drew (S := fun W => W.cell? ⟨b, o + 1, none⟩ = some (.int .i64 M.old)) (by kernel_rfl) ?_ (fun hHeld => ?_)
  · exact d1
  refine tk 0 ⟨some 24, _, _, _, _, _⟩ ?_ rfl ?_ ?_
  rotate_left
  · (intro w hSw; (try dsimp only at hSw); go_simp; try with_reducible rfl)
  try simp only [tkS]
  refine tk 1 ⟨some 25, _, _, _, _, _⟩ ?_ rfl ?_ ?_
  rotate_left
  · (intro w hSw; (try dsimp only at hSw); go_simp; try with_reducible rfl)
  try simp only [tkS]
  refine tk 2 ⟨some 26, _, _, _, _, _⟩ ?_ rfl ?_ ?_
  rotate_left
  · (intro w hSw; (try dsimp only at hSw); go_simp; try with_reducible rfl)
  try simp only [tkS]
  refine tk 3 ⟨some 27, _, _, _, _, _⟩ ?_ rfl ?_ ?_
  rotate_left
  · (intro w hSw; (try dsimp only at hSw); go_simp; try with_reducible rfl)
  try simp only [tkS]
  refine tk 5 ⟨some 29, _, _, _, _, _⟩ ?_ rfl ?_ ?_
  rotate_left
  · (intro w hSw; (try dsimp only at hSw); go_simp; try with_reducible rfl)
  try simp only [tkS]
  refine tk 6 ⟨some 30, _, _, _, _, _⟩ ?_ rfl ?_ ?_
  rotate_left
  · (intro w hSw; (try dsimp only at hSw); go_simp; try with_reducible rfl)
  try simp only [tkS]
  refine tk 7 ⟨some 31, _, _, _, _, _⟩ ?_ rfl ?_ ?_
  rotate_left
  · (intro w hSw; (try dsimp only at hSw); go_simp; try with_reducible rfl)
  try simp only [tkS]
  refine tk 8 ⟨some 32, _, _, _, _, _⟩ ?_ rfl ?_ ?_
  rotate_left
  · (intro w hSw; (try dsimp only at hSw); go_simp; try with_reducible rfl)
  try simp only [tkS]
  refine wpAnyH_ready (rs := [4]) (by kernel_rfl) (by simp) ?_
  refine AllReadyH.cons (o := ⟨some 28, _, _, _, _, _⟩) rfl (fun K hK => ?_) AllReadyH.nil
  go_simp
  refine (liveOf_walk b o M S _ (HM.out.ext (HB2.out.trans_ (by repeat (first | exact Ext.refl _ | (refine Ext.drew_ ?_) | (refine Ext.drewN_ ?_ _))))) HGM.out).mono ?_
  rintro e wL ⟨rfl, hq⟩
  have hL5 := hq.cell_ hHeld
  have HBX : Hid (Ext w wL) := Ext.trans_ (HB2.out.trans_ (by repeat (first | exact Ext.refl _ | (refine Ext.drew_ ?_) | (refine Ext.drewN_ ?_ _)))) hq
  clear hq
  refine hK.out _ _ ?_ (fun hHeld => ?_)
  · (try dsimp only); exact hL5
  clear hK K
  try simp only [tkS]
  refine tk 9 ⟨some 33, _, _, _, _, _⟩ ?_ rfl ?_ ?_
  rotate_left
  · (intro w hSw; (try dsimp only at hSw); go_simp; try with_reducible rfl)
  try simp only [tkS]
  refine tk 10 ⟨some 34, _, _, _, _, _⟩ ?_ rfl ?_ ?_
  rotate_left
  · (intro w hSw; (try dsimp only at hSw); go_simp; try with_reducible rfl)
  try simp only [tkS]
  refine wpAnyH_done (by kernel_rfl) ?_ _
  clear hHeld hL5 d1 hb2
  go_upto_region 12 with (first
    | (go_at_call 9; refine (memOf_walk b o M S _ (HM.out.ext (HBX.out.trans_ (by repeat (first | exact Ext.refl _ | (refine Ext.drew_ ?_) | (refine Ext.drewN_ ?_ _))))) HF.out).mono ?_; rintro e w3 ⟨bx, Sx, rfl, hq1, hq2⟩; have HX := Lib.hid hq1; have HB3 : Hid (Ext w w3) := Ext.trans_ (HBX.out.trans_ (by repeat (first | exact Ext.refl _ | (refine Ext.drew_ ?_) | (refine Ext.drewN_ ?_ _)))) hq2; have HE23 := Lib.hid hq2; clear hq1 hq2)
    | (go_at_call 18; refine (major_walk wL.heap.size bx M Sx E _ HX.out (H.out.ext HB3.out).g4 HFU.out HE23.out.size).mono ?_; rintro e w4 ⟨rfl, S4, hq1, hq2, hq3⟩; rw [← HNN.out] at hq1; have HX4 := Lib.hid hq1; have HB4 : Hid (Ext w w4) := Ext.keep HB3.out hq2 (fun i hi => Nat.le_trans HBX.out.size (HX.out.own_size hi).1); clear hq1 hq2 hq3)
    | (go_at_call 13; refine (memBack_walk bx 0 NN S4 _ (HX4.out.mem HOKN.out) HFN.out).mono ?_; rintro e w5 ⟨B5, b5, S5, rfl, hq1, hq2, hq3⟩; have H5 := Lib.hid (hq1.mem HOKN.out); have HB5 : Hid (Ext w w5) := Ext.trans_ HB4.out hq3; clear hq1 hq2 hq3))
  have n5 := H5.out.top
  have n6 := H5.out.oldTop
  rw [HQT.out] at n5
  rw [HQO.out] at n6
  simp only [Nat.zero_add] at n5 n6
  refine wp_region_held_drew (S := fun W => W.cell? ⟨b5, 5, none⟩ = some (.int .i64 0) ∧ W.cell? ⟨b5, 6, none⟩ = some (.int .i64 (liveM M : Int))) (by kernel_rfl) ?_ (fun hHeld => ?_)
  · exact ⟨n5, n6⟩
  refine tk 0 ⟨some 56, _, _, _, _, _⟩ ?_ rfl ?_ ?_
  rotate_left
  · (intro w hSw; (try dsimp only at hSw); go_simp; try with_reducible rfl)
  try simp only [tkS]
  refine tk 1 ⟨some 57, _, _, _, _, _⟩ ?_ rfl ?_ ?_
  rotate_left
  · (intro w hSw; (try dsimp only at hSw); go_simp; try with_reducible rfl)
  try simp only [tkS]
  refine tk 2 ⟨some 58, _, _, _, _, _⟩ ?_ rfl ?_ ?_
  rotate_left
  · (intro w hSw; (try dsimp only at hSw); go_simp; try with_reducible rfl)
  try simp only [tkS]
  refine tk 3 ⟨some 59, _, _, _, _, _⟩ ?_ rfl ?_ ?_
  rotate_left
  · (intro w hSw; (try dsimp only at hSw); go_simp; try with_reducible rfl)
  try simp only [tkS]
  refine wpAnyH_ready (rs := [4]) (by kernel_rfl) (by simp) ?_
  refine AllReadyH.cons (o := ⟨some 60, _, _, _, _, _⟩) rfl (fun K hK => ?_) AllReadyH.nil
  go_simp
  refine (kCheck_any b5 0 NN S5 _ (H5.out.ext (by repeat (first | exact Ext.refl _ | (refine Ext.drew_ ?_) | (refine Ext.drewN_ ?_ _))))).mono ?_
  rintro e w6 ⟨he, hq⟩
  rw [HCN.out] at he
  subst he
  have g54 := hq.cell_ hHeld.1
  have g64 := hq.cell_ hHeld.2
  have HE4 : Hid (Ext w5 w6) := Ext.trans_ (show Ext w5 _ from (by repeat (first | exact Ext.refl _ | (refine Ext.drew_ ?_) | (refine Ext.drewN_ ?_ _)))) hq
  clear hq
  refine hK.out _ _ ?_ (fun hHeld => ?_)
  · (try dsimp only); exact ⟨g54, g64⟩
  clear hK K
  try simp only [tkS]
  refine tk 5 ⟨some 61, _, _, _, _, _⟩ ?_ rfl ?_ ?_
  rotate_left
  · (intro w hSw; (try dsimp only at hSw); go_simp; try with_reducible rfl)
  try simp only [tkS]
  refine tk 6 ⟨some 62, _, _, _, _, _⟩ ?_ rfl ?_ ?_
  rotate_left
  · (intro w hSw; (try dsimp only at hSw); go_simp; try with_reducible rfl)
  try simp only [tkS]
  refine tk 7 ⟨some 63, _, _, _, _, _⟩ ?_ rfl ?_ ?_
  rotate_left
  · (intro w hSw; (try dsimp only at hSw); go_simp; try with_reducible rfl)
  try simp only [tkS]
  refine tk 8 ⟨some 64, _, _, _, _, _⟩ ?_ rfl ?_ ?_
  rotate_left
  · (intro w hSw; (try dsimp only at hSw); go_simp; try with_reducible rfl)
  try simp only [tkS]
  refine tk 9 ⟨some 65, _, _, _, _, _⟩ ?_ rfl ?_ ?_
  rotate_left
  · (intro w hSw; (try dsimp only at hSw); go_simp; try with_reducible rfl)
  try simp only [tkS]
  refine tk 10 ⟨some 66, _, _, _, _, _⟩ ?_ rfl ?_ ?_
  rotate_left
  · (intro w hSw; (try dsimp only at hSw); go_simp; try with_reducible rfl)
  try simp only [tkS]
  refine tk 11 ⟨some 67, _, _, _, _, _⟩ ?_ rfl ?_ ?_
  rotate_left
  · (intro w hSw; (try dsimp only at hSw); go_simp; try with_reducible rfl)
  try simp only [tkS]
  refine tk 12 ⟨some 68, _, _, _, _, _⟩ ?_ rfl ?_ ?_
  rotate_left
  · (intro w hSw; (try dsimp only at hSw); go_simp; try with_reducible rfl)
  try simp only [tkS]
  refine tk 13 ⟨some 69, _, _, _, _, _⟩ ?_ rfl ?_ ?_
  rotate_left
  · (intro w hSw; (try dsimp only at hSw); go_simp; try with_reducible rfl)
  try simp only [tkS]
  refine tk 14 ⟨some 70, _, _, _, _, _⟩ ?_ rfl ?_ ?_
  rotate_left
  · (intro w hSw; (try dsimp only at hSw); go_simp; try with_reducible rfl)
  try simp only [tkS]
  refine tk 15 ⟨some 71, _, _, _, _, _⟩ ?_ rfl ?_ ?_
  rotate_left
  · (intro w hSw; (try dsimp only at hSw); go_simp; try with_reducible rfl)
  try simp only [tkS]
  refine tk 16 ⟨some 72, _, _, _, _, _⟩ ?_ rfl ?_ ?_
  rotate_left
  · (intro w hSw; (try dsimp only at hSw); go_simp; try with_reducible rfl)
  try simp only [tkS]
  refine tk 17 ⟨some 73, _, _, _, _, _⟩ ?_ rfl ?_ ?_
  rotate_left
  · (intro w hSw; (try dsimp only at hSw); go_simp; try with_reducible rfl)
  try simp only [tkS]
  refine tk 18 ⟨some 74, _, _, _, _, _⟩ ?_ rfl ?_ ?_
  rotate_left
  · (intro w hSw; (try dsimp only at hSw); go_simp; try with_reducible rfl)
  try simp only [tkS]
  refine tk 19 ⟨some 75, _, _, _, _, _⟩ ?_ rfl ?_ ?_
  rotate_left
  · (intro w hSw; (try dsimp only at hSw); go_simp; try with_reducible rfl)
  try simp only [tkS]
  refine wpAnyH_ready (rs := [20]) (by kernel_rfl) (by simp) ?_
  refine AllReadyH.cons (o := ⟨some 76, _, _, _, _, _⟩) rfl (fun K hK => ?_) AllReadyH.nil
  go_simp
  refine (liveOf_walk b o M S _ ((HM.out.ext HB5.out).ext (HE4.out.trans_ (by repeat (first | exact Ext.refl _ | (refine Ext.drew_ ?_) | (refine Ext.drewN_ ?_ _))))) HGM.out).mono ?_
  rintro e w7 ⟨he, hq⟩
  subst he
  have g520 := hq.cell_ hHeld.1
  have g620 := hq.cell_ hHeld.2
  have HE20 : Hid (Ext w5 w7) := Ext.trans_ (HE4.out.trans_ (by repeat (first | exact Ext.refl _ | (refine Ext.drew_ ?_) | (refine Ext.drewN_ ?_ _)))) hq
  clear hq
  refine hK.out _ _ ?_ (fun hHeld => ?_)
  · (try dsimp only); exact ⟨g520, g620⟩
  clear hK K
  try simp only [tkS]
  refine tk 21 ⟨some 77, _, _, _, _, _⟩ ?_ rfl ?_ ?_
  rotate_left
  · (intro w hSw; (try dsimp only at hSw); go_simp; try with_reducible rfl)
  try simp only [tkS]
  refine tk 22 ⟨some 78, _, _, _, _, _⟩ ?_ rfl ?_ ?_
  rotate_left
  · (intro w hSw; (try dsimp only at hSw); go_simp; try with_reducible rfl)
  try simp only [tkS]
  refine tk 23 ⟨some 79, _, _, _, _, _⟩ ?_ rfl ?_ ?_
  rotate_left
  · (intro w hSw; (try dsimp only at hSw); go_simp; try with_reducible rfl)
  try simp only [tkS]
  refine tk 24 ⟨some 80, _, _, _, _, _⟩ ?_ rfl ?_ ?_
  rotate_left
  · (intro w hSw; (try dsimp only at hSw); go_simp; try with_reducible rfl)
  try simp only [tkS]
  refine tk 26 ⟨some 82, _, _, _, _, _⟩ ?_ rfl ?_ ?_
  rotate_left
  · (intro w hSw; (try dsimp only at hSw); go_simp; try with_reducible rfl)
  try simp only [tkS]
  refine tk 27 ⟨some 83, _, _, _, _, _⟩ ?_ rfl ?_ ?_
  rotate_left
  · (intro w hSw; (try dsimp only at hSw); go_simp; try with_reducible rfl)
  try simp only [tkS]
  refine tk 28 ⟨some 84, _, _, _, _, _⟩ ?_ rfl ?_ ?_
  rotate_left
  · (intro w hSw; (try dsimp only at hSw); go_simp; try with_reducible rfl)
  try simp only [tkS]
  refine tk 29 ⟨some 85, _, _, _, _, _⟩ ?_ rfl ?_ ?_
  rotate_left
  · (intro w hSw; (try dsimp only at hSw); go_simp; try with_reducible rfl)
  try simp only [tkS]
  refine wpAnyH_ready (rs := [25]) (by kernel_rfl) (by simp) ?_
  refine AllReadyH.cons (o := ⟨some 81, _, _, _, _, _⟩) rfl (fun K hK => ?_) AllReadyH.nil
  go_simp
  refine (liveOf_walk b5 0 NN S5 _ (H5.out.ext (HE20.out.trans_ (by repeat (first | exact Ext.refl _ | (refine Ext.drew_ ?_) | (refine Ext.drewN_ ?_ _))))) HGN.out).mono ?_
  rintro e w8 ⟨he, hq⟩
  rw [HLV.out] at he
  subst he
  have g525 := hq.cell_ hHeld.1
  have g625 := hq.cell_ hHeld.2
  have HE25 : Hid (Ext w5 w8) := Ext.trans_ (HE20.out.trans_ (by repeat (first | exact Ext.refl _ | (refine Ext.drew_ ?_) | (refine Ext.drewN_ ?_ _)))) hq
  clear hq
  refine hK.out _ _ ?_ (fun hHeld => ?_)
  · (try dsimp only); exact ⟨g525, g625⟩
  clear hK K
  try simp only [tkS]
  refine tk 30 ⟨some 86, _, _, _, _, _⟩ ?_ rfl ?_ ?_
  rotate_left
  · (intro w hSw; (try dsimp only at hSw); go_simp; try with_reducible rfl)
  try simp only [tkS]
  refine tk 31 ⟨some 87, _, _, _, _, _⟩ ?_ rfl ?_ ?_
  rotate_left
  · (intro w hSw; (try dsimp only at hSw); go_simp; try with_reducible rfl)
  try simp only [tkS]
  refine wpAnyH_done (by kernel_rfl) ?_ _
  clear g54 g64 g520 g620 g525 g625 n5 n6 hHeld
  have hE58 : Ext w5 w8 := HE25.out
  have HE8 := Lib.hid hE58
  have HB8 : Hid (Ext w w8) := HB5.out.trans_ hE58
  clear hE58
  go_upto_region 15 with fail
  go_loopg [8] (NN.cards.length) (fun r i wr => ∃ k : Nat, k + r = NN.cards.length ∧ i = .int .i64 (k : Int) ∧ Hid (Ext w8 wr))
  case atStart => exact ⟨0, by omega, rfl, Ext.refl _⟩
  case round =>
    obtain ⟨k, hk, rfl, hE⟩ := hrel
    have hMr := H5.out.ext (HE8.out.trans_ hE.out)
    have c10 := hMr.cards
    have hlt5 := hMr.lt
    simp only [Nat.zero_add] at c10
    cases gk with
    | succ r =>
      have hlt : k < NN.cards.length := by omega
      have hltz : (k : Int) < (NN.cards.length : Int) := by omega
      have hca : (bcells NN.cards)[k]? = some (.bool false) := by
        unfold bcells
        rw [List.getElem?_map, List.getElem?_eq_getElem hlt, HQC.out _ (List.getElem_mem hlt)]; rfl
      obtain ⟨cb, cp, hCe, cc⟩ := hMr.rC k _ hca
      rw [hCe] at c10
      have hkz : NN.cards.length ≤ 9223372036854775807 := HOKN.out.lenC
      have HK := Lib.hid hk
      have HCE := Lib.hid hCe
      clear hk hca hMr hlt hCe
      go_wp2
      go_roundg r
      case measure => omega
      case rel => exact ⟨k + 1, by have := HK.out; omega, by go_num, hE.out⟩
    | zero =>
      obtain rfl : k = NN.cards.length := by omega
      have hltz : ¬ ((NN.cards.length : Nat) : Int) < (NN.cards.length : Int) := by omega
      have HB8r : Hid (Ext w wr) := HB8.out.trans_ hE.out
      have HE8r : Hid (Ext w5 wr) := HE8.out.trans_ hE.out
      clear hMr hk
      go_upto_region 19 with fail
      clear c10
      go_upto_region 20 with (go_at_call 14; refine (graph_walk b o M S _ (HM.out.ext HB8r.out) HGM.out HF.out).mono ?_; rintro e w7 ⟨rfl, hq⟩; have HE7 : Hid (Ext w5 w7) := HE8r.out.trans_ hq; have HB7 : Hid (Ext w w7) := HB8r.out.trans_ hq; clear hq)
      go_upto_region 21 with (go_at_call 14; refine (graph_walk b5 0 NN S5 _ (H5.out.ext HE7.out) HGN.out HFN.out).mono ?_; rintro e wG ⟨he, hq⟩; rw [HGR.out] at he; subst he; have HEG : Hid (Ext w5 wG) := HE7.out.trans_ hq; have HBG : Hid (Ext w wG) := HB7.out.trans_ hq; clear hq)
      go_wp2_with (first
        | (go_at_call 15; refine (weakOK_walk b o b5 0 M NN S S5 true _ (HM.out.ext (HBG.out.trans_ (by repeat (first | exact Ext.refl _ | (refine Ext.drew_ ?_) | (refine Ext.drewN_ ?_ _))))) (H5.out.ext (HEG.out.trans_ (by repeat (first | exact Ext.refl _ | (refine Ext.drew_ ?_) | (refine Ext.drewN_ ?_ _))))) HWO.out HGM.out HF.out HFN.out hnR (by rw [HQ6.out]; exact hnR) hnK).mono ?_; rintro e w9 ⟨rfl, hq⟩; have HE9 : Hid (Ext w5 w9) := Ext.trans_ (HEG.out.trans_ (by repeat (first | exact Ext.refl _ | (refine Ext.drew_ ?_) | (refine Ext.drewN_ ?_ _)))) hq; have HB9 : Hid (Ext w w9) := Ext.trans_ (HBG.out.trans_ (by repeat (first | exact Ext.refl _ | (refine Ext.drew_ ?_) | (refine Ext.drewN_ ?_ _)))) hq; clear hq)
        | (go_at_call 16; refine (idsOK_walk b o b5 0 M NN S S5 _ (HM.out.ext HB9.out) (H5.out.ext HE9.out) HIO.out HGM.out HF.out HFN.out hnR (by rw [HQ6.out]; exact hnR) hnI).mono ?_; rintro e w10 ⟨rfl, hq⟩; have HB10 : Hid (Ext w w10) := HB9.out.trans_ hq; clear hq))
      go_ret
      exact ⟨rfl, HB10.out⟩
theorem majorKeeps_any (b o : Nat) (M : Mem) (S : Sls) (w : World) (hM : RMem w b o M S) (E : Nat → Addr) (h : ErrEnv E w) :
    Calls Tryz.prog 4 #[.pointer (some ⟨b, o, none⟩)] w fun e w' => e = .returned (.bool true) ∧ Ext w w' := by
  by_cases hn : Near M
  · by_cases hc : chk M = 0
    · by_cases hr : (liveM M : Int) ≤ M.old
      · exact majorKeeps_main b o M S hn w hM E h hc hr
      · exact majorKeeps_full b o M S hn w hM E h hc (by omega)
    · refine majorKeeps_chk b o M S hn w hM E h _ rfl hc ?_ ?_
      · unfold chk at hc ⊢
        split <;> (try split) <;> simp_all
      · unfold chk
        split <;> (try split) <;> decide
  · exact majorKeeps_far b o M S w hM E h hn
end Go.Proofs.YtecbbbaafcoliaaGreatDoor
