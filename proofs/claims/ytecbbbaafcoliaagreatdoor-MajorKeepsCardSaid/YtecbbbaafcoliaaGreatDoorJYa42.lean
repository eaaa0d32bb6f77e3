/- The walk of the law's idsOK. -/
import Derived.Test.YtecbbbaafcoliaaGreatDoorJYa41
namespace Go.Proofs.YtecbbbaafcoliaaGreatDoor
open Go.RowKit
set_option linter.unusedVariables false
set_option linter.unusedSimpArgs false

set_option maxRecDepth 100000 in
set_option maxHeartbeats 16000000 in
theorem idsOK_walk (bm om bn on_ : Nat) (M N : Mem) (SM SN : Sls) (w : World) (hM : RMem w bm om M SM) (hN : RMem w bn on_ N SN) (hW : IdsOK M N) (hg : goodB M = true) (hfM : Few M) (hfN : Few N) (hR : M.roots.length ≤ 100) (hR2 : N.roots.length ≤ 100) (hK : M.ids.length ≤ 100) :
    Calls Tryz.prog 16 #[.pointer (some ⟨bm, om, none⟩), .pointer (some ⟨bn, on_, none⟩)] w fun e w' => e = .returned (.bool true) ∧ Ext w w' := by
  obtain ⟨i0, hi0, hz0, hz1, hz2⟩ := info_parts infoF0
  have hlen := hW.len
  have HM := Lib.hid hM
  have HN := Lib.hid hN
  have HW := Lib.hid hW
  have HG := Lib.hid hg
  have HFM := Lib.hid hfM
  have HFN := Lib.hid hfN
  have hbm := hM.lt
  have hbn := hN.lt
  clear hM hN hW hg hfM hfN
  go_enter Tryz.func16, Tryz.ntmps16
  go_upto_region 2 with (go_at_call 30; refine (own_walk bm om M SM _ HM.out HFM.out).mono ?_; rintro e w1 ⟨ba, SA0, rfl, hq1, hq2⟩; have HA1 := Lib.hid hq1; have HEW1 := Lib.hid hq2; clear hq1 hq2)
  go_wp2_with (go_at_call 30; refine (own_walk bn on_ N SN _ (HN.out.ext HEW1.out) HFN.out).mono ?_; rintro e w2 ⟨bb, SB0, rfl, hq1, hq2⟩; have hT0 : Two w2 w.heap.size ba bb 65 M N SA0 SB0 := two_made (w := w) HA1.out HEW1.out hq1 hq2; have HT0 := Lib.hid hT0; have HE2 : Hid (Ext w w2) := HEW1.out.trans_ hq2; clear hq1 hq2 hT0)
  obtain ⟨A, hA⟩ : ∃ A, A = w.heap.size := ⟨_, rfl⟩
  rw [← hA] at HT0 hbm hbn
  have HA := Lib.hid hA
  clear hA HA1
  go_loopg [7] (M.ids.length) (fun r i wr => ∃ (k : Nat) (SA SB : Sls), k + r = M.ids.length ∧ i = .int .i64 (k : Int) ∧ Hid (Two wr A ba bb 65 (plusM M ((idPs M.ids N.ids k).map (·.1))) (plusM N ((idPs M.ids N.ids k).map (·.2))) SA SB) ∧ Hid (Ext w wr))
  case atStart => exact ⟨0, SA0, SB0, by omega, rfl, by show Two _ _ _ _ _ (plusM M []) (plusM N []) _ _; rw [plus_nil, plus_nil]; exact HT0.out, HE2.out⟩
  case round =>
    clear HT0 HE2
    obtain ⟨k, SA, SB, hk, rfl, hT, hE⟩ := hrel
    have hMr := HM.out.ext hE.out
    have hNr := HN.out.ext hE.out
    have c9 := hMr.ids
    have hb1 := hMr.lt
    cases gk with
    | succ r =>
      have hlt : k < M.ids.length := by omega
      have hltz : (k : Int) < (M.ids.length : Int) := by omega
      obtain ⟨p0, p1⟩ := icells_at M.ids k hlt
      obtain ⟨rb, rp, hRa, hc0⟩ := HM.out.rI _ _ p0
      have hIM := HM.out.rI
      rw [hRa] at hIM
      have hs0 := hIM.at_ p1
      rw [← Nat.add_assoc] at hs0
      have hrb := cell_lt hc0
      simp only at hrb
      rw [← HA.out] at hrb
      rw [hRa] at c9
      have hgd : M.ids.getD k (0, 0) = M.ids[k] := by rw [List.getD_eq_getElem?_getD, List.getElem?_eq_getElem hlt]; rfl
      have hub := (HM.out.ok.ids _ (List.getElem_mem hlt)).1
      have hea := HW.out.each k hlt
      have hwk : idPs M.ids N.ids (k + 1) = if 0 ≤ findI N.ids (M.ids.getD k (0, 0)).2 N.ids.length then idPs M.ids N.ids k ++ [((M.ids.getD k (0, 0)).1, (N.ids.getD (findI N.ids (M.ids.getD k (0, 0)).2 N.ids.length).toNat (0, 0)).1)] else idPs M.ids N.ids k := rfl
      have hpl := idPs_len M.ids N.ids k
      rw [hgd] at hea hwk
      generalize idPs M.ids N.ids k = ps at *
      generalize M.ids[k] = x at *
      obtain ⟨u, s⟩ := x
      simp only at hc0 hs0 hub hea hwk
      have HC0 := Lib.hid hc0
      have HS0 := Lib.hid hs0
      have HU := Lib.hid hub
      have HWK := Lib.hid hwk
      have HPL := Lib.hid hpl
      have HK := Lib.hid hk
      have HEA := Lib.hid hea
      have hkb : k ≤ 100 := by omega
      have hnl : N.ids.length ≤ 100 := by omega
      have HNL := Lib.hid hlen
      clear p0 p1 hub hwk hpl hk hlt hMr hNr hRa hIM hs0 hc0 hea hgd hlen
      obtain ⟨wq, hwq⟩ : ∃ x, x = wr := ⟨wr, rfl⟩
      go_upto_region 8 with fail
      go_loopg [9, 8] (N.ids.length) (fun r2 i kk wr2 => ∃ j : Nat, j + r2 = N.ids.length ∧ i = .int .i64 (j : Int) ∧ kk = .int .i64 (findI N.ids s j) ∧ Hid (Ext wr wr2))
      case atStart => exact ⟨0, by omega, rfl, rfl, Ext.refl _⟩
      case round =>
        obtain ⟨j, hj, rfl, rfl, hE2⟩ := hrel
        have hEq := hE.out.trans_ hE2.out
        have d9 := (HN.out.ext hEq).ids
        have hb2 := (HN.out.ext hEq).lt
        have c99 := hE2.out.cell_ c9
        have hsq := hEq.cell_ HS0.out
        have hb3 := cell_lt c99
        simp only at hb3
        cases gk with
        | succ r2 =>
          have hltj : j < N.ids.length := by omega
          have hltjz : (j : Int) < (N.ids.length : Int) := by omega
          obtain ⟨p0, p1⟩ := icells_at N.ids j hltj
          obtain ⟨qb, qp, hQa, hd0⟩ := (HN.out.ext hEq).rI _ _ p0
          have hIN := (HN.out.ext hEq).rI
          rw [hQa] at hIN d9
          have ht0 := hIN.at_ p1
          rw [← Nat.add_assoc] at ht0
          have hfn : findI N.ids s (j + 1) = if (N.ids.getD j (0, 0)).2 = s then (j : Int) else findI N.ids s j := rfl
          rw [show N.ids.getD j (0, 0) = N.ids[j] by rw [List.getD_eq_getElem?_getD, List.getElem?_eq_getElem hltj]; rfl] at hfn
          obtain ⟨t, htt⟩ : ∃ t, N.ids[j].2 = t := ⟨_, rfl⟩
          rw [htt] at hfn ht0
          generalize findI N.ids s j = f0 at *
          have HJ := Lib.hid hj
          clear p0 p1 hQa hIN hd0 htt hj hltj
          by_cases hts : t = s
          · subst hts
            rw [if_pos rfl] at hfn
            have HFN2 := Lib.hid hfn
            have hee : (t == t) = true := by simp
            clear hfn
            go_wp2
            go_quiet (fail)
            go_wp2
            go_roundg r2
            case measure => omega
            case rel => exact ⟨j + 1, by have := HJ.out; omega, by go_num, by rw [HFN2.out], hE2.out.drewN_ _⟩
          · have hee : (t == s) = false := by simpa using hts
            rw [if_neg hts] at hfn
            have HFN2 := Lib.hid hfn
            clear hfn
            go_wp2
            go_quiet (fail)
            go_wp2
            go_roundg r2
            case measure => omega
            case rel => exact ⟨j + 1, by have := HJ.out; omega, by go_num, by rw [HFN2.out], hE2.out.drewN_ _⟩
        | zero =>
          obtain rfl : j = N.ids.length := by omega
          have hltjz : ¬ ((N.ids.length : Nat) : Int) < (N.ids.length : Int) := by omega
          have hfi := findI_in N.ids s N.ids.length
          have hcq := hEq.cell_ HC0.out
          obtain ⟨kf, hkf⟩ : ∃ kf, findI N.ids s N.ids.length = kf := ⟨_, rfl⟩
          rw [hkf] at hfi ⊢
          have HKF := Lib.hid hkf
          obtain ⟨ld, hld⟩ : ∃ ld, ledB M u = ld := ⟨_, rfl⟩
          have HLD := Lib.hid hld
          clear hkf hld hj hsq
          by_cases hk0 : 0 ≤ kf
          · obtain ⟨kn, hkn⟩ : ∃ kn : Nat, kf = (kn : Int) := ⟨kf.toNat, by omega⟩
            subst hkn
            have hknl : kn < N.ids.length := by
              rcases hfi with ⟨q, -⟩ | ⟨-, q, -⟩ <;> omega
            have hknz : (kn : Int) < (N.ids.length : Int) := by omega
            obtain ⟨p0, -⟩ := icells_at N.ids kn hknl
            obtain ⟨qb, qp, hQa, hd0⟩ := HN.out.rI _ _ p0
            have hdv := hEq.cell_ hd0
            have hqb := cell_lt hd0
            simp only at hqb
            rw [← HA.out] at hqb
            rw [hQa] at d9
            have HW2 : Hid (idPs M.ids N.ids (k + 1) = ps ++ [(u, N.ids[kn].1)]) := by
              unfold Hid
              rw [HWK.out, HKF.out, if_pos (by omega), Int.toNat_natCast, show N.ids.getD kn (0, 0) = N.ids[kn] by rw [List.getD_eq_getElem?_getD, List.getElem?_eq_getElem hknl]; rfl]
            have hvb := (HN.out.ok.ids _ (List.getElem_mem hknl)).1
            generalize N.ids[kn].1 = v at *
            have hneg : ¬ (kn : Int) < 0 := by omega
            have hT2 := hT.out.ext hE2.out
            clear hfi p0 hQa hd0 hknl hk0 hE2 hvb
            cases ld
            all_goals
              go_upto_region 16 with (go_at_call 47; refine (reaches_any bm om M SM u HU.out.1 HU.out.2 _ (HM.out.ext (Ext.trans_ hEq (by repeat (first | exact Ext.refl _ | (refine Ext.drew_ ?_) | (refine Ext.drewN_ ?_ _))))) HG.out).mono ?_; rintro e w9 ⟨he, hq⟩; rw [HLD.out] at he; subst he; have HX9 := Lib.hid hq; clear hq)
              have s1 := HX9.out.cell_ c99
              have s2 := HX9.out.cell_ hcq
              have hT9 := hT2.ext HX9.out
              have hE9 := hEq.trans_ HX9.out
              obtain ⟨MA, hMA⟩ : ∃ X, X = plusM M (ps.map (·.1)) := ⟨_, rfl⟩
              obtain ⟨MB, hMB⟩ : ∃ X, X = plusM N (ps.map (·.2)) := ⟨_, rfl⟩
              rw [← hMA, ← hMB] at hT9
              have hlA : MA.roots.length ≤ 200000 := by rw [hMA]; show (M.roots ++ _).length ≤ _; rw [List.length_append, List.length_map]; have := HPL.out; omega
              have hlB : MB.roots.length ≤ 200000 := by rw [hMB]; show (N.roots ++ _).length ≤ _; rw [List.length_append, List.length_map]; have := HPL.out; omega
              have HMA := Lib.hid hMA
              have HMB := Lib.hid hMB
              have HTW := Lib.hid hT9
              have HE9 := Lib.hid hE9
              have f1 : w9.cell? ⟨ba, 7, none⟩ = some (.slice SA.R.1 MA.roots.length SA.R.2) := (hT9.one.fld ⟨7, 51, 1, SA.R.1, MA.roots.length, SA.R.2, wcells MA.roots⟩ (by simp [memFlds])).1
              have hbal := OM.lt hT9.one
              have HAZ : Hid (A ≤ w9.heap.size) := by unfold Hid; have := hE9.size; rw [HA.out]; exact this
              have HNO1 : Hid (¬ OwnA ba SA bm) := fun h => by have := (hT9.one.own_size h).1; omega
              have HNO2 : Hid (¬ OwnA ba SA rb) := fun h => by have := (hT9.one.own_size h).1; omega
              have HNQ1 : Hid (¬ OwnA ba SA bn) := fun h => by have := (hT9.one.own_size h).1; omega
              have HNQ2 : Hid (¬ OwnA ba SA qb) := fun h => by have := (hT9.one.own_size h).1; omega
              have HNP1 : Hid (¬ OwnA bb SB bn) := fun h => by have := (hT9.two.own_size h).1; omega
              have HNP2 : Hid (¬ OwnA bb SB qb) := fun h => by have := (hT9.two.own_size h).1; omega
              have d99 := HX9.out.cell_ d9
              have hd9 := HX9.out.cell_ hdv
              have HD8 := Lib.hid d99
              have HD9 := Lib.hid hd9
              have hb19 : bm < w9.heap.size := by have := HAZ.out; omega
              have hrb9 : rb < w9.heap.size := by have := HAZ.out; omega
              clear hMA hMB hT9 hE9 d9 hdv hcq c9 c99 d99 hd9 hT hT2 hE hEq hb1 hb2 hb3
              go_cut [] from 19 to 105 (fun wx => ∃ SA2 : Sls, Hid (Two wx A ba bb 65 { MA with roots := MA.roots ++ [u] } MB SA2 SB) ∧ Hid (Keep (OwnA ba SA) w9 wx) ∧ Hid (Ext w wx))
              case first =>
                refine wp_region_held_drew (S := fun W => W.cell? ⟨bm, om + 9, none⟩ = some (.slice (some ⟨rb, rp, none⟩) M.ids.length SM.I.2) ∧ W.cell? ⟨rb, rp + k * 2, none⟩ = some (.int .u64 u)) (by kernel_rfl) ?_ (fun hHeld => ?_)
                · exact ⟨s1, s2⟩
                refine tk 0 ⟨some 72, _, _, _, _, _⟩ ?_ rfl ?_ ?_
                rotate_left
                · (intro w hSw; (try dsimp only at hSw); go_simp; try with_reducible rfl)
                try simp only [tkS]
                refine tk 1 ⟨some 73, _, _, _, _, _⟩ ?_ rfl ?_ ?_
                rotate_left
                · (intro w hSw; (try dsimp only at hSw); go_simp; try with_reducible rfl)
                try simp only [tkS]
                refine tk 2 ⟨some 74, _, _, _, _, _⟩ ?_ rfl ?_ ?_
                rotate_left
                · (intro w hSw; (try dsimp only at hSw); go_simp; try with_reducible rfl)
                try simp only [tkS]
                refine tk 3 ⟨some 75, _, _, _, _, _⟩ ?_ rfl ?_ ?_
                rotate_left
                · (intro w hSw; (try dsimp only at hSw); go_simp; try with_reducible rfl)
                try simp only [tkS]
                refine tk 5 ⟨some 77, _, _, _, _, _⟩ ?_ rfl ?_ ?_
                rotate_left
                · (intro w hSw; (try dsimp only at hSw); go_simp; try with_reducible rfl)
                try simp only [tkS]
                refine tk 6 ⟨some 78, _, _, _, _, _⟩ ?_ rfl ?_ ?_
                rotate_left
                · (intro w hSw; (try dsimp only at hSw); go_simp; try with_reducible rfl)
                try simp only [tkS]
                refine tk 7 ⟨some 79, _, _, _, _, _⟩ ?_ rfl ?_ ?_
                rotate_left
                · (intro w hSw; (try dsimp only at hSw); go_simp; try with_reducible rfl)
                try simp only [tkS]
                refine tk 8 ⟨some 80, _, _, _, _, _⟩ ?_ rfl ?_ ?_
                rotate_left
                · (intro w hSw; (try dsimp only at hSw); go_simp; try with_reducible rfl)
                try simp only [tkS]
                refine tk 9 ⟨some 81, _, _, _, _, _⟩ ?_ rfl ?_ ?_
                rotate_left
                · (intro w hSw; (try dsimp only at hSw); go_simp; try with_reducible rfl)
                try simp only [tkS]
                refine tk 10 ⟨some 82, _, _, _, _, _⟩ ?_ rfl ?_ ?_
                rotate_left
                · (intro w hSw; (try dsimp only at hSw); go_simp; try with_reducible rfl)
                try simp only [tkS]
                refine tk 11 ⟨some 83, _, _, _, _, _⟩ ?_ rfl ?_ ?_
                rotate_left
                · (intro w hSw; (try dsimp only at hSw); go_simp; try with_reducible rfl)
                try simp only [tkS]
                refine tk 12 ⟨some 84, _, _, _, _, _⟩ ?_ rfl ?_ ?_
                rotate_left
                · (intro w hSw; (try dsimp only at hSw); go_simp; try with_reducible rfl)
                try simp only [tkS]
                refine wpAnyH_ready (rs := [4, 13]) (by kernel_rfl) (by simp) ?_
                refine AllReadyH.cons (o := ⟨some 76, _, _, _, _, _⟩) rfl (fun K hK => ?_) (AllReadyH.cons (o := ⟨some 85, _, _, _, _, _⟩) rfl (fun K hK => ?_) AllReadyH.nil)
                · skip
                  go_simp
                  refine hK.out _ _ ?_ (fun hHeld => ?_)
                  · (try dsimp only); exact ⟨Ext.cell_ (w := w9) (by repeat (first | exact Ext.refl _ | (refine Ext.drew_ ?_) | (refine Ext.alloc_ ?_ _))) s1, Ext.cell_ (w := w9) (by repeat (first | exact Ext.refl _ | (refine Ext.drew_ ?_) | (refine Ext.alloc_ ?_ _))) s2⟩
                  clear hK K
                  try simp only [tkS]
                  refine wpAnyH_ready (rs := [13]) (by kernel_rfl) (by simp) ?_
                  refine AllReadyH.cons (o := ⟨some 85, _, _, _, _, _⟩) rfl (fun K hK => ?_) AllReadyH.nil
                  go_simp
                  skip
                  refine hK.out _ _ ?_ (fun hHeld => ?_)
                  · (try dsimp only); exact ⟨Ext.cell_ (w := w9) (by repeat (first | exact Ext.refl _ | (refine Ext.drew_ ?_) | (refine Ext.alloc_ ?_ _))) s1, Ext.cell_ (w := w9) (by repeat (first | exact Ext.refl _ | (refine Ext.drew_ ?_) | (refine Ext.alloc_ ?_ _))) s2⟩
                  clear hK K
                  try simp only [tkS]
                  refine wpAnyH_ready (rs := [14]) (by kernel_rfl) (by simp) ?_
                  refine AllReadyH.cons (o := ⟨some 86, _, _, _, _, _⟩) rfl (fun K hK => ?_) AllReadyH.nil
                  have hxq : Ext w9 (w9.alloc (.cells #[.int .u64 u] 51)).drew := ((Ext.refl w9).alloc_ _).drew_
                  have hTw := (HTW.out.ext hxq)
                  refine step_append_src (by rfl) _ _ 26 (by rfl) A 51 i0 (.int .u64 0) 1 8 und0 hi0 hz0 hz1 hz2 (by rfl) (by decide) (.slice SA.R.1 MA.roots.length SA.R.2) MA.roots.length (wcells MA.roots) (by rfl) (hTw).one.fR (some ⟨w9.heap.size, 0, none⟩) 1 1 (wcells [u]) (by rfl) (fun e => by cases e) (Nat.le_refl _) (by rfl) ((rsl_one1 w9 _ u).ext (Ext.refl _).drew_) (wcells_one _) (by unfold maxLen; omega) (by omega) (Nat.le_trans HAZ.out hxq.size) ?_
                  intro a2 c2 v2 hown hgrow hat
                  obtain ⟨hT2, hK2⟩ := Two.push (hTw) u a2 c2 hgrow hown hat
                  have hbk := hgrow.block ba (hTw).one.lt (fun e => ((hTw).one.fld ⟨7, 51, 1, SA.R.1, MA.roots.length, SA.R.2, wcells MA.roots⟩ (by simp [memFlds])).2.2 e.symm)
                  have y1c : v2.cell? ⟨ba, 7, none⟩ = some (.slice SA.R.1 MA.roots.length SA.R.2) := by rw [World.cell?_of_block (w := (w9.alloc (.cells #[.int .u64 u] 51)).drew) (a := ⟨ba, 7, none⟩) hbk]; exact ((hTw).one.fld ⟨7, 51, 1, SA.R.1, MA.roots.length, SA.R.2, wcells MA.roots⟩ (by simp [memFlds])).1
                  have y2c : v2.frozen? ⟨ba, 7, none⟩ = false := by rw [World.frozen?_of_block (w := (w9.alloc (.cells #[.int .u64 u] 51)).drew) (a := ⟨ba, 7, none⟩) hbk]; exact (hTw).one.frozen 7
                  have hkx : Keep (OwnA ba SA) w9 (v2.setCell ⟨ba, 7, none⟩ (.slice a2 (MA.roots.length + 1) c2)) := (Keep.of_ext hxq).trans hK2
                  have hkv : Keep (OwnA ba SA) w9 v2 := (Keep.of_ext hxq).trans (Keep.of_grown hgrow fun k hk => Or.inl ((hTw).one.own_of (f := ⟨7, 51, 1, SA.R.1, MA.roots.length, SA.R.2, wcells MA.roots⟩) (by simp [memFlds]) hk))
                  have g1 := hkv.cell HNO1.out s1
                  have g2 := hkv.cell HNO2.out s2
                  have k1 := hkx.cell HNO1.out s1
                  have k2 := hkx.cell HNO2.out s2
                  have HT2 := Lib.hid hT2
                  have HKX := Lib.hid hkx
                  clear hown hgrow hat hbk hT2 hK2 hkx hkv hTw hxq
                  refine hK.out _ _ ?_ (fun hHeld => ?_)
                  · (try dsimp only); exact ⟨g1, g2⟩
                  clear hK K
                  try simp only [tkS]
                  refine tk 15 ⟨some 87, _, _, _, _, _⟩ ?_ rfl ?_ ?_
                  rotate_left
                  · (intro w hSw; (try dsimp only at hSw); go_simp; try with_reducible rfl)
                  try simp only [tkS]
                  refine tk 16 ⟨some 88, _, _, _, _, _⟩ ?_ rfl ?_ ?_
                  rotate_left
                  · (intro w hSw; (try dsimp only at hSw); go_simp; try with_reducible rfl)
                  try simp only [tkS]
                  refine wpAnyH_ready (rs := [17]) (by kernel_rfl) (by simp) ?_
                  refine AllReadyH.cons (o := ⟨none, _, _, _, _, _⟩) rfl (fun K hK => ?_) AllReadyH.nil
                  go_simp
                  skip
                  refine hK.out _ _ ?_ (fun hHeld => ?_)
                  · (try dsimp only); exact ⟨k1, k2⟩
                  clear hK K
                  try simp only [tkS]
                  refine wpAnyH_done (by kernel_rfl) ?_ _
                  go_wp2_with fail
                  go_meet
                  case rel => exact ⟨_, HT2.out, HKX.out, Ext.keep HE9.out HKX.out fun i hi => by have := (HTW.out.one.own_size hi).1; rw [← HA.out]; exact this⟩
                · skip
                  go_simp
                  refine hK.out _ _ ?_ (fun hHeld => ?_)
                  · (try dsimp only); exact ⟨Ext.cell_ (w := w9) (by repeat (first | exact Ext.refl _ | (refine Ext.drew_ ?_) | (refine Ext.alloc_ ?_ _))) s1, Ext.cell_ (w := w9) (by repeat (first | exact Ext.refl _ | (refine Ext.drew_ ?_) | (refine Ext.alloc_ ?_ _))) s2⟩
                  clear hK K
                  try simp only [tkS]
                  refine wpAnyH_ready (rs := [4]) (by kernel_rfl) (by simp) ?_
                  refine AllReadyH.cons (o := ⟨some 76, _, _, _, _, _⟩) rfl (fun K hK => ?_) AllReadyH.nil
                  go_simp
                  skip
                  refine hK.out _ _ ?_ (fun hHeld => ?_)
                  · (try dsimp only); exact ⟨Ext.cell_ (w := w9) (by repeat (first | exact Ext.refl _ | (refine Ext.drew_ ?_) | (refine Ext.alloc_ ?_ _))) s1, Ext.cell_ (w := w9) (by repeat (first | exact Ext.refl _ | (refine Ext.drew_ ?_) | (refine Ext.alloc_ ?_ _))) s2⟩
                  clear hK K
                  try simp only [tkS]
                  refine wpAnyH_ready (rs := [14]) (by kernel_rfl) (by simp) ?_
                  refine AllReadyH.cons (o := ⟨some 86, _, _, _, _, _⟩) rfl (fun K hK => ?_) AllReadyH.nil
                  have hxq : Ext w9 (w9.alloc (.cells #[.int .u64 u] 51)).drew := ((Ext.refl w9).alloc_ _).drew_
                  have hTw := (HTW.out.ext hxq)
                  refine step_append_src (by rfl) _ _ 26 (by rfl) A 51 i0 (.int .u64 0) 1 8 und0 hi0 hz0 hz1 hz2 (by rfl) (by decide) (.slice SA.R.1 MA.roots.length SA.R.2) MA.roots.length (wcells MA.roots) (by rfl) (hTw).one.fR (some ⟨w9.heap.size, 0, none⟩) 1 1 (wcells [u]) (by rfl) (fun e => by cases e) (Nat.le_refl _) (by rfl) ((rsl_one1 w9 _ u).ext (Ext.refl _).drew_) (wcells_one _) (by unfold maxLen; omega) (by omega) (Nat.le_trans HAZ.out hxq.size) ?_
                  intro a2 c2 v2 hown hgrow hat
                  obtain ⟨hT2, hK2⟩ := Two.push (hTw) u a2 c2 hgrow hown hat
                  have hbk := hgrow.block ba (hTw).one.lt (fun e => ((hTw).one.fld ⟨7, 51, 1, SA.R.1, MA.roots.length, SA.R.2, wcells MA.roots⟩ (by simp [memFlds])).2.2 e.symm)
                  have y1c : v2.cell? ⟨ba, 7, none⟩ = some (.slice SA.R.1 MA.roots.length SA.R.2) := by rw [World.cell?_of_block (w := (w9.alloc (.cells #[.int .u64 u] 51)).drew) (a := ⟨ba, 7, none⟩) hbk]; exact ((hTw).one.fld ⟨7, 51, 1, SA.R.1, MA.roots.length, SA.R.2, wcells MA.roots⟩ (by simp [memFlds])).1
                  have y2c : v2.frozen? ⟨ba, 7, none⟩ = false := by rw [World.frozen?_of_block (w := (w9.alloc (.cells #[.int .u64 u] 51)).drew) (a := ⟨ba, 7, none⟩) hbk]; exact (hTw).one.frozen 7
                  have hkx : Keep (OwnA ba SA) w9 (v2.setCell ⟨ba, 7, none⟩ (.slice a2 (MA.roots.length + 1) c2)) := (Keep.of_ext hxq).trans hK2
                  have hkv : Keep (OwnA ba SA) w9 v2 := (Keep.of_ext hxq).trans (Keep.of_grown hgrow fun k hk => Or.inl ((hTw).one.own_of (f := ⟨7, 51, 1, SA.R.1, MA.roots.length, SA.R.2, wcells MA.roots⟩) (by simp [memFlds]) hk))
                  have g1 := hkv.cell HNO1.out s1
                  have g2 := hkv.cell HNO2.out s2
                  have k1 := hkx.cell HNO1.out s1
                  have k2 := hkx.cell HNO2.out s2
                  have HT2 := Lib.hid hT2
                  have HKX := Lib.hid hkx
                  clear hown hgrow hat hbk hT2 hK2 hkx hkv hTw hxq
                  refine hK.out _ _ ?_ (fun hHeld => ?_)
                  · (try dsimp only); exact ⟨g1, g2⟩
                  clear hK K
                  try simp only [tkS]
                  refine tk 15 ⟨some 87, _, _, _, _, _⟩ ?_ rfl ?_ ?_
                  rotate_left
                  · (intro w hSw; (try dsimp only at hSw); go_simp; try with_reducible rfl)
                  try simp only [tkS]
                  refine tk 16 ⟨some 88, _, _, _, _, _⟩ ?_ rfl ?_ ?_
                  rotate_left
                  · (intro w hSw; (try dsimp only at hSw); go_simp; try with_reducible rfl)
                  try simp only [tkS]
                  refine wpAnyH_ready (rs := [17]) (by kernel_rfl) (by simp) ?_
                  refine AllReadyH.cons (o := ⟨none, _, _, _, _, _⟩) rfl (fun K hK => ?_) AllReadyH.nil
                  go_simp
                  skip
                  refine hK.out _ _ ?_ (fun hHeld => ?_)
                  · (try dsimp only); exact ⟨k1, k2⟩
                  clear hK K
                  try simp only [tkS]
                  refine wpAnyH_done (by kernel_rfl) ?_ _
                  go_wp2_with fail
                  go_meet
                  case rel => exact ⟨_, HT2.out, HKX.out, Ext.keep HE9.out HKX.out fun i hi => by have := (HTW.out.one.own_size hi).1; rw [← HA.out]; exact this⟩
              case rest =>
                obtain ⟨SA2, hT3, hK3, hE3⟩ := hcut
                have s1 := hK3.out.cell HNQ1.out HD8.out
                have s2 := hK3.out.cell HNQ2.out HD9.out
                have HTW := hT3
                have f1 : wc.cell? ⟨bb, 7, none⟩ = some (.slice SB.R.1 MB.roots.length SB.R.2) := (hT3.out.two.fld ⟨7, 51, 1, SB.R.1, MB.roots.length, SB.R.2, wcells MB.roots⟩ (by simp [memFlds])).1
                have hbal := OM.lt hT3.out.two
                have HAZ : Hid (A ≤ wc.heap.size) := by unfold Hid; have := hE3.out.size; rw [HA.out]; exact this
                have hb19 : bn < wc.heap.size := by have := HAZ.out; omega
                have hrb9 : qb < wc.heap.size := by have := HAZ.out; omega
                go_upto_region 17 with fail
                refine wp_region_held_drew (S := fun W => W.cell? ⟨bn, on_ + 9, none⟩ = some (.slice (some ⟨qb, qp, none⟩) N.ids.length SN.I.2) ∧ W.cell? ⟨qb, qp + kn * 2, none⟩ = some (.int .u64 v)) (by kernel_rfl) ?_ (fun hHeld => ?_)
                · exact ⟨s1, s2⟩
                refine tk 0 ⟨some 89, _, _, _, _, _⟩ ?_ rfl ?_ ?_
                rotate_left
                · (intro w hSw; (try dsimp only at hSw); go_simp; try with_reducible rfl)
                try simp only [tkS]
                refine tk 1 ⟨some 90, _, _, _, _, _⟩ ?_ rfl ?_ ?_
                rotate_left
                · (intro w hSw; (try dsimp only at hSw); go_simp; try with_reducible rfl)
                try simp only [tkS]
                refine tk 2 ⟨some 91, _, _, _, _, _⟩ ?_ rfl ?_ ?_
                rotate_left
                · (intro w hSw; (try dsimp only at hSw); go_simp; try with_reducible rfl)
                try simp only [tkS]
                refine tk 3 ⟨some 92, _, _, _, _, _⟩ ?_ rfl ?_ ?_
                rotate_left
                · (intro w hSw; (try dsimp only at hSw); go_simp; try with_reducible rfl)
                try simp only [tkS]
                refine tk 5 ⟨some 94, _, _, _, _, _⟩ ?_ rfl ?_ ?_
                rotate_left
                · (intro w hSw; (try dsimp only at hSw); go_simp; try with_reducible rfl)
                try simp only [tkS]
                refine tk 6 ⟨some 95, _, _, _, _, _⟩ ?_ rfl ?_ ?_
                rotate_left
                · (intro w hSw; (try dsimp only at hSw); go_simp; try with_reducible rfl)
                try simp only [tkS]
                refine tk 7 ⟨some 96, _, _, _, _, _⟩ ?_ rfl ?_ ?_
                rotate_left
                · (intro w hSw; (try dsimp only at hSw); go_simp; try with_reducible rfl)
                try simp only [tkS]
                refine tk 8 ⟨some 97, _, _, _, _, _⟩ ?_ rfl ?_ ?_
                rotate_left
                · (intro w hSw; (try dsimp only at hSw); go_simp; try with_reducible rfl)
                try simp only [tkS]
                refine tk 9 ⟨some 98, _, _, _, _, _⟩ ?_ rfl ?_ ?_
                rotate_left
                · (intro w hSw; (try dsimp only at hSw); go_simp; try with_reducible rfl)
                try simp only [tkS]
                refine tk 10 ⟨some 99, _, _, _, _, _⟩ ?_ rfl ?_ ?_
                rotate_left
                · (intro w hSw; (try dsimp only at hSw); go_simp; try with_reducible rfl)
                try simp only [tkS]
                refine tk 11 ⟨some 100, _, _, _, _, _⟩ ?_ rfl ?_ ?_
                rotate_left
                · (intro w hSw; (try dsimp only at hSw); go_simp; try with_reducible rfl)
                try simp only [tkS]
                refine tk 12 ⟨some 101, _, _, _, _, _⟩ ?_ rfl ?_ ?_
                rotate_left
                · (intro w hSw; (try dsimp only at hSw); go_simp; try with_reducible rfl)
                try simp only [tkS]
                refine wpAnyH_ready (rs := [4, 13]) (by kernel_rfl) (by simp) ?_
                refine AllReadyH.cons (o := ⟨some 93, _, _, _, _, _⟩) rfl (fun K hK => ?_) (AllReadyH.cons (o := ⟨some 102, _, _, _, _, _⟩) rfl (fun K hK => ?_) AllReadyH.nil)
                · skip
                  go_simp
                  refine hK.out _ _ ?_ (fun hHeld => ?_)
                  · (try dsimp only); exact ⟨Ext.cell_ (w := wc) (by repeat (first | exact Ext.refl _ | (refine Ext.drew_ ?_) | (refine Ext.alloc_ ?_ _))) s1, Ext.cell_ (w := wc) (by repeat (first | exact Ext.refl _ | (refine Ext.drew_ ?_) | (refine Ext.alloc_ ?_ _))) s2⟩
                  clear hK K
                  try simp only [tkS]
                  refine wpAnyH_ready (rs := [13]) (by kernel_rfl) (by simp) ?_
                  refine AllReadyH.cons (o := ⟨some 102, _, _, _, _, _⟩) rfl (fun K hK => ?_) AllReadyH.nil
                  go_simp
                  skip
                  refine hK.out _ _ ?_ (fun hHeld => ?_)
                  · (try dsimp only); exact ⟨Ext.cell_ (w := wc) (by repeat (first | exact Ext.refl _ | (refine Ext.drew_ ?_) | (refine Ext.alloc_ ?_ _))) s1, Ext.cell_ (w := wc) (by repeat (first | exact Ext.refl _ | (refine Ext.drew_ ?_) | (refine Ext.alloc_ ?_ _))) s2⟩
                  clear hK K
                  try simp only [tkS]
                  refine wpAnyH_ready (rs := [14]) (by kernel_rfl) (by simp) ?_
                  refine AllReadyH.cons (o := ⟨some 103, _, _, _, _, _⟩) rfl (fun K hK => ?_) AllReadyH.nil
                  have hxq : Ext wc (wc.alloc (.cells #[.int .u64 v] 51)).drew := ((Ext.refl wc).alloc_ _).drew_
                  have hTw := (HTW.out.ext hxq)
                  refine step_append_src (by rfl) _ _ 26 (by rfl) A 51 i0 (.int .u64 0) 1 8 und0 hi0 hz0 hz1 hz2 (by rfl) (by decide) (.slice SB.R.1 MB.roots.length SB.R.2) MB.roots.length (wcells MB.roots) (by rfl) (hTw.swap).one.fR (some ⟨wc.heap.size, 0, none⟩) 1 1 (wcells [v]) (by rfl) (fun e => by cases e) (Nat.le_refl _) (by rfl) ((rsl_one1 wc _ v).ext (Ext.refl _).drew_) (wcells_one _) (by unfold maxLen; omega) (by omega) (Nat.le_trans HAZ.out hxq.size) ?_
                  intro a2 c2 v2 hown hgrow hat
                  obtain ⟨hT2, hK2⟩ := Two.push (hTw.swap) v a2 c2 hgrow hown hat
                  have hbk := hgrow.block bb (hTw.swap).one.lt (fun e => ((hTw.swap).one.fld ⟨7, 51, 1, SB.R.1, MB.roots.length, SB.R.2, wcells MB.roots⟩ (by simp [memFlds])).2.2 e.symm)
                  have y1c : v2.cell? ⟨bb, 7, none⟩ = some (.slice SB.R.1 MB.roots.length SB.R.2) := by rw [World.cell?_of_block (w := (wc.alloc (.cells #[.int .u64 v] 51)).drew) (a := ⟨bb, 7, none⟩) hbk]; exact ((hTw.swap).one.fld ⟨7, 51, 1, SB.R.1, MB.roots.length, SB.R.2, wcells MB.roots⟩ (by simp [memFlds])).1
                  have y2c : v2.frozen? ⟨bb, 7, none⟩ = false := by rw [World.frozen?_of_block (w := (wc.alloc (.cells #[.int .u64 v] 51)).drew) (a := ⟨bb, 7, none⟩) hbk]; exact (hTw.swap).one.frozen 7
                  have hkx : Keep (OwnA bb SB) wc (v2.setCell ⟨bb, 7, none⟩ (.slice a2 (MB.roots.length + 1) c2)) := (Keep.of_ext hxq).trans hK2
                  have hkv : Keep (OwnA bb SB) wc v2 := (Keep.of_ext hxq).trans (Keep.of_grown hgrow fun k hk => Or.inl ((hTw.swap).one.own_of (f := ⟨7, 51, 1, SB.R.1, MB.roots.length, SB.R.2, wcells MB.roots⟩) (by simp [memFlds]) hk))
                  have g1 := hkv.cell HNP1.out s1
                  have g2 := hkv.cell HNP2.out s2
                  have k1 := hkx.cell HNP1.out s1
                  have k2 := hkx.cell HNP2.out s2
                  have HT2 := Lib.hid hT2
                  have HKX := Lib.hid hkx
                  clear hown hgrow hat hbk hT2 hK2 hkx hkv hTw hxq
                  refine hK.out _ _ ?_ (fun hHeld => ?_)
                  · (try dsimp only); exact ⟨g1, g2⟩
                  clear hK K
                  try simp only [tkS]
                  refine tk 15 ⟨some 104, _, _, _, _, _⟩ ?_ rfl ?_ ?_
                  rotate_left
                  · (intro w hSw; (try dsimp only at hSw); go_simp; try with_reducible rfl)
                  try simp only [tkS]
                  refine tk 16 ⟨some 105, _, _, _, _, _⟩ ?_ rfl ?_ ?_
                  rotate_left
                  · (intro w hSw; (try dsimp only at hSw); go_simp; try with_reducible rfl)
                  try simp only [tkS]
                  refine wpAnyH_ready (rs := [17]) (by kernel_rfl) (by simp) ?_
                  refine AllReadyH.cons (o := ⟨none, _, _, _, _, _⟩) rfl (fun K hK => ?_) AllReadyH.nil
                  go_simp
                  skip
                  refine hK.out _ _ ?_ (fun hHeld => ?_)
                  · (try dsimp only); exact ⟨k1, k2⟩
                  clear hK K
                  try simp only [tkS]
                  refine wpAnyH_done (by kernel_rfl) ?_ _
                  clear hHeld y1c y2c g1 g2 k1 k2 s1 s2 f1 hbal hb19 hrb9
                  generalize v2.setCell ⟨bb, 7, none⟩ (.slice a2 (MB.roots.length + 1) c2) = wE at *
                  have hTF := HT2.out.swap
                  have e1 : ({ MA with roots := MA.roots ++ [u] } : Mem) = plusM M ((ps ++ [(u, v)]).map (·.1)) := by rw [HMA.out, plus_snoc, List.map_append]; rfl
                  have e2 : ({ MB with roots := MB.roots ++ [v] } : Mem) = plusM N ((ps ++ [(u, v)]).map (·.2)) := by rw [HMB.out, plus_snoc, List.map_append]; rfl
                  rw [e1, e2, ← HW2.out] at hTF
                  have HTF := Lib.hid hTF
                  have hEF : Ext w wE := Ext.keep hE3.out HKX.out fun i hi => by have := (HTW.out.two.own_size hi).1; rw [← HA.out]; exact this
                  have HEF := Lib.hid hEF
                  clear hTF e1 e2 hEF HT2 HKX
                  go_wp2
                  go_roundg r
                  case measure => omega
                  case rel => exact ⟨k + 1, SA2, { SB with R := (a2, c2) }, by have := HK.out; omega, by go_num, HTF.out, HEF.out⟩
                · skip
                  go_simp
                  refine hK.out _ _ ?_ (fun hHeld => ?_)
                  · (try dsimp only); exact ⟨Ext.cell_ (w := wc) (by repeat (first | exact Ext.refl _ | (refine Ext.drew_ ?_) | (refine Ext.alloc_ ?_ _))) s1, Ext.cell_ (w := wc) (by repeat (first | exact Ext.refl _ | (refine Ext.drew_ ?_) | (refine Ext.alloc_ ?_ _))) s2⟩
                  clear hK K
                  try simp only [tkS]
                  refine wpAnyH_ready (rs := [4]) (by kernel_rfl) (by simp) ?_
                  refine AllReadyH.cons (o := ⟨some 93, _, _, _, _, _⟩) rfl (fun K hK => ?_) AllReadyH.nil
                  go_simp
                  skip
                  refine hK.out _ _ ?_ (fun hHeld => ?_)
                  · (try dsimp only); exact ⟨Ext.cell_ (w := wc) (by repeat (first | exact Ext.refl _ | (refine Ext.drew_ ?_) | (refine Ext.alloc_ ?_ _))) s1, Ext.cell_ (w := wc) (by repeat (first | exact Ext.refl _ | (refine Ext.drew_ ?_) | (refine Ext.alloc_ ?_ _))) s2⟩
                  clear hK K
                  try simp only [tkS]
                  refine wpAnyH_ready (rs := [14]) (by kernel_rfl) (by simp) ?_
                  refine AllReadyH.cons (o := ⟨some 103, _, _, _, _, _⟩) rfl (fun K hK => ?_) AllReadyH.nil
                  have hxq : Ext wc (wc.alloc (.cells #[.int .u64 v] 51)).drew := ((Ext.refl wc).alloc_ _).drew_
                  have hTw := (HTW.out.ext hxq)
                  refine step_append_src (by rfl) _ _ 26 (by rfl) A 51 i0 (.int .u64 0) 1 8 und0 hi0 hz0 hz1 hz2 (by rfl) (by decide) (.slice SB.R.1 MB.roots.length SB.R.2) MB.roots.length (wcells MB.roots) (by rfl) (hTw.swap).one.fR (some ⟨wc.heap.size, 0, none⟩) 1 1 (wcells [v]) (by rfl) (fun e => by cases e) (Nat.le_refl _) (by rfl) ((rsl_one1 wc _ v).ext (Ext.refl _).drew_) (wcells_one _) (by unfold maxLen; omega) (by omega) (Nat.le_trans HAZ.out hxq.size) ?_
                  intro a2 c2 v2 hown hgrow hat
                  obtain ⟨hT2, hK2⟩ := Two.push (hTw.swap) v a2 c2 hgrow hown hat
                  have hbk := hgrow.block bb (hTw.swap).one.lt (fun e => ((hTw.swap).one.fld ⟨7, 51, 1, SB.R.1, MB.roots.length, SB.R.2, wcells MB.roots⟩ (by simp [memFlds])).2.2 e.symm)
                  have y1c : v2.cell? ⟨bb, 7, none⟩ = some (.slice SB.R.1 MB.roots.length SB.R.2) := by rw [World.cell?_of_block (w := (wc.alloc (.cells #[.int .u64 v] 51)).drew) (a := ⟨bb, 7, none⟩) hbk]; exact ((hTw.swap).one.fld ⟨7, 51, 1, SB.R.1, MB.roots.length, SB.R.2, wcells MB.roots⟩ (by simp [memFlds])).1
                  have y2c : v2.frozen? ⟨bb, 7, none⟩ = false := by rw [World.frozen?_of_block (w := (wc.alloc (.cells #[.int .u64 v] 51)).drew) (a := ⟨bb, 7, none⟩) hbk]; exact (hTw.swap).one.frozen 7
                  have hkx : Keep (OwnA bb SB) wc (v2.setCell ⟨bb, 7, none⟩ (.slice a2 (MB.roots.length + 1) c2)) := (Keep.of_ext hxq).trans hK2
                  have hkv : Keep (OwnA bb SB) wc v2 := (Keep.of_ext hxq).trans (Keep.of_grown hgrow fun k hk => Or.inl ((hTw.swap).one.own_of (f := ⟨7, 51, 1, SB.R.1, MB.roots.length, SB.R.2, wcells MB.roots⟩) (by simp [memFlds]) hk))
                  have g1 := hkv.cell HNP1.out s1
                  have g2 := hkv.cell HNP2.out s2
                  have k1 := hkx.cell HNP1.out s1
                  have k2 := hkx.cell HNP2.out s2
                  have HT2 := Lib.hid hT2
                  have HKX := Lib.hid hkx
                  clear hown hgrow hat hbk hT2 hK2 hkx hkv hTw hxq
                  refine hK.out _ _ ?_ (fun hHeld => ?_)
                  · (try dsimp only); exact ⟨g1, g2⟩
                  clear hK K
                  try simp only [tkS]
                  refine tk 15 ⟨some 104, _, _, _, _, _⟩ ?_ rfl ?_ ?_
                  rotate_left
                  · (intro w hSw; (try dsimp only at hSw); go_simp; try with_reducible rfl)
                  try simp only [tkS]
                  refine tk 16 ⟨some 105, _, _, _, _, _⟩ ?_ rfl ?_ ?_
                  rotate_left
                  · (intro w hSw; (try dsimp only at hSw); go_simp; try with_reducible rfl)
                  try simp only [tkS]
                  refine wpAnyH_ready (rs := [17]) (by kernel_rfl) (by simp) ?_
                  refine AllReadyH.cons (o := ⟨none, _, _, _, _, _⟩) rfl (fun K hK => ?_) AllReadyH.nil
                  go_simp
                  skip
                  refine hK.out _ _ ?_ (fun hHeld => ?_)
                  · (try dsimp only); exact ⟨k1, k2⟩
                  clear hK K
                  try simp only [tkS]
                  refine wpAnyH_done (by kernel_rfl) ?_ _
                  clear hHeld y1c y2c g1 g2 k1 k2 s1 s2 f1 hbal hb19 hrb9
                  generalize v2.setCell ⟨bb, 7, none⟩ (.slice a2 (MB.roots.length + 1) c2) = wE at *
                  have hTF := HT2.out.swap
                  have e1 : ({ MA with roots := MA.roots ++ [u] } : Mem) = plusM M ((ps ++ [(u, v)]).map (·.1)) := by rw [HMA.out, plus_snoc, List.map_append]; rfl
                  have e2 : ({ MB with roots := MB.roots ++ [v] } : Mem) = plusM N ((ps ++ [(u, v)]).map (·.2)) := by rw [HMB.out, plus_snoc, List.map_append]; rfl
                  rw [e1, e2, ← HW2.out] at hTF
                  have HTF := Lib.hid hTF
                  have hEF : Ext w wE := Ext.keep hE3.out HKX.out fun i hi => by have := (HTW.out.two.own_size hi).1; rw [← HA.out]; exact this
                  have HEF := Lib.hid hEF
                  clear hTF e1 e2 hEF HT2 HKX
                  go_wp2
                  go_roundg r
                  case measure => omega
                  case rel => exact ⟨k + 1, SA2, { SB with R := (a2, c2) }, by have := HK.out; omega, by go_num, HTF.out, HEF.out⟩
          · have hlf : ld = false := by
              cases hq : ld with
              | false => rfl
              | true =>
                exfalso
                apply hk0
                rw [← HKF.out]
                exact HEA.out (by rw [HLD.out, hq])
            subst hlf
            have hneg : kf < 0 := by omega
            have HW2 : Hid (idPs M.ids N.ids (k + 1) = ps) := by unfold Hid; rw [HWK.out, HKF.out, if_neg hk0]
            have hT2 := hT.out.ext hE2.out
            clear hfi hk0
            go_wp2_with (go_at_call 47; refine (reaches_any bm om M SM u HU.out.1 HU.out.2 _ (HM.out.ext (Ext.trans_ hEq (by repeat (first | exact Ext.refl _ | (refine Ext.drew_ ?_) | (refine Ext.drewN_ ?_ _))))) HG.out).mono ?_; rintro e w9 ⟨he, hq⟩; rw [HLD.out] at he; subst he; have HX9 := Lib.hid hq; clear hq)
            go_roundg r
            case measure => omega
            case rel => exact ⟨k + 1, SA, SB, by have := HK.out; omega, by go_num, by unfold Hid; rw [HW2.out]; exact hT2.ext HX9.out, hEq.trans_ HX9.out⟩
    | zero =>
      obtain rfl : k = M.ids.length := by omega
      have hltz : ¬ ((M.ids.length : Nat) : Int) < (M.ids.length : Int) := by omega
      have hpb := idPs_len M.ids N.ids M.ids.length
      have hsub : ∀ j, j ≤ M.ids.length → ∀ p ∈ idPs M.ids N.ids j, (0 ≤ p.1 ∧ p.1 ≤ 18446744073709551615) ∧ (0 ≤ p.2 ∧ p.2 ≤ 18446744073709551615) := fun j => by
        induction j with
        | zero => intro _ p hp; simp [idPs] at hp
        | succ j ih =>
          intro hj p hp
          unfold idPs at hp
          split at hp
          · rename_i hc
            rcases List.mem_append.1 hp with q | q
            · exact ih (by omega) p q
            · rw [List.mem_singleton.1 q]
              have h1 := HM.out.ok.ids _ (getD_mem (ids := M.ids) (i := j) (by omega))
              have h2 : (findI N.ids (M.ids.getD j (0, 0)).2 N.ids.length).toNat < N.ids.length := by
                rcases findI_in N.ids (M.ids.getD j (0, 0)).2 N.ids.length with ⟨r1, -⟩ | ⟨r1, r2, -⟩ <;> omega
              exact ⟨h1.1, (HN.out.ok.ids _ (getD_mem h2)).1⟩
          · exact ih (by omega) p hp
      have hgA := HW.out.goodA
      have hgB := HW.out.goodB_
      have hgr := HW.out.graph
      have hsub2 := hsub M.ids.length (Nat.le_refl _)
      generalize idPs M.ids N.ids M.ids.length = ps at *
      have hokA : (plusM M (ps.map (·.1))).Ok := plus_ok HM.out.ok (fun u hu => by obtain ⟨p, hp, rfl⟩ := List.mem_map.1 hu; exact (hsub2 p hp).1) (by rw [List.length_map]; omega)
      have hokB : (plusM N (ps.map (·.2))).Ok := plus_ok HN.out.ok (fun u hu => by obtain ⟨p, hp, rfl⟩ := List.mem_map.1 hu; exact (hsub2 p hp).2) (by rw [List.length_map]; omega)
      have hfA : Few (plusM M (ps.map (·.1))) := ⟨HFM.out.W, by show (M.roots ++ _).length ≤ _; rw [List.length_append, List.length_map]; omega, HFM.out.K, HFM.out.I, HFM.out.C⟩
      have hfB : Few (plusM N (ps.map (·.2))) := ⟨HFN.out.W, by show (N.roots ++ _).length ≤ _; rw [List.length_append, List.length_map]; omega, HFN.out.K, HFN.out.I, HFN.out.C⟩
      have HRA := Lib.hid (hT.out.one.mem hokA)
      have HRB := Lib.hid (hT.out.two.mem hokB)
      have HGA := Lib.hid hgA
      have HGB := Lib.hid hgB
      have HGR := Lib.hid hgr
      have HFA := Lib.hid hfA
      have HFB := Lib.hid hfB
      have hlez : (N.ids.length : Int) ≤ (M.ids.length : Int) := by omega
      clear hpb hsub hsub2 hgA hgB hgr hokA hokB hfA hfB hT hk hMr hNr
      go_upto_region 19 with (go_at_call 14; refine (graph_walk ba 0 _ SA _ HRA.out HGA.out HFA.out).mono ?_; rintro e w3 ⟨rfl, hq⟩; have HX3 := Lib.hid hq; clear hq)
      go_wp2_with (go_at_call 14; refine (graph_walk bb 0 _ SB _ (HRB.out.ext HX3.out) HGB.out HFB.out).mono ?_; rintro e w4 ⟨he, hq⟩; rw [HGR.out] at he; subst he; have HX4 := Lib.hid hq; have c4 := (HM.out.ext (hE.out.trans_ (HX3.out.trans_ HX4.out))).ids; have d4 := (HN.out.ext (hE.out.trans_ (HX3.out.trans_ HX4.out))).ids; have e4 := (HM.out.ext (hE.out.trans_ (HX3.out.trans_ HX4.out))).lt; have i4 := (HN.out.ext (hE.out.trans_ (HX3.out.trans_ HX4.out))).lt; clear hq)
      go_quiet (fail)
      go_wp2
      go_ret
      exact ⟨rfl, Ext.drewN_ (hE.out.trans_ (HX3.out.trans_ HX4.out)) _⟩
end Go.Proofs.YtecbbbaafcoliaaGreatDoor
