/- The walk of the law's weakOK. -/
import Derived.Test.YtecbbbaafcoliaaGreatDoorJYa40
import Derived.Test.YtecbbbaafcoliaaGreatDoorJYa21
import Derived.Test.YtecbbbaafcoliaaGreatDoorJYa06
import Derived.Deep.LoopGhost
import Derived.Deep.CutRange
import Derived.Deep.RegionHeld3
import Derived.BigQuiet
namespace Go.Proofs.YtecbbbaafcoliaaGreatDoor
open Go.RowKit
set_option linter.unusedVariables false
set_option linter.unusedSimpArgs false

theorem rsl_one1 (w : World) (t : TypeId) (x : Int) : RSl (w.alloc (.cells #[.int .u64 x] t)) (some ⟨w.heap.size, 0, none⟩) (wcells [x]) := fun j u hu => ⟨_, 0, rfl, by
  rw [Nat.zero_add, cell_of_row _ w.heap.size j _ t (0, 0) (heap_alloc_new w _)]
  simpa [wcells] using hu⟩
theorem OMem.le {w : World} {B B' b : Nat} {tI : TypeId} {M : Mem} {S : Sls} (h : OMem w B b tI M S) (hB : B' ≤ B) : OMem w B' b tI M S :=
  ⟨Nat.le_trans hB h.hb, h.blk, h.num, fun f hf => ⟨(h.fld f hf).1, own_le (h.fld f hf).2.1 hB (Ext.refl _), (h.fld f hf).2.2⟩, h.apart, h.offs⟩
/-- Two copies, one behind the other. -/
theorem two_made {w w1 w2 : World} {a b : Nat} {tI : TypeId} {M N : Mem} {S U : Sls} (h1 : OMem w1 w.heap.size a tI M S) (hx1 : Ext w w1) (h2 : OMem w2 w1.heap.size b tI N U) (hx2 : Ext w1 w2) : Two w2 w.heap.size a b tI M N S U :=
  ⟨OM.ext h1 hx2, h2.le hx1.size, fun k k1 k2 => by
    have q1 := (h1.own_size k1).2
    have q2 := (h2.own_size k2).1
    omega⟩
theorem plus_snoc (M : Mem) (l : List Int) (u : Int) : ({ plusM M l with roots := (plusM M l).roots ++ [u] } : Mem) = plusM M (l ++ [u]) := by
  unfold plusM
  simp
theorem plus_nil (M : Mem) : plusM M [] = M := by
  unfold plusM
  simp
theorem plus_ok {M : Mem} (h : M.Ok) {l : List Int} (hl : ∀ u ∈ l, 0 ≤ u ∧ u ≤ 18446744073709551615) (hn : M.roots.length + l.length ≤ 9223372036854775807) : (plusM M l).Ok :=
  ⟨h.half, h.old, h.card, h.used, h.top, h.oldTop, h.W, fun x hx => by
    rcases List.mem_append.1 (show x ∈ M.roots ++ l from hx) with q | q
    · exact h.roots x q
    · exact hl x q, h.weak, h.ids, h.lenW, by show (M.roots ++ l).length ≤ _; rw [List.length_append]; exact hn, h.lenK, h.lenI, h.lenC⟩

set_option maxRecDepth 100000 in
set_option maxHeartbeats 16000000 in
theorem weakOK_walk (bm om bn on_ : Nat) (M N : Mem) (SM SN : Sls) (all : Bool) (w : World) (hM : RMem w bm om M SM) (hN : RMem w bn on_ N SN) (hW : WeakOK all M N) (hg : goodB M = true) (hfM : Few M) (hfN : Few N) (hR : M.roots.length ≤ 100) (hR2 : N.roots.length ≤ 100) (hK : M.weak.length ≤ 100) :
    Calls Tryz.prog 15 #[.pointer (some ⟨bm, om, none⟩), .pointer (some ⟨bn, on_, none⟩), .bool all] w fun e w' => e = .returned (.bool true) ∧ Ext w w' := by
  obtain ⟨i0, hi0, hz0, hz1, hz2⟩ := info_parts infoF0
  have hlen := hW.len
  have HM := Lib.hid hM
  have HN := Lib.hid hN
  have HW := Lib.hid hW
  have HG := Lib.hid hg
  have HFM := Lib.hid hfM
  have HFN := Lib.hid hfN
  have c8 := hM.weak
  have d8 := hN.weak
  rw [hlen] at d8
  have hbm := hM.lt
  have hbn := hN.lt
  have HL := Lib.hid hlen
  clear hM hN hW hg hfM hfN hlen
  go_enter Tryz.func15, Tryz.ntmps15
  go_wp2
  go_region
  go_upto_region 4 with (go_at_call 30; refine (own_walk bm om M SM _ (HM.out.ext (by repeat (first | exact Ext.refl _ | (refine Ext.drew_ ?_) | (refine Ext.drewN_ ?_ _)))) HFM.out).mono ?_; rintro e w1 ⟨ba, SA0, rfl, hq1, hq2⟩; have HA1 := Lib.hid hq1; have HE1 := Lib.hid hq2; clear hq1 hq2)
  have hEw1 : Ext w w1 := Ext.trans_ (by repeat (first | exact Ext.refl _ | (refine Ext.drew_ ?_) | (refine Ext.drewN_ ?_ _))) HE1.out
  have HEW1 := Lib.hid hEw1
  clear hEw1
  go_wp2_with (go_at_call 30; refine (own_walk bn on_ N SN _ (HN.out.ext HEW1.out) HFN.out).mono ?_; rintro e w2 ⟨bb, SB0, rfl, hq1, hq2⟩; have hT0 : Two w2 w.heap.size ba bb 65 M N SA0 SB0 := two_made (w := w) HA1.out HEW1.out hq1 hq2; have HT0 := Lib.hid hT0; have HE2 : Hid (Ext w w2) := HEW1.out.trans_ hq2; clear hq1 hq2 hT0)
  obtain ⟨A, hA⟩ : ∃ A, A = w.heap.size := ⟨_, rfl⟩
  rw [← hA] at HT0 hbm hbn
  have HA := Lib.hid hA
  clear hA c8 d8 HA1 HE1
  go_loopg [9] (M.weak.length) (fun r i wr => ∃ (k : Nat) (SA SB : Sls), k + r = M.weak.length ∧ i = .int .i64 (k : Int) ∧ Hid (Two wr A ba bb 65 (plusM M ((wkPs M.weak N.weak k).map (·.1))) (plusM N ((wkPs M.weak N.weak k).map (·.2))) SA SB) ∧ Hid (Ext w wr))
  case atStart => exact ⟨0, SA0, SB0, by omega, rfl, by show Two _ _ _ _ _ (plusM M []) (plusM N []) _ _; rw [plus_nil, plus_nil]; exact HT0.out, HE2.out⟩
  case round =>
    clear HT0 HE2
    obtain ⟨k, SA, SB, hk, rfl, hT, hE⟩ := hrel
    have hMr := HM.out.ext hE.out
    have hNr := HN.out.ext hE.out
    have c8 := hMr.weak
    have d8 := hNr.weak
    rw [HL.out] at d8
    have hb1 := hMr.lt
    have hb2 := hNr.lt
    cases gk with
    | succ r =>
      have hlt : k < M.weak.length := by omega
      have hltz : (k : Int) < (M.weak.length : Int) := by omega
      obtain ⟨rb, rp, hRa, hc0⟩ := HM.out.rK k _ (wcells_at M.weak k hlt)
      obtain ⟨qb, qp, hQa, hd0⟩ := HN.out.rK k _ (wcells_at N.weak k (by rw [HL.out]; exact hlt))
      have hc := hE.out.cell_ hc0
      have hd := hE.out.cell_ hd0
      have hrb := cell_lt hc0
      have hqb := cell_lt hd0
      simp only at hrb hqb
      rw [← HA.out] at hrb hqb
      clear hc0 hd0
      rw [hRa] at c8
      rw [hQa] at d8
      have hub := getD_in (P := fun x => 0 ≤ x ∧ x ≤ 18446744073709551615) HM.out.ok.weak hlt
      have hc' : wr.cell? ⟨rb, rp + k, none⟩ = some (.int .u64 (M.weak.getD k 0)) := hc
      have hd' : wr.cell? ⟨qb, qp + k, none⟩ = some (.int .u64 (N.weak.getD k 0)) := hd
      have hea := HW.out.each k hlt
      have hwk : wkPs M.weak N.weak (k + 1) = if pointedB (M.weak.getD k 0) = true ∧ N.weak.getD k 0 ≠ 2 then wkPs M.weak N.weak k ++ [(M.weak.getD k 0, N.weak.getD k 0)] else wkPs M.weak N.weak k := rfl
      have hpl := wkPs_len M.weak N.weak k
      generalize wkPs M.weak N.weak k = ps at *
      generalize M.weak.getD k 0 = u at *
      generalize N.weak.getD k 0 = v at *
      have HU := Lib.hid hub
      obtain ⟨hu0, hu1⟩ := hub
      have HWK := Lib.hid hwk
      have HPL := Lib.hid hpl
      have HK := Lib.hid hk
      have hkb : k ≤ 100 := by omega
      have hcon : constW 0 = 2 := by decide
      clear hwk hpl hk hlt hMr hNr hRa hQa hc' hd'
      obtain ⟨ld, hld⟩ : ∃ ld, ledB M u = ld := ⟨_, rfl⟩
      rw [hld] at hea
      have HLD := Lib.hid hld
      clear hld
      rcases hea with ⟨hp, hv⟩ | ⟨hp, hv, hl⟩ | ⟨hp, hv, hl⟩
      · subst hv
        have HW2 : Hid (wkPs M.weak N.weak (k + 1) = ps) := by unfold Hid; rw [HWK.out, if_neg (fun h => by rw [hp] at h; cases h.1)]
        unfold pointedB at hp
        have hee : (v == v) = true := by simp
        by_cases h4 : v % 4 = 0
        · have h0 : v = 0 := by
            rw [decide_eq_true h4] at hp
            simpa using hp
          subst h0
          have k1 : ((0 : Int) % 4 == 0) = true := by decide
          clear hp h4
          go_wp2
          go_quiet (first | (go_at_call 46; exact Calls.quiet_of_same (kConstWord_any 0 _)))
          go_wp2
          go_quiet (fail)
          go_wp2_with (go_at_call 47; refine (reaches_any bm om M SM 0 HU.out.1 HU.out.2 _ (HM.out.ext (Ext.trans_ hE.out (by repeat (first | exact Ext.refl _ | (refine Ext.drew_ ?_) | (refine Ext.drewN_ ?_ _))))) HG.out).mono ?_; rintro e w9 ⟨he, hq⟩; rw [HLD.out] at he; subst he; have HX9 : Hid (Ext wr w9) := Ext.trans_ (by repeat (first | exact Ext.refl _ | (refine Ext.drew_ ?_) | (refine Ext.drewN_ ?_ _))) hq; clear hq)
          go_roundg r
          case measure => omega
          case rel => exact ⟨k + 1, SA, SB, by have := HK.out; omega, by go_num, by unfold Hid; rw [HW2.out]; exact hT.out.ext HX9.out, hE.out.trans_ HX9.out⟩
        · have k1 : (v % 4 == 0) = false := by simpa using h4
          clear hp
          go_wp2
          go_quiet (first | (go_at_call 46; exact Calls.quiet_of_same (kConstWord_any 0 _)))
          go_wp2
          go_quiet (fail)
          go_wp2_with (go_at_call 47; refine (reaches_any bm om M SM v HU.out.1 HU.out.2 _ (HM.out.ext (Ext.trans_ hE.out (by repeat (first | exact Ext.refl _ | (refine Ext.drew_ ?_) | (refine Ext.drewN_ ?_ _))))) HG.out).mono ?_; rintro e w9 ⟨he, hq⟩; rw [HLD.out] at he; subst he; have HX9 : Hid (Ext wr w9) := Ext.trans_ (by repeat (first | exact Ext.refl _ | (refine Ext.drew_ ?_) | (refine Ext.drewN_ ?_ _))) hq; clear hq)
          go_roundg r
          case measure => omega
          case rel => exact ⟨k + 1, SA, SB, by have := HK.out; omega, by go_num, by unfold Hid; rw [HW2.out]; exact hT.out.ext HX9.out, hE.out.trans_ HX9.out⟩
      · subst hv hl
        have HW2 : Hid (wkPs M.weak N.weak (k + 1) = ps) := by unfold Hid; rw [HWK.out, if_neg (fun h => h.2 rfl)]
        unfold pointedB at hp
        simp only [Bool.and_eq_true, decide_eq_true_eq] at hp
        have k1 : (u % 4 == 0) = true := by simpa using hp.1
        have k2 : (u != 0) = true := by simpa using hp.2
        have h4 := hp.1
        have h5 : ¬ u = 0 := hp.2
        clear hp
        go_wp2
        go_quiet (first | (go_at_call 46; exact Calls.quiet_of_same (kConstWord_any 0 _)))
        go_wp2
        go_quiet (fail)
        go_wp2_with (go_at_call 47; refine (reaches_any bm om M SM u HU.out.1 HU.out.2 _ (HM.out.ext (Ext.trans_ hE.out (by repeat (first | exact Ext.refl _ | (refine Ext.drew_ ?_) | (refine Ext.drewN_ ?_ _))))) HG.out).mono ?_; rintro e w9 ⟨he, hq⟩; rw [HLD.out] at he; subst he; have HX9 : Hid (Ext wr w9) := Ext.trans_ (by repeat (first | exact Ext.refl _ | (refine Ext.drew_ ?_) | (refine Ext.drewN_ ?_ _))) hq; clear hq)
        go_roundg r
        case measure => omega
        case rel => exact ⟨k + 1, SA, SB, by have := HK.out; omega, by go_num, by unfold Hid; rw [HW2.out]; exact hT.out.ext HX9.out, hE.out.trans_ HX9.out⟩
      · have HW2 : Hid (wkPs M.weak N.weak (k + 1) = ps ++ [(u, v)]) := by unfold Hid; rw [HWK.out, if_pos ⟨hp, hv⟩]
        unfold pointedB at hp
        simp only [Bool.and_eq_true, decide_eq_true_eq] at hp
        have k1 : (u % 4 == 0) = true := by simpa using hp.1
        have k2 : (u != 0) = true := by simpa using hp.2
        have h4 := hp.1
        have h5 : ¬ u = 0 := hp.2
        have k3 : (v == 2) = false := by simpa using hv
        clear hp
        cases all
        all_goals
          first | (have hl2 := hl rfl; subst hl2) | skip
          clear hl
          go_wp2
          go_quiet (first | (go_at_call 46; exact Calls.quiet_of_same (kConstWord_any 0 _)))
          go_wp2
          go_quiet (fail)
          go_upto_region 16 with (go_at_call 47; refine (reaches_any bm om M SM u HU.out.1 HU.out.2 _ (HM.out.ext (Ext.trans_ hE.out (by repeat (first | exact Ext.refl _ | (refine Ext.drew_ ?_) | (refine Ext.drewN_ ?_ _))))) HG.out).mono ?_; rintro e w9 ⟨he, hq⟩; rw [HLD.out] at he; subst he; have HX9 : Hid (Ext wr w9) := Ext.trans_ (by repeat (first | exact Ext.refl _ | (refine Ext.drew_ ?_) | (refine Ext.drewN_ ?_ _))) hq; clear hq)
          have s1 := HX9.out.cell_ c8
          have s2 := HX9.out.cell_ hc
          have hT9 := hT.out.ext HX9.out
          have hE9 := hE.out.trans_ HX9.out
          obtain ⟨MA, hMA⟩ : ∃ X, X = plusM M (ps.map (·.1)) := ⟨_, rfl⟩
          obtain ⟨MB, hMB⟩ : ∃ X, X = plusM N (ps.map (·.2)) := ⟨_, rfl⟩
          rw [← hMA, ← hMB] at hT9
          have hlA : MA.roots.length ≤ 200000 := by rw [hMA]; show (M.roots ++ _).length ≤ _; rw [List.length_append, List.length_map]; have := HPL.out; omega
          have hlB : MB.roots.length ≤ 200000 := by rw [hMB]; show (N.roots ++ _).length ≤ _; rw [List.length_append, List.length_map]; have := HPL.out; omega
          have HMA := Lib.hid hMA
          have HMB := Lib.hid hMB
          have HTW := Lib.hid hT9
          have HE9 := Lib.hid hE9
          have f1 : w9.cell? ⟨ba, 7, none⟩ = some (.slice SA.R.1 MA.roots.length SA.R.2) := (hT9.one.fld ⟨7, 51, 1, SA.R.1, MA.roots.length, SA.R.2, wcells MA.roots⟩ (by simp [memFlds])).1
          have hbal := OM.lt hT9.one
          have HAZ : Hid (A ≤ w9.heap.size) := by unfold Hid; have := hE9.size; rw [HA.out]; exact this
          have HNO1 : Hid (¬ OwnA ba SA bm) := fun h => by have := (hT9.one.own_size h).1; omega
          have HNO2 : Hid (¬ OwnA ba SA rb) := fun h => by have := (hT9.one.own_size h).1; omega
          have HNQ1 : Hid (¬ OwnA ba SA bn) := fun h => by have := (hT9.one.own_size h).1; omega
          have HNQ2 : Hid (¬ OwnA ba SA qb) := fun h => by have := (hT9.one.own_size h).1; omega
          have HNP1 : Hid (¬ OwnA bb SB bn) := fun h => by have := (hT9.two.own_size h).1; omega
          have HNP2 : Hid (¬ OwnA bb SB qb) := fun h => by have := (hT9.two.own_size h).1; omega
          have d89 := HX9.out.cell_ d8
          have hd9 := HX9.out.cell_ hd
          have HD8 := Lib.hid d89
          have HD9 := Lib.hid hd9
          have hb19 : bm < w9.heap.size := by have := HAZ.out; omega
          have hrb9 : rb < w9.heap.size := by have := HAZ.out; omega
          clear hMA hMB hT9 hE9 d8 hd hc c8 d89 hd9 hT hE hb1 hb2
          go_cut [] from 32 to 157 (fun wx => ∃ SA2 : Sls, Hid (Two wx A ba bb 65 { MA with roots := MA.roots ++ [u] } MB SA2 SB) ∧ Hid (Keep (OwnA ba SA) w9 wx) ∧ Hid (Ext w wx))
          case first =>
            refine wp_region_held_drew (S := fun W => W.cell? ⟨bm, om + 8, none⟩ = some (.slice (some ⟨rb, rp, none⟩) M.weak.length SM.K.2) ∧ W.cell? ⟨rb, rp + k, none⟩ = some (.int .u64 u)) (by kernel_rfl) ?_ (fun hHeld => ?_)
            · exact ⟨s1, s2⟩
            refine tk 0 ⟨some 126, _, _, _, _, _⟩ ?_ rfl ?_ ?_
            rotate_left
            · (intro w hSw; (try dsimp only at hSw); go_simp; try with_reducible rfl)
            try simp only [tkS]
            refine tk 1 ⟨some 127, _, _, _, _, _⟩ ?_ rfl ?_ ?_
            rotate_left
            · (intro w hSw; (try dsimp only at hSw); go_simp; try with_reducible rfl)
            try simp only [tkS]
            refine tk 2 ⟨some 128, _, _, _, _, _⟩ ?_ rfl ?_ ?_
            rotate_left
            · (intro w hSw; (try dsimp only at hSw); go_simp; try with_reducible rfl)
            try simp only [tkS]
            refine tk 3 ⟨some 129, _, _, _, _, _⟩ ?_ rfl ?_ ?_
            rotate_left
            · (intro w hSw; (try dsimp only at hSw); go_simp; try with_reducible rfl)
            try simp only [tkS]
            refine tk 5 ⟨some 131, _, _, _, _, _⟩ ?_ rfl ?_ ?_
            rotate_left
            · (intro w hSw; (try dsimp only at hSw); go_simp; try with_reducible rfl)
            try simp only [tkS]
            refine tk 6 ⟨some 132, _, _, _, _, _⟩ ?_ rfl ?_ ?_
            rotate_left
            · (intro w hSw; (try dsimp only at hSw); go_simp; try with_reducible rfl)
            try simp only [tkS]
            refine tk 7 ⟨some 133, _, _, _, _, _⟩ ?_ rfl ?_ ?_
            rotate_left
            · (intro w hSw; (try dsimp only at hSw); go_simp; try with_reducible rfl)
            try simp only [tkS]
            refine tk 8 ⟨some 134, _, _, _, _, _⟩ ?_ rfl ?_ ?_
            rotate_left
            · (intro w hSw; (try dsimp only at hSw); go_simp; try with_reducible rfl)
            try simp only [tkS]
            refine tk 9 ⟨some 135, _, _, _, _, _⟩ ?_ rfl ?_ ?_
            rotate_left
            · (intro w hSw; (try dsimp only at hSw); go_simp; try with_reducible rfl)
            try simp only [tkS]
            refine tk 10 ⟨some 136, _, _, _, _, _⟩ ?_ rfl ?_ ?_
            rotate_left
            · (intro w hSw; (try dsimp only at hSw); go_simp; try with_reducible rfl)
            try simp only [tkS]
            refine tk 11 ⟨some 137, _, _, _, _, _⟩ ?_ rfl ?_ ?_
            rotate_left
            · (intro w hSw; (try dsimp only at hSw); go_simp; try with_reducible rfl)
            try simp only [tkS]
            refine wpAnyH_ready (rs := [4, 12]) (by kernel_rfl) (by simp) ?_
            refine AllReadyH.cons (o := ⟨some 130, _, _, _, _, _⟩) rfl (fun K hK => ?_) (AllReadyH.cons (o := ⟨some 138, _, _, _, _, _⟩) rfl (fun K hK => ?_) AllReadyH.nil)
            · skip
              go_simp
              refine hK.out _ _ ?_ (fun hHeld => ?_)
              · (try dsimp only); exact ⟨Ext.cell_ (w := w9) (by repeat (first | exact Ext.refl _ | (refine Ext.drew_ ?_) | (refine Ext.alloc_ ?_ _))) s1, Ext.cell_ (w := w9) (by repeat (first | exact Ext.refl _ | (refine Ext.drew_ ?_) | (refine Ext.alloc_ ?_ _))) s2⟩
              clear hK K
              try simp only [tkS]
              refine wpAnyH_ready (rs := [12]) (by kernel_rfl) (by simp) ?_
              refine AllReadyH.cons (o := ⟨some 138, _, _, _, _, _⟩) rfl (fun K hK => ?_) AllReadyH.nil
              go_simp
              skip
              refine hK.out _ _ ?_ (fun hHeld => ?_)
              · (try dsimp only); exact ⟨Ext.cell_ (w := w9) (by repeat (first | exact Ext.refl _ | (refine Ext.drew_ ?_) | (refine Ext.alloc_ ?_ _))) s1, Ext.cell_ (w := w9) (by repeat (first | exact Ext.refl _ | (refine Ext.drew_ ?_) | (refine Ext.alloc_ ?_ _))) s2⟩
              clear hK K
              try simp only [tkS]
              refine wpAnyH_ready (rs := [13]) (by kernel_rfl) (by simp) ?_
              refine AllReadyH.cons (o := ⟨some 139, _, _, _, _, _⟩) rfl (fun K hK => ?_) AllReadyH.nil
              have hxq : Ext w9 (w9.alloc (.cells #[.int .u64 u] 51)).drew := ((Ext.refl w9).alloc_ _).drew_
              have hTw := (HTW.out.ext hxq)
              refine step_append_src (by rfl) _ _ 26 (by rfl) A 51 i0 (.int .u64 0) 1 8 und0 hi0 hz0 hz1 hz2 (by rfl) (by decide) (.slice SA.R.1 MA.roots.length SA.R.2) MA.roots.length (wcells MA.roots) (by rfl) (hTw).one.fR (some ⟨w9.heap.size, 0, none⟩) 1 1 (wcells [u]) (by rfl) (fun e => by cases e) (Nat.le_refl _) (by rfl) ((rsl_one1 w9 _ u).ext (Ext.refl _).drew_) (wcells_one _) (by unfold maxLen; omega) (by omega) (Nat.le_trans HAZ.out hxq.size) ?_
              intro a2 c2 v2 hown hgrow hat
              obtain ⟨hT2, hK2⟩ := Two.push (hTw) u a2 c2 hgrow hown hat
              have hbk := hgrow.block ba (hTw).one.lt (fun e => ((hTw).one.fld ⟨7, 51, 1, SA.R.1, MA.roots.length, SA.R.2, wcells MA.roots⟩ (by simp [memFlds])).2.2 e.symm)
              have y1c : v2.cell? ⟨ba, 7, none⟩ = some (.slice SA.R.1 MA.roots.length SA.R.2) := by rw [World.cell?_of_block (w := (w9.alloc (.cells #[.int .u64 u] 51)).drew) (a := ⟨ba, 7, none⟩) hbk]; exact ((hTw).one.fld ⟨7, 51, 1, SA.R.1, MA.roots.length, SA.R.2, wcells MA.roots⟩ (by simp [memFlds])).1
              have y2c : v2.frozen? ⟨ba, 7, none⟩ = false := by rw [World.frozen?_of_block (w := (w9.alloc (.cells #[.int .u64 u] 51)).drew) (a := ⟨ba, 7, none⟩) hbk]; exact (hTw).one.frozen 7
              have hkx : Keep (OwnA ba SA) w9 (v2.setCell ⟨ba, 7, none⟩ (.slice a2 (MA.roots.length + 1) c2)) := (Keep.of_ext hxq).trans hK2
              have hkv : Keep (OwnA ba SA) w9 v2 := (Keep.of_ext hxq).trans (Keep.of_grown hgrow fun k hk => Or.inl ((hTw).one.own_of (f := ⟨7, 51, 1, SA.R.1, MA.roots.length, SA.R.2, wcells MA.roots⟩) (by simp [memFlds]) hk))
              have g1 := hkv.cell HNO1.out s1
              have g2 := hkv.cell HNO2.out s2
              have k1 := hkx.cell HNO1.out s1
              have k2 := hkx.cell HNO2.out s2
              have HT2 := Lib.hid hT2
              have HKX := Lib.hid hkx
              clear hown hgrow hat hbk hT2 hK2 hkx hkv hTw hxq
              refine hK.out _ _ ?_ (fun hHeld => ?_)
              · (try dsimp only); exact ⟨g1, g2⟩
              clear hK K
              try simp only [tkS]
              refine tk 14 ⟨some 140, _, _, _, _, _⟩ ?_ rfl ?_ ?_
              rotate_left
              · (intro w hSw; (try dsimp only at hSw); go_simp; try with_reducible rfl)
              try simp only [tkS]
              refine tk 15 ⟨some 141, _, _, _, _, _⟩ ?_ rfl ?_ ?_
              rotate_left
              · (intro w hSw; (try dsimp only at hSw); go_simp; try with_reducible rfl)
              try simp only [tkS]
              refine wpAnyH_ready (rs := [16]) (by kernel_rfl) (by simp) ?_
              refine AllReadyH.cons (o := ⟨none, _, _, _, _, _⟩) rfl (fun K hK => ?_) AllReadyH.nil
              go_simp
              skip
              refine hK.out _ _ ?_ (fun hHeld => ?_)
              · (try dsimp only); exact ⟨k1, k2⟩
              clear hK K
              try simp only [tkS]
              refine wpAnyH_done (by kernel_rfl) ?_ _
              go_wp2_with fail
              go_meet
              case rel => exact ⟨_, HT2.out, HKX.out, Ext.keep HE9.out HKX.out fun i hi => by have := (HTW.out.one.own_size hi).1; rw [← HA.out]; exact this⟩
            · skip
              go_simp
              refine hK.out _ _ ?_ (fun hHeld => ?_)
              · (try dsimp only); exact ⟨Ext.cell_ (w := w9) (by repeat (first | exact Ext.refl _ | (refine Ext.drew_ ?_) | (refine Ext.alloc_ ?_ _))) s1, Ext.cell_ (w := w9) (by repeat (first | exact Ext.refl _ | (refine Ext.drew_ ?_) | (refine Ext.alloc_ ?_ _))) s2⟩
              clear hK K
              try simp only [tkS]
              refine wpAnyH_ready (rs := [4]) (by kernel_rfl) (by simp) ?_
              refine AllReadyH.cons (o := ⟨some 130, _, _, _, _, _⟩) rfl (fun K hK => ?_) AllReadyH.nil
              go_simp
              skip
              refine hK.out _ _ ?_ (fun hHeld => ?_)
              · (try dsimp only); exact ⟨Ext.cell_ (w := w9) (by repeat (first | exact Ext.refl _ | (refine Ext.drew_ ?_) | (refine Ext.alloc_ ?_ _))) s1, Ext.cell_ (w := w9) (by repeat (first | exact Ext.refl _ | (refine Ext.drew_ ?_) | (refine Ext.alloc_ ?_ _))) s2⟩
              clear hK K
              try simp only [tkS]
              refine wpAnyH_ready (rs := [13]) (by kernel_rfl) (by simp) ?_
              refine AllReadyH.cons (o := ⟨some 139, _, _, _, _, _⟩) rfl (fun K hK => ?_) AllReadyH.nil
              have hxq : Ext w9 (w9.alloc (.cells #[.int .u64 u] 51)).drew := ((Ext.refl w9).alloc_ _).drew_
              have hTw := (HTW.out.ext hxq)
              refine step_append_src (by rfl) _ _ 26 (by rfl) A 51 i0 (.int .u64 0) 1 8 und0 hi0 hz0 hz1 hz2 (by rfl) (by decide) (.slice SA.R.1 MA.roots.length SA.R.2) MA.roots.length (wcells MA.roots) (by rfl) (hTw).one.fR (some ⟨w9.heap.size, 0, none⟩) 1 1 (wcells [u]) (by rfl) (fun e => by cases e) (Nat.le_refl _) (by rfl) ((rsl_one1 w9 _ u).ext (Ext.refl _).drew_) (wcells_one _) (by unfold maxLen; omega) (by omega) (Nat.le_trans HAZ.out hxq.size) ?_
              intro a2 c2 v2 hown hgrow hat
              obtain ⟨hT2, hK2⟩ := Two.push (hTw) u a2 c2 hgrow hown hat
              have hbk := hgrow.block ba (hTw).one.lt (fun e => ((hTw).one.fld ⟨7, 51, 1, SA.R.1, MA.roots.length, SA.R.2, wcells MA.roots⟩ (by simp [memFlds])).2.2 e.symm)
              have y1c : v2.cell? ⟨ba, 7, none⟩ = some (.slice SA.R.1 MA.roots.length SA.R.2) := by rw [World.cell?_of_block (w := (w9.alloc (.cells #[.int .u64 u] 51)).drew) (a := ⟨ba, 7, none⟩) hbk]; exact ((hTw).one.fld ⟨7, 51, 1, SA.R.1, MA.roots.length, SA.R.2, wcells MA.roots⟩ (by simp [memFlds])).1
              have y2c : v2.frozen? ⟨ba, 7, none⟩ = false := by rw [World.frozen?_of_block (w := (w9.alloc (.cells #[.int .u64 u] 51)).drew) (a := ⟨ba, 7, none⟩) hbk]; exact (hTw).one.frozen 7
              have hkx : Keep (OwnA ba SA) w9 (v2.setCell ⟨ba, 7, none⟩ (.slice a2 (MA.roots.length + 1) c2)) := (Keep.of_ext hxq).trans hK2
              have hkv : Keep (OwnA ba SA) w9 v2 := (Keep.of_ext hxq).trans (Keep.of_grown hgrow fun k hk => Or.inl ((hTw).one.own_of (f := ⟨7, 51, 1, SA.R.1, MA.roots.length, SA.R.2, wcells MA.roots⟩) (by simp [memFlds]) hk))
              have g1 := hkv.cell HNO1.out s1
              have g2 := hkv.cell HNO2.out s2
              have k1 := hkx.cell HNO1.out s1
              have k2 := hkx.cell HNO2.out s2
              have HT2 := Lib.hid hT2
              have HKX := Lib.hid hkx
              clear hown hgrow hat hbk hT2 hK2 hkx hkv hTw hxq
              refine hK.out _ _ ?_ (fun hHeld => ?_)
              · (try dsimp only); exact ⟨g1, g2⟩
              clear hK K
              try simp only [tkS]
              refine tk 14 ⟨some 140, _, _, _, _, _⟩ ?_ rfl ?_ ?_
              rotate_left
              · (intro w hSw; (try dsimp only at hSw); go_simp; try with_reducible rfl)
              try simp only [tkS]
              refine tk 15 ⟨some 141, _, _, _, _, _⟩ ?_ rfl ?_ ?_
              rotate_left
              · (intro w hSw; (try dsimp only at hSw); go_simp; try with_reducible rfl)
              try simp only [tkS]
              refine wpAnyH_ready (rs := [16]) (by kernel_rfl) (by simp) ?_
              refine AllReadyH.cons (o := ⟨none, _, _, _, _, _⟩) rfl (fun K hK => ?_) AllReadyH.nil
              go_simp
              skip
              refine hK.out _ _ ?_ (fun hHeld => ?_)
              · (try dsimp only); exact ⟨k1, k2⟩
              clear hK K
              try simp only [tkS]
              refine wpAnyH_done (by kernel_rfl) ?_ _
              go_wp2_with fail
              go_meet
              case rel => exact ⟨_, HT2.out, HKX.out, Ext.keep HE9.out HKX.out fun i hi => by have := (HTW.out.one.own_size hi).1; rw [← HA.out]; exact this⟩
          case rest =>
            obtain ⟨SA2, hT3, hK3, hE3⟩ := hcut
            have s1 := hK3.out.cell HNQ1.out HD8.out
            have s2 := hK3.out.cell HNQ2.out HD9.out
            have HTW := hT3
            have f1 : wc.cell? ⟨bb, 7, none⟩ = some (.slice SB.R.1 MB.roots.length SB.R.2) := (hT3.out.two.fld ⟨7, 51, 1, SB.R.1, MB.roots.length, SB.R.2, wcells MB.roots⟩ (by simp [memFlds])).1
            have hbal := OM.lt hT3.out.two
            have HAZ : Hid (A ≤ wc.heap.size) := by unfold Hid; have := hE3.out.size; rw [HA.out]; exact this
            have hb19 : bn < wc.heap.size := by have := HAZ.out; omega
            have hrb9 : qb < wc.heap.size := by have := HAZ.out; omega
            go_upto_region 17 with fail
            refine wp_region_held_drew (S := fun W => W.cell? ⟨bn, on_ + 8, none⟩ = some (.slice (some ⟨qb, qp, none⟩) M.weak.length SN.K.2) ∧ W.cell? ⟨qb, qp + k, none⟩ = some (.int .u64 v)) (by kernel_rfl) ?_ (fun hHeld => ?_)
            · exact ⟨s1, s2⟩
            refine tk 0 ⟨some 142, _, _, _, _, _⟩ ?_ rfl ?_ ?_
            rotate_left
            · (intro w hSw; (try dsimp only at hSw); go_simp; try with_reducible rfl)
            try simp only [tkS]
            refine tk 1 ⟨some 143, _, _, _, _, _⟩ ?_ rfl ?_ ?_
            rotate_left
            · (intro w hSw; (try dsimp only at hSw); go_simp; try with_reducible rfl)
            try simp only [tkS]
            refine tk 2 ⟨some 144, _, _, _, _, _⟩ ?_ rfl ?_ ?_
            rotate_left
            · (intro w hSw; (try dsimp only at hSw); go_simp; try with_reducible rfl)
            try simp only [tkS]
            refine tk 3 ⟨some 145, _, _, _, _, _⟩ ?_ rfl ?_ ?_
            rotate_left
            · (intro w hSw; (try dsimp only at hSw); go_simp; try with_reducible rfl)
            try simp only [tkS]
            refine tk 5 ⟨some 147, _, _, _, _, _⟩ ?_ rfl ?_ ?_
            rotate_left
            · (intro w hSw; (try dsimp only at hSw); go_simp; try with_reducible rfl)
            try simp only [tkS]
            refine tk 6 ⟨some 148, _, _, _, _, _⟩ ?_ rfl ?_ ?_
            rotate_left
            · (intro w hSw; (try dsimp only at hSw); go_simp; try with_reducible rfl)
            try simp only [tkS]
            refine tk 7 ⟨some 149, _, _, _, _, _⟩ ?_ rfl ?_ ?_
            rotate_left
            · (intro w hSw; (try dsimp only at hSw); go_simp; try with_reducible rfl)
            try simp only [tkS]
            refine tk 8 ⟨some 150, _, _, _, _, _⟩ ?_ rfl ?_ ?_
            rotate_left
            · (intro w hSw; (try dsimp only at hSw); go_simp; try with_reducible rfl)
            try simp only [tkS]
            refine tk 9 ⟨some 151, _, _, _, _, _⟩ ?_ rfl ?_ ?_
            rotate_left
            · (intro w hSw; (try dsimp only at hSw); go_simp; try with_reducible rfl)
            try simp only [tkS]
            refine tk 10 ⟨some 152, _, _, _, _, _⟩ ?_ rfl ?_ ?_
            rotate_left
            · (intro w hSw; (try dsimp only at hSw); go_simp; try with_reducible rfl)
            try simp only [tkS]
            refine tk 11 ⟨some 153, _, _, _, _, _⟩ ?_ rfl ?_ ?_
            rotate_left
            · (intro w hSw; (try dsimp only at hSw); go_simp; try with_reducible rfl)
            try simp only [tkS]
            refine wpAnyH_ready (rs := [4, 12]) (by kernel_rfl) (by simp) ?_
            refine AllReadyH.cons (o := ⟨some 146, _, _, _, _, _⟩) rfl (fun K hK => ?_) (AllReadyH.cons (o := ⟨some 154, _, _, _, _, _⟩) rfl (fun K hK => ?_) AllReadyH.nil)
            · skip
              go_simp
              refine hK.out _ _ ?_ (fun hHeld => ?_)
              · (try dsimp only); exact ⟨Ext.cell_ (w := wc) (by repeat (first | exact Ext.refl _ | (refine Ext.drew_ ?_) | (refine Ext.alloc_ ?_ _))) s1, Ext.cell_ (w := wc) (by repeat (first | exact Ext.refl _ | (refine Ext.drew_ ?_) | (refine Ext.alloc_ ?_ _))) s2⟩
              clear hK K
              try simp only [tkS]
              refine wpAnyH_ready (rs := [12]) (by kernel_rfl) (by simp) ?_
              refine AllReadyH.cons (o := ⟨some 154, _, _, _, _, _⟩) rfl (fun K hK => ?_) AllReadyH.nil
              go_simp
              skip
              refine hK.out _ _ ?_ (fun hHeld => ?_)
              · (try dsimp only); exact ⟨Ext.cell_ (w := wc) (by repeat (first | exact Ext.refl _ | (refine Ext.drew_ ?_) | (refine Ext.alloc_ ?_ _))) s1, Ext.cell_ (w := wc) (by repeat (first | exact Ext.refl _ | (refine Ext.drew_ ?_) | (refine Ext.alloc_ ?_ _))) s2⟩
              clear hK K
              try simp only [tkS]
              refine wpAnyH_ready (rs := [13]) (by kernel_rfl) (by simp) ?_
              refine AllReadyH.cons (o := ⟨some 155, _, _, _, _, _⟩) rfl (fun K hK => ?_) AllReadyH.nil
              have hxq : Ext wc (wc.alloc (.cells #[.int .u64 v] 51)).drew := ((Ext.refl wc).alloc_ _).drew_
              have hTw := (HTW.out.ext hxq)
              refine step_append_src (by rfl) _ _ 26 (by rfl) A 51 i0 (.int .u64 0) 1 8 und0 hi0 hz0 hz1 hz2 (by rfl) (by decide) (.slice SB.R.1 MB.roots.length SB.R.2) MB.roots.length (wcells MB.roots) (by rfl) (hTw.swap).one.fR (some ⟨wc.heap.size, 0, none⟩) 1 1 (wcells [v]) (by rfl) (fun e => by cases e) (Nat.le_refl _) (by rfl) ((rsl_one1 wc _ v).ext (Ext.refl _).drew_) (wcells_one _) (by unfold maxLen; omega) (by omega) (Nat.le_trans HAZ.out hxq.size) ?_
              intro a2 c2 v2 hown hgrow hat
              obtain ⟨hT2, hK2⟩ := Two.push (hTw.swap) v a2 c2 hgrow hown hat
              have hbk := hgrow.block bb (hTw.swap).one.lt (fun e => ((hTw.swap).one.fld ⟨7, 51, 1, SB.R.1, MB.roots.length, SB.R.2, wcells MB.roots⟩ (by simp [memFlds])).2.2 e.symm)
              have y1c : v2.cell? ⟨bb, 7, none⟩ = some (.slice SB.R.1 MB.roots.length SB.R.2) := by rw [World.cell?_of_block (w := (wc.alloc (.cells #[.int .u64 v] 51)).drew) (a := ⟨bb, 7, none⟩) hbk]; exact ((hTw.swap).one.fld ⟨7, 51, 1, SB.R.1, MB.roots.length, SB.R.2, wcells MB.roots⟩ (by simp [memFlds])).1
              have y2c : v2.frozen? ⟨bb, 7, none⟩ = false := by rw [World.frozen?_of_block (w := (wc.alloc (.cells #[.int .u64 v] 51)).drew) (a := ⟨bb, 7, none⟩) hbk]; exact (hTw.swap).one.frozen 7
              have hkx : Keep (OwnA bb SB) wc (v2.setCell ⟨bb, 7, none⟩ (.slice a2 (MB.roots.length + 1) c2)) := (Keep.of_ext hxq).trans hK2
              have hkv : Keep (OwnA bb SB) wc v2 := (Keep.of_ext hxq).trans (Keep.of_grown hgrow fun k hk => Or.inl ((hTw.swap).one.own_of (f := ⟨7, 51, 1, SB.R.1, MB.roots.length, SB.R.2, wcells MB.roots⟩) (by simp [memFlds]) hk))
              have g1 := hkv.cell HNP1.out s1
              have g2 := hkv.cell HNP2.out s2
              have k1 := hkx.cell HNP1.out s1
              have k2 := hkx.cell HNP2.out s2
              have HT2 := Lib.hid hT2
              have HKX := Lib.hid hkx
              clear hown hgrow hat hbk hT2 hK2 hkx hkv hTw hxq
              refine hK.out _ _ ?_ (fun hHeld => ?_)
              · (try dsimp only); exact ⟨g1, g2⟩
              clear hK K
              try simp only [tkS]
              refine tk 14 ⟨some 156, _, _, _, _, _⟩ ?_ rfl ?_ ?_
              rotate_left
              · (intro w hSw; (try dsimp only at hSw); go_simp; try with_reducible rfl)
              try simp only [tkS]
              refine tk 15 ⟨some 157, _, _, _, _, _⟩ ?_ rfl ?_ ?_
              rotate_left
              · (intro w hSw; (try dsimp only at hSw); go_simp; try with_reducible rfl)
              try simp only [tkS]
              refine wpAnyH_ready (rs := [16]) (by kernel_rfl) (by simp) ?_
              refine AllReadyH.cons (o := ⟨none, _, _, _, _, _⟩) rfl (fun K hK => ?_) AllReadyH.nil
              go_simp
              skip
              refine hK.out _ _ ?_ (fun hHeld => ?_)
              · (try dsimp only); exact ⟨k1, k2⟩
              clear hK K
              try simp only [tkS]
              refine wpAnyH_done (by kernel_rfl) ?_ _
              clear hHeld y1c y2c g1 g2 k1 k2 s1 s2 f1 hbal hb19 hrb9
              generalize v2.setCell ⟨bb, 7, none⟩ (.slice a2 (MB.roots.length + 1) c2) = wE at *
              have hTF := HT2.out.swap
              have e1 : ({ MA with roots := MA.roots ++ [u] } : Mem) = plusM M ((ps ++ [(u, v)]).map (·.1)) := by rw [HMA.out, plus_snoc, List.map_append]; rfl
              have e2 : ({ MB with roots := MB.roots ++ [v] } : Mem) = plusM N ((ps ++ [(u, v)]).map (·.2)) := by rw [HMB.out, plus_snoc, List.map_append]; rfl
              rw [e1, e2, ← HW2.out] at hTF
              have HTF := Lib.hid hTF
              have hEF : Ext w wE := Ext.keep hE3.out HKX.out fun i hi => by have := (HTW.out.two.own_size hi).1; rw [← HA.out]; exact this
              have HEF := Lib.hid hEF
              clear hTF e1 e2 hEF HT2 HKX
              go_wp2
              go_roundg r
              case measure => omega
              case rel => exact ⟨k + 1, SA2, { SB with R := (a2, c2) }, by have := HK.out; omega, by go_num, HTF.out, HEF.out⟩
            · skip
              go_simp
              refine hK.out _ _ ?_ (fun hHeld => ?_)
              · (try dsimp only); exact ⟨Ext.cell_ (w := wc) (by repeat (first | exact Ext.refl _ | (refine Ext.drew_ ?_) | (refine Ext.alloc_ ?_ _))) s1, Ext.cell_ (w := wc) (by repeat (first | exact Ext.refl _ | (refine Ext.drew_ ?_) | (refine Ext.alloc_ ?_ _))) s2⟩
              clear hK K
              try simp only [tkS]
              refine wpAnyH_ready (rs := [4]) (by kernel_rfl) (by simp) ?_
              refine AllReadyH.cons (o := ⟨some 146, _, _, _, _, _⟩) rfl (fun K hK => ?_) AllReadyH.nil
              go_simp
              skip
              refine hK.out _ _ ?_ (fun hHeld => ?_)
              · (try dsimp only); exact ⟨Ext.cell_ (w := wc) (by repeat (first | exact Ext.refl _ | (refine Ext.drew_ ?_) | (refine Ext.alloc_ ?_ _))) s1, Ext.cell_ (w := wc) (by repeat (first | exact Ext.refl _ | (refine Ext.drew_ ?_) | (refine Ext.alloc_ ?_ _))) s2⟩
              clear hK K
              try simp only [tkS]
              refine wpAnyH_ready (rs := [13]) (by kernel_rfl) (by simp) ?_
              refine AllReadyH.cons (o := ⟨some 155, _, _, _, _, _⟩) rfl (fun K hK => ?_) AllReadyH.nil
              have hxq : Ext wc (wc.alloc (.cells #[.int .u64 v] 51)).drew := ((Ext.refl wc).alloc_ _).drew_
              have hTw := (HTW.out.ext hxq)
              refine step_append_src (by rfl) _ _ 26 (by rfl) A 51 i0 (.int .u64 0) 1 8 und0 hi0 hz0 hz1 hz2 (by rfl) (by decide) (.slice SB.R.1 MB.roots.length SB.R.2) MB.roots.length (wcells MB.roots) (by rfl) (hTw.swap).one.fR (some ⟨wc.heap.size, 0, none⟩) 1 1 (wcells [v]) (by rfl) (fun e => by cases e) (Nat.le_refl _) (by rfl) ((rsl_one1 wc _ v).ext (Ext.refl _).drew_) (wcells_one _) (by unfold maxLen; omega) (by omega) (Nat.le_trans HAZ.out hxq.size) ?_
              intro a2 c2 v2 hown hgrow hat
              obtain ⟨hT2, hK2⟩ := Two.push (hTw.swap) v a2 c2 hgrow hown hat
              have hbk := hgrow.block bb (hTw.swap).one.lt (fun e => ((hTw.swap).one.fld ⟨7, 51, 1, SB.R.1, MB.roots.length, SB.R.2, wcells MB.roots⟩ (by simp [memFlds])).2.2 e.symm)
              have y1c : v2.cell? ⟨bb, 7, none⟩ = some (.slice SB.R.1 MB.roots.length SB.R.2) := by rw [World.cell?_of_block (w := (wc.alloc (.cells #[.int .u64 v] 51)).drew) (a := ⟨bb, 7, none⟩) hbk]; exact ((hTw.swap).one.fld ⟨7, 51, 1, SB.R.1, MB.roots.length, SB.R.2, wcells MB.roots⟩ (by simp [memFlds])).1
              have y2c : v2.frozen? ⟨bb, 7, none⟩ = false := by rw [World.frozen?_of_block (w := (wc.alloc (.cells #[.int .u64 v] 51)).drew) (a := ⟨bb, 7, none⟩) hbk]; exact (hTw.swap).one.frozen 7
              have hkx : Keep (OwnA bb SB) wc (v2.setCell ⟨bb, 7, none⟩ (.slice a2 (MB.roots.length + 1) c2)) := (Keep.of_ext hxq).trans hK2
              have hkv : Keep (OwnA bb SB) wc v2 := (Keep.of_ext hxq).trans (Keep.of_grown hgrow fun k hk => Or.inl ((hTw.swap).one.own_of (f := ⟨7, 51, 1, SB.R.1, MB.roots.length, SB.R.2, wcells MB.roots⟩) (by simp [memFlds]) hk))
              have g1 := hkv.cell HNP1.out s1
              have g2 := hkv.cell HNP2.out s2
              have k1 := hkx.cell HNP1.out s1
              have k2 := hkx.cell HNP2.out s2
              have HT2 := Lib.hid hT2
              have HKX := Lib.hid hkx
              clear hown hgrow hat hbk hT2 hK2 hkx hkv hTw hxq
              refine hK.out _ _ ?_ (fun hHeld => ?_)
              · (try dsimp only); exact ⟨g1, g2⟩
              clear hK K
              try simp only [tkS]
              refine tk 14 ⟨some 156, _, _, _, _, _⟩ ?_ rfl ?_ ?_
              rotate_left
              · (intro w hSw; (try dsimp only at hSw); go_simp; try with_reducible rfl)
              try simp only [tkS]
              refine tk 15 ⟨some 157, _, _, _, _, _⟩ ?_ rfl ?_ ?_
              rotate_left
              · (intro w hSw; (try dsimp only at hSw); go_simp; try with_reducible rfl)
              try simp only [tkS]
              refine wpAnyH_ready (rs := [16]) (by kernel_rfl) (by simp) ?_
              refine AllReadyH.cons (o := ⟨none, _, _, _, _, _⟩) rfl (fun K hK => ?_) AllReadyH.nil
              go_simp
              skip
              refine hK.out _ _ ?_ (fun hHeld => ?_)
              · (try dsimp only); exact ⟨k1, k2⟩
              clear hK K
              try simp only [tkS]
              refine wpAnyH_done (by kernel_rfl) ?_ _
              clear hHeld y1c y2c g1 g2 k1 k2 s1 s2 f1 hbal hb19 hrb9
              generalize v2.setCell ⟨bb, 7, none⟩ (.slice a2 (MB.roots.length + 1) c2) = wE at *
              have hTF := HT2.out.swap
              have e1 : ({ MA with roots := MA.roots ++ [u] } : Mem) = plusM M ((ps ++ [(u, v)]).map (·.1)) := by rw [HMA.out, plus_snoc, List.map_append]; rfl
              have e2 : ({ MB with roots := MB.roots ++ [v] } : Mem) = plusM N ((ps ++ [(u, v)]).map (·.2)) := by rw [HMB.out, plus_snoc, List.map_append]; rfl
              rw [e1, e2, ← HW2.out] at hTF
              have HTF := Lib.hid hTF
              have hEF : Ext w wE := Ext.keep hE3.out HKX.out fun i hi => by have := (HTW.out.two.own_size hi).1; rw [← HA.out]; exact this
              have HEF := Lib.hid hEF
              clear hTF e1 e2 hEF HT2 HKX
              go_wp2
              go_roundg r
              case measure => omega
              case rel => exact ⟨k + 1, SA2, { SB with R := (a2, c2) }, by have := HK.out; omega, by go_num, HTF.out, HEF.out⟩
    | zero =>
      obtain rfl : k = M.weak.length := by omega
      have hltz : ¬ ((M.weak.length : Nat) : Int) < (M.weak.length : Int) := by omega
      rw [show wkPs M.weak N.weak M.weak.length = wkPs M.weak N.weak M.weak.length from rfl] at hT
      have hpb := wkPs_len M.weak N.weak M.weak.length
      have hsub : ∀ j, j ≤ M.weak.length → ∀ p ∈ wkPs M.weak N.weak j, (0 ≤ p.1 ∧ p.1 ≤ 18446744073709551615) ∧ (0 ≤ p.2 ∧ p.2 ≤ 18446744073709551615) := fun j => by
        induction j with
        | zero => intro _ p hp; simp [wkPs] at hp
        | succ j ih =>
          intro hj p hp
          unfold wkPs at hp
          split at hp
          · rcases List.mem_append.1 hp with q | q
            · exact ih (by omega) p q
            · rw [List.mem_singleton.1 q]
              exact ⟨getD_in (P := fun x => 0 ≤ x ∧ x ≤ 18446744073709551615) HM.out.ok.weak (by omega), getD_in (P := fun x => 0 ≤ x ∧ x ≤ 18446744073709551615) HN.out.ok.weak (by rw [HL.out]; omega)⟩
          · exact ih (by omega) p hp
      have hgA := HW.out.goodA
      have hgB := HW.out.goodB_
      have hgr := HW.out.graph
      have hsub2 := hsub M.weak.length (Nat.le_refl _)
      generalize wkPs M.weak N.weak M.weak.length = ps at *
      have hokA : (plusM M (ps.map (·.1))).Ok := plus_ok HM.out.ok (fun u hu => by obtain ⟨p, hp, rfl⟩ := List.mem_map.1 hu; exact (hsub2 p hp).1) (by rw [List.length_map]; omega)
      have hokB : (plusM N (ps.map (·.2))).Ok := plus_ok HN.out.ok (fun u hu => by obtain ⟨p, hp, rfl⟩ := List.mem_map.1 hu; exact (hsub2 p hp).2) (by rw [List.length_map]; omega)
      have hfA : Few (plusM M (ps.map (·.1))) := ⟨HFM.out.W, by show (M.roots ++ _).length ≤ _; rw [List.length_append, List.length_map]; omega, HFM.out.K, HFM.out.I, HFM.out.C⟩
      have hfB : Few (plusM N (ps.map (·.2))) := ⟨HFN.out.W, by show (N.roots ++ _).length ≤ _; rw [List.length_append, List.length_map]; omega, HFN.out.K, HFN.out.I, HFN.out.C⟩
      have HRA := Lib.hid (hT.out.one.mem hokA)
      have HRB := Lib.hid (hT.out.two.mem hokB)
      have HGA := Lib.hid hgA
      have HGB := Lib.hid hgB
      have HGR := Lib.hid hgr
      have HFA := Lib.hid hfA
      have HFB := Lib.hid hfB
      clear hpb hsub hsub2 hgA hgB hgr hokA hokB hfA hfB hT hk hMr hNr d8 hb2
      go_upto_region 19 with (go_at_call 14; refine (graph_walk ba 0 _ SA _ HRA.out HGA.out HFA.out).mono ?_; rintro e w3 ⟨rfl, hq⟩; have HX3 := Lib.hid hq; clear hq)
      go_wp2_with (go_at_call 14; refine (graph_walk bb 0 _ SB _ (HRB.out.ext HX3.out) HGB.out HFB.out).mono ?_; rintro e w4 ⟨he, hq⟩; rw [HGR.out] at he; subst he; have HX4 := Lib.hid hq; clear hq)
      go_ret
      exact ⟨rfl, hE.out.trans_ (HX3.out.trans_ HX4.out)⟩
end Go.Proofs.YtecbbbaafcoliaaGreatDoor
