/- The walk of the document's CheckOf: the objects, the cards, the numbers. -/
import Derived.Test.YtecbbbaafcoliaaGreatDoorJYa26
import Derived.Test.YtecbbbaafcoliaaGreatDoorJYa09
import Derived.Test.YtecbbbaafcoliaaGreatDoorJYa07
import Derived.Test.YtecbbbaafcoliaaGreatDoorJYa08
import Derived.Deep.RegionHeld3
namespace Go.Proofs.YtecbbbaafcoliaaGreatDoor
open Go.RowKit
set_option linter.unusedVariables false
set_option linter.unusedSimpArgs false

set_option maxRecDepth 100000 in
set_option maxHeartbeats 16000000 in
theorem kCheck_5 (b o : Nat) (M : Mem) (S : Sls) (w : World) (hM : RMem w b o M S) (hs : shapeB M = true) (hb : ((kN M).2 && (kO M).2) = true) (hr : fieldsB (startsM M) M.roots = true) (hk : fieldsB (startsM M) M.weak = true) :
    Calls Tryz.prog 8 #[.pointer (some ⟨b, o, none⟩)] w fun e w' => e = .returned (.int .i64 (chk M)) ∧ Ext w w' := by
  have hchk := chk_of hs hb hr hk
  have HM := Lib.hid hM
  have hltb := hM.lt
  clear hM
  have HR := Lib.hid hr
  have HK := Lib.hid hk
  clear hr hk
  have HS := Lib.hid hs
  have hsh := shp_of hs
  have HSH := Lib.hid hsh
  obtain ⟨hl1, -, -, -⟩ := kAll_ok hb
  have HB := Lib.hid hb
  obtain ⟨l, hl⟩ : ∃ l, l = objsAll M := ⟨_, rfl⟩
  rw [← hl] at hl1
  have HLI := Lib.hid hl1
  have HL := Lib.hid hl
  have HATS : Hid (ats l = startsM M) := by unfold Hid; rw [hl]; rfl
  have hobm : ∀ x ∈ l, ObM M x := fun x hx => obM_of (by rw [← hl]; exact hx)
  have HOBM := Lib.hid hobm
  have HLT : Hid (∀ x ∈ l, (x.a : Int) < 1099511627776) := fun x hx => (starts_in M hsh _ (by rw [← HATS.out]; exact List.mem_map_of_mem hx)).2
  have HLL : Hid (l.length ≤ 9223372036854775807) := by
    have h1 := partK_len M.W M.base (M.base + M.top.toNat)
    have h2 := partK_len M.W (2 * M.half).toNat ((2 * M.half).toNat + M.oldTop.toNat)
    have h3 := congrArg List.length hl1
    rw [List.length_append] at h3
    have e1 : (kN M).1 = (partK M.W M.base (M.base + M.top.toNat)).1 := rfl
    have e2 : (kO M).1 = (partK M.W (2 * M.half).toNat ((2 * M.half).toNat + M.oldTop.toNat)).1 := rfl
    rw [e1, e2] at h3
    have h4 := hsh.t2; have h5 := hsh.p2; have h6 := hsh.h2; have h7 := hsh.o2; have h8 := hsh.t1; have h9 := hsh.p1
    unfold Hid; omega
  clear hs hsh hb hl hl1 hobm
  rw [← HL.out] at hchk
  have HCHK := Lib.hid hchk
  have hw0 : 0 < M.W.length := by have h1 := HSH.out.w; have h2 := HSH.out.h1; have h3 := HSH.out.o1; omega
  obtain ⟨wb, wo, hWa, -⟩ := HM.out.rW 0 _ (wcells_at M.W 0 hw0)
  have c_W := HM.out.W
  rw [hWa] at c_W
  have HWA := Lib.hid hWa
  have hcap := HM.out.capW
  clear hchk hWa
  go_enter Tryz.func8, Tryz.ntmps8
  have n7 := HM.out.roots
  have n8 := HM.out.weak
  go_wp2_with (first
    | (go_at_call 25; refine (kShaped_any b o M S w HM.out).mono ?_; rintro e w1 ⟨he, hq⟩; rw [HS.out] at he; subst he; have HX1 := Lib.hid hq; clear hq)
    | ((go_at_call 26; refine (kAll_walk b o M S HSH.out _ (HM.out.ext HX1.out)).mono ?_; rintro e w2 ⟨la, lc, he, hown, hq⟩; rw [HB.out, HLI.out] at he; rw [HLI.out] at hown; subst he; have HX2 : Hid (Ext w w2) := Ext.trans_ HX1.out hq; have HLR := Lib.hid (own_rsl hown); have HLN := Lib.hid (own_nil hown); have hlc := own_cap hown; clear hq hown); have k7 := HX2.out.cell_ n7; have k8 := HX2.out.cell_ n8; have HY2 : Hid (Ext w2 w2) := Ext.refl w2))
  refine (fieldsOK_any S.R.1 S.R.2 M.roots HM.out.ok.lenR HM.out.ok.roots la lc l _ HLL.out (HM.out.ext HX2.out).rR HLR.out HLT.out).mono ?_
  rintro e w' ⟨he, hw9⟩
  have hw9 := hw9.symm
  subst hw9
  rw [HATS.out, HR.out] at he
  subst he
  go_wp2_with fail
  refine (fieldsOK_any S.K.1 S.K.2 M.weak HM.out.ok.lenK HM.out.ok.weak la lc l _ HLL.out (HM.out.ext HX2.out).rK HLR.out HLT.out).mono ?_
  rintro e w' ⟨he, hw9⟩
  have hw9 := hw9.symm
  subst hw9
  rw [HATS.out, HK.out] at he
  subst he
  clear n7 n8 k7 k8
  have hllz := HLL.out
  go_wp2
  go_loopw [5, 6] (fun c i wr => ∃ (k : Nat) (q : Bool), k ≤ l.length ∧ i = .int .i64 (k : Int) ∧ c = .bool q ∧ Hid (q = (l.take k).all (cardsO M)) ∧ Hid ((l.take k).all (okK M) = true) ∧ Hid (Ext w wr) ∧ Hid (Ext w2 wr)) (fun _ i _ => l.length - (intOf i).toNat)
  case atStart => exact ⟨0, true, Nat.zero_le _, rfl, rfl, rfl, rfl, HX2.out, HY2.out⟩
  case round =>
    obtain ⟨k, q, hk, rfl, rfl, hQ, hA, hE, hE2⟩ := hrel
    have d0 := (HM.out.ext hE.out).half
    by_cases hlt : k < l.length
    · obtain ⟨p0, p1, p2, p3⟩ := ocells_at l k hlt
      obtain ⟨ob, oo, rfl, c0⟩ := HLR.out _ _ p0
      have c1 := HLR.out.at_ p1
      have c2 := HLR.out.at_ p2
      have c3 := HLR.out.at_ p3
      rw [← Nat.add_assoc] at c1 c2 c3
      replace c0 := hE2.out.cell_ c0
      replace c1 := hE2.out.cell_ c1
      replace c2 := hE2.out.cell_ c2
      replace c3 := hE2.out.cell_ c3
      have HD : Hid (l.take (k + 1) = l.take k ++ [l[k]]) := Lib.hid (List.take_succ_eq_append_getElem hlt)
      have HXM := Lib.hid (HOBM.out l[k] (List.getElem_mem hlt))
      have HMEM := Lib.hid (List.getElem_mem hlt)
      generalize l[k] = x at *
      obtain ⟨hx0, hx1, hx2, hx3, hx4⟩ := ob_bounds HM.out.ok HSH.out HXM.out
      have hltz : (k : Int) < (l.length : Int) := by omega
      have hzb : ob < wr.heap.size := cell_lt c0
      have hzo : b < wr.heap.size := by have := hE.out.size; omega
      have s2 := HSH.out.h2
      have s1 := HSH.out.h1
      have e2h : IntKind.i64.wrap (2 * M.half) = 2 * M.half := IntWalk.i64_in _ (by omega)
      clear p0 p1 p2 p3
      by_cases ho : 2 * M.half ≤ (x.a : Int)
      · have ho' : decide (2 * M.half ≤ (x.a : Int)) = true := decide_eq_true ho
        have HO : Hid (oldB M (x.a : Int) = true) := ho'
        cases ha : (hAge x.w != 0) with
        | true =>
          have HAG := Lib.hid ha
          go_wp2
          go_quiet (fail)
          go_wp2
          go_ret
          refine ⟨?_, by repeat (first | exact hE.out | (refine Ext.drew_ ?_) | (refine Ext.drewN_ ?_ _) | (refine Ext.alloc_ ?_ _))⟩
          have hf : l.all (okK M) = false := all_take_false HMEM.out (by unfold okK ageB; rw [HO.out, HAG.out]; rfl)
          rw [HCHK.out, hf]; rfl
        | false =>
          have HAG : Hid (ageB M x = true) := ageB_0 ha
          cases hraw : decide (hKind x.w < 8) with
          | true =>
            have HRW : Hid (rawB (hKind x.w) = true) := hraw
            go_wp2
            go_quiet (fail)
            go_wp2
            go_roundw
            case rel => exact ⟨k + 1, q, by omega, by go_num, rfl, Lib.hid (by rw [HD.out, List.all_append, ← hQ.out]; simp [cardsO_raw HRW.out]), Lib.hid (by rw [HD.out, List.all_append, hA.out]; simp [okK, HAG.out, okFld_raw HRW.out]), by repeat (first | exact hE.out | (refine Ext.drew_ ?_) | (refine Ext.drewN_ ?_ _) | (refine Ext.alloc_ ?_ _)), by repeat (first | exact hE2.out | (refine Ext.drew_ ?_) | (refine Ext.drewN_ ?_ _) | (refine Ext.alloc_ ?_ _))⟩
            case measure => simp [intOf]; omega
          | false =>
            have HRW : Hid (rawB (hKind x.w) = false) := hraw
            have d3 := hE.out.cell_ c_W
            go_wp2
            go_quiet (fail)
            go_wp2
            obtain ⟨A, C, hsl, hAC, hAn, hRA⟩ := run_part (P := Tryz.prog) undU64 sizeU64 wb wo M.W.length S.W.2 (x.a + 1) (x.a + 1 + x.n) ((x.a : Int) + 1) ((x.a : Int) + 1 + hSize x.w) (by omega) (by omega) (by omega) (by omega)
            have HRA : Hid (∀ W, Ext w W → RSl W A (wcells (flds M x))) := fun W hW => by
              have := hRA W _ (HWA.out ▸ (HM.out.ext hW).rW)
              rw [flds_cells M x (by omega)] at this
              exact this
            rw [show x.a + 1 + x.n - (x.a + 1) = x.n by omega] at hsl hAC
            clear hRA
            have hc1 : (x.a : Int) + 1 + hSize x.w ≤ (S.W.2 : Int) := by omega
            have hc2 : (0 : Int) ≤ (x.a : Int) + 1 := by omega
            have hc3 : (x.a : Int) + 1 ≤ (x.a : Int) + 1 + hSize x.w := by omega
            have hcall := fieldsOK_any A C (flds M x) (by rw [flds_len]; omega) (fun z hz => flds_in HM.out.ok x z hz) (some ⟨ob, oo, none⟩) lc l
            rw [flds_len] at hcall
            have HCALL := Lib.hid hcall
            clear hcall
            have e1 : IntKind.i64.wrap ((x.a : Int) + 1) = (x.a : Int) + 1 := IntWalk.i64_in _ (by omega)
            have e2 : IntKind.i64.wrap ((x.a : Int) + 1 + hSize x.w) = (x.a : Int) + 1 + hSize x.w := IntWalk.i64_in _ (by omega)
            go_quiet (fail)
            clear e1 e2 hsl
            go_wp2_with fail
            refine (HCALL.out _ HLL.out (HRA.out _ (by repeat (first | exact hE.out | (refine Ext.drew_ ?_) | (refine Ext.drewN_ ?_ _) | (refine Ext.alloc_ ?_ _)))) (HLR.out.ext (by repeat (first | exact hE2.out | (refine Ext.drew_ ?_) | (refine Ext.drewN_ ?_ _) | (refine Ext.alloc_ ?_ _)))) HLT.out).mono ?_
            rintro e w' ⟨he, hw9⟩
            have hw9 := hw9.symm
            subst hw9
            rw [HATS.out] at he
            cases hf : fieldsB (startsM M) (flds M x) with
            | false =>
              have HFF := Lib.hid hf
              rw [hf] at he
              subst he
              clear hf
              go_wp2
              go_ret
              refine ⟨?_, by repeat (first | exact hE.out | (refine Ext.drew_ ?_) | (refine Ext.drewN_ ?_ _) | (refine Ext.alloc_ ?_ _))⟩
              have hf : l.all (okK M) = false := all_take_false HMEM.out (by unfold okK okFld; rw [HRW.out, HFF.out, HAG.out]; rfl)
              rw [HCHK.out, hf]; rfl
            | true =>
              have HFT := Lib.hid hf
              rw [hf] at he
              subst he
              clear hf
              go_wp2
              refine named_world' (fun W5 hW5 => ?_)
              have hE5 : Ext wr W5 := by rw [hW5]; repeat (first | exact Ext.refl _ | (refine Ext.drew_ ?_) | (refine Ext.drewN_ ?_ _) | (refine Ext.alloc_ ?_ _))
              have HE5 := Lib.hid hE5
              have y0 : W5.cell? ⟨wr.heap.size, 0, none⟩ = some (.int .i64 (x.a : Int)) := by rw [hW5]; simp [go_sem]
              clear hW5 hE5
              have HOKX : Hid (okK M x = true) := by unfold Hid okK okFld; rw [HRW.out, HFT.out, HAG.out]; rfl
              have dC := HE5.out.cell_ (hE.out.cell_ HM.out.cards)
              have dD := HE5.out.cell_ (hE.out.cell_ HM.out.card)
              have dH := HE5.out.cell_ d0
              have hcc1 := HSH.out.c1
              have hcc2 := HSH.out.c2
              have hoo2 := HSH.out.o2
              have hcl : M.cards.length ≤ 9223372036854775807 := HM.out.ok.lenC
              have hccap := HM.out.capC
              clear c0 c1 c2 c3 d0 d3
              go_loopw [5, 10] (fun c j wq => ∃ (jn : Nat) (q2 : Bool), jn ≤ x.n ∧ j = .int .i64 (jn : Int) ∧ c = .bool q2 ∧ Hid (q2 = (q && cardsK M x jn)) ∧ Hid (Ext W5 wq)) (fun _ j _ => x.n - (intOf j).toNat)
              case atStart => exact ⟨0, q, Nat.zero_le _, rfl, rfl, Lib.hid (by simp [cardsK]), Ext.refl W5⟩
              case round =>
                obtain ⟨jn, q2, hjn, rfl, rfl, hQ2, hX⟩ := hrel
                by_cases hjl : jn < x.n
                · have hwq : Ext w wr := Ext.trans_ (Ext.trans_ hE.out HE5.out) hX.out
                  obtain ⟨ab, ao, hAe, hcell⟩ := HRA.out wr hwq jn _ (wcells_at (flds M x) jn (by rw [flds_len]; exact hjl))
                  rw [flds_at M x jn hjl] at hcell
                  have hin := wat_in HM.out.ok (x.a + 1 + jn)
                  have HYP := Lib.hid (young_pts M HSH.out _ hin.1 (fld_of HFT.out jn hjl))
                  have HCR : Hid (crd M x jn = !(youngB M (wat M.W (x.a + 1 + jn)) && !cardB M ((x.a : Int) + 1 + jn))) := by unfold Hid crd; rw [HO.out, Bool.true_and]
                  obtain ⟨J, hJ1, hJ2, hJ3⟩ := card_idx HSH.out ((x.a : Int) + 1 + jn) (by omega) (by have := hx3 ho; omega)
                  obtain ⟨cb, co, hCe, hccell⟩ := HM.out.rC J _ (bcells_at M.cards J hJ2)
                  have HJ3 := Lib.hid hJ3
                  have HP := fun W => points_any (wat M.W (x.a + 1 + jn)) hin.1 hin.2 W
                  generalize ptsW (wat M.W (x.a + 1 + jn)) = P at *
                  generalize wat M.W (x.a + 1 + jn) = v at *
                  rw [hJ3] at HCR
                  generalize hcq : M.cards.getD J false = cq at *
                  have HPT := Lib.hid HP
                  subst hAe
                  have yy0 := hX.out.cell_ y0
                  have yC := hX.out.cell_ dC
                  rw [hCe] at yC
                  have yD := hX.out.cell_ dD
                  have yH := hX.out.cell_ dH
                  have hcc := hwq.cell_ hccell
                  have hjz : (jn : Int) < (x.n : Int) := by omega
                  have hJz : (J : Int) < (M.cards.length : Int) := by omega
                  have hb1 : (x.a : Int) + 1 + jn - 2 * M.half ≤ 196608 := by omega
                  have hb0 : 0 ≤ (x.a : Int) + 1 + jn - 2 * M.half := by omega
                  have hne1 : (M.card == 0) = false := by simp; omega
                  have hne2 : ¬ M.card = 0 := by omega
                  have HJ1 := Lib.hid hJ1
                  clear hJ1 hJ2 hJ3 hCe hccell HP hcq hin
                  by_cases hP0 : 0 ≤ P
                  · by_cases hP1 : P < 2 * M.half
                    · have HYT : Hid (youngB M v = true) := by rw [Hid, HYP.out, decide_eq_true hP0, decide_eq_true hP1]; rfl
                      cases cq with
                      | true =>
                        have HCRD : Hid (crd M x jn = true) := by rw [Hid, HCR.out, HYT.out]; rfl
                        go_wp2_with (go_at_call 28; refine (HPT.out _).mono ?_; rintro e w' ⟨rfl, rfl⟩)
                        have e3 : IntKind.i64.wrap ((x.a : Int) + 1) = (x.a : Int) + 1 := IntWalk.i64_in _ (by omega)
                        have e4 : IntKind.i64.wrap ((x.a : Int) + 1 + (jn : Int)) = (x.a : Int) + 1 + (jn : Int) := IntWalk.i64_in _ (by omega)
                        have e6 : IntKind.i64.wrap ((x.a : Int) + 1 + (jn : Int) - 2 * M.half) = (x.a : Int) + 1 + (jn : Int) - 2 * M.half := IntWalk.i64_in _ (by omega)
                        have e7 : IntKind.i64.wrap (J : Int) = (J : Int) := IntWalk.i64_in _ (by omega)
                        have e8 := HJ1.out
                        go_quiet (fail)
                        clear e3 e4 e6 e7 e8
                        go_wp2
                        go_roundw
                        case rel => exact ⟨jn + 1, q2, by omega, by go_num, rfl, Lib.hid (by rw [cardsK_succ, ← Bool.and_assoc, ← hQ2.out, HCRD.out, Bool.and_true]), by repeat (first | exact hX.out | (refine Ext.drew_ ?_) | (refine Ext.drewN_ ?_ _))⟩
                        case measure => simp [intOf]; omega
                      | false =>
                        have HCRD : Hid (crd M x jn = false) := by rw [Hid, HCR.out, HYT.out]; rfl
                        go_wp2_with (go_at_call 28; refine (HPT.out _).mono ?_; rintro e w' ⟨rfl, rfl⟩)
                        have e3 : IntKind.i64.wrap ((x.a : Int) + 1) = (x.a : Int) + 1 := IntWalk.i64_in _ (by omega)
                        have e4 : IntKind.i64.wrap ((x.a : Int) + 1 + (jn : Int)) = (x.a : Int) + 1 + (jn : Int) := IntWalk.i64_in _ (by omega)
                        have e6 : IntKind.i64.wrap ((x.a : Int) + 1 + (jn : Int) - 2 * M.half) = (x.a : Int) + 1 + (jn : Int) - 2 * M.half := IntWalk.i64_in _ (by omega)
                        have e7 : IntKind.i64.wrap (J : Int) = (J : Int) := IntWalk.i64_in _ (by omega)
                        have e8 := HJ1.out
                        go_quiet (fail)
                        clear e3 e4 e6 e7 e8
                        go_wp2
                        go_roundw
                        case rel => exact ⟨jn + 1, false, by omega, by go_num, rfl, Lib.hid (by rw [cardsK_succ, HCRD.out]; simp), by repeat (first | exact hX.out | (refine Ext.drew_ ?_) | (refine Ext.drewN_ ?_ _))⟩
                        case measure => simp [intOf]; omega
                    · have HCRD : Hid (crd M x jn = true) := by rw [Hid, HCR.out, HYP.out, decide_eq_false hP1, Bool.and_false]; rfl
                      have b1 : decide (0 ≤ P) = true := decide_eq_true hP0
                      have b2 : decide (P < 2 * M.half) = false := decide_eq_false hP1
                      go_wp2_with (go_at_call 28; refine (HPT.out _).mono ?_; rintro e w' ⟨rfl, rfl⟩)
                      go_quiet (fail)
                      skip
                      go_wp2
                      go_roundw
                      case rel => exact ⟨jn + 1, q2, by omega, by go_num, rfl, Lib.hid (by rw [cardsK_succ, ← Bool.and_assoc, ← hQ2.out, HCRD.out, Bool.and_true]), by repeat (first | exact hX.out | (refine Ext.drew_ ?_) | (refine Ext.drewN_ ?_ _))⟩
                      case measure => simp [intOf]; omega
                  · have HCRD : Hid (crd M x jn = true) := by rw [Hid, HCR.out, HYP.out, decide_eq_false hP0]; rfl
                    have b1 : decide (0 ≤ P) = false := decide_eq_false hP0
                    go_wp2_with (go_at_call 28; refine (HPT.out _).mono ?_; rintro e w' ⟨rfl, rfl⟩)
                    go_quiet (fail)
                    skip
                    go_wp2
                    go_roundw
                    case rel => exact ⟨jn + 1, q2, by omega, by go_num, rfl, Lib.hid (by rw [cardsK_succ, ← Bool.and_assoc, ← hQ2.out, HCRD.out, Bool.and_true]), by repeat (first | exact hX.out | (refine Ext.drew_ ?_) | (refine Ext.drewN_ ?_ _))⟩
                    case measure => simp [intOf]; omega
                · have hjz : ¬ (jn : Int) < (x.n : Int) := by omega
                  obtain rfl : jn = x.n := by omega
                  have HCD : Hid (cardsO M x = cardsK M x x.n) := by unfold Hid; rw [cardsO_fld HRW.out]
                  go_wp2
                  go_roundw
                  case rel => exact ⟨k + 1, q2, by omega, by go_num, rfl, Lib.hid (by rw [HD.out, List.all_append, ← hQ.out, hQ2.out]; simp [HCD.out]), Lib.hid (by rw [HD.out, List.all_append, hA.out]; simp [HOKX.out]), Ext.trans_ (Ext.trans_ hE.out HE5.out) hX.out, Ext.trans_ (Ext.trans_ hE2.out HE5.out) hX.out⟩
                  case measure => simp [intOf]; omega
      · have ho' : decide (2 * M.half ≤ (x.a : Int)) = false := decide_eq_false ho
        have HO : Hid (oldB M (x.a : Int) = false) := ho'
        have HAG : Hid (ageB M x = true) := ageB_new HO.out
        cases hraw : decide (hKind x.w < 8) with
        | true =>
          have HRW : Hid (rawB (hKind x.w) = true) := hraw
          go_wp2
          go_quiet (fail)
          go_wp2
          go_roundw
          case rel => exact ⟨k + 1, q, by omega, by go_num, rfl, Lib.hid (by rw [HD.out, List.all_append, ← hQ.out]; simp [cardsO_raw HRW.out]), Lib.hid (by rw [HD.out, List.all_append, hA.out]; simp [okK, HAG.out, okFld_raw HRW.out]), by repeat (first | exact hE.out | (refine Ext.drew_ ?_) | (refine Ext.drewN_ ?_ _) | (refine Ext.alloc_ ?_ _)), by repeat (first | exact hE2.out | (refine Ext.drew_ ?_) | (refine Ext.drewN_ ?_ _) | (refine Ext.alloc_ ?_ _))⟩
          case measure => simp [intOf]; omega
        | false =>
          have HRW : Hid (rawB (hKind x.w) = false) := hraw
          have d3 := hE.out.cell_ c_W
          go_wp2
          go_quiet (fail)
          go_wp2
          obtain ⟨A, C, hsl, hAC, hAn, hRA⟩ := run_part (P := Tryz.prog) undU64 sizeU64 wb wo M.W.length S.W.2 (x.a + 1) (x.a + 1 + x.n) ((x.a : Int) + 1) ((x.a : Int) + 1 + hSize x.w) (by omega) (by omega) (by omega) (by omega)
          have HRA : Hid (∀ W, Ext w W → RSl W A (wcells (flds M x))) := fun W hW => by
            have := hRA W _ (HWA.out ▸ (HM.out.ext hW).rW)
            rw [flds_cells M x (by omega)] at this
            exact this
          rw [show x.a + 1 + x.n - (x.a + 1) = x.n by omega] at hsl hAC
          clear hRA
          have hc1 : (x.a : Int) + 1 + hSize x.w ≤ (S.W.2 : Int) := by omega
          have hc2 : (0 : Int) ≤ (x.a : Int) + 1 := by omega
          have hc3 : (x.a : Int) + 1 ≤ (x.a : Int) + 1 + hSize x.w := by omega
          have hcall := fieldsOK_any A C (flds M x) (by rw [flds_len]; omega) (fun z hz => flds_in HM.out.ok x z hz) (some ⟨ob, oo, none⟩) lc l
          rw [flds_len] at hcall
          have HCALL := Lib.hid hcall
          clear hcall
          have e1 : IntKind.i64.wrap ((x.a : Int) + 1) = (x.a : Int) + 1 := IntWalk.i64_in _ (by omega)
          have e2 : IntKind.i64.wrap ((x.a : Int) + 1 + hSize x.w) = (x.a : Int) + 1 + hSize x.w := IntWalk.i64_in _ (by omega)
          go_quiet (fail)
          clear e1 e2 hsl
          go_wp2_with fail
          refine (HCALL.out _ HLL.out (HRA.out _ (by repeat (first | exact hE.out | (refine Ext.drew_ ?_) | (refine Ext.drewN_ ?_ _) | (refine Ext.alloc_ ?_ _)))) (HLR.out.ext (by repeat (first | exact hE2.out | (refine Ext.drew_ ?_) | (refine Ext.drewN_ ?_ _) | (refine Ext.alloc_ ?_ _)))) HLT.out).mono ?_
          rintro e w' ⟨he, hw9⟩
          have hw9 := hw9.symm
          subst hw9
          rw [HATS.out] at he
          cases hf : fieldsB (startsM M) (flds M x) with
          | false =>
            have HFF := Lib.hid hf
            rw [hf] at he
            subst he
            clear hf
            go_wp2
            go_ret
            refine ⟨?_, by repeat (first | exact hE.out | (refine Ext.drew_ ?_) | (refine Ext.drewN_ ?_ _) | (refine Ext.alloc_ ?_ _))⟩
            have hf : l.all (okK M) = false := all_take_false HMEM.out (by unfold okK okFld; rw [HRW.out, HFF.out, HAG.out]; rfl)
            rw [HCHK.out, hf]; rfl
          | true =>
            have HFT := Lib.hid hf
            rw [hf] at he
            subst he
            clear hf
            go_wp2
            refine named_world' (fun W5 hW5 => ?_)
            have hE5 : Ext wr W5 := by rw [hW5]; repeat (first | exact Ext.refl _ | (refine Ext.drew_ ?_) | (refine Ext.drewN_ ?_ _) | (refine Ext.alloc_ ?_ _))
            have HE5 := Lib.hid hE5
            have y0 : W5.cell? ⟨wr.heap.size, 0, none⟩ = some (.int .i64 (x.a : Int)) := by rw [hW5]; simp [go_sem]
            clear hW5 hE5
            have HOKX : Hid (okK M x = true) := by unfold Hid okK okFld; rw [HRW.out, HFT.out, HAG.out]; rfl
            have HCD : Hid (cardsO M x = true) := by unfold Hid; rw [cardsO_fld HRW.out]; exact cardsK_new HO.out _
            go_loopw [5, 10] (fun c j wq => c = .bool q ∧ j = .int .i64 0 ∧ Hid (Ext W5 wq)) (fun _ _ _ => 0)
            case atStart => exact ⟨rfl, rfl, Ext.refl W5⟩
            case round =>
              obtain ⟨rfl, rfl, hX⟩ := hrel
              by_cases hn0 : (0 : Int) < (x.n : Int)
              · go_wp2
                go_roundw
                case rel => exact ⟨k + 1, q, by omega, by go_num, rfl, Lib.hid (by rw [HD.out, List.all_append, ← hQ.out]; simp [HCD.out]), Lib.hid (by rw [HD.out, List.all_append, hA.out]; simp [HOKX.out]), Ext.trans_ (Ext.trans_ hE.out HE5.out) hX.out, Ext.trans_ (Ext.trans_ hE2.out HE5.out) hX.out⟩
                case measure => simp [intOf]; omega
              · go_wp2
                go_roundw
                case rel => exact ⟨k + 1, q, by omega, by go_num, rfl, Lib.hid (by rw [HD.out, List.all_append, ← hQ.out]; simp [HCD.out]), Lib.hid (by rw [HD.out, List.all_append, hA.out]; simp [HOKX.out]), Ext.trans_ (Ext.trans_ hE.out HE5.out) hX.out, Ext.trans_ (Ext.trans_ hE2.out HE5.out) hX.out⟩
                case measure => simp [intOf]; omega
    · obtain rfl : k = l.length := by omega
      have hltz : ¬ (l.length : Int) < (l.length : Int) := by omega
      have HALL : Hid (l.all (okK M) = true) := by have := hA.out; rw [List.take_length] at this; exact this
      have HQC : Hid (q = cardsM M) := by rw [Hid, hQ.out, List.take_length]; unfold cardsM; rw [← HL.out]
      have HI := Lib.hid HM.out.rI
      have cI := HM.out.ids
      have hicap := HM.out.capI
      have hil : M.ids.length ≤ 9223372036854775807 := HM.out.ok.lenI
      clear hlt d0 hQ hA
      go_wp2
      go_loopw [12] (fun i wr => ∃ (k : Nat), k ≤ M.ids.length ∧ i = .int .i64 (k : Int) ∧ Hid (∀ j (hj : j < M.ids.length), j < k → idK (startsM M) (M.ids.take j) M.ids[j] = true) ∧ Hid (Ext w wr) ∧ Hid (Ext w2 wr)) (fun i _ => M.ids.length - (intOf i).toNat)
      case atStart => exact ⟨0, Nat.zero_le _, rfl, Lib.hid (fun j _ hj => absurd hj (Nat.not_lt_zero _)), hE, hE2⟩
      case round =>
        obtain ⟨k, hk, rfl, hI, hE, hE2⟩ := hrel
        have yI := hE.out.cell_ cI
        by_cases hlt : k < M.ids.length
        · obtain ⟨p1, p2⟩ := icells_at M.ids k hlt
          obtain ⟨ib, io, hIa, hc1⟩ := HI.out _ _ p1
          have hc2 := (hIa ▸ HI.out).at_ p2
          rw [← Nat.add_assoc] at hc2
          replace hc1 := hE.out.cell_ hc1
          replace hc2 := hE.out.cell_ hc2
          rw [hIa] at yI
          have HIA := Lib.hid hIa
          have HKL := Lib.hid hlt
          obtain ⟨⟨hb0, hb1⟩, -⟩ := HM.out.ok.ids M.ids[k] (List.getElem_mem hlt)
          generalize hx : M.ids[k] = x at hc1 hc2 hb0 hb1
          obtain ⟨x1, x2⟩ := x
          have HXX := Lib.hid hx.symm
          simp only at hc1 hc2 hb0 hb1
          have HP := fun W => points_any x1 hb0 hb1 W
          have HPE : Hid (∃ P, P = ptsW x1) := ⟨_, rfl⟩
          obtain ⟨P, hP⟩ := HPE.out
          rw [← hP] at HP
          have HPT := Lib.hid HP
          have HPQ := Lib.hid hP
          have HOA := Lib.hid (fun W hR => objectAt_any la lc l P W HLL.out hR)
          have HON : Hid (decide (0 ≤ objAt l P) = inSt (startsM M) P) := by rw [Hid, objAt_nonneg]; rw [← HATS.out]; rfl
          have hltz : (k : Int) < (M.ids.length : Int) := by omega
          have hzb : ib < wr.heap.size := cell_lt hc1
          have hzo : b < wr.heap.size := by have := hE.out.size; omega
          clear p1 p2 hIa hx HP hP HPE
          by_cases q1 : P < 0
          · go_wp2_with (go_at_call 28; refine (HPT.out _).mono ?_; rintro e w' ⟨rfl, hw9⟩; have hw9 := hw9.symm; subst hw9)
            go_ret
            refine ⟨?_, by repeat (first | exact hE.out | (refine Ext.drew_ ?_) | (refine Ext.drewN_ ?_ _) | (refine Ext.alloc_ ?_ _))⟩
            rw [HCHK.out, HALL.out, ids_bad HSH.out HM.out.ok k HKL.out (by have key := idK_a (st := startsM M) (pre := M.ids.take k) (x := (x1, x2)) (by show ptsW x1 < 0; rw [← HPQ.out]; exact q1); rw [HXX.out] at key; exact key)]; rfl
          · by_cases q2 : objAt l P < 0
            · go_wp2_with (first
                | (go_at_call 28; refine (HPT.out _).mono ?_; rintro e w' ⟨rfl, hw9⟩; have hw9 := hw9.symm; subst hw9)
                | (go_at_call 29; refine (HOA.out _ (HLR.out.ext (by repeat (first | exact hE2.out | (refine Ext.drew_ ?_) | (refine Ext.drewN_ ?_ _) | (refine Ext.alloc_ ?_ _))))).mono ?_; rintro e w' ⟨rfl, hw9⟩; have hw9 := hw9.symm; subst hw9))
              go_ret
              refine ⟨?_, by repeat (first | exact hE.out | (refine Ext.drew_ ?_) | (refine Ext.drewN_ ?_ _) | (refine Ext.alloc_ ?_ _))⟩
              rw [HCHK.out, HALL.out, ids_bad HSH.out HM.out.ok k HKL.out (by have key := idK_b (st := startsM M) (pre := M.ids.take k) (x := (x1, x2)) (by show inSt (startsM M) (ptsW x1) = false; rw [← HPQ.out, ← HON.out]; exact decide_eq_false (by omega)); rw [HXX.out] at key; exact key)]; rfl
            · by_cases q3 : x2 < 1
              · go_wp2_with (first
                  | (go_at_call 28; refine (HPT.out _).mono ?_; rintro e w' ⟨rfl, hw9⟩; have hw9 := hw9.symm; subst hw9)
                  | (go_at_call 29; refine (HOA.out _ (HLR.out.ext (by repeat (first | exact hE2.out | (refine Ext.drew_ ?_) | (refine Ext.drewN_ ?_ _) | (refine Ext.alloc_ ?_ _))))).mono ?_; rintro e w' ⟨rfl, hw9⟩; have hw9 := hw9.symm; subst hw9))
                go_ret
                refine ⟨?_, by repeat (first | exact hE.out | (refine Ext.drew_ ?_) | (refine Ext.drewN_ ?_ _) | (refine Ext.alloc_ ?_ _))⟩
                rw [HCHK.out, HALL.out, ids_bad HSH.out HM.out.ok k HKL.out (by have key := idK_c (st := startsM M) (pre := M.ids.take k) (x := (x1, x2)) q3; rw [HXX.out] at key; exact key)]; rfl
              · go_wp2_with (first
                  | (go_at_call 28; refine (HPT.out _).mono ?_; rintro e w' ⟨rfl, hw9⟩; have hw9 := hw9.symm; subst hw9)
                  | (go_at_call 29; refine (HOA.out _ (HLR.out.ext (by repeat (first | exact hE2.out | (refine Ext.drew_ ?_) | (refine Ext.drewN_ ?_ _) | (refine Ext.alloc_ ?_ _))))).mono ?_; rintro e w' ⟨rfl, hw9⟩; have hw9 := hw9.symm; subst hw9))
                refine named_world' (fun W5 hW5 => ?_)
                have hE5 : Ext wr W5 := by rw [hW5]; repeat (first | exact Ext.refl _ | (refine Ext.drew_ ?_) | (refine Ext.drewN_ ?_ _) | (refine Ext.alloc_ ?_ _))
                have HE5 := Lib.hid hE5
                have y0 : W5.cell? ⟨wr.heap.size, 0, none⟩ = some (.int .u64 x1) := by rw [hW5]; simp [go_sem]
                have y1 : W5.cell? ⟨wr.heap.size, 1, none⟩ = some (.int .i64 x2) := by rw [hW5]; simp [go_sem]
                have vI := hE5.cell_ yI
                have HOK3 : Hid (inSt (startsM M) (ptsW x1) = true) := by rw [Hid, ← HPQ.out, ← HON.out]; exact decide_eq_true (by omega)
                have HOK1 : Hid (¬ ptsW x1 < 0) := by rw [Hid, ← HPQ.out]; omega
                clear hW5 hE5 hc1 hc2 yI
                go_loopw [15] (fun j wr => ∃ (jn : Nat), jn ≤ k ∧ j = .int .i64 (jn : Int) ∧ Hid (∀ i (hi : i < M.ids.length), i < jn → twoB M.ids[i] (x1, x2) = false) ∧ Hid (Ext W5 wr)) (fun j _ => k - (intOf j).toNat)
                case atStart => exact ⟨0, Nat.zero_le _, rfl, Lib.hid (fun j _ hj => absurd hj (Nat.not_lt_zero _)), Ext.refl W5⟩
                case round =>
                  obtain ⟨jn, hjn, rfl, hJ, hX⟩ := hrel
                  by_cases hjl : jn < k
                  · have hjl2 : jn < M.ids.length := by omega
                    obtain ⟨p1, p2⟩ := icells_at M.ids jn hjl2
                    have hc1 := (HIA.out ▸ HI.out).at_ p1
                    have hc2 := (HIA.out ▸ HI.out).at_ p2
                    rw [← Nat.add_assoc] at hc2
                    replace hc1 := hX.out.cell_ (HE5.out.cell_ (hE.out.cell_ hc1))
                    replace hc2 := hX.out.cell_ (HE5.out.cell_ (hE.out.cell_ hc2))
                    have zI := hX.out.cell_ vI
                    have z0 := hX.out.cell_ y0
                    have z1 := hX.out.cell_ y1
                    have hjz : (jn : Int) < (k : Int) := by omega
                    have hjz2 : (jn : Int) < (M.ids.length : Int) := by omega
                    have HJL := Lib.hid hjl2
                    generalize hy : M.ids[jn] = y at hc1 hc2
                    obtain ⟨v1, v2⟩ := y
                    have HYY := Lib.hid hy.symm
                    simp only at hc1 hc2
                    clear p1 p2 hy
                    cases r1 : (v1 == x1) with
                    | true =>
                      have HTW : Hid (twoB (v1, v2) (x1, x2) = true) := by unfold Hid twoB; simp only; rw [r1]; rfl
                      go_wp2
                      go_quiet (fail)
                      go_wp2
                      go_ret
                      refine ⟨?_, Ext.trans_ (Ext.trans_ hE.out HE5.out) (by repeat (first | exact hX.out | (refine Ext.drew_ ?_) | (refine Ext.drewN_ ?_ _) | (refine Ext.alloc_ ?_ _)))⟩
                      rw [HCHK.out, HALL.out, ids_bad HSH.out HM.out.ok k HKL.out (by have key := idK_d (st := startsM M) (pre := M.ids.take k) (x := (x1, x2)) (y := (v1, v2)) (by rw [HYY.out, List.mem_iff_getElem]; exact ⟨jn, by simp; omega, by rw [List.getElem_take]; rfl⟩) HTW.out; rw [HXX.out] at key; exact key)]; rfl
                    | false =>
                      cases r2 : (v2 == x2) with
                      | true =>
                        have HTW : Hid (twoB (v1, v2) (x1, x2) = true) := by unfold Hid twoB; simp only; rw [r1, r2]; rfl
                        go_wp2
                        go_quiet (fail)
                        go_wp2
                        go_ret
                        refine ⟨?_, Ext.trans_ (Ext.trans_ hE.out HE5.out) (by repeat (first | exact hX.out | (refine Ext.drew_ ?_) | (refine Ext.drewN_ ?_ _) | (refine Ext.alloc_ ?_ _)))⟩
                        rw [HCHK.out, HALL.out, ids_bad HSH.out HM.out.ok k HKL.out (by have key := idK_d (st := startsM M) (pre := M.ids.take k) (x := (x1, x2)) (y := (v1, v2)) (by rw [HYY.out, List.mem_iff_getElem]; exact ⟨jn, by simp; omega, by rw [List.getElem_take]; rfl⟩) HTW.out; rw [HXX.out] at key; exact key)]; rfl
                      | false =>
                        have HTW : Hid (twoB (v1, v2) (x1, x2) = false) := by unfold Hid twoB; simp only; rw [r1, r2]; rfl
                        go_wp2
                        go_quiet (fail)
                        go_wp2
                        go_roundw
                        case rel => exact ⟨jn + 1, by omega, by go_num, Lib.hid (fun i hi hij => by
                          by_cases e : i = jn
                          · subst e; have key := HTW.out; rw [HYY.out] at key; exact key
                          · exact hJ.out i hi (by omega)), by repeat (first | exact hX.out | (refine Ext.drew_ ?_) | (refine Ext.drewN_ ?_ _) | (refine Ext.alloc_ ?_ _))⟩
                        case measure => simp [intOf]; omega
                  · have hjz : ¬ (jn : Int) < (k : Int) := by omega
                    obtain rfl : jn = k := by omega
                    go_wp2
                    go_roundw
                    case rel => exact ⟨jn + 1, by have := HKL.out; omega, by go_num, Lib.hid (fun i hi hij => by
                      by_cases e : i = jn
                      · subst e; have key := idK_yes (pre := M.ids.take i) (x := (x1, x2)) HOK1.out HOK3.out (by show ¬ x2 < 1; omega) (fun i2 hi2 => by rw [List.getElem_take]; exact hJ.out i2 _ (by have := hi2; simp at this; omega)); rw [HXX.out] at key; exact key
                      · exact hI.out i hi (by omega)), Ext.trans_ (Ext.trans_ hE.out HE5.out) hX.out, Ext.trans_ (Ext.trans_ hE2.out HE5.out) hX.out⟩
                    case measure => have := HKL.out; simp [intOf]; omega
        · obtain rfl : k = M.ids.length := by omega
          have hltz : ¬ (M.ids.length : Int) < (M.ids.length : Int) := by omega
          have HIG : Hid (idsB (startsM M) [] M.ids = true) := Lib.hid (ids_good HSH.out HM.out.ok (fun j hj => hI.out j hj hj))
          cases q with
          | true =>
            go_wp2
            go_ret
            exact ⟨by rw [HCHK.out, HALL.out, HIG.out, ← HQC.out]; rfl, hE.out⟩
          | false =>
            go_wp2
            go_ret
            exact ⟨by rw [HCHK.out, HALL.out, HIG.out, ← HQC.out]; rfl, hE.out⟩
end Go.Proofs.YtecbbbaafcoliaaGreatDoor
