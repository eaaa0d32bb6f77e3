/- The walk of the document's GraphOf. -/
import Derived.Test.YtecbbbaafcoliaaGreatDoorJYa28
import Derived.Test.YtecbbbaafcoliaaGreatDoorJYa29
import Derived.Test.YtecbbbaafcoliaaGreatDoorJYa39
import Derived.Deep.LoopGhost
import Derived.Deep.RegionHeld3
import Derived.Test.YtecbbbaafcoliaaGreatDoorJYa19
import Derived.Test.YtecbbbaafcoliaaGreatDoorJYa36
namespace Go.Proofs.YtecbbbaafcoliaaGreatDoor
open Go.RowKit
set_option linter.unusedVariables false
set_option linter.unusedSimpArgs false

theorem lit_size (l : Array UInt8) : (⟨l⟩ : ByteArray).size = l.size := rfl
theorem rootS_size (l : List Ob) (out : ByteArray) (u : Int) : (rootS l out u).size ≤ out.size + 40 := by
  have := toldS_size u l
  unfold rootS
  simp only [ByteArray.size_append, lit_size]
  simp; omega
theorem weakS_size (l : List Ob) (out : ByteArray) (u : Int) : (weakS l out u).size ≤ out.size + 40 := by
  have := toldS_size u l
  unfold weakS
  simp only [ByteArray.size_append, lit_size]
  simp; omega
theorem fieldS_size (l : List Ob) (kind : Int) (out : ByteArray) (u : Int) : (fieldS l kind out u).size ≤ out.size + 40 := by
  have := toldS_size u l
  have := hexS_size u
  unfold fieldS
  split
  · simp only [ByteArray.size_append, lit_size]
    simp; omega
  · simp only [ByteArray.size_append, lit_size]
    simp; omega
theorem headS_size (i : Nat) (kind : Int) (out : ByteArray) : (headS i kind out).size ≤ out.size + 50 := by
  have := decS_size (i : Int)
  have := decS_size kind
  unfold headS
  simp only [ByteArray.size_append, lit_size]
  simp; omega
theorem idLine_size (l : List Ob) (x : Int × Int) (out : ByteArray) : (idLine l x out).size ≤ out.size + 60 := by
  have := decS_size x.2
  have := decS_size (objAt l (ptsW x.1))
  unfold idLine
  split
  · simp only [ByteArray.size_append, lit_size]
    simp; omega
  · omega
theorem foldl_snoc {α : Type} (g : ByteArray → α → ByteArray) (out : ByteArray) (us : List α) (k : Nat) (hk : k < us.length) : (us.take (k + 1)).foldl g out = g ((us.take k).foldl g out) us[k] := by
  rw [List.take_add_one, List.getElem?_eq_getElem hk, List.foldl_append]; rfl
def GraphPost (w : World) (M : Mem) (e : Ending) (w' : World) : Prop := e = .returned (.tuple #[.string (graphS M), .string (moreS M)]) ∧ Ext w w'
set_option maxRecDepth 100000 in
set_option maxHeartbeats 16000000 in
theorem graph_walk (b o : Nat) (M : Mem) (S : Sls) (w : World) (hM : RMem w b o M S) (hg : goodB M = true) (hF : Few M) :
    Calls Tryz.prog 14 #[.pointer (some ⟨b, o, none⟩)] w (GraphPost w M) := by
  obtain ⟨hs, hob, hro, hwk, hfo, hid⟩ := good_parts hg
  have hlr := (reachP_gath hg).len
  have hlo := objs_len hs
  have hlM := len_small hs
  have hrl : (reachP M).length ≤ 196608 := by omega
  have hwrd : ∀ l : List Int, fieldsB (startsM M) l = true → ∀ k, k < l.length → (l.getD k 0) % 4 = 2 → (l.getD k 0) / 4 ≤ 2 := fun l hl k hk h2 => by
    unfold fieldsB at hl
    rw [List.all_eq_true] at hl
    have h := getD_in (P := fun x => fldB (startsM M) x = true) hl hk
    unfold fldB kindW at h
    rw [if_neg (by omega), if_neg (by omega), if_pos h2] at h
    exact of_decide_eq_true h
  have HRO := Lib.hid (hwrd M.roots hro)
  have HWK := Lib.hid (hwrd M.weak hwk)
  have HRB : Hid (∀ k, k < M.roots.length → 0 ≤ M.roots.getD k 0 ∧ M.roots.getD k 0 ≤ 18446744073709551615) := fun k hk => getD_in (P := fun x => 0 ≤ x ∧ x ≤ 18446744073709551615) hM.ok.roots hk
  have HWB : Hid (∀ k, k < M.weak.length → 0 ≤ M.weak.getD k 0 ∧ M.weak.getD k 0 ≤ 18446744073709551615) := fun k hk => getD_in (P := fun x => 0 ≤ x ∧ x ≤ 18446744073709551615) hM.ok.weak hk
  have HMEM : Hid (∀ x ∈ reachP M, x ∈ objsAll M) := fun x hx => (reachP_gath hg).mem x hx
  have hRl := hF.R
  have hKl := hF.K
  have hIl := hF.I
  have HM := Lib.hid hM
  have HG := Lib.hid hg
  have HS := Lib.hid hs
  have HFO := Lib.hid hfo
  clear hM hg hs hob hro hwk hfo hid hF hwrd hlr hlo hlM
  go_enter Tryz.func14, Tryz.ntmps14
  go_wp2_with (go_at_call 42; refine (reached_walk b o M S _ HM.out HG.out).mono ?_; rintro e w1 ⟨la, lc, rfl, hO, hE⟩; have HL := Lib.hid (own_rsl hO); have HE1 := Lib.hid hE; clear hO hE)
  obtain ⟨l, hl⟩ : ∃ l, l = reachP M := ⟨_, rfl⟩
  rw [← hl] at HL HMEM hrl ⊢
  have HLL := Lib.hid hl
  clear hl
  go_loopg [6, 5] (M.roots.length) (fun r i out wr => ∃ (k : Nat) (s : ByteArray), k + r = M.roots.length ∧ i = .int .i64 (k : Int) ∧ out = .string s ∧ s.size ≤ 40 * k ∧ Hid (s = rootsS l (M.roots.take k) ⟨#[]⟩) ∧ Hid (Ext w1 wr))
  case atStart => exact ⟨0, _, by omega, rfl, rfl, Nat.le_refl _, rfl, Ext.refl _⟩
  case round =>
    obtain ⟨k, s, hk, rfl, rfl, hsz, hs, hE⟩ := hrel
    have hMr : RMem wr b o M S := HM.out.ext (HE1.out.trans_ hE.out)
    have c_R := hMr.roots
    cases gk with
    | succ r =>
      have hlt : k < M.roots.length := by omega
      have hltz : (k : Int) < (M.roots.length : Int) := by omega
      obtain ⟨rb, ro, hRa, hc⟩ := hMr.rR k _ (wcells_at M.roots k hlt)
      rw [hRa] at c_R
      obtain ⟨hu2, hu3⟩ := HRB.out k hlt
      have hu1 := HRO.out k hlt
      have hsn := foldl_snoc (rootS l) ⟨#[]⟩ M.roots k hlt
      have hgd : M.roots[k] = M.roots.getD k 0 := by rw [List.getD_eq_getElem?_getD, List.getElem?_eq_getElem hlt]; rfl
      rw [hgd] at hsn
      generalize M.roots.getD k 0 = u at *
      have ht := toldS_size u l
      have hrs := rootS_size l s u
      have HU := Lib.hid hu1
      have HSN := Lib.hid hsn
      have HK2 := Lib.hid hk
      clear hMr hRa hu1 hsn hgd hk hlt
      go_wp2_with (go_at_call 43; refine (told_any u hu2 hu3 HU.out la lc l _ (by omega) (HL.out.ext hE.out)).mono ?_; rintro e w2 ⟨rfl, hq⟩; have HX2 := Lib.hid hq; clear hq)
      go_roundg r
      case measure => omega
      case rel =>
        refine ⟨k + 1, rootS l s u, (by have := HK2.out; omega), (by go_num), rfl, (by omega), ?_, hE.out.trans_ HX2.out⟩
        show _ = _
        unfold rootsS at hs ⊢
        rw [HSN.out, ← hs.out]
    | zero =>
      obtain rfl : k = M.roots.length := by omega
      have hltz : ¬ ((M.roots.length : Nat) : Int) < (M.roots.length : Int) := by omega
      have hs' : s = rootsS l M.roots ⟨#[]⟩ := by have := hs.out; rw [List.take_length] at this; exact this
      have HS1 := Lib.hid hs'
      clear hs hs' hk
      go_wp2
      obtain ⟨wA, rfl⟩ : ∃ x, x = wr := ⟨wr, rfl⟩
      have HEA : Hid (Ext w1 wA) := hE.out
      have HG0 : Hid (objsS M.W l (0) (l.drop 0) s = graphS M) := by
        unfold Hid graphS
        rw [← HLL.out, List.drop_zero, HS1.out]
      have HL0 : Hid (l.length ≤ 196608) := hrl
      have hsz0 : s.size ≤ 40000000 := by omega
      clear hE hMr c_R hltz hsz HS1
      go_loopg [7, 5] (l.length) (fun r i out wr => ∃ (k : Nat) (s : ByteArray), k + r = l.length ∧ i = .int .i64 (k : Int) ∧ out = .string s ∧ s.size ≤ 40000000 + 200000 * k ∧ Hid (objsS M.W l k (l.drop k) s = graphS M) ∧ Hid (Ext w1 wr))
      case atStart => exact ⟨0, s, by omega, rfl, rfl, by omega, HG0, HEA⟩
      case round =>
        clear HG0 hsz0
        obtain ⟨k, s, hk, rfl, rfl, hsz, hs, hE⟩ := hrel
        cases gk with
        | succ r =>
          have hlt : k < l.length := by omega
          have hltz : (k : Int) < (l.length : Int) := by omega
          obtain ⟨ob, oo, rfl, c0, c1, c2, c3⟩ := ob_cells4 (HL.out.ext hE.out) hlt
          have hmem := HMEM.out _ (List.getElem_mem hlt)
          have hdrop : l.drop k = l[k] :: l.drop (k + 1) := List.drop_eq_getElem_cons hlt
          have hs2 := hs.out
          rw [hdrop, objsS] at hs2
          obtain ⟨m1, m2, m3⟩ := mem_in HS.out hmem
          have hobn := found_n HM.out.ok HS.out hmem
          have hhd := hd_in l[k].w (by rw [m2]; exact (wat_in HM.out.ok _).1)
          have hsz4 := ((isHd_iff l[k].w).1 m3).2.2
          have hfo : rawB (hKind l[k].w) = false → ∀ j, j < l[k].n → fldB (startsM M) (wat M.W (l[k].a + 1 + j)) = true := fun hr j hj => fld_ok HFO.out hmem hr j hj
          have hsz44 : hSize l[k].w ≤ 4096 := hsz4
          have hW := len_small HS.out
          generalize l[k] = x at *
          have hob1 := cell_lt c0
          simp only at hob1
          obtain ⟨kd, hkd⟩ : ∃ kd, hKind x.w = kd := ⟨_, rfl⟩
          rw [hkd] at c1 hs2 hhd hfo
          have hdz1 := decS_size (k : Int)
          have hdz2 := decS_size kd
          have hk64 : (k : Int) ≤ 9223372036854775807 := by omega
          have hhs := headS_size k kd s
          have n1 : ¬ 9223372036854775807 < s.size + (decS (k : Int)).size := by omega
          have n2 : ¬ 9223372036854775807 < s.size + (decS (k : Int)).size + 1 := by omega
          have n3 : ¬ 9223372036854775807 < s.size + (decS (k : Int)).size + 1 + (decS kd).size := by omega
          obtain ⟨hk0, hk255, _⟩ := hhd
          have HS2 := Lib.hid hs2
          have HK2 := Lib.hid hk
          have HM1 := Lib.hid m1
          have HFO2 := Lib.hid hfo
          have HXN : Hid ((x.n : Int) = hSize x.w) := hobn
          have HE2 := Lib.hid hE.out
          have HSZ := Lib.hid hsz
          have HWW := Lib.hid hW
          clear hs hs2 hdrop hmem m1 m2 m3 hobn hfo hE hkd hk hlt hW hsz4
          go_wp2
          refine wp_region_held_drew (S := fun W => W.cell? ⟨wr.heap.size, 1, none⟩ = some (.int .i64 kd)) (by kernel_rfl) ?_ (fun hHeld => ?_)
          · (simp [go_sem])
          refine tk 0 ⟨some 51, _, _, _, _, _⟩ ?_ rfl ?_ ?_
          rotate_left
          · (intro w hSw; (try dsimp only at hSw); go_simp; try with_reducible rfl)
          try simp only [tkS]
          refine tk 1 ⟨some 52, _, _, _, _, _⟩ ?_ rfl ?_ ?_
          rotate_left
          · (intro w hSw; (try dsimp only at hSw); go_simp; try with_reducible rfl)
          try simp only [tkS]
          refine tk 5 ⟨some 56, _, _, _, _, _⟩ ?_ rfl ?_ ?_
          rotate_left
          · (intro w hSw; (try dsimp only at hSw); go_simp; try with_reducible rfl)
          try simp only [tkS]
          refine tk 6 ⟨some 57, _, _, _, _, _⟩ ?_ rfl ?_ ?_
          rotate_left
          · (intro w hSw; (try dsimp only at hSw); go_simp; try with_reducible rfl)
          try simp only [tkS]
          refine wpAnyH_ready (rs := [2]) (by kernel_rfl) (by simp) ?_
          refine AllReadyH.cons (o := ⟨some 53, _, _, _, _, _⟩) rfl (fun K hK => ?_) AllReadyH.nil
          go_simp
          refine (decimal_any _ (by omega) (by omega) _).mono ?_
          rintro e w2 ⟨rfl, hq⟩
          have q2 := hq.cell_ hHeld
          have HX2 := Lib.hid hq
          clear hq
          refine hK.out _ _ ?_ (fun hHeld => ?_)
          · (try dsimp only); exact q2
          clear hK K
          try simp only [tkS]
          refine tk 3 ⟨some 54, _, _, _, _, _⟩ ?_ rfl ?_ ?_
          rotate_left
          · (intro w hSw; (try dsimp only at hSw); go_simp; try with_reducible rfl)
          try simp only [tkS]
          refine tk 4 ⟨some 55, _, _, _, _, _⟩ ?_ rfl ?_ ?_
          rotate_left
          · (intro w hSw; (try dsimp only at hSw); go_simp; try with_reducible rfl)
          try simp only [tkS]
          refine wpAnyH_ready (rs := [7]) (by kernel_rfl) (by simp) ?_
          refine AllReadyH.cons (o := ⟨some 58, _, _, _, _, _⟩) rfl (fun K hK => ?_) AllReadyH.nil
          go_simp
          refine (decimal_any _ (by omega) (by omega) _).mono ?_
          rintro e w3 ⟨rfl, hq⟩
          have q3 := hq.cell_ hHeld
          have HX3 := Lib.hid hq
          clear hq
          refine hK.out _ _ ?_ (fun hHeld => ?_)
          · (try dsimp only); exact q3
          clear hK K
          try simp only [tkS]
          refine tk 8 ⟨some 59, _, _, _, _, _⟩ ?_ rfl ?_ ?_
          rotate_left
          · (intro w hSw; (try dsimp only at hSw); go_simp; try with_reducible rfl)
          try simp only [tkS]
          refine tk 9 ⟨some 5, _, _, _, _, _⟩ ?_ rfl ?_ ?_
          rotate_left
          · (intro w hSw; (try dsimp only at hSw); go_simp; try with_reducible rfl)
          try simp only [tkS]
          refine wpAnyH_done (by kernel_rfl) ?_ _
          have hx13 : Ext wr w3 := Ext.trans_ (((Ext.refl wr).alloc_ (.cells #[.int .i64 (x.a : Int), .int .i64 kd, .int .i64 (hAge x.w), .int .i64 (hSize x.w)] 62)).drew_.trans_ HX2.out) HX3.out
          have hx23 : Ext (wr.alloc (.cells #[.int .i64 (x.a : Int), .int .i64 kd, .int .i64 (hAge x.w), .int .i64 (hSize x.w)] 62)).drew w3 := HX2.out.trans_ HX3.out
          have h630 : w3.cell? ⟨wr.heap.size, 0, none⟩ = some (.int .i64 (x.a : Int)) := hx23.cell_ (by simp [go_sem])
          have h631 : w3.cell? ⟨wr.heap.size, 1, none⟩ = some (.int .i64 kd) := hx23.cell_ (by simp [go_sem])
          have h633 : w3.cell? ⟨wr.heap.size, 3, none⟩ = some (.int .i64 (hSize x.w)) := hx23.cell_ (by simp [go_sem])
          obtain ⟨wq, rfl⟩ : ∃ y, y = wr := ⟨wr, rfl⟩
          generalize wq.heap.size = Hb at *
          have H630 := Lib.hid h630
          have H631 := Lib.hid h631
          have H633 := Lib.hid h633
          have HE3 : Hid (Ext w1 w3) := HE2.out.trans_ hx13
          have hhd2 : (s ++ decS (k : Int) ++ { data := #[32] } ++ decS kd) = headS k kd s := rfl
          rw [hhd2]
          generalize hy : headS k kd s = y at *
          have HY := Lib.hid hy
          clear h630 h631 h633 hx13 hx23 hHeld q2 q3 c0 c1 c2 c3 n1 n2 n3 hdz1 hdz2 hob1 hk64 HX2 HX3 hhd2 hy
          go_wp2
          go_loopg [9, 5] (x.n) (fun r i out wr => ∃ (j : Nat) (t : ByteArray), j + r = x.n ∧ i = .int .i64 (j : Int) ∧ out = .string t ∧ t.size ≤ y.size + 40 * j ∧ Hid (t = fieldsS l kd ((fldsW M.W x).take j) y) ∧ Hid (Ext w3 wr))
          case atStart => exact ⟨0, y, by omega, rfl, rfl, Nat.le_refl _, rfl, Ext.refl _⟩
          case round =>
            obtain ⟨j, t, hj, rfl, rfl, htz, ht, hE⟩ := hrel
            have h630 := hE.out.cell_ H630.out
            have h631 := hE.out.cell_ H631.out
            have h633 := hE.out.cell_ H633.out
            have hxn := HXN.out
            cases gk with
            | succ r2 =>
              have hltz : (j : Int) < hSize x.w := by omega
              have hMr : RMem wr b o M S := HM.out.ext (HE1.out.trans_ (HE3.out.trans_ hE.out))
              have c_W := hMr.W
              obtain ⟨idx, hidx⟩ : ∃ i : Nat, i = x.a + 1 + j := ⟨_, rfl⟩
              have hm1 := HM1.out
              have hil : idx < M.W.length := by omega
              obtain ⟨wb, wo, hWa, hc⟩ := hMr.rW idx _ (wcells_at M.W idx hil)
              rw [hWa] at c_W
              have hWs := HWW.out
              have i1 : IntKind.i64.wrap ((x.a : Int) + 1) = (x.a : Int) + 1 := IntWalk.i64_in _ (by omega)
              have i2 : IntKind.i64.wrap ((x.a : Int) + 1 + (j : Int)) = (idx : Int) := by rw [IntWalk.i64_in _ (by omega)]; omega
              have hilz : (idx : Int) < (M.W.length : Int) := by omega
              obtain ⟨hu2, hu3⟩ := wat_in HM.out.ok idx
              change wr.cell? ⟨wb, wo + idx, none⟩ = some (.int .u64 (wat M.W idx)) at hc
              have hsn := foldl_snoc (fieldS l kd) y (fldsW M.W x) j (by simp [fldsW]; omega)
              have hgd : (fldsW M.W x)[j]'(by simp [fldsW]; omega) = wat M.W idx := by simp [fldsW, hidx]
              rw [hgd] at hsn
              have hfb : rawB kd = false → wat M.W idx % 4 = 2 → wat M.W idx / 4 ≤ 2 := fun hr h2 => by
                have h := HFO2.out hr j (by omega)
                rw [← hidx] at h
                unfold fldB kindW at h
                rw [if_neg (by omega), if_neg (by omega), if_pos h2] at h
                exact of_decide_eq_true h
              generalize wat M.W idx = u at *
              have htd := toldS_size u l
              have hxd := hexS_size u
              have hfz := fieldS_size l kd t u
              have hltb := hMr.lt
              have HJ := Lib.hid hj
              have HSN := Lib.hid hsn
              have HFB := Lib.hid hfb
              clear hMr hWa hsn hgd hfb hidx hil hm1 hj hWs
              by_cases hk8 : kd < 8
              · have hfe : fieldS l kd t u = (t ++ ⟨#[32, 48, 120]⟩) ++ hexS u := by unfold fieldS; rw [if_pos hk8]
                rw [hfe] at hfz
                have HFE := Lib.hid hfe
                clear hfe
                go_wp2
                go_region
                go_wp2_with (go_at_call 45; refine (hex_any u hu2 hu3 _).mono ?_; rintro e w' ⟨rfl, hw9⟩; have hw9 := hw9.symm; subst hw9)
                go_roundg r2
                case measure => omega
                case rel =>
                  refine ⟨j + 1, _, (by have := HJ.out; omega), (by go_num), rfl, (by omega), ?_, hE.out.drew_⟩
                  show _ = _
                  rw [← HFE.out]
                  have h1 := HSN.out
                  unfold fieldsS at ht ⊢
                  rw [h1, ← ht.out]
              · have hfe : fieldS l kd t u = (t ++ ⟨#[32]⟩) ++ toldS u l := by unfold fieldS; rw [if_neg hk8]
                rw [hfe] at hfz
                have HFE := Lib.hid hfe
                have HFB2 := Lib.hid (HFB.out (by unfold rawB; exact decide_eq_false hk8))
                clear hfe
                go_wp2
                go_region
                go_wp2_with (go_at_call 43; refine (told_any u hu2 hu3 HFB2.out _ lc l _ (by have := HL0.out; omega) (HL.out.ext ((HE3.out.trans_ hE.out).drew_))).mono ?_; rintro e w2 ⟨rfl, hq⟩; have HX2 := Lib.hid hq; clear hq)
                go_roundg r2
                case measure => omega
                case rel =>
                  refine ⟨j + 1, _, (by have := HJ.out; omega), (by go_num), rfl, (by omega), ?_, (hE.out.drew_).trans_ HX2.out⟩
                  show _ = _
                  rw [← HFE.out]
                  have h1 := HSN.out
                  unfold fieldsS at ht ⊢
                  rw [h1, ← ht.out]
            | zero =>
              obtain rfl : j = x.n := by omega
              have hltz : ¬ ((x.n : Nat) : Int) < hSize x.w := by omega
              have ht' : t = fieldsS l kd (fldsW M.W x) y := by have h := ht.out; rw [List.take_of_length_le (by simp [fldsW])] at h; exact h
              have HT := Lib.hid ht'
              have hsz5 := HSZ.out
              have hts : t.size + 1 ≤ 40000000 + 200000 * (k + 1) := by omega
              clear ht ht'
              go_wp2
              go_roundg r
              case measure => omega
              case rel =>
                refine ⟨k + 1, _, (by have := HK2.out; omega), (by go_num), rfl, ?_, ?_, HE3.out.trans_ hE.out⟩
                · rw [ByteArray.size_append]; show t.size + 1 ≤ _; exact hts
                · show _ = _
                  have h1 := HS2.out
                  rw [← HT.out] at h1
                  exact h1
        | zero =>
          obtain rfl : k = l.length := by omega
          have hltz : ¬ ((l.length : Nat) : Int) < (l.length : Int) := by omega
          have hs' : s = graphS M := by have := hs.out; rw [List.drop_length] at this; exact this
          subst hs'
          have HEB := Lib.hid hE.out
          clear hs hk hE
          obtain ⟨wA2, rfl⟩ : ∃ x, x = wr := ⟨wr, rfl⟩
          have HLS : Hid (l.length ≤ 1000000) := by have := HL0.out; unfold Hid; omega
          clear hsz HEA
          go_wp2
          go_loopg [12, 11] (M.weak.length) (fun r i out wr => ∃ (k : Nat) (s : ByteArray), k + r = M.weak.length ∧ i = .int .i64 (k : Int) ∧ out = .string s ∧ s.size ≤ 40 * k ∧ Hid (s = weaksS l (M.weak.take k) ⟨#[]⟩) ∧ Hid (Ext w1 wr))
          case atStart => exact ⟨0, _, by omega, rfl, rfl, Nat.le_refl _, rfl, HEB⟩
          case round =>
            obtain ⟨k, s, hk, rfl, rfl, hsz, hs, hE⟩ := hrel
            have hMr : RMem wr b o M S := HM.out.ext (HE1.out.trans_ hE.out)
            have c_R := hMr.weak
            cases gk with
            | succ r =>
              have hlt : k < M.weak.length := by omega
              have hltz : (k : Int) < (M.weak.length : Int) := by omega
              obtain ⟨rb, ro, hRa, hc⟩ := hMr.rK k _ (wcells_at M.weak k hlt)
              rw [hRa] at c_R
              obtain ⟨hu2, hu3⟩ := HWB.out k hlt
              have hu1 := HWK.out k hlt
              have hsn := foldl_snoc (weakS l) ⟨#[]⟩ M.weak k hlt
              have hgd : M.weak[k] = M.weak.getD k 0 := by rw [List.getD_eq_getElem?_getD, List.getElem?_eq_getElem hlt]; rfl
              rw [hgd] at hsn
              generalize M.weak.getD k 0 = u at *
              have ht := toldS_size u l
              have hrs := weakS_size l s u
              have HU := Lib.hid hu1
              have HSN := Lib.hid hsn
              have HK2 := Lib.hid hk
              clear hMr hRa hu1 hsn hgd hk hlt
              go_wp2_with (go_at_call 43; refine (told_any u hu2 hu3 HU.out _ lc l _ HLS.out (HL.out.ext hE.out)).mono ?_; rintro e w2 ⟨rfl, hq⟩; have HX2 := Lib.hid hq; clear hq)
              go_roundg r
              case measure => omega
              case rel =>
                refine ⟨k + 1, weakS l s u, (by have := HK2.out; omega), (by go_num), rfl, (by omega), ?_, hE.out.trans_ HX2.out⟩
                show _ = _
                unfold weaksS at hs ⊢
                rw [HSN.out, ← hs.out]
            | zero =>
              obtain rfl : k = M.weak.length := by omega
              have hltz : ¬ ((M.weak.length : Nat) : Int) < (M.weak.length : Int) := by omega
              have hs' : s = weaksS l M.weak ⟨#[]⟩ := by have := hs.out; rw [List.take_length] at this; exact this
              have HID0 : Hid (idsS M.ids l (M.ids.length + 1) 0 s = moreS M) := by
                unfold Hid moreS
                rw [← HLL.out, ← hs']
              have hm0 : moreN M.ids 0 < M.ids.length + 1 := by
                unfold moreN
                have := List.length_filter_le (fun x : Int × Int => decide (0 < x.2)) M.ids
                omega
              have HM0 := Lib.hid hm0
              have HEC := Lib.hid hE.out
              have hsz0 : s.size + 60 * (M.ids.length + 1) ≤ 40000000 + 60 * (M.ids.length + 1) := by omega
              have hIB : Hid (∀ x ∈ M.ids, (0 ≤ x.1 ∧ x.1 ≤ 18446744073709551615) ∧ (-9223372036854775808 ≤ x.2 ∧ x.2 ≤ 9223372036854775807)) := HM.out.ok.ids
              clear hs hs' hk hE hMr hm0 hsz
              go_wp2
              clear c_R
              go_loopg [13, 11] (M.ids.length + 1) (fun r la2 out wr => ∃ (L : Int) (t : ByteArray), la2 = .int .i64 L ∧ out = .string t ∧ t.size + 60 * r ≤ 40000000 + 60 * (M.ids.length + 1) ∧ Hid (moreN M.ids L < r) ∧ Hid (idsS M.ids l r L t = moreS M) ∧ 0 ≤ L ∧ Hid (Ext w1 wr))
              case atStart => exact ⟨0, s, rfl, rfl, hsz0, HM0, HID0, Int.le_refl _, HEC⟩
              case round =>
                clear HID0 HM0 HEC hsz0
                obtain ⟨L, t, rfl, rfl, htz, hmn, hid, hL0, hE⟩ := hrel
                obtain ⟨r, rfl⟩ : ∃ r, gk = r + 1 := by
                  cases gk with
                  | zero => exact absurd hmn.out (by omega)
                  | succ r => exact ⟨r, rfl⟩
                obtain ⟨wB, rfl⟩ : ∃ x, x = wr := ⟨wr, rfl⟩
                have HEB2 := Lib.hid hE.out
                clear hE
                go_wp2
                go_loopg [15, 14] (M.ids.length) (fun r i nx wr => ∃ k : Nat, k + r = M.ids.length ∧ i = .int .i64 (k : Int) ∧ nx = .int .i64 (nextS M.ids L k) ∧ Hid (Ext w1 wr))
                case atStart => exact ⟨0, by omega, rfl, rfl, HEB2⟩
                case round =>
                  obtain ⟨k, hk, rfl, rfl, hE⟩ := hrel
                  have hin := nextS_in M.ids L k (by omega)
                  have hnk : nextS M.ids L (k + 1) = if nextB M.ids L (nextS M.ids L k) k then (k : Int) else nextS M.ids L k := rfl
                  obtain ⟨nx, hnx⟩ : ∃ nx, nextS M.ids L k = nx := ⟨_, rfl⟩
                  rw [hnx] at hin hnk ⊢
                  have hMr := HM.out.ext (HE1.out.trans_ hE.out)
                  have c9 := hMr.ids
                  have hltb := hMr.lt
                  have hrI := hMr.rI
                  cases gk with
                  | succ r2 =>
                    have hlt : k < M.ids.length := by omega
                    have hltz : (k : Int) < (M.ids.length : Int) := by omega
                    obtain ⟨p0, p1⟩ := icells_at M.ids k hlt
                    obtain ⟨ib, io, hI, hc0⟩ := hrI _ _ p0
                    rw [hI] at c9 hrI
                    have hc1 := hrI.at_ p1
                    rw [← Nat.add_assoc] at hc1
                    have hgd : M.ids.getD k (0, 0) = M.ids[k] := by rw [List.getD_eq_getElem?_getD, List.getElem?_eq_getElem hlt]; rfl
                    obtain ⟨sk, hsk⟩ : ∃ sk, M.ids[k].2 = sk := ⟨_, rfl⟩
                    rw [hsk] at hc1
                    have HK2 := Lib.hid hk
                    by_cases hA : L < sk
                    · rcases hin with hn | ⟨hn0, hn1, hn2⟩
                      · have hnb : nextB M.ids L nx k = true := by unfold nextB; rw [hgd, hsk, hn]; simp [hA]
                        rw [hnb] at hnk
                        have HNK := Lib.hid hnk
                        subst hn
                        clear hnb hnk hgd hsk p0 p1 hI hrI hMr hnx hk hlt hc0
                        go_wp2
                        go_quiet (fail)
                        go_wp2
                        go_roundg r2
                        case measure => omega
                        case rel => exact ⟨k + 1, (by have := HK2.out; omega), (by go_num), (by rw [HNK.out]; rfl), hE.out.drewN_ _⟩
                      · obtain ⟨m, hm⟩ : ∃ m : Nat, nx = (m : Int) := ⟨nx.toNat, by omega⟩
                        subst hm
                        have hmlt : m < M.ids.length := by omega
                        have hmz : (m : Int) < (M.ids.length : Int) := by omega
                        obtain ⟨p2, p3⟩ := icells_at M.ids m hmlt
                        have hc3 := hrI.at_ p3
                        rw [← Nat.add_assoc] at hc3
                        have hgm : M.ids.getD m (0, 0) = M.ids[m] := by rw [List.getD_eq_getElem?_getD, List.getElem?_eq_getElem hmlt]; rfl
                        obtain ⟨sm, hsm⟩ : ∃ sm, M.ids[m].2 = sm := ⟨_, rfl⟩
                        rw [hsm] at hc3
                        have hneg : ¬ (m : Int) < 0 := by omega
                        by_cases hB : sk < sm
                        · have hnb : nextB M.ids L (m : Int) k = true := by unfold nextB; rw [hgd, hsk, Int.toNat_natCast, hgm, hsm]; simp [hA, hB]
                          rw [hnb] at hnk
                          have HNK := Lib.hid hnk
                          clear hnb hnk hgd hgm hsk hsm p0 p1 p2 p3 hI hrI hMr hnx hk hlt hc0 hn2
                          go_wp2
                          go_quiet (fail)
                          go_wp2
                          go_roundg r2
                          case measure => omega
                          case rel => exact ⟨k + 1, (by have := HK2.out; omega), (by go_num), (by rw [HNK.out]; rfl), hE.out.drewN_ _⟩
                        · have hnb : nextB M.ids L (m : Int) k = false := by unfold nextB; rw [hgd, hsk, Int.toNat_natCast, hgm, hsm]; simp [hB]
                          rw [hnb] at hnk
                          have HNK := Lib.hid hnk
                          clear hnb hnk hgd hgm hsk hsm p0 p1 p2 p3 hI hrI hMr hnx hk hlt hc0 hn2
                          go_wp2
                          go_quiet (fail)
                          go_wp2
                          go_roundg r2
                          case measure => omega
                          case rel => exact ⟨k + 1, (by have := HK2.out; omega), (by go_num), (by rw [HNK.out]; rfl), hE.out.drewN_ _⟩
                    · have hnb : nextB M.ids L nx k = false := by unfold nextB; rw [hgd, hsk]; simp [hA]
                      rw [hnb] at hnk
                      have HNK := Lib.hid hnk
                      have hA2 : decide (L < sk) = false := by simp [hA]
                      clear hA
                      rcases hin with hn | ⟨hn0, hn1, hn2⟩
                      · subst hn
                        clear hnb hnk hgd hsk p0 p1 hI hrI hMr hnx hk hlt hc0
                        go_wp2
                        go_quiet (fail)
                        go_wp2
                        go_roundg r2
                        case measure => omega
                        case rel => exact ⟨k + 1, (by have := HK2.out; omega), (by go_num), (by rw [HNK.out]; rfl), hE.out.drewN_ _⟩
                      · obtain ⟨m, hm⟩ : ∃ m : Nat, nx = (m : Int) := ⟨nx.toNat, by omega⟩
                        subst hm
                        have hmlt : m < M.ids.length := by omega
                        have hmz : (m : Int) < (M.ids.length : Int) := by omega
                        obtain ⟨p2, p3⟩ := icells_at M.ids m hmlt
                        have hc3 := hrI.at_ p3
                        rw [← Nat.add_assoc] at hc3
                        have hneg : ¬ (m : Int) < 0 := by omega
                        clear hnb hnk hgd hsk p0 p1 p2 p3 hI hrI hMr hnx hk hlt hc0 hn2
                        go_wp2
                        go_quiet (fail)
                        go_wp2
                        go_roundg r2
                        case measure => omega
                        case rel => exact ⟨k + 1, (by have := HK2.out; omega), (by go_num), (by rw [HNK.out]; rfl), hE.out.drewN_ _⟩
                  | zero =>
                    obtain rfl : k = M.ids.length := by omega
                    have hltz : ¬ ((M.ids.length : Nat) : Int) < (M.ids.length : Int) := by omega
                    rcases hin with hn | ⟨hn0, hn1, hn2⟩
                    · subst hn
                      have hEnd : idsS M.ids l (r + 1) L t = t := by
                        rw [idsS]
                        simp [hnx]
                      have hres : t = moreS M := by rw [← hid.out, hEnd]
                      have HRES := Lib.hid hres
                      clear hEnd hres hid hmn htz
                      go_wp2
                      go_ret2
                      exact ⟨by rw [HRES.out]; rfl, by first | exact (HE1.out.trans_ hE.out).drewN_ _ | exact HE1.out.trans_ hE.out⟩
                    · obtain ⟨m, hm⟩ : ∃ m : Nat, nx = (m : Int) := ⟨nx.toNat, by omega⟩
                      subst hm
                      have hmlt : m < M.ids.length := by omega
                      have hmz : (m : Int) < (M.ids.length : Int) := by omega
                      obtain ⟨p2, p3⟩ := icells_at M.ids m hmlt
                      obtain ⟨ib, io, hI, hc2⟩ := hrI _ _ p2
                      rw [hI] at c9 hrI
                      have hc3 := hrI.at_ p3
                      rw [← Nat.add_assoc] at hc3
                      have hgm : M.ids.getD m (0, 0) = M.ids[m] := by rw [List.getD_eq_getElem?_getD, List.getElem?_eq_getElem hmlt]; rfl
                      have hneg : ¬ (m : Int) < 0 := by omega
                      obtain ⟨⟨hx1, hx2⟩, hx3, hx4⟩ := hIB.out _ (List.getElem_mem hmlt)
                      have hid2 := hid.out
                      rw [idsS, hnx, if_neg hneg, Int.toNat_natCast, hgm] at hid2
                      rw [Int.toNat_natCast, hgm] at hn2
                      have hml := moreN_less M.ids L M.ids[m] (List.getElem_mem hmlt) hn2
                      generalize M.ids[m] = x at *
                      have hil := idLine_size l x t
                      have hd1 := decS_size x.2
                      have hd2 := decS_size (objAt l (ptsW x.1))
                      have hob := objAt_lt l (ptsW x.1)
                      have hl6 : l.length ≤ 1000000 := HLS.out
                      have hx5 : 0 ≤ x.2 := by omega
                      have hx6 : moreN M.ids x.2 < r := by have := hmn.out; omega
                      have htz2 : (idLine l x t).size + 60 * r ≤ 40000000 + 60 * (M.ids.length + 1) := by omega
                      have hbI := hMr.lt
                      have HID2 := Lib.hid hid2
                      have HMN2 := Lib.hid hx6
                      have HTZ2 := Lib.hid htz2
                      have HE1I := Lib.hid (HE1.out.trans_ hE.out)
                      have hRl : RSl wr la (ocells l) := HL.out.ext hE.out
                      have HRl2 := Lib.hid hRl
                      have hll : l.length ≤ 9223372036854775807 := by omega
                      have hhf := hMr.half
                      have hts : t.size ≤ 100000100 := by omega
                      clear hid2 hml hil hid hmn htz hn2 hI hrI p2 p3 hgm hnx hMr hx6 htz2 hRl hmlt
                      by_cases ho : 0 ≤ objAt l (ptsW x.1)
                      · have hil2 : idLine l x t = ((((t ++ ⟨#[105, 100, 32]⟩) ++ decS x.2) ++ ⟨#[32, 64]⟩) ++ decS (objAt l (ptsW x.1))) ++ ⟨#[10]⟩ := by unfold idLine; rw [if_pos ho]
                        have HIL := Lib.hid hil2
                        obtain ⟨ox, hox⟩ : ∃ y, objAt l (ptsW x.1) = y := ⟨_, rfl⟩
                        rw [hox] at hd2 hob ho HIL
                        have HOX := Lib.hid hox
                        have hob2 : ox < 1000000 := by omega
                        clear hil2 hox hob
                        have HXA : Hid (Ext wr wr) := Ext.refl _
                        go_wp2_with (first
                          | (go_at_call 28; refine (points_any _ hx1 hx2 _).mono ?_; rintro e w' ⟨rfl, hw9⟩; have hw9 := hw9.symm; subst hw9)
                          | (go_at_call 29; refine (objectAt_any _ _ l _ _ hll HRl2.out).mono ?_; rintro e w' ⟨he, hw9⟩; rw [HOX.out] at he; subst he; have hw9 := hw9.symm; subst hw9)
                          | (go_at_call 44; refine (decimal_any _ (by omega) (by omega) _).mono ?_; rintro e w7 ⟨rfl, hq⟩; replace HXA : Hid (Ext wr w7) := Ext.trans_ HXA.out hq; clear hq))
                        go_roundg r
                        case measure => omega
                        case rel => exact ⟨x.2, idLine l x t, rfl, by rw [HIL.out], HTZ2.out, HMN2.out, HID2.out, hx5, hE.out.trans_ HXA.out⟩
                      · have hil2 : idLine l x t = t := by unfold idLine; rw [if_neg ho]
                        rw [hil2] at HID2 HTZ2
                        obtain ⟨ox, hox⟩ : ∃ y, objAt l (ptsW x.1) = y := ⟨_, rfl⟩
                        rw [hox] at hd2 hob ho
                        have HOX := Lib.hid hox
                        clear hil2 hox hob
                        go_wp2_with (first
                          | (go_at_call 28; refine (points_any _ hx1 hx2 _).mono ?_; rintro e w' ⟨rfl, hw9⟩; have hw9 := hw9.symm; subst hw9)
                          | (go_at_call 29; refine (objectAt_any _ _ l _ _ hll HRl2.out).mono ?_; rintro e w' ⟨he, hw9⟩; rw [HOX.out] at he; subst he; have hw9 := hw9.symm; subst hw9))
                        go_roundg r
                        case measure => omega
                        case rel => exact ⟨x.2, t, rfl, rfl, HTZ2.out, HMN2.out, HID2.out, hx5, hE.out⟩
section
variable {w w' : World} {B b : Nat} {tI : TypeId} {M : Mem} {S : Sls}
theorem OMem.own_of (h : OMem w B b tI M S) {f : Fld} (hf : f ∈ memFlds tI M S) {k : Nat} (hk : f.val.ownBlock = some k) : OwnA b S k := by
  have ho' := (h.fld f hf).2.1
  have ha : f.a = some ⟨k, 0, none⟩ := by
    rcases ho'.2 with ⟨h2, _⟩ | ⟨g, cap, cur, hv, _⟩
    · rw [h2] at hk; cases hk
    · rw [hv] at hk
      simp [Value.ownBlock] at hk
      subst hk
      unfold Fld.val at hv
      injection hv
  simp only [memFlds, List.mem_cons, List.not_mem_nil, or_false] at hf
  rcases hf with rfl | rfl | rfl | rfl | rfl <;> simp_all [OwnA]
theorem OMem.keepA {L : Nat → Prop} (h : OMem w B b tI M S) (k : Keep L w w') (hd : ∀ i, OwnA b S i → ¬ L i) : OMem w' B b tI M S :=
  OM.kept h fun i hi ho => k.block i hi (hd i (by
    rcases ho with rfl | ⟨f, hf, hk⟩
    · exact Or.inl rfl
    · exact h.own_of hf hk))
end
/-- Two own memories, apart. -/
structure Two (w : World) (A a b : Nat) (tI : TypeId) (M N : Mem) (S T : Sls) : Prop where
  one : OMem w A a tI M S
  two : OMem w A b tI N T
  apart : ∀ k, OwnA a S k → ¬ OwnA b T k
theorem Two.ext {w w' : World} {A a b : Nat} {tI : TypeId} {M N : Mem} {S T : Sls} (h : Two w A a b tI M N S T) (hx : Ext w w') : Two w' A a b tI M N S T := ⟨OM.ext h.one hx, OM.ext h.two hx, h.apart⟩
theorem Two.swap {w : World} {A a b : Nat} {tI : TypeId} {M N : Mem} {S T : Sls} (h : Two w A a b tI M N S T) : Two w A b a tI N M T S := ⟨h.two, h.one, fun k h1 h2 => h.apart k h2 h1⟩
/-- A root is appended to the first one. -/
theorem Two.push {w w1 : World} {A a b : Nat} {tI : TypeId} {M N : Mem} {S T : Sls} (h : Two w A a b tI M N S T) (x : Int) (a' : Option Addr) (c' : Nat) (hg : w.grownBy w1 (Value.slice S.R.1 M.roots.length S.R.2).ownBlock)
    (ho : w1.ownsRow A 51 1 (.slice a' (M.roots.length + 1) c') (M.roots.length + 1) (wcells M.roots ++ [.int .u64 x])) (hn : (Value.slice a' (M.roots.length + 1) c').ownBlock = (Value.slice S.R.1 M.roots.length S.R.2).ownBlock ∨ (Value.slice a' (M.roots.length + 1) c').ownBlock = some w.heap.size) :
    Two (w1.setCell ⟨a, 7, none⟩ (.slice a' (M.roots.length + 1) c')) A a b tI { M with roots := M.roots ++ [x] } N { S with R := (a', c') } T ∧ Keep (OwnA a S) w (w1.setCell ⟨a, 7, none⟩ (.slice a' (M.roots.length + 1) c')) := by
  have hp := h.one.pushRoot x a' c' hg ho hn
  have hown : ∀ k, (Value.slice S.R.1 M.roots.length S.R.2).ownBlock = some k → OwnA a S k := fun k hk => h.one.own_of (f := ⟨7, 51, 1, S.R.1, M.roots.length, S.R.2, wcells M.roots⟩) (by simp [memFlds]) hk
  have k1 : Keep (OwnA a S) w w1 := Keep.of_grown hg fun k hk => Or.inl (hown k hk)
  have k2 : Keep (OwnA a S) w (w1.setCell ⟨a, 7, none⟩ (.slice a' (M.roots.length + 1) c')) := k1.set_ (p := ⟨a, 7, none⟩) (Or.inl (Or.inl rfl)) _
  refine ⟨⟨hp, h.two.keepA k2 fun i hi q => h.apart i q hi, fun k hk hk2 => ?_⟩, k2⟩
  have hlt := (h.two.own_size hk2).2
  have hR : ∀ k, a' = some ⟨k, 0, none⟩ → OwnA a S k ∨ k = w.heap.size := fun k e => by
    rw [e] at hn
    rcases hn with q | q
    · exact Or.inl (hown k (by rw [← q]; rfl))
    · have q' : some k = some w.heap.size := q
      injection q' with q'
      exact Or.inr q'
  rcases hk with q | q | q | q | q | q
  · exact h.apart k (Or.inl q) hk2
  · exact h.apart k (Or.inr (Or.inl q)) hk2
  · rcases hR k q with r | r
    · exact h.apart k r hk2
    · omega
  · exact h.apart k (Or.inr (Or.inr (Or.inr (Or.inl q)))) hk2
  · exact h.apart k (Or.inr (Or.inr (Or.inr (Or.inr (Or.inl q))))) hk2
  · exact h.apart k (Or.inr (Or.inr (Or.inr (Or.inr (Or.inr q))))) hk2
theorem words_lenB {M : Mem} (hg : goodB M = true) : (reachP M).length ≤ M.W.length := Nat.le_trans (reachP_gath hg).len (objs_len (good_parts hg).1)
set_option maxRecDepth 100000 in
set_option maxHeartbeats 4000000 in
theorem reaches_any (b o : Nat) (M : Mem) (S : Sls) (u : Int) (h0 : 0 ≤ u) (h1 : u ≤ 18446744073709551615) (w : World) (hM : RMem w b o M S) (hg : goodB M = true) :
    Calls Tryz.prog 47 #[.pointer (some ⟨b, o, none⟩), .int .u64 u] w fun e w' => e = .returned (.bool (ledB M u)) ∧ Ext w w' := by
  have hll : (reachP M).length ≤ 9223372036854775807 := by
    have h1 := words_lenB hg
    have h2 := len_small (good_parts hg).1
    omega
  have HM := Lib.hid hM
  have HG := Lib.hid hg
  clear hM hg
  by_cases hp : 0 ≤ ptsW u
  · have hd : ledB M u = decide (0 ≤ objAt (reachP M) (ptsW u)) := by
      rw [objAt_nonneg]
      unfold ledB ats
      rw [decide_eq_true hp, Bool.true_and]
    rw [hd]
    clear hd
    go_enter Tryz.func47, Tryz.ntmps47
    go_wp2_with (first
      | (go_at_call 28; refine (points_any _ h0 h1 _).mono ?_; rintro e w' ⟨rfl, hw9⟩; have hw9 := hw9.symm; subst hw9)
      | (go_at_call 42; refine (reached_walk b o M S _ HM.out HG.out).mono ?_; rintro e w1 ⟨la, lc, rfl, hq1, hq2⟩; have HL := Lib.hid (own_rsl hq1); have HX := Lib.hid hq2; clear hq1 hq2)
      | (go_at_call 29; refine (objectAt_any _ _ (reachP M) _ _ hll HL.out).mono ?_; rintro e w' ⟨rfl, hw9⟩; have hw9 := hw9.symm; subst hw9))
    go_ret
    exact ⟨rfl, HX.out⟩
  · have hd : ledB M u = false := by
      unfold ledB
      rw [decide_eq_false hp, Bool.false_and]
    rw [hd]
    clear hd
    go_enter Tryz.func47, Tryz.ntmps47
    go_wp2_with (go_at_call 28; refine (points_any _ h0 h1 _).mono ?_; rintro e w' ⟨rfl, hw9⟩; have hw9 := hw9.symm; subst hw9)
    go_ret
    exact ⟨rfl, Ext.refl _⟩
end Go.Proofs.YtecbbbaafcoliaaGreatDoor
