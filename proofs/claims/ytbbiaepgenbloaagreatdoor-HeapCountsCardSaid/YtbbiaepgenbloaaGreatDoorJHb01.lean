/- The walk of heap's Show where no object that is reached is raw. -/
import Derived.Test.YtbbiaepgenbloaaGreatDoorJHa40
import Derived.Test.YtbbiaepgenbloaaGreatDoorJHa26
import Derived.Test.YtbbiaepgenbloaaGreatDoorJHa12
import Derived.Test.YtbbiaepgenbloaaGreatDoorJHa34
import Derived.Deep.LoopGhost
import Derived.Deep.RegionHeld3
import Derived.Test.YtbbiaepgenbloaaGreatDoorJHa36
import Derived.Test.YtbbiaepgenbloaaGreatDoorJHa38
import Derived.Test.YtbbiaepgenbloaaGreatDoorJHa37
import Derived.Laws.OwnMore
import Derived.Deep.Cut
import Derived.Deep.CutRange
import Derived.Test.YtbbiaepgenbloaaGreatDoorJHa41
namespace Go.Proofs.YtbbiaepgenbloaaGreatDoor
open Go.RowKit
set_option linter.unusedVariables false
set_option linter.unusedSimpArgs false

theorem bld_step {bl : Nat} {w2 wr w4 w5 : World} (hbl : bl = w2.heap.size) (hE : Ext w2 wr) (hx : Ext wr w4) (hb : Below bl w4 w5) : Ext w2 w5 := by subst hbl; exact (hE.trans_ hx).trans hb
theorem Ext.heap_ {w w' : World} (h : Ext w w') {k : Nat} {o : Obj} (hk : w.heap[k]? = some o) : w'.heap[k]? = some o := by
  obtain ⟨q1, q2, q3, q4, q5⟩ := h
  have hl : k < w.heap.size := by
    rcases Nat.lt_or_ge k w.heap.size with g | g
    · exact g
    · simp [Array.getElem?_eq_none g] at hk
  rw [q5 k hl]; exact hk
theorem lit_size (l : Array UInt8) : (⟨l⟩ : ByteArray).size = l.size := rfl
theorem rootS_size (l : List Ob) (out : ByteArray) (u : Int) : (rootS l out u).size ≤ out.size + 40 := by
  have := toldS_size u l
  unfold rootS
  simp only [ByteArray.size_append, lit_size]
  simp; omega
theorem fieldS_size (l : List Ob) (kind : Int) (out : ByteArray) (u : Int) : (fieldS l kind out u).size ≤ out.size + 40 := by
  have := toldS_size u l
  have := hexS_size u
  unfold fieldS
  split
  · simp only [ByteArray.size_append, lit_size]
    simp; omega
  · simp only [ByteArray.size_append, lit_size]
    simp; omega
theorem headS_size (i : Nat) (kind : Int) (out : ByteArray) : (headS i kind out).size ≤ out.size + 50 := by
  have := decS_size (i : Int)
  have := decS_size kind
  unfold headS
  simp only [ByteArray.size_append, show ∀ l : Array UInt8, (⟨l⟩ : ByteArray).size = l.size from fun _ => rfl]
  simp; omega
theorem foldl_snoc {α : Type} (g : ByteArray → α → ByteArray) (out : ByteArray) (us : List α) (k : Nat) (hk : k < us.length) : (us.take (k + 1)).foldl g out = g ((us.take k).foldl g out) us[k] := by
  rw [List.take_add_one, List.getElem?_eq_getElem hk, List.foldl_append]; rfl
def ShowPost (w : World) (M : Mem) (e : Ending) (w' : World) : Prop := e = .returned (.string (graphS M)) ∧ Ext w w'
set_option maxRecDepth 100000 in
set_option maxHeartbeats 16000000 in
theorem show_walk (hb b : Nat) (M : Mem) (S : Sls) (w : World) (hM : RMem w b 0 M S) (hp : w.cell? ⟨hb, 0, none⟩ = some (.pointer (some ⟨b, 0, none⟩))) (hg : goodB M = true) (hF : Few M) (hT : Tabs w) (hnr : ∀ x ∈ reachP M, 8 ≤ hKind x.w) :
    Calls Tryz.prog 25 #[.pointer (some ⟨hb, 0, none⟩)] w (ShowPost w M) := by
  obtain ⟨hs, hob, hro, hwk, hfo, hid⟩ := good_parts hg
  have hlr := (reachP_gath hg).len
  have hlo := objs_len hs
  have hlM := len_small hs
  have hrl : (reachP M).length ≤ 196608 := by omega
  have HRO : Hid (∀ k, k < M.roots.length → fldB (startsM M) (M.roots.getD k 0) = true) := fun k hk => fieldsB_at hro hk
  have HRB : Hid (∀ k, k < M.roots.length → 0 ≤ M.roots.getD k 0 ∧ M.roots.getD k 0 ≤ 18446744073709551615) := fun k hk => getD_in (P := fun x => 0 ≤ x ∧ x ≤ 18446744073709551615) hM.ok.roots hk
  have HMEM : Hid (∀ x ∈ reachP M, x ∈ objsAll M) := fun x hx => (reachP_gath hg).mem x hx
  have hRl := hF.R
  have HM := Lib.hid hM
  have HG := Lib.hid hg
  have HS := Lib.hid hs
  have HFO := Lib.hid hfo
  have HP := Lib.hid hp
  have HNR := Lib.hid hnr
  have HTB := Lib.hid hT
  have hbz := hM.lt
  have q00 := hp
  clear hM hg hs hob hro hwk hfo hid hF hlr hlo hlM hT hp hnr
  go_enter Tryz.func25, Tryz.ntmps25
  go_upto_region 3 with (go_at_call 51; refine (mReach_walk b 0 M S _ HM.out HG.out).mono ?_; rintro e w2 ⟨ta, tc, mb, rfl, hT, hMp, hB2, hno, hq⟩; have HX2 := Lib.hid hq; have HT := Lib.hid hT; have HMP := Lib.hid hMp; clear hq hT hMp hB2 hno)
  obtain ⟨bl, hbl⟩ : ∃ bl, bl = w2.heap.size := ⟨_, rfl⟩
  refine named_world' (fun W3 hW3 => ?_)
  have hB3 : Bld bl bl ⟨#[]⟩ W3 := by rw [hW3, hbl]; exact bld_new w2
  have hX3 : Ext w2 W3 := by rw [hW3]; exact (Ext.refl _).alloc_ _
  rw [← hbl]
  have HBL := Lib.hid hbl
  have HB3 := Lib.hid hB3
  have HX3 := Lib.hid hX3
  have hM3 := HM.out.ext (HX2.out.trans_ hX3)
  have q03 := (HX2.out.trans_ hX3).cell_ HP.out
  have r3 := hM3.roots
  have hbz3 := hM3.lt
  simp only [Nat.zero_add] at r3
  clear hW3 hX3 hB3 hbl hM3 q00
  obtain ⟨l, hl⟩ : ∃ l, l = reachP M := ⟨_, rfl⟩
  rw [← hl] at HMEM hrl ⊢
  have HLL := Lib.hid hl
  clear hl
  obtain ⟨sr, hsr⟩ : ∃ sr, S.R.1 = sr := ⟨_, rfl⟩
  rw [hsr] at r3
  have HSR := Lib.hid hsr
  clear hsr
  have z5 : (⟨#[114, 111, 111, 116, 32]⟩ : ByteArray).size = 5 := rfl
  have z1' : (⟨#[32]⟩ : ByteArray).size = 1 := rfl
  have z1 : (⟨#[10]⟩ : ByteArray).size = 1 := rfl
  go_wp2
  go_loopg [30] (M.roots.length) (fun r i wr => ∃ (k : Nat) (s : ByteArray), k + r = M.roots.length ∧ i = .int .i64 (k : Int) ∧ s.size ≤ 40 * k ∧ Hid (s = rootsS l (M.roots.take k) ⟨#[]⟩) ∧ Hid (Bld bl bl s wr) ∧ Hid (Ext w2 wr))
  case atStart => exact ⟨0, _, by omega, rfl, Nat.le_refl _, rfl, HB3.out, HX3.out⟩
  case round =>
    obtain ⟨k, s, hk, rfl, hsz, hs, hB, hE⟩ := hrel
    cases gk with
    | succ r =>
      have hlt : k < M.roots.length := by omega
      have hltz : (k : Int) < (M.roots.length : Int) := by omega
      have hMr := HM.out.ext (HX2.out.trans_ hE.out)
      obtain ⟨rb, ro, hRa, hc⟩ := hMr.rR k _ (wcells_at M.roots k hlt)
      obtain ⟨hu2, hu3⟩ := HRB.out k hlt
      have hu1 := HRO.out k hlt
      have hsn := foldl_snoc (rootS l) ⟨#[]⟩ M.roots k hlt
      have hgd : M.roots[k] = M.roots.getD k 0 := by rw [List.getD_eq_getElem?_getD, List.getElem?_eq_getElem hlt]; rfl
      rw [hgd] at hsn
      generalize M.roots.getD k 0 = u at *
      have ht := toldS_size u l
      have hblz := hB.out.lt
      obtain rfl : sr = some ⟨rb, ro, none⟩ := HSR.out.symm.trans hRa
      have hrs := rootS_size l s u
      have HU := Lib.hid hu1
      have HSN := Lib.hid hsn
      have HK2 := Lib.hid hk
      clear hMr hRa hu1 hsn hgd hk hlt
      go_wp2_with (first
        | (go_at_call 53; refine (mTold_any M HG.out u hu2 hu3 HU.out (by rw [← HLL.out]; omega) mb _ (HMP.out.ext hE.out) ((HTB.out.ext HX2.out).ext hE.out)).mono ?_; rintro e w4 ⟨he, hq⟩; rw [← HLL.out] at he; subst he; have HX4 := Lib.hid hq; clear hq)
        | (go_at_call 52; refine (write_ex bl bl s _ _ (hB.out.ext HX4.out) (by rw [ByteArray.size_append, ByteArray.size_append]; omega) (by have := HX4.out.size; omega)).mono ?_; rintro e w5 ⟨z, rfl, q1, q2, q3⟩; have HB5 := Lib.hid q1; have HE5 := Lib.hid (bld_step HBL.out hE.out HX4.out q2); clear q1 q2 q3))
      go_roundg r
      case measure => omega
      case rel =>
        refine ⟨k + 1, rootS l s u, (by have := HK2.out; omega), (by go_num), (by omega), ?_, ?_, HE5.out⟩
        · show _ = _
          unfold rootsS at hs ⊢
          rw [HSN.out, ← hs.out]
        · have e : rootS l s u = s ++ ((⟨#[114, 111, 111, 116, 32]⟩ ++ toldS u l) ++ ⟨#[10]⟩) := by unfold rootS; simp only [ByteArray.append_assoc]
          rw [e]
          exact HB5.out
    | zero =>
      obtain rfl : k = M.roots.length := by omega
      have hltz : ¬ ((M.roots.length : Nat) : Int) < (M.roots.length : Int) := by omega
      have hs' : s = rootsS l M.roots ⟨#[]⟩ := by have := hs.out; rw [List.take_length] at this; exact this
      have HS1 := Lib.hid hs'
      have hsz0 : s.size ≤ 40000000 := by omega
      have hTr := (Tail.read HT.out).2
      have HTR := Lib.hid hTr
      clear hs hs' hk hTr hsz
      generalize hTA : ta = TA
      have HTA := Lib.hid hTA
      clear hTA
      obtain ⟨wA, rfl⟩ : ∃ x, x = wr := ⟨wr, rfl⟩
      have HEA : Hid (Ext w2 wA) := hE.out
      have HBA : Hid (Bld bl bl s wA) := hB.out
      have HG0 : Hid (objsS M.W l 0 (l.drop 0) s = graphS M) := by
        unfold Hid graphS
        rw [← HLL.out, List.drop_zero, HS1.out]
      clear hE hB
      clear q03
      go_upto_region 9 with fail
      go_loopg [43] (l.length) (fun r i wr => ∃ (k : Nat) (s : ByteArray), k + r = l.length ∧ i = .int .i64 (k : Int) ∧ s.size ≤ 40000000 + 200000 * k ∧ Hid (objsS M.W l k (l.drop k) s = graphS M) ∧ Hid (Bld bl bl s wr) ∧ Hid (Ext w2 wr))
      case atStart => exact ⟨0, s, by omega, rfl, by omega, HG0.out, HBA.out, HEA.out⟩
      case round =>
        clear HG0 hsz0 HS1
        obtain ⟨k, s, hk, rfl, hsz, hs, hB, hE⟩ := hrel
        cases gk with
        | succ r =>
          have hlt : k < l.length := by omega
          have hltz : (k : Int) < (l.length : Int) := by omega
          have hat : (ats l)[k]'(by rw [ats_len]; exact hlt) = (l[k].a : Int) := by simp [ats]
          obtain ⟨tb, tp, hTe, hc0⟩ := (HTR.out.ext hE.out) _ _ (by rw [← HLL.out]; exact tcells_at (ats l) k (by rw [ats_len]; exact hlt))
          rw [hat] at hc0
          obtain rfl : TA = some ⟨tb, tp, none⟩ := HTA.out.symm.trans hTe
          have hmem := HMEM.out _ (List.getElem_mem hlt)
          have hdrop : l.drop k = l[k] :: l.drop (k + 1) := List.drop_eq_getElem_cons hlt
          have hs2 := hs.out
          rw [hdrop, objsS] at hs2
          obtain ⟨m1, m2, m3⟩ := mem_in HS.out hmem
          have hobn := found_n HM.out.ok HS.out hmem
          have hk8 := HNR.out _ (by rw [← HLL.out]; exact List.getElem_mem hlt)
          have hhd := hd_in l[k].w (by rw [m2]; exact (wat_in HM.out.ok _).1)
          have hsz4 := ((isHd_iff l[k].w).1 m3).2.2
          have hfo : rawB (hKind l[k].w) = false → ∀ j, j < l[k].n → fldB (startsM M) (wat M.W (l[k].a + 1 + j)) = true := fun hr j hj => fld_ok HFO.out hmem hr j hj
          have hsz44 : hSize l[k].w ≤ 4096 := hsz4
          have hW := len_small HS.out
          generalize l[k] = x at *
          have hxw := wat_in HM.out.ok x.a
          rw [← m2] at hxw
          have hMr : RMem wr b 0 M S := HM.out.ext (HX2.out.trans_ hE.out)
          have c3 := hMr.W
          have q0r := (HX2.out.trans_ hE.out).cell_ HP.out
          have hbzr := hMr.lt
          simp only [Nat.zero_add] at c3
          have hil : x.a < M.W.length := by omega
          have hilz : (x.a : Int) < (M.W.length : Int) := by omega
          obtain ⟨wb, wo, hWa, hcW⟩ := hMr.rW x.a _ (wcells_at M.W x.a hil)
          have hcW' : wr.cell? ⟨wb, wo + x.a, none⟩ = some (.int .u64 x.w) := by rw [hcW, m2]; simp [wat, List.getD_eq_getElem?_getD, hil]
          rw [hWa] at c3
          obtain ⟨kd, hkd⟩ : ∃ kd, hKind x.w = kd := ⟨_, rfl⟩
          rw [hkd] at hs2 hhd hfo hk8
          have hdz1 := decS_size (k : Int)
          have hdz2 := decS_size kd
          have hk64 : (k : Int) ≤ 9223372036854775807 := by omega
          have hhs := headS_size k kd s
          have n1 : ¬ 9223372036854775807 < (decS (k : Int)).size + 1 := by omega
          have n2 : ¬ 9223372036854775807 < (decS (k : Int)).size + 1 + (decS kd).size := by omega
          obtain ⟨hk0, hk255, _⟩ := hhd
          have hcapW := hMr.capW
          have HWA := Lib.hid hWa
          have HS2 := Lib.hid hs2
          have HK2 := Lib.hid hk
          have HM1 := Lib.hid m1
          have HFO2 := Lib.hid hfo
          have HXN : Hid ((x.n : Int) = hSize x.w) := hobn
          have HE2 := Lib.hid hE.out
          have HB2 := Lib.hid hB.out
          have HSZ := Lib.hid hsz
          have HWW := Lib.hid hW
          have HXW := Lib.hid hxw
          have HM3 := Lib.hid m3
          have HIL := Lib.hid hil
          have HKD := Lib.hid hkd
          clear hs hs2 hdrop hmem m1 m2 m3 hobn hfo hE hB hkd hk hlt hW hsz4 hat hTe hxw hMr hil hWa hcW hsz
          go_upto_region 12 with (go_at_call 54; refine (toHead_yes x.w HXW.out.1 HXW.out.2 HM3.out _).mono ?_; rintro e w5 ⟨rfl, hq⟩; have HX5 := Lib.hid hq; clear hq)
          refine named_world' (fun W5 hW5 => ?_)
          obtain ⟨H, hH⟩ : ∃ H, H = w5.heap.size := ⟨_, rfl⟩
          rw [← hH]
          have hX5 : Ext wr W5 := by rw [hW5]; exact HX5.out.alloc_ _
          have hob : W5.heap[H]? = some (.cells #[.int .i64 kd, .int .i64 (hAge x.w), .int .i64 (hMark x.w), .int .i64 (hSize x.w)] 78 (0, 0)) := by rw [hW5, hH, ← HKD.out]; exact heap_alloc_new _ _
          have hHb : bl < H := by rw [hH]; exact Nat.lt_of_lt_of_le HB2.out.lt HX5.out.size
          have h0 : W5.cell? ⟨H, 0, none⟩ = some (.int .i64 kd) := by simp [World.cell?, hob]
          have HOB := Lib.hid hob
          have HX := Lib.hid hX5
          have HHB := Lib.hid hHb
          clear hW5 hH hX5 hob hHb hc0 hcW' c3 q0r
          go_wp2
          refine wp_region_held_drew (S := fun W => W.cell? ⟨H, 0, none⟩ = some (.int .i64 kd)) (by kernel_rfl) ?_ (fun hHeld => ?_)
          · exact h0
          refine tk 0 ⟨some 62, _, _, _, _, _⟩ ?_ rfl ?_ ?_
          rotate_left
          · (intro w hSw; (try dsimp only at hSw); go_simp; try with_reducible rfl)
          try simp only [tkS]
          refine tk 3 ⟨some 65, _, _, _, _, _⟩ ?_ rfl ?_ ?_
          rotate_left
          · (intro w hSw; (try dsimp only at hSw); go_simp; try with_reducible rfl)
          try simp only [tkS]
          refine tk 4 ⟨some 66, _, _, _, _, _⟩ ?_ rfl ?_ ?_
          rotate_left
          · (intro w hSw; (try dsimp only at hSw); go_simp; try with_reducible rfl)
          try simp only [tkS]
          refine wpAnyH_ready (rs := [1]) (by kernel_rfl) (by simp) ?_
          refine AllReadyH.cons (o := ⟨some 63, _, _, _, _, _⟩) rfl (fun K hK => ?_) AllReadyH.nil
          go_simp
          refine (itoaS_any (k : Int) (by omega) (by omega) _ (((HTB.out.ext HX2.out).ext (HE2.out.trans_ HX.out)).ext (by repeat (first | exact Ext.refl _ | (refine Ext.drew_ ?_) | (refine Ext.drewN_ ?_ _))))).mono ?_
          rintro e w6 ⟨rfl, hq⟩
          have q6 := hq.cell_ hHeld
          have HX6 : Hid (Ext W5 w6) := Ext.trans_ (by repeat (first | exact Ext.refl _ | (refine Ext.drew_ ?_) | (refine Ext.drewN_ ?_ _))) hq
          clear hq
          refine hK.out _ _ ?_ (fun hHeld => ?_)
          · (try dsimp only); exact q6
          clear hK K
          try simp only [tkS]
          refine tk 2 ⟨some 64, _, _, _, _, _⟩ ?_ rfl ?_ ?_
          rotate_left
          · (intro w hSw; (try dsimp only at hSw); go_simp; try with_reducible rfl)
          try simp only [tkS]
          refine wpAnyH_ready (rs := [5]) (by kernel_rfl) (by simp) ?_
          refine AllReadyH.cons (o := ⟨some 67, _, _, _, _, _⟩) rfl (fun K hK => ?_) AllReadyH.nil
          go_simp
          refine (itoaS_any kd (by omega) (by omega) _ (((HTB.out.ext HX2.out).ext (HE2.out.trans_ HX.out)).ext HX6.out)).mono ?_
          rintro e w7 ⟨rfl, hq⟩
          have q7 := hq.cell_ hHeld
          have HX7 := Lib.hid hq
          clear hq
          refine hK.out _ _ ?_ (fun hHeld => ?_)
          · (try dsimp only); exact q7
          clear hK K
          try simp only [tkS]
          refine tk 6 ⟨some 68, _, _, _, _, _⟩ ?_ rfl ?_ ?_
          rotate_left
          · (intro w hSw; (try dsimp only at hSw); go_simp; try with_reducible rfl)
          try simp only [tkS]
          refine wpAnyH_ready (rs := [7]) (by kernel_rfl) (by simp) ?_
          refine AllReadyH.cons (o := ⟨some 69, _, _, _, _, _⟩) rfl (fun K hK => ?_) AllReadyH.nil
          go_simp
          refine (write_ex bl bl s _ _ (HB2.out.ext (HX.out.trans_ (HX6.out.trans_ HX7.out))) (by rw [ByteArray.size_append, ByteArray.size_append, z1']; have := HSZ.out; omega) (by have h1 := HBL.out; have h2 := HE2.out.size; have h3 := HX.out.size; have h4 := HX6.out.size; have h5 := HX7.out.size; omega)).mono ?_
          rintro e w8 ⟨z, rfl, q1, q2, q3⟩
          have HB8 := Lib.hid q1
          have HQ2 := Lib.hid q2
          have hob8 := q3 H _ ((HX6.out.trans_ HX7.out).heap_ HOB.out) (by simp; have := HHB.out; omega) (by intro c fz e; injection e with e1 e2; revert e2; decide)
          have HOB8 := Lib.hid hob8
          have q8 : w8.cell? ⟨H, 0, none⟩ = some (.int .i64 kd) := by simp [World.cell?, hob8]
          clear q1 q2 q3 hob8
          refine hK.out _ _ ?_ (fun hHeld => ?_)
          · (try dsimp only); exact q8
          clear hK K
          try simp only [tkS]
          refine wpAnyH_done (by kernel_rfl) ?_ _
          have hHW := hHeld
          clear hHeld h0
          have hE8 : Ext w2 w8 := bld_step HBL.out HE2.out (HX.out.trans_ (HX6.out.trans_ HX7.out)) HQ2.out
          have hB8 : Bld bl bl (headS k kd s) w8 := by
            have e : headS k kd s = s ++ ((decS (k : Int) ++ ⟨#[32]⟩) ++ decS kd) := by unfold headS; simp only [ByteArray.append_assoc]
            rw [e]; exact HB8.out
          obtain ⟨y, hy⟩ : ∃ y, y = headS k kd s := ⟨_, rfl⟩
          rw [← hy] at hB8 hhs
          have HY := Lib.hid hy
          have HE8 := Lib.hid hE8
          have HB8y := Lib.hid hB8
          have hMc := HM.out.ext (HX2.out.trans_ hE8)
          have q08 := (HX2.out.trans_ hE8).cell_ HP.out
          have h08 : w8.cell? ⟨H, 0, none⟩ = some (.int .i64 kd) := by simp [World.cell?, HOB8.out]
          have hk1 : (kd == 1) = false := by simp; omega
          have hk2 : (kd == 2) = false := by simp; omega
          have hk1' : ¬ kd = 1 := by omega
          have hk2' : ¬ kd = 2 := by omega
          have c3 := hMc.W
          have hbz8 := hMc.lt
          simp only [Nat.zero_add] at c3
          rw [HWA.out] at c3
          have hcap := hMc.capW
          have hsz := HXN.out
          have hm1 := HM1.out
          have h3 : w8.cell? ⟨H, 3, none⟩ = some (.int .i64 (hSize x.w)) := by simp [World.cell?, HOB8.out]
          obtain ⟨A, C, hsl, hAC, hAn, hRA⟩ := run_part (P := Tryz.prog) undU64 sizeU64 wb wo M.W.length S.W.2 (x.a + 1) (x.a + 1 + x.n) ((x.a : Int) + 1) ((x.a : Int) + 1 + hSize x.w) (by omega) (by omega) (by omega) (by omega)
          have HRA2 : Hid (∀ wr, RMem wr b 0 M S → RSl wr A (wcells (fldsW M.W x))) := fun wr hr => by
            have := hRA wr _ (HWA.out ▸ hr.rW)
            rw [flds_cells M x (by omega)] at this
            exact this
          rw [show x.a + 1 + x.n - (x.a + 1) = x.n by omega] at hsl hAC
          have e1 : IntKind.i64.wrap ((x.a : Int) + 1) = (x.a : Int) + 1 := IntWalk.i64_in _ (by have := HWW.out; omega)
          have e2 : IntKind.i64.wrap ((x.a : Int) + 1 + hSize x.w) = (x.a : Int) + 1 + hSize x.w := IntWalk.i64_in _ (by have := HWW.out; omega)
          have hxn : x.n ≤ 1000000 := by omega
          have hHz := cell_lt h3
          simp only at hHz
          clear hRA hMc hcap hm1 hy hE8 hB8 hHW
          go_wp2
          go_region
          go_wp2
          have HXN2 := Lib.hid hxn
          obtain ⟨wB, hwB⟩ : ∃ x, x = w8.drew := ⟨_, rfl⟩
          have HEB : Hid (Ext w2 wB) := by rw [hwB]; exact HE8.out.drew_
          have HBB : Hid (Bld bl bl y wB) := by rw [hwB]; exact HB8y.out.ext ((Ext.refl _).drew_)
          have HOBB : Hid (wB.heap[H]? = some (.cells #[.int .i64 kd, .int .i64 (hAge x.w), .int .i64 (hMark x.w), .int .i64 (hSize x.w)] 78 (0, 0))) := by rw [hwB]; exact HOB8.out
          clear hsl hAC e1 e2 c3 h3
          go_loopg [88] (x.n) (fun r i wr2 => ∃ (j : Nat) (t : ByteArray), j + r = x.n ∧ i = .int .i64 (j : Int) ∧ t.size ≤ y.size + 40 * j ∧ Hid (t = fieldsS l kd ((fldsW M.W x).take j) y) ∧ Hid (Bld bl bl t wr2) ∧ Hid (Ext w2 wr2) ∧ Hid (wr2.heap[H]? = some (.cells #[.int .i64 kd, .int .i64 (hAge x.w), .int .i64 (hMark x.w), .int .i64 (hSize x.w)] 78 (0, 0))))
          case atStart => (try rw [← hwB]); exact ⟨0, y, by omega, rfl, Nat.le_refl _, rfl, HBB.out, HEB.out, HOBB.out⟩
          case round =>
            obtain ⟨j, t, hj, rfl, htz, ht, hB, hE, hOb⟩ := hrel
            have h0 : wr.cell? ⟨H, 0, none⟩ = some (.int .i64 kd) := by simp [World.cell?, hOb.out]
            have hHz := cell_lt h0
            simp only at hHz
            cases gk with
            | succ r2 =>
              have hlt : j < x.n := by omega
              have hltz2 : (j : Int) < (x.n : Int) := by omega
              obtain ⟨ab, ao, hA, hcell⟩ := HRA2.out _ (HM.out.ext (HX2.out.trans_ hE.out)) j _ (wcells_at (fldsW M.W x) j (by simp [fldsW]; omega))
              have hgd : (fldsW M.W x).getD j 0 = wat M.W (x.a + 1 + j) := by simp [fldsW, List.getD_eq_getElem?_getD, hlt]
              rw [hgd] at hcell
              subst hA
              obtain ⟨hu2, hu3⟩ := wat_in HM.out.ok (x.a + 1 + j)
              have hsn := foldl_snoc (fieldS l kd) y (fldsW M.W x) j (by simp [fldsW]; omega)
              have hge : (fldsW M.W x)[j]'(by simp [fldsW]; omega) = wat M.W (x.a + 1 + j) := by simp [fldsW]
              rw [hge] at hsn
              have hfb : rawB kd = false → fldB (startsM M) (wat M.W (x.a + 1 + j)) = true := fun hr => HFO2.out hr j hlt
              generalize wat M.W (x.a + 1 + j) = u at *
              have htd := toldS_size u l
              have hfz := fieldS_size l kd t u
              have hblz := hB.out.lt
              have HJ := Lib.hid hj
              have HSN := Lib.hid hsn
              have HFB := Lib.hid hfb
              have HTZ := Lib.hid htz
              have hyz : y.size ≤ 1000000000000 := by have := HSZ.out; omega
              clear hj hsn hfb htz hgd hge hlt
              have hrw : rawB kd = false := decide_eq_false (by omega)
              have HR := Lib.hid hrw
              have HU := Lib.hid (HFB.out hrw)
              have z2 : (⟨#[32]⟩ : ByteArray).size = 1 := rfl
              clear hrw
              go_wp2_with (first
                | (go_at_call 53; refine (mTold_any M HG.out u hu2 hu3 HU.out (by rw [← HLL.out]; omega) mb _ (HMP.out.ext hE.out) ((HTB.out.ext HX2.out).ext hE.out)).mono ?_; rintro e w4 ⟨he, hq⟩; rw [← HLL.out] at he; subst he; have HX4 := Lib.hid hq; clear hq)
                | (go_at_call 52; refine (write_ex bl bl t _ _ (hB.out.ext HX4.out) (by rw [ByteArray.size_append]; have := HTZ.out; omega) (by have h1 := HX4.out.size; omega)).mono ?_; rintro e w6 ⟨z, rfl, q1, q2, q3⟩; have HB6 := Lib.hid q1; have HE6 := Lib.hid (bld_step HBL.out hE.out HX4.out q2); have HO6 := Lib.hid (q3 H _ (HX4.out.heap_ hOb.out) (by simp; have := HHB.out; omega) (by intro c fz e; injection e with e1 e2; revert e2; decide)); clear q1 q2 q3))
              go_roundg r2
              case measure => omega
              case rel =>
                refine ⟨j + 1, fieldS l kd t u, (by have := HJ.out; omega), (by go_num), (by have := HTZ.out; omega), ?_, ?_, HE6.out, HO6.out⟩
                · show _ = _
                  have h1 := HSN.out
                  unfold fieldsS at ht ⊢
                  rw [h1, ← ht.out]
                · have e : fieldS l kd t u = t ++ (⟨#[32]⟩ ++ toldS u l) := by
                    unfold fieldS
                    rw [if_neg (show ¬ kd < 8 by omega)]
                    simp only [ByteArray.append_assoc]
                  rw [e]
                  exact HB6.out
            | zero =>
              obtain rfl : j = x.n := by omega
              have hltz2 : ¬ ((x.n : Nat) : Int) < (x.n : Int) := by omega
              have ht' : t = fieldsS l kd (fldsW M.W x) y := by
                have := ht.out
                rw [List.take_of_length_le (by simp [fldsW])] at this
                exact this
              have HT' := Lib.hid ht'
              have hxn' := HXN.out
              have HTZ := Lib.hid htz
              have hblz := hB.out.lt
              clear ht ht' hj htz
              go_wp2_with (go_at_call 52; refine (write_ex bl bl t _ _ hB.out (by have h1 := HTZ.out; have h2 := HSZ.out; omega) (by omega)).mono ?_; rintro e w6 ⟨z, rfl, q1, q2, q3⟩; have HB6 := Lib.hid q1; have HE6 := Lib.hid (bld_step HBL.out hE.out (Ext.refl _) q2); clear q1 q2 q3)
              go_roundg r
              case measure => omega
              case rel =>
                refine ⟨k + 1, t ++ ⟨#[10]⟩, (by have := HK2.out; omega), (by go_num), (by rw [ByteArray.size_append]; have h1 := HTZ.out; have h2 := HSZ.out; omega), ?_, HB6, HE6⟩
                have h := HS2.out
                rw [← HY.out, ← HT'.out] at h
                exact h
        | zero =>
          obtain rfl : k = l.length := by omega
          have hltz : ¬ ((l.length : Nat) : Int) < (l.length : Int) := by omega
          have hgs : s = graphS M := by
            have h := hs.out
            rw [List.drop_length, objsS] at h
            exact h
          obtain ⟨g, hg⟩ : ∃ g, g = graphS M := ⟨_, rfl⟩
          rw [← hg] at hgs
          subst hgs
          have HGS := Lib.hid hg
          have hblz := hB.out.lt
          clear hs hg hk hsz
          go_wp2_with (go_at_call 60; refine (string_any bl bl _ _ hB.out (by omega)).mono ?_; rintro e w8 ⟨rfl, hq⟩; have HQ8 := Lib.hid (bld_step HBL.out hE.out (Ext.refl _) hq); clear hq)
          go_ret
          exact ⟨by rw [HGS.out]; rfl, HX2.out.trans_ HQ8.out⟩
end Go.Proofs.YtbbiaepgenbloaaGreatDoor
/- The closed fact on heaps: a heap of two roots holds two words. -/
namespace Go.Proofs.YtbbiaepgenbloaaGreatDoor
open Go.RowKit
set_option linter.unusedVariables false
set_option linter.unusedSimpArgs false

section
variable {B hb b : Nat} {M : Mem} {S : Sls} {E : Nat → Addr} {ten nx : Int}
/-- A step on a heap of the call's own turns nothing that was there. -/
theorem HStep.extB {w0 w1 w' : World} {S' : Sls} (hX : Ext w0 w1) (hB : w0.heap.size ≤ B) (hH : OHeap w1 B hb b M S ten nx) (hS : HStep hb b w1 S w' S') : Ext w0 w' :=
  Below.trans hX ⟨hS.keep.os, hS.keep.tape, hS.keep.output, hS.keep.size, fun k hk => hS.keep.block k (Nat.lt_of_lt_of_le hk hX.size) fun e => by have := (hH.own e).1; omega⟩
theorem G4.gb {w : World} (h : G4 E w) : GB w.heap.size := ⟨cell_lt h.bound, cell_lt h.shape, cell_lt h.place, cell_lt h.full⟩
theorem HInv.few {M : Mem} {nx : Int} (h : HInv M nx) (hr : M.roots.length ≤ 1000000) (hw : M.weak.length ≤ 1000000) (hi : M.ids.length ≤ 1000000) : Few M := by
  have hs := (good_parts (chk_zero h.chk).1).1
  obtain ⟨h1, h2, h3, h4, h5, h6, h7, h8, h9, h10, h11, h12, h13, h14⟩ := hs
  refine ⟨by omega, hr, hw, hi, ?_⟩
  have : (M.old + M.card - 1) / M.card ≤ M.old + M.card - 1 := Int.ediv_le_self _ (by omega)
  omega
end
theorem newHM_inv (half old card : Int) (n : Nat) (h : newOK half old card = true) (hn : n ≤ 5000) : HInv (newHM half old card n) 1 := by
  refine ⟨newHM_ok half old card n h hn, ?_, by omega, by simp [newHM, newM]⟩
  simp only [newOK, Bool.and_eq_true] at h
  obtain ⟨⟨h1, h2⟩, h3⟩ := h
  exact (good_fresh half old card (inR_true.1 h1) (inR_true.1 h2) (inR_true.1 h3) (List.replicate n 2) fun x hx => by rw [(List.mem_replicate.1 hx).2]; decide).chk
theorem hnew2_yes (half old card ten : Int) (h : newOK half old card = true) (ht : 0 ≤ ten ∧ ten ≤ 15) (w : World) :
    Calls Tryz.prog 9 #[.agg #[.int .i64 half, .int .i64 old, .int .i64 card, .int .i64 ten], .int .i64 2] w (HNewPost w ten (newHM half old card 2)) := hnew_yes half old card ten 2 h ht (by omega) w
/-! The closed memories. -/
def holdM0 : Mem := newHM 8 16 4 2
def holdM1 : Mem := rootM holdM0 0 29
def holdM2 : Mem := rootM (objM holdM1 1 8 1) 1 4
theorem hold_c1 : numC holdM0 1 7 = 0 ∧ putR (numM holdM0 1 7) (numC holdM0 1 7) 0 (numV holdM0 1 7) = holdM1 := ⟨rfl, rfl⟩
theorem hold_c2 : objC holdM1 1 1 = 0 ∧ objPl holdM1 1 1 = 0 := by decide +kernel
theorem hold_g : graphS holdM2 = ⟨#[114, 111, 111, 116, 32, 55, 10, 114, 111, 111, 116, 32, 64, 48, 10, 48, 32, 56, 32, 110, 111, 110, 101, 10]⟩ := by decide +kernel
theorem hold_k : (reachP holdM2).all (fun x => decide (8 ≤ hKind x.w)) = true := by decide +kernel
theorem hold_i1 : HInv holdM1 1 := by
  have h := newHM_inv 8 16 4 2 (by decide) (by omega)
  obtain ⟨lN, lO, hg⟩ := good_of h.chk
  exact (rootM_inv h hg 0 29 (by omega) (by rfl)).1
theorem hold_i2 : HInv holdM2 1 ∧ holdM2.roots.length = 2 ∧ holdM2.weak.length = 0 ∧ holdM2.ids.length = 0 := by
  obtain ⟨i1, i2, i3⟩ := objM_inv (ten := 1) (sz := 1) (by omega) hold_i1 8 (by omega) (by omega)
  obtain ⟨a, ha, hN⟩ := i3 hold_c2.1
  obtain ⟨lN, lO, hg, hm⟩ := hN.good
  rw [hold_c2.2] at ha
  have ha0 : a = 0 := by omega
  subst ha0
  refine ⟨(rootM_inv i1 hg 1 4 (by omega) ?_).1, ?_, ?_, ?_⟩
  · unfold fldB
    rw [if_pos (by decide), Bool.or_eq_true]
    exact Or.inr (stL_mem.2 hm)
  · show ((objM holdM1 1 8 1).roots.set 1 4).length = 2
    rw [List.length_set, i2.roots]; rfl
  · show (objM holdM1 1 8 1).weak.length = 0
    rw [i2.weak]; rfl
  · show (objM holdM1 1 8 1).ids.length = 0
    have := i2.ids
    have e : holdM1.ids.length = 0 := rfl
    omega
set_option maxRecDepth 100000 in
set_option maxHeartbeats 4000000 in
theorem hold_walk (E : Nat → Addr) (w : World) (hE : G4 E w) (hT : Tabs w) :
    Calls Tryz.prog 8 #[] w fun e w' => e = .returned (.bool true) ∧ Ext w w' := by
  have HE := Lib.hid hE
  have HT := Lib.hid hT
  have HGB := Lib.hid hE.gb
  clear hE hT
  go_enter Tryz.func8, Tryz.ntmps8
  go_wp2_with (first
    | (go_at_call 9; refine (hnew2_yes 8 16 4 1 (by decide) (by omega) _).mono ?_; rintro e w1 ⟨hb, b, S, rfl, h1, hq⟩; have HH1 : Hid (OHeap w1 w.heap.size hb b holdM0 S 1 1) := h1; have HX1 := Lib.hid hq; clear h1 hq)
    | (go_at_call 28; refine (int_walk _ HH1.out (newHM_inv 8 16 4 2 (by decide) (by omega)) (HE.out.ext HX1.out) (by omega) HGB.out 0 (by omega) (by decide) 7).mono ?_; rintro e w2 ⟨he, S2, h1, h2⟩; rw [show errC E (numC holdM0 1 7) = .nilIface from rfl] at he; subst he; have HH2 : Hid (OHeap w2 w.heap.size hb b holdM1 S2 1 1) := h1; have HS2 := Lib.hid h2; clear h1 h2)
    | (go_at_call 10; refine (make_walk w2 HH2.out hold_i1 ((HE.out.ext HX1.out).step HH1.out HS2.out HGB.out) (by omega) HGB.out 1 (by omega) (by decide) 8 1 (by omega) (by omega)).mono ?_; rintro e w3 ⟨he, S3, h1, h2⟩; rw [hold_c2.1, show errC E 0 = .nilIface from rfl] at he; subst he; rw [hold_c2.1, hold_c2.2] at h1; have HH3 : Hid (OHeap w3 w.heap.size hb b holdM2 S3 1 1) := h1; have HS3 : Hid (HStep hb b w1 S w3 S3) := HS2.out.trans_ h2; have HX3 : Hid (Ext w w3) := HStep.extB HX1.out (Nat.le_refl _) HH1.out HS3.out; clear h1 h2)
    | (go_at_call 25; refine (show_walk hb b holdM2 S3 w3 (HH3.out.mem.mem hold_i2.1.ok) HH3.out.ptr (chk_zero hold_i2.1.chk).1 (hold_i2.1.few (by rw [hold_i2.2.1]; omega) (by rw [hold_i2.2.2.1]; omega) (by rw [hold_i2.2.2.2]; omega)) (HT.out.ext HX3.out) (fun x hx => of_decide_eq_true (List.all_eq_true.1 hold_k x hx))).mono ?_; rintro e w4 ⟨he, hq⟩; rw [hold_g] at he; subst he; have HX4 : Hid (Ext w w4) := HX3.out.trans_ hq; clear hq))
  go_ret
  exact ⟨rfl, HX4.out⟩
end Go.Proofs.YtbbiaepgenbloaaGreatDoor
/- The document's model of a heap whose roots are all none: NewModel, Reach, Show. -/
namespace Go.Proofs.YtbbiaepgenbloaaGreatDoor
open Go.RowKit
set_option linter.unusedVariables false
set_option linter.unusedSimpArgs false

theorem infoCell : (Tryz.prog.info? 112).map (fun i => (i.zero, i.size, i.bytes)) = some (some (.agg #[.int .i64 0, .int .i64 0, .pointer none]), 3, 24) := by kernel_rfl
theorem undCells : Tryz.prog.underlying 104 = some (.slice 112) := by kernel_rfl
theorem made_at (z : Array Value) (n j : Nat) (h : j < n) : (madeCells z n)[j]? = some (z[j % z.size]!) := by
  simp [madeCells, h]
/-- A model with so many roots, all none. -/
structure NilM (w : World) (mb n G : Nat) : Prop where
  rt : w.cell? ⟨mb, 0, none⟩ = some (.slice (some ⟨G, 0, none⟩) n n)
  c0 : ∀ i, i < n → w.cell? ⟨G, i * 3, none⟩ = some (.int .i64 0)
  c1 : ∀ i, i < n → w.cell? ⟨G, i * 3 + 1, none⟩ = some (.int .i64 0)
  c2 : ∀ i, i < n → w.cell? ⟨G, i * 3 + 2, none⟩ = some (.pointer none)
theorem NilM.ext {w w' : World} {mb n G : Nat} (h : NilM w mb n G) (hx : Ext w w') : NilM w' mb n G :=
  ⟨hx.cell_ h.rt, fun i hi => hx.cell_ (h.c0 i hi), fun i hi => hx.cell_ (h.c1 i hi), fun i hi => hx.cell_ (h.c2 i hi)⟩
set_option maxRecDepth 100000 in
set_option maxHeartbeats 2000000 in
theorem newModel_walk (n : Nat) (hn : n ≤ 5000) (w : World) :
    Calls Tryz.prog 26 #[.int .i64 (n : Int)] w fun e w' => ∃ mb G, e = .returned (.pointer (some ⟨mb, 0, none⟩)) ∧ NilM w' mb n G ∧ Ext w w' := by
  obtain ⟨i0, hi0, h0a, h0b, h0c⟩ := info_parts infoCell
  obtain ⟨w1, hr1, ho1, hg1⟩ := run_make_full (P := Tryz.prog) w w.heap.size 104 112 i0 (.agg #[.int .i64 0, .int .i64 0, .pointer none]) 3 undCells hi0 h0a h0b .i64 .i64 n (by rw [h0c]; omega) (by unfold maxLen; omega) (Nat.le_refl _)
  have hx1 : Ext w w1 := Below.grown (Below.refl _ _) hg1 (Nat.le_refl _) (fun k hk => by cases hk)
  have hR := (row_rsl ho1).1
  have hcl : ∀ j, j < n * 3 → w1.cell? ⟨w.heap.size, j, none⟩ = some ((#[.int .i64 0, .int .i64 0, .pointer none] : Array Value)[j % 3]!) := fun j hj => by
    have h1 : (madeCells (Value.agg #[.int .i64 0, .int .i64 0, .pointer none]).cells (n * 3)).toList[j]? = some ((#[.int .i64 0, .int .i64 0, .pointer none] : Array Value)[j % 3]!) := by
      rw [Array.getElem?_toList]
      exact made_at _ _ _ hj
    have := hR.at_ h1
    simpa using this
  have hN : NilM (w1.alloc (.cells #[.slice (some ⟨w.heap.size, 0, none⟩) n n, .slice none 0 0, .int .i64 0] 107)) w1.heap.size n w.heap.size := by
    have hx := (Ext.refl w1).alloc_ (.cells #[.slice (some ⟨w.heap.size, 0, none⟩) n n, .slice none 0 0, .int .i64 0] 107)
    refine ⟨by rw [World.cell?, heap_alloc_new]; rfl, fun i hi => hx.cell_ ?_, fun i hi => hx.cell_ ?_, fun i hi => hx.cell_ ?_⟩
    · rw [hcl _ (by omega), show i * 3 % 3 = 0 by omega]; rfl
    · rw [hcl _ (by omega), show (i * 3 + 1) % 3 = 1 by omega]; rfl
    · rw [hcl _ (by omega), show (i * 3 + 2) % 3 = 2 by omega]; rfl
  have HN := Lib.hid hN
  have HX := Lib.hid (hx1.alloc_ (.cells #[.slice (some ⟨w.heap.size, 0, none⟩) n n, .slice none 0 0, .int .i64 0] 107))
  clear ho1 hg1 hx1 hR hcl hN
  go_enter Tryz.func26, Tryz.ntmps26
  go_wp2
  go_ret
  exact ⟨w1.heap.size, w.heap.size, rfl, HN.out, HX.out⟩
set_option maxRecDepth 100000 in
set_option maxHeartbeats 2000000 in
theorem meet_none (v : Value) (n : Int) (p : Option Addr) (w : World) : Calls Tryz.prog 111 #[v, .agg #[.int .i64 0, .int .i64 n, .pointer p]] w fun e w' => e = .returned v ∧ Ext w w' := by
  go_enter Tryz.func111, Tryz.ntmps111
  go_wp2
  go_ret
  exact ⟨rfl, (Ext.refl _).alloc_ _⟩
set_option maxRecDepth 100000 in
set_option maxHeartbeats 2000000 in
theorem cellText_none (v : Value) (n : Int) (p : Option Addr) (w : World) : Calls Tryz.prog 62 #[.agg #[.int .i64 0, .int .i64 n, .pointer p], v] w fun e w' => e = .returned (.string ⟨#[110, 111, 110, 101]⟩) ∧ Ext w w' := by
  go_enter Tryz.func62, Tryz.ntmps62
  go_wp2
  go_ret
  exact ⟨rfl, by repeat (first | exact Ext.refl _ | (refine Ext.alloc_ ?_ _))⟩
set_option maxRecDepth 100000 in
set_option maxHeartbeats 4000000 in
theorem mreachN_walk (mb n G : Nat) (w : World) (hN : NilM w mb n G) (hn : n ≤ 5000) :
    Calls Tryz.prog 61 #[.pointer (some ⟨mb, 0, none⟩)] w fun e w' => e = .returned (.slice none 0 0) ∧ Ext w w' := by
  have HN := Lib.hid hN
  clear hN
  go_enter Tryz.func61, Tryz.ntmps61
  go_wp2
  go_loopg [3, 4] (n) (fun r o i wr => ∃ k : Nat, k + r = n ∧ i = .int .i64 (k : Int) ∧ o = .slice none 0 0 ∧ Hid (Ext w wr))
  case atStart => exact ⟨0, by omega, rfl, rfl, Ext.refl w⟩
  case round =>
    obtain ⟨k, hk, rfl, rfl, hE⟩ := hrel
    have hM := HN.out.ext hE.out
    have q0 := hM.rt
    cases gk with
    | succ r =>
      have hlt : k < n := by omega
      have hltz : (k : Int) < (n : Int) := by omega
      have f1 : IntKind.i64.wrap ((k : Int) + 1) = ((k + 1 : Nat) : Int) := by rw [IntWalk.i64_in _ (by omega)]; omega
      have r0 := hM.c0 k hlt
      have r1 := hM.c1 k hlt
      have r2 := hM.c2 k hlt
      have HK := Lib.hid hk
      clear hM hk
      go_wp2_with (go_at_call 111; refine (meet_none _ _ _ _).mono ?_; rintro e w2 ⟨rfl, hq⟩; have HX2 : Hid (Ext w w2) := hE.out.trans_ hq; clear hq)
      go_roundg r
      case measure => omega
      case rel => exact ⟨k + 1, (by have := HK.out; omega), (by go_num), rfl, HX2.out⟩
    | zero =>
      obtain rfl : k = n := by omega
      have hltz : ¬ (k : Int) < (k : Int) := by omega
      clear hM
      go_wp2
      refine wp_loop_rounds 1 ?_
      rw [rounds_succ]
      go_wp2
      go_ret
      exact ⟨rfl, hE.out⟩
/-! The text. -/
def noneS : Nat → ByteArray
  | 0 => ⟨#[]⟩
  | n + 1 => ((noneS n ++ ⟨#[114, 111, 111, 116, 32]⟩) ++ ⟨#[110, 111, 110, 101]⟩) ++ ⟨#[10]⟩
theorem noneS_size : ∀ n, (noneS n).size = 10 * n
  | 0 => rfl
  | n + 1 => by
    unfold noneS
    rw [ByteArray.size_append, ByteArray.size_append, ByteArray.size_append, noneS_size n]
    show 10 * n + 5 + 4 + 1 = _
    omega
set_option maxRecDepth 100000 in
set_option maxHeartbeats 4000000 in
theorem mshowN_walk (mb n G : Nat) (w : World) (hN : NilM w mb n G) (hn : n ≤ 5000) :
    Calls Tryz.prog 27 #[.pointer (some ⟨mb, 0, none⟩)] w fun e w' => e = .returned (.string (noneS n)) ∧ Ext w w' := by
  have HN := Lib.hid hN
  clear hN
  go_enter Tryz.func27, Tryz.ntmps27
  go_wp2_with (go_at_call 61; refine (mreachN_walk mb n G _ HN.out hn).mono ?_; rintro e w1 ⟨rfl, hq⟩; have HX1 := Lib.hid hq; clear hq)
  go_loopg [4, 5] (n) (fun r o i wr => ∃ (k : Nat) (s : ByteArray), k + r = n ∧ i = .int .i64 (k : Int) ∧ o = .string s ∧ s.size = 10 * k ∧ Hid (s = noneS k) ∧ Hid (Ext w wr))
  case atStart => exact ⟨0, ⟨#[]⟩, by omega, rfl, rfl, rfl, rfl, HX1.out⟩
  case round =>
    obtain ⟨k, s, hk, rfl, rfl, hz, hs, hE⟩ := hrel
    have hM := HN.out.ext hE.out
    have q0 := hM.rt
    cases gk with
    | succ r =>
      have hlt : k < n := by omega
      have hltz : (k : Int) < (n : Int) := by omega
      have f1 : IntKind.i64.wrap ((k : Int) + 1) = ((k + 1 : Nat) : Int) := by rw [IntWalk.i64_in _ (by omega)]; omega
      have r0 := hM.c0 k hlt
      have r1 := hM.c1 k hlt
      have r2 := hM.c2 k hlt
      have z1 : (⟨#[114, 111, 111, 116, 32]⟩ : ByteArray).size = 5 := rfl
      have z2 : (⟨#[110, 111, 110, 101]⟩ : ByteArray).size = 4 := rfl
      have z3 : (⟨#[10]⟩ : ByteArray).size = 1 := rfl
      have n1 : ¬ 9223372036854775807 < s.size + 5 := by omega
      have n2 : ¬ 9223372036854775807 < s.size + 5 + 4 := by omega
      have n3 : ¬ 9223372036854775807 < s.size + 5 + 4 + 1 := by omega
      have HK := Lib.hid hk
      have HZ := Lib.hid hz
      clear hM hk hz
      go_wp2_with (go_at_call 62; refine (cellText_none _ _ _ _).mono ?_; rintro e w2 ⟨rfl, hq⟩; have HX2 : Hid (Ext w w2) := hE.out.trans_ hq; clear hq)
      go_roundg r
      case measure => omega
      case rel =>
        refine ⟨k + 1, _, (by have := HK.out; omega), (by go_num), rfl, ?_, ?_, HX2.out⟩
        · rw [ByteArray.size_append, ByteArray.size_append, ByteArray.size_append, z1, z2, z3]; have := HZ.out; omega
        · rw [Hid, hs.out]; rfl
    | zero =>
      obtain rfl : k = n := by omega
      have hltz : ¬ (k : Int) < (k : Int) := by omega
      have hs2 := hs.out
      subst hs2
      clear hM hs
      go_wp2
      refine wp_loop_rounds 1 ?_
      rw [rounds_succ]
      go_wp2
      go_ret
      exact ⟨rfl, hE.out⟩
/-! The heap's text is the same. -/
theorem reach_none (M : Mem) (h : ∀ u ∈ M.roots, u = 2) : reachP M = [] := by
  have h1 : ∀ us : List Int, (∀ u ∈ us, u = 2) → comesP M.W [] us = [] := fun us => by
    induction us with
    | nil => intro _; rfl
    | cons u us ih =>
      intro hu
      have e : u = 2 := hu u (by simp)
      subst e
      show comesP M.W (comeP M.W [] 2) us = []
      have e2 : comeP M.W [] 2 = [] := by
        unfold comeP
        rw [if_neg (by intro q; exact absurd q.1 (by decide))]
      rw [e2]
      exact ih fun v hv => hu v (by simp [hv])
  unfold reachP
  rw [h1 _ h]
  cases M.W.length <;> rfl
theorem graph_none (M : Mem) (n : Nat) (h : M.roots = List.replicate n 2) : graphS M = noneS n := by
  have hr : reachP M = [] := reach_none M fun u hu => by rw [h] at hu; exact (List.mem_replicate.1 hu).2
  unfold graphS
  rw [hr, h]
  show rootsS [] (List.replicate n 2) ⟨#[]⟩ = noneS n
  have key : ∀ (k : Nat) (o : ByteArray) (j : Nat), o = noneS j → rootsS [] (List.replicate k 2) o = noneS (j + k) := fun k => by
    induction k with
    | zero => intro o j ho; exact ho
    | succ k ih =>
      intro o j ho
      rw [List.replicate_succ]
      show rootsS [] (List.replicate k 2) (rootS [] o 2) = _
      rw [ih (rootS [] o 2) (j + 1) (by rw [ho]; rfl)]
      congr 1; omega
  have := key n ⟨#[]⟩ 0 rfl
  rw [Nat.zero_add] at this
  exact this
end Go.Proofs.YtbbiaepgenbloaaGreatDoor
/- The law HeapNew, walked. -/
namespace Go.Proofs.YtbbiaepgenbloaaGreatDoor
open Go.RowKit
set_option linter.unusedVariables false
set_option linter.unusedSimpArgs false

def validH (half old card ten roots : Int) : Bool := newOK half old card && decide (0 ≤ ten) && decide (ten ≤ 15) && decide (0 ≤ roots) && decide (roots ≤ 5000)
set_option maxRecDepth 100000 in
set_option maxHeartbeats 4000000 in
theorem hnew_no (half old card ten roots : Int) (h : validH half old card ten roots = false) (w : World) (E : Nat → Addr) (hE : G4 E w) :
    Calls Tryz.prog 9 #[.agg #[.int .i64 half, .int .i64 old, .int .i64 card, .int .i64 ten], .int .i64 roots] w fun e w' => e = .returned (.tuple #[.pointer none, errV (E 1)]) ∧ Ext w w' := by
  have HE := Lib.hid hE
  have h5 : newOK half old card = false ∨ (newOK half old card = true ∧ (ten < 0 ∨ (¬ ten < 0 ∧ 15 < ten) ∨ (¬ ten < 0 ∧ ¬ 15 < ten ∧ roots < 0) ∨ (¬ ten < 0 ∧ ¬ 15 < ten ∧ ¬ roots < 0 ∧ 5000 < roots))) := by
    cases hn : newOK half old card with
    | false => exact Or.inl rfl
    | true =>
      right
      refine ⟨rfl, ?_⟩
      unfold validH at h
      rw [hn] at h
      simp only [Bool.true_and, Bool.and_eq_false_iff, decide_eq_false_iff_not] at h
      omega
  clear h
  rcases h5 with hn | ⟨hn, hr⟩
  · have hG := Lib.hid (new_no half old card hn (w.alloc (.cells #[.int .i64 half, .int .i64 old, .int .i64 card, .int .i64 ten] 30)) (E 1) (HE.out.ext ((Ext.refl _).alloc_ _)).bound)
    clear hE
    go_enter Tryz.func9, Tryz.ntmps9
    go_upto_region 3 with (go_at_call 29; refine hG.out.mono ?_; rintro e w1 ⟨rfl, hq⟩; have HX1 : Hid (Ext w w1) := ((Ext.refl w).alloc_ _).trans_ hq; clear hq; have k1 := (HE.out.ext HX1.out).bound)
    go_region
    go_wp2
    go_ret2
    exact ⟨rfl, HX1.out.drew_⟩
  · have hG := Lib.hid (new_yes half old card hn (w.alloc (.cells #[.int .i64 half, .int .i64 old, .int .i64 card, .int .i64 ten] 30)))
    clear hE
    rcases hr with b1 | ⟨b1, b2⟩ | ⟨b1, b2, b3⟩ | ⟨b1, b2, b3, b4⟩
    all_goals
      go_enter Tryz.func9, Tryz.ntmps9
      go_upto_region 3 with (go_at_call 29; refine hG.out.mono ?_; rintro e w1 ⟨bb, SS, rfl, hom, hq⟩; have c3 : w1.cell? ⟨w.heap.size, 3, none⟩ = some (.int .i64 ten) := hq.cell_ (by rw [World.cell?, heap_alloc_new]; rfl); have HX1 : Hid (Ext w w1) := ((Ext.refl w).alloc_ _).trans_ hq; clear hq hom; have k1 := (HE.out.ext HX1.out).bound)
      go_region
      go_wp2
      go_ret2
      exact ⟨rfl, HX1.out.drew_⟩
set_option maxRecDepth 100000 in
set_option maxHeartbeats 4000000 in
theorem words_walk (w : World) {B hb b : Nat} {M : Mem} {S : Sls} {ten nx : Int} (hH : OHeap w B hb b M S ten nx) :
    Calls Tryz.prog 17 #[.pointer (some ⟨hb, 0, none⟩)] w fun e w' => e = .returned (.tuple #[.int .i64 M.top, .int .i64 M.oldTop]) ∧ Ext w w' := by
  have q0 := hH.ptr
  have c5 : w.cell? ⟨b, 5, none⟩ = some (.int .i64 M.top) := hH.mem.num (5, M.top) (by simp [memNums])
  have c6 : w.cell? ⟨b, 6, none⟩ = some (.int .i64 M.oldTop) := hH.mem.num (6, M.oldTop) (by simp [memNums])
  clear hH
  go_enter Tryz.func17, Tryz.ntmps17
  go_wp2
  go_region
  go_wp2
  go_ret2
  exact ⟨rfl, (Ext.refl _).drew_⟩
def badA (half old card : Int) : Bool := decide (half < 1) || decide (65536 < half) || decide (old < 1) || decide (65536 < old) || decide (card < 1) || decide (1024 < card)
theorem badA_new (half old card : Int) : newOK half old card = !badA half old card := by
  unfold newOK badA inR
  have e : ∀ a b : Int, decide (a ≤ b) = !decide (b < a) := fun a b => by
    by_cases h : b < a
    · rw [decide_eq_true h, decide_eq_false (by omega)]; rfl
    · rw [decide_eq_false h, decide_eq_true (by omega)]; rfl
  simp only [e, Bool.not_or, Bool.and_assoc]
def farB (half old roots : Int) : Bool := (decide (3000 < half) && decide (half ≤ 65536)) || (decide (3000 < old) && decide (old ≤ 65536)) || (decide (300 < roots) && decide (roots ≤ 5000))
set_option maxRecDepth 100000 in
set_option maxHeartbeats 8000000 in
theorem heapNew_any (half old card ten roots : Int) (w : World) (E : Nat → Addr) (h : ErrEnv E w) (hT : Tabs w) :
    Calls Tryz.prog 7 #[.int .i64 half, .int .i64 old, .int .i64 card, .int .i64 ten, .int .i64 roots] w fun e w' => e = .returned (.bool true) ∧ Ext w w' := by
  have HE := Lib.hid h
  have HT := Lib.hid hT
  clear h hT
  go_enter Tryz.func7, Tryz.ntmps7
  go_upto_region 2 with (go_at_call 8; refine (hold_walk E _ HE.out.g4 HT.out).mono ?_; rintro e w1 ⟨rfl, hq⟩; have HX1 := Lib.hid hq; clear hq)
  go_cut [43] from 18 to 43 (fun c wx => c = .bool (farB half old roots) ∧ wx = w1)
  case first =>
    by_cases a1 : 3000 < half <;> by_cases a2 : half ≤ 65536 <;> by_cases a3 : 3000 < old <;> by_cases a4 : old ≤ 65536 <;> by_cases a5 : 300 < roots <;> by_cases a6 : roots ≤ 5000
    all_goals
      have hfb : farB half old roots = ((decide (3000 < half) && decide (half ≤ 65536)) || (decide (3000 < old) && decide (old ≤ 65536)) || (decide (300 < roots) && decide (roots ≤ 5000))) := rfl
      simp only [a1, a2, a3, a4, a5, a6, decide_true, decide_false, Bool.true_and, Bool.and_true, Bool.and_false, Bool.false_and, Bool.or_false, Bool.false_or, Bool.true_or, Bool.or_true] at hfb
      have HFB := Lib.hid hfb
      clear hfb
      go_wp2_with fail
      go_meet
      case rel => exact ⟨by rw [HFB.out], rfl⟩
  case rest =>
    obtain ⟨rfl, rfl⟩ := hcut
    cases hfar : farB half old roots with
    | true =>
      go_wp2
      go_ret
      exact ⟨rfl, HX1.out⟩
    | false =>
      have hfz : ¬ (300 < roots ∧ roots ≤ 5000) := fun q => by
        unfold farB at hfar
        rw [decide_eq_true q.1, decide_eq_true q.2] at hfar
        simp at hfar
      clear hfar
      cases hval : validH half old card ten roots with
      | true =>
        unfold validH at hval
        simp only [Bool.and_eq_true, decide_eq_true_eq] at hval
        obtain ⟨⟨⟨⟨hok, t0⟩, t1⟩, r0⟩, r1⟩ := hval
        have hbn := badA_new half old card
        rw [hok] at hbn
        have hb2 : badA half old card = false := by cases hq : badA half old card with
          | false => rfl
          | true => rw [hq] at hbn; cases hbn
        unfold badA at hb2
        simp only [Bool.or_eq_false_iff, decide_eq_false_iff_not] at hb2
        obtain ⟨⟨⟨⟨⟨v1, v2⟩, v3⟩, v4⟩, v5⟩, v6⟩ := hb2
        obtain ⟨n, rfl⟩ : ∃ n : Nat, roots = (n : Int) := ⟨roots.toNat, by omega⟩
        have u1 : ¬ ten < 0 := by omega
        have u2 : ¬ 15 < ten := by omega
        have u3 : ¬ (n : Int) < 0 := by omega
        have u4 : ¬ 5000 < (n : Int) := by omega
        have HOK := Lib.hid hok
        have hn5 : n ≤ 5000 := by omega
        have HI := Lib.hid (newHM_inv half old card n hok hn5)
        have HG : Hid (graphS (newHM half old card n) = noneS n) := graph_none _ n rfl
        have HNR : Hid (∀ x ∈ reachP (newHM half old card n), 8 ≤ hKind x.w) := fun x hx => by
          rw [reach_none (newHM half old card n) (fun u hu => (List.mem_replicate.1 hu).2)] at hx; simp at hx
        generalize hTT : noneS n = TT at HG
        have HTT := Lib.hid hTT
        clear hok hbn hTT hfz
        go_wp2_with (first
          | (go_at_call 9; refine (hnew_yes half old card ten n HOK.out ⟨by omega, by omega⟩ hn5 _).mono ?_; rintro e w2 ⟨hb, b, S, rfl, h1, hq⟩; have HH2 := Lib.hid h1; have HX2 : Hid (Ext w w2) := HX1.out.trans_ hq; clear h1 hq)
          | (go_at_call 17; refine (words_walk _ HH2.out).mono ?_; rintro e w3 ⟨he, hq⟩; rw [show (newHM half old card n).top = 0 from rfl, show (newHM half old card n).oldTop = 0 from rfl] at he; subst he; have HX3 := Lib.hid hq; clear hq)
          | (go_at_call 25; refine (show_walk hb b (newHM half old card n) S _ ((HH2.out.ext HX3.out).mem.mem HI.out.ok) (HH2.out.ext HX3.out).ptr (chk_zero HI.out.chk).1 (HI.out.few (by simp [newHM]; omega) (by simp [newHM, newM]) (by simp [newHM, newM])) (HT.out.ext (HX2.out.trans_ HX3.out)) HNR.out).mono ?_; rintro e w4 ⟨he, hq⟩; rw [HG.out] at he; subst he; have HX4 : Hid (Ext w w4) := (HX2.out.trans_ HX3.out).trans_ hq; clear hq)
          | (go_at_call 26; refine (newModel_walk n hn5 _).mono ?_; rintro e w5 ⟨mb, G, rfl, hNM, hq⟩; have HNM := Lib.hid hNM; have HX5 : Hid (Ext w w5) := HX4.out.trans_ hq; clear hNM hq)
          | (go_at_call 27; refine (mshowN_walk mb n G _ HNM.out hn5).mono ?_; rintro e w6 ⟨he, hq⟩; rw [HTT.out] at he; subst he; have HX6 : Hid (Ext w w6) := HX5.out.trans_ hq; clear hq))
        go_ret
        exact ⟨rfl, HX6.out⟩
      | false =>
        have HVAL := Lib.hid hval
        clear hval hfz
        go_upto_region 5 with (go_at_call 9; refine (hnew_no half old card ten roots HVAL.out _ E (HE.out.g4.ext HX1.out)).mono ?_; rintro e w2 ⟨rfl, hq⟩; have HX2 : Hid (Ext w w2) := HX1.out.trans_ hq; clear hq)
        go_cut [14] from 55 to 76 (fun c wx => c = .bool (badA half old card) ∧ wx = w2)
        case first =>
          have key : (∃ x, badA half old card = x) := ⟨_, rfl⟩
          by_cases a1 : half < 1
          · have HB : Hid (badA half old card = true) := by unfold Hid badA; simp [a1]
            go_wp2_with fail
            go_meet
            case rel => exact ⟨by rw [HB.out], rfl⟩
          by_cases a2 : 65536 < half
          · have HB : Hid (badA half old card = true) := by unfold Hid badA; simp [a1, a2]
            go_wp2_with fail
            go_meet
            case rel => exact ⟨by rw [HB.out], rfl⟩
          by_cases a3 : old < 1
          · have HB : Hid (badA half old card = true) := by unfold Hid badA; simp [a1, a2, a3]
            go_wp2_with fail
            go_meet
            case rel => exact ⟨by rw [HB.out], rfl⟩
          by_cases a4 : 65536 < old
          · have HB : Hid (badA half old card = true) := by unfold Hid badA; simp [a1, a2, a3, a4]
            go_wp2_with fail
            go_meet
            case rel => exact ⟨by rw [HB.out], rfl⟩
          by_cases a5 : card < 1
          · have HB : Hid (badA half old card = true) := by unfold Hid badA; simp [a1, a2, a3, a4, a5]
            go_wp2_with fail
            go_meet
            case rel => exact ⟨by rw [HB.out], rfl⟩
          by_cases a6 : 1024 < card
          · have HB : Hid (badA half old card = true) := by unfold Hid badA; simp [a1, a2, a3, a4, a5, a6]
            go_wp2_with fail
            go_meet
            case rel => exact ⟨by rw [HB.out], rfl⟩
          · have HB : Hid (badA half old card = false) := by unfold Hid badA; rw [decide_eq_false a1, decide_eq_false a2, decide_eq_false a3, decide_eq_false a4, decide_eq_false a5, decide_eq_false a6]; rfl
            go_wp2_with fail
            go_meet
            case rel => exact ⟨by rw [HB.out], rfl⟩
        case rest =>
          obtain ⟨rfl, rfl⟩ := hcut
          go_upto_region 6 with fail
          go_cut [14, 93] from 77 to 93 (fun b c wx => c = .bool true ∧ wx = wc)
          case first =>
            cases hba : badA half old card with
            | true =>
              go_wp2_with fail
              go_meet
              case rel => exact ⟨rfl, rfl⟩
            | false =>
              have hr : ten < 0 ∨ (¬ ten < 0 ∧ 15 < ten) ∨ (¬ ten < 0 ∧ ¬ 15 < ten ∧ roots < 0) ∨ (¬ ten < 0 ∧ ¬ 15 < ten ∧ ¬ roots < 0 ∧ 5000 < roots) := by
                have h := HVAL.out
                unfold validH at h
                rw [badA_new, hba] at h
                simp only [Bool.not_false, Bool.true_and, Bool.and_eq_false_iff, decide_eq_false_iff_not] at h
                omega
              clear hba
              rcases hr with b1 | ⟨b1, b2⟩ | ⟨b1, b2, b3⟩ | ⟨b1, b2, b3, b4⟩
              all_goals
                go_wp2_with fail
                go_meet
                case rel => exact ⟨rfl, rfl⟩
          case rest =>
            obtain ⟨rfl, rfl⟩ := hcut
            go_wp2_with (go_at_call 24; refine (coded_env (HE.out.ext HX2.out) 1 (by omega) 2).mono ?_; rintro e w3 ⟨rfl, hq⟩; have HX3 : Hid (Ext w w3) := HX2.out.trans_ hq; clear hq)
            go_ret
            exact ⟨rfl, HX3.out⟩
end Go.Proofs.YtbbiaepgenbloaaGreatDoor
/- The law HeapNew: its contract: whatever it is given it answers true, and leaves what was there. -/
namespace Go.Proofs.YtbbiaepgenbloaaGreatDoor.HeapNew
open Go.ChangeShapes Go.WideShapes Go.ChangeAt Go.RowKit
open Go.ChangeMaps (open_string)
set_option linter.unusedVariables false
set_option linter.unusedSimpArgs false

set_option maxRecDepth 100000 in
theorem contract (H : Type) (enc : TypeId × Value → H) (W : World) (base : Nat) (args : Array Value) (ds gs : List (DataW H)) (before : List MemPlace)
    (hval : ∀ (j : Nat) t v, Tryz.f7.params[j]? = some t → args[j]? = some v → Value.okWide Tryz.prog W .any base t v)
    (hW : DataW.Whole enc Tryz.prog Tryz.f7.params.toList Rows.heapNewSpec.vars false W args.toList ds gs before)
    (hsz : (DataW.weightsEach Tryz.prog (Tryz.f7.params.toList ++ (OpenSpec.ofChange Rows.heapNewSpec).bare.plain.varTypes Tryz.prog) (ds ++ gs)).all (· ≤ reachBytes) = true) (hL : laidMetH Tryz.prog Rows.heapNewRow.laid W) :
    Calls Tryz.prog 7 args W fun e W' => ∃ v, e = .returned v ∧ Rows.heapNewSpec.post enc Tryz.prog Tryz.f7 false true false false W args v W' := by
  have hW' := hW
  obtain ⟨p, q, hA0, hV, rfl, hfz, hnd⟩ := hW
  have hA : DataW.TrodAll enc Tryz.prog W 0 (fun _ => true) true Tryz.f7.params.toList args.toList ds p := hA0
  rw [Tryz.params7] at hA hval
  obtain ⟨v0, vs0, d0, ds0, p0, q0, hargs, rfl, rfl, h0, r0⟩ := trodAll_cons hA
  obtain ⟨v1, vs1, d1, ds1, p1, q1, rfl, rfl, rfl, h1, r1⟩ := trodAll_cons r0
  obtain ⟨v2, vs2, d2, ds2, p2, q2, rfl, rfl, rfl, h2, r2⟩ := trodAll_cons r1
  obtain ⟨v3, vs3, d3, ds3, p3, q3, rfl, rfl, rfl, h3, r3⟩ := trodAll_cons r2
  obtain ⟨v4, vs4, d4, ds4, p4, q4, rfl, rfl, rfl, h4, r4⟩ := trodAll_cons r3
  obtain ⟨rfl, rfl, rfl⟩ := trodAll_nil r4
  obtain rfl : args = #[v0, v1, v2, v3, v4] := by cases args; simp_all
  obtain ⟨rfl, rfl⟩ := trodVars_none hV
  obtain ⟨x0, rfl, rfl, rfl, w0⟩ := open_int Tryz.underlying3 (hval 0 3 v0 rfl rfl) h0
  obtain ⟨x1, rfl, rfl, rfl, w1⟩ := open_int Tryz.underlying3 (hval 1 3 v1 rfl rfl) h1
  obtain ⟨x2, rfl, rfl, rfl, w2⟩ := open_int Tryz.underlying3 (hval 2 3 v2 rfl rfl) h2
  obtain ⟨x3, rfl, rfl, rfl, w3⟩ := open_int Tryz.underlying3 (hval 3 3 v3 rfl rfl) h3
  obtain ⟨x4, rfl, rfl, rfl, w4⟩ := open_int Tryz.underlying3 (hval 4 3 v4 rfl rfl) h4
  obtain ⟨E, hE⟩ := env_of_laid (W := W) (hL.filter fun x => laid8.any (·.1 == x.1))
  have hT : Tabs W := tabs_of_laid (hL.filter fun x => x.1 == "math/bits.deBruijn64tab" || x.1 == "internal/strconv.uint64pow10")
  clear hA0
  refine (heapNew_any x0 x1 x2 x3 x4 W E hE hT ).mono fun e W' ⟨he, hg⟩ => ?_
  subst he
  exact ⟨_, rfl, law_post rfl rfl hW' (by simp [Rows.heapNewSpec]) (by decide +kernel) hg⟩
end Go.Proofs.YtbbiaepgenbloaaGreatDoor.HeapNew
