/- slices.SortedFunc at numbers. -/
import Derived.Test.YtecbbbaafcoliaaGreatDoorJYd02
import Derived.Test.YtecbbbaafcoliaaGreatDoorJYa22
import Derived.Test.YtecbbbaafcoliaaGreatDoorJYa40
import Derived.Test.YtecbbbaafcoliaaGreatDoorJYa12
import Derived.Deep.LoopGhost
import Derived.Deep.RegionHeld3
import Derived.Test.YtecbbbaafcoliaaGreatDoorJYa31
import Derived.Test.YtecbbbaafcoliaaGreatDoorJYa32
import Derived.Test.YtecbbbaafcoliaaGreatDoorJYd01
import Derived.Test.YtecbbbaafcoliaaGreatDoorJYa35
import Derived.Test.YtecbbbaafcoliaaGreatDoorJYa29
import Derived.Test.YtecbbbaafcoliaaGreatDoorJYa39
import Derived.Test.YtecbbbaafcoliaaGreatDoorJYa36
import Derived.Test.YtecbbbaafcoliaaGreatDoorJYa37
import Derived.Test.YtecbbbaafcoliaaGreatDoorJYa38
namespace Go.Proofs.YtecbbbaafcoliaaGreatDoor
open Go.RowKit
set_option linter.unusedVariables false
set_option linter.unusedSimpArgs false

def SortedPost (w : World) (ids : List (Int × Int)) (e : Ending) (w' : World) : Prop := ∃ a c, e = .returned (.slice a ids.length c) ∧ w'.ownsRow w.heap.size 68 2 (.slice a ids.length c) ids.length (icells (sortI ids)) ∧ Ext w w'
set_option maxHeartbeats 1000000 in
theorem sorted_any (vb : Nat) (sI : Option Addr) (cap : Nat) (ids : List (Int × Int)) (h1 : ids.length ≤ 1000000) (hb : ∀ x ∈ ids, (0 ≤ x.1 ∧ x.1 ≤ 18446744073709551615) ∧ 1 ≤ x.2 ∧ x.2 ≤ 9223372036854775807) (hnd : (ids.map (·.2)).Nodup) (w : World)
    (hv : w.cell? ⟨vb, 0, none⟩ = some (.slice sI ids.length cap)) (hR : RSl w sI (icells ids)) :
    Calls Tryz.prog 75 #[.func (.func 110) #[] #[.pointer (some ⟨vb, 0, none⟩)], .func (.func 77) #[] #[]] w (SortedPost w ids) := by
  have hvl := cell_lt hv
  simp only at hvl
  have HV := Lib.hid hv
  have HR := Lib.hid hR
  have HB := Lib.hid hb
  have HND := Lib.hid hnd
  clear hv hR hb hnd
  go_enter Tryz.func75, Tryz.ntmps75
  go_wp2_with (first
    | (go_at_call 108; refine (collectI_any vb sI cap ids h1 _ hvl HV.out HR.out).mono ?_; rintro e w1 ⟨a, c, rfl, q1, q2⟩; have HO := Lib.hid q1; have HX := Lib.hid q2; clear q1 q2)
    | (go_at_call 109; refine (sortI_any w.heap.size a c ids h1 (fun x hx => (HB.out x hx).2) HND.out _ HO.out).mono ?_; rintro e w2 ⟨rfl, q1, q2⟩; have HO2 := Lib.hid q1; have HX2 : Hid (Ext w w2) := Ext.keep HX.out q2 (fun k hk => (HO.out.lt k hk).1); clear q1 q2))
  go_ret
  exact ⟨a, c, rfl, HO2.out, HX2.out⟩
theorem bld_step {bl : Nat} {w2 wr w4 w5 : World} (hbl : bl = w2.heap.size) (hE : Ext w2 wr) (hx : Ext wr w4) (hb : Below bl w4 w5) : Ext w2 w5 := by subst hbl; exact (hE.trans_ hx).trans hb
theorem repeat0_any (n : Int) (h0 : 0 ≤ n) (h1 : n ≤ 16) (w : World) : Calls Tryz.prog 74 #[.string ⟨#[48]⟩, .int .i64 n] w fun e w' => ∃ rp : ByteArray, e = .returned (.string rp) ∧ rp = ⟨(Lib.repeatL [48] n.toNat).toArray⟩ ∧ rp.size ≤ 16 ∧ Ext w w' := by
  obtain ⟨c, rfl⟩ : ∃ c : Nat, n = (c : Int) := ⟨n.toNat, by omega⟩
  refine (repeat_any ⟨#[48]⟩ c w (by omega) (by have : (⟨#[48]⟩ : ByteArray).size = 1 := rfl; rw [this]; omega)).mono ?_
  rintro e w' ⟨rfl, hq⟩
  refine ⟨_, rfl, rfl, ?_, hq⟩
  show (Lib.repeatL [48] c).length ≤ 16
  rw [Lib.repeatL_length]
  simp
  omega
theorem own_write {w w' : World} {bl base size n : Nat} {e : TypeId} {v : Value} {xs : List Value} (h : w.ownsRow base e size v n xs) (hk : Lib.OthersKept 5 (some bl) w w') (hbl : bl < base) (he : e ≠ 5) : w'.ownsRow base e size v n xs := by
  obtain ⟨h1, h2⟩ := h
  refine ⟨h1, ?_⟩
  rcases h2 with h2 | ⟨g, cap, cur, hv, hb, hg, h3⟩
  · exact Or.inl h2
  · exact Or.inr ⟨g, cap, cur, hv, hb, hk g _ hg (by simp; omega) (fun c fz e2 => by injection e2 with e3 e4; exact he e4), h3⟩
theorem Ext.heap_ {w w' : World} (h : Ext w w') {k : Nat} {o : Obj} (hk : w.heap[k]? = some o) : w'.heap[k]? = some o := by
  obtain ⟨q1, q2, q3, q4, q5⟩ := h
  have hl : k < w.heap.size := by
    rcases Nat.lt_or_ge k w.heap.size with g | g
    · exact g
    · simp [Array.getElem?_eq_none g] at hk
  rw [q5 k hl]; exact hk
def GraphMPost (w : World) (M : Mem) (e : Ending) (w' : World) : Prop := e = .returned (.tuple #[.string (graphS M ++ moreS M), .nilIface]) ∧ (graphS M ++ moreS M).size ≤ 4000000000000 ∧ Ext w w'
set_option maxRecDepth 100000 in
set_option maxHeartbeats 16000000 in
theorem graphM_walk (b : Nat) (M : Mem) (S : Sls) (E : Nat → Addr) (w : World) (hM : RMem w b 0 M S) (hE : G3 E w) (hc : chk M = 0) (hF : Few M) (hT : Tabs w) :
    Calls Tryz.prog 21 #[.pointer (some ⟨b, 0, none⟩)] w (GraphMPost w M) := by
  have hg := (chk_zero hc).1
  obtain ⟨hs, hob, hro, hwk, hfo, hid⟩ := good_parts hg
  have hlr := (reachP_gath hg).len
  have hlo := objs_len hs
  have hlM := len_small hs
  have hrl : (reachP M).length ≤ 196608 := by omega
  have HC : Hid (errC E (chk M) = .nilIface) := by rw [Hid, hc]; rfl
  have HRO : Hid (∀ k, k < M.roots.length → fldB (startsM M) (M.roots.getD k 0) = true) := fun k hk => fieldsB_at hro hk
  have HWK : Hid (∀ k, k < M.weak.length → fldB (startsM M) (M.weak.getD k 0) = true) := fun k hk => fieldsB_at hwk hk
  have HRB : Hid (∀ k, k < M.roots.length → 0 ≤ M.roots.getD k 0 ∧ M.roots.getD k 0 ≤ 18446744073709551615) := fun k hk => getD_in (P := fun x => 0 ≤ x ∧ x ≤ 18446744073709551615) hM.ok.roots hk
  have HWB : Hid (∀ k, k < M.weak.length → 0 ≤ M.weak.getD k 0 ∧ M.weak.getD k 0 ≤ 18446744073709551615) := fun k hk => getD_in (P := fun x => 0 ≤ x ∧ x ≤ 18446744073709551615) hM.ok.weak hk
  have HMEM : Hid (∀ x ∈ reachP M, x ∈ objsAll M) := fun x hx => (reachP_gath hg).mem x hx
  have HIB : Hid (∀ x ∈ M.ids, (0 ≤ x.1 ∧ x.1 ≤ 18446744073709551615) ∧ 1 ≤ x.2 ∧ x.2 ≤ 9223372036854775807) := fun x hx => ⟨(hM.ok.ids x hx).1, (((idsB_iff _ _ _).1 hid).1 x hx).1.2.2.2, (hM.ok.ids x hx).2.2⟩
  have HND : Hid ((M.ids.map (·.2)).Nodup) := by
    unfold Hid List.Nodup
    rw [List.pairwise_map]
    exact ((idsB_iff _ _ _).1 hid).2.imp fun q => q.2
  have HIG : Hid (∀ x ∈ M.ids, kindW x.1 = 0 ∧ x.1 ≠ 0 ∧ fldB (startsM M) x.1 = true) := fun x hx => ⟨(((idsB_iff _ _ _).1 hid).1 x hx).1.1, (((idsB_iff _ _ _).1 hid).1 x hx).1.2.1, id_fld hid hx⟩
  have hRl := hF.R
  have hKl := hF.K
  have hIl := hF.I
  have HM := Lib.hid hM
  have HG := Lib.hid hg
  have HS := Lib.hid hs
  have HFO := Lib.hid hfo
  have HE := Lib.hid hE
  have HTB := Lib.hid hT
  have hbz := hM.lt
  clear hM hg hs hob hro hwk hfo hid hF hlr hlo hlM hE hT hc
  go_enter Tryz.func21, Tryz.ntmps21
  go_upto_region 6 with (first
    | (go_at_call 20; refine (check_c b 0 M S E _ HM.out HE.out).mono ?_; rintro e w1 ⟨he, hq⟩; rw [HC.out] at he; subst he; have HX1 := Lib.hid hq; clear hq)
    | (go_at_call 48; refine (mReach_walk b 0 M S _ (HM.out.ext HX1.out) HG.out).mono ?_; rintro e w2 ⟨ta, tc, mb, rfl, hT, hMp, hB2, hno, hq⟩; have HX2 : Hid (Ext w w2) := Ext.trans_ HX1.out hq; have HT := Lib.hid hT; have HMP := Lib.hid hMp; clear hq hT hMp hB2 hno))
  obtain ⟨bl, hbl⟩ : ∃ bl, bl = w2.heap.size := ⟨_, rfl⟩
  refine named_world' (fun W3 hW3 => ?_)
  have hB3 : Bld bl bl ⟨#[]⟩ W3 := by rw [hW3, hbl]; exact bld_new w2
  have hX3 : Ext w2 W3 := by rw [hW3]; exact (Ext.refl _).alloc_ _
  rw [← hbl]
  have HBL := Lib.hid hbl
  have HB3 := Lib.hid hB3
  have HX3 := Lib.hid hX3
  have hM3 := HM.out.ext (HX2.out.trans_ hX3)
  have r3 := hM3.roots
  have hbz3 := hM3.lt
  simp only [Nat.zero_add] at r3
  clear hW3 hX3 hB3 hbl hM3
  obtain ⟨l, hl⟩ : ∃ l, l = reachP M := ⟨_, rfl⟩
  rw [← hl] at HMEM hrl ⊢
  have HLL := Lib.hid hl
  clear hl
  obtain ⟨sr, hsr⟩ : ∃ sr, S.R.1 = sr := ⟨_, rfl⟩
  rw [hsr] at r3
  have HSR := Lib.hid hsr
  clear hsr
  have z5 : (⟨#[114, 111, 111, 116, 32]⟩ : ByteArray).size = 5 := rfl
  have z1' : (⟨#[32]⟩ : ByteArray).size = 1 := rfl
  have z1 : (⟨#[10]⟩ : ByteArray).size = 1 := rfl
  go_wp2
  go_loopg [39] (M.roots.length) (fun r i wr => ∃ (k : Nat) (s : ByteArray), k + r = M.roots.length ∧ i = .int .i64 (k : Int) ∧ s.size ≤ 40 * k ∧ Hid (s = rootsS l (M.roots.take k) ⟨#[]⟩) ∧ Hid (Bld bl bl s wr) ∧ Hid (Ext w2 wr))
  case atStart => exact ⟨0, _, by omega, rfl, Nat.le_refl _, rfl, HB3.out, HX3.out⟩
  case round =>
    obtain ⟨k, s, hk, rfl, hsz, hs, hB, hE⟩ := hrel
    cases gk with
    | succ r =>
      have hlt : k < M.roots.length := by omega
      have hltz : (k : Int) < (M.roots.length : Int) := by omega
      have hMr := HM.out.ext (HX2.out.trans_ hE.out)
      obtain ⟨rb, ro, hRa, hc⟩ := hMr.rR k _ (wcells_at M.roots k hlt)
      obtain ⟨hu2, hu3⟩ := HRB.out k hlt
      have hu1 := HRO.out k hlt
      have hsn := foldl_snoc (rootS l) ⟨#[]⟩ M.roots k hlt
      have hgd : M.roots[k] = M.roots.getD k 0 := by rw [List.getD_eq_getElem?_getD, List.getElem?_eq_getElem hlt]; rfl
      rw [hgd] at hsn
      generalize M.roots.getD k 0 = u at *
      have ht := toldS_size u l
      have hblz := hB.out.lt
      obtain rfl : sr = some ⟨rb, ro, none⟩ := HSR.out.symm.trans hRa
      have hrs := rootS_size l s u
      have HU := Lib.hid hu1
      have HSN := Lib.hid hsn
      have HK2 := Lib.hid hk
      clear hMr hRa hu1 hsn hgd hk hlt
      go_wp2_with (first
        | (go_at_call 71; refine (mTold_any M HG.out u hu2 hu3 HU.out (by rw [← HLL.out]; omega) mb _ (HMP.out.ext hE.out) ((HTB.out.ext HX2.out).ext hE.out)).mono ?_; rintro e w4 ⟨he, hq⟩; rw [← HLL.out] at he; subst he; have HX4 := Lib.hid hq; clear hq)
        | (go_at_call 70; refine (write_ex bl bl s _ _ (hB.out.ext HX4.out) (by rw [ByteArray.size_append, ByteArray.size_append]; omega) (by have := HX4.out.size; omega)).mono ?_; rintro e w5 ⟨z, rfl, q1, q2, q3⟩; have HB5 := Lib.hid q1; have HE5 := Lib.hid (bld_step HBL.out hE.out HX4.out q2); clear q1 q2 q3))
      go_roundg r
      case measure => omega
      case rel =>
        refine ⟨k + 1, rootS l s u, (by have := HK2.out; omega), (by go_num), (by omega), ?_, ?_, HE5.out⟩
        · show _ = _
          unfold rootsS at hs ⊢
          rw [HSN.out, ← hs.out]
        · have e : rootS l s u = s ++ ((⟨#[114, 111, 111, 116, 32]⟩ ++ toldS u l) ++ ⟨#[10]⟩) := by unfold rootS; simp only [ByteArray.append_assoc]
          rw [e]
          exact HB5.out
    | zero =>
      obtain rfl : k = M.roots.length := by omega
      have hltz : ¬ ((M.roots.length : Nat) : Int) < (M.roots.length : Int) := by omega
      have hs' : s = rootsS l M.roots ⟨#[]⟩ := by have := hs.out; rw [List.take_length] at this; exact this
      have HS1 := Lib.hid hs'
      have hsz0 : s.size ≤ 40000000 := by omega
      have hTr := (Tail.read HT.out).2
      have HTR := Lib.hid hTr
      clear hs hs' hk hTr hsz
      generalize hTA : ta = TA
      have HTA := Lib.hid hTA
      clear hTA
      obtain ⟨wA, rfl⟩ : ∃ x, x = wr := ⟨wr, rfl⟩
      have HEA : Hid (Ext w2 wA) := hE.out
      have HBA : Hid (Bld bl bl s wA) := hB.out
      have HG0 : Hid (objsS M.W l 0 (l.drop 0) s = graphS M) := by
        unfold Hid graphS
        rw [← HLL.out, List.drop_zero, HS1.out]
      clear hE hB
      go_upto_region 12 with fail
      go_loopg [52] (l.length) (fun r i wr => ∃ (k : Nat) (s : ByteArray), k + r = l.length ∧ i = .int .i64 (k : Int) ∧ s.size ≤ 40000000 + 200000 * k ∧ Hid (objsS M.W l k (l.drop k) s = graphS M) ∧ Hid (Bld bl bl s wr) ∧ Hid (Ext w2 wr))
      case atStart => exact ⟨0, s, by omega, rfl, by omega, HG0.out, HBA.out, HEA.out⟩
      case round =>
        clear HG0 hsz0 HS1
        obtain ⟨k, s, hk, rfl, hsz, hs, hB, hE⟩ := hrel
        cases gk with
        | succ r =>
          have hlt : k < l.length := by omega
          have hltz : (k : Int) < (l.length : Int) := by omega
          have hat : (ats l)[k]'(by rw [ats_len]; exact hlt) = (l[k].a : Int) := by simp [ats]
          obtain ⟨tb, tp, hTe, hc0⟩ := (HTR.out.ext hE.out) _ _ (by rw [← HLL.out]; exact tcells_at (ats l) k (by rw [ats_len]; exact hlt))
          rw [hat] at hc0
          obtain rfl : TA = some ⟨tb, tp, none⟩ := HTA.out.symm.trans hTe
          have hmem := HMEM.out _ (List.getElem_mem hlt)
          have hdrop : l.drop k = l[k] :: l.drop (k + 1) := List.drop_eq_getElem_cons hlt
          have hs2 := hs.out
          rw [hdrop, objsS] at hs2
          obtain ⟨m1, m2, m3⟩ := mem_in HS.out hmem
          have hobn := found_n HM.out.ok HS.out hmem
          have hhd := hd_in l[k].w (by rw [m2]; exact (wat_in HM.out.ok _).1)
          have hsz4 := ((isHd_iff l[k].w).1 m3).2.2
          have hfo : rawB (hKind l[k].w) = false → ∀ j, j < l[k].n → fldB (startsM M) (wat M.W (l[k].a + 1 + j)) = true := fun hr j hj => fld_ok HFO.out hmem hr j hj
          have hsz44 : hSize l[k].w ≤ 4096 := hsz4
          have hW := len_small HS.out
          generalize l[k] = x at *
          have hxw := wat_in HM.out.ok x.a
          rw [← m2] at hxw
          have hMr : RMem wr b 0 M S := HM.out.ext (HX2.out.trans_ hE.out)
          have c3 := hMr.W
          have hbzr := hMr.lt
          simp only [Nat.zero_add] at c3
          have hil : x.a < M.W.length := by omega
          have hilz : (x.a : Int) < (M.W.length : Int) := by omega
          obtain ⟨wb, wo, hWa, hcW⟩ := hMr.rW x.a _ (wcells_at M.W x.a hil)
          have hcW' : wr.cell? ⟨wb, wo + x.a, none⟩ = some (.int .u64 x.w) := by rw [hcW, m2]; simp [wat, List.getD_eq_getElem?_getD, hil]
          rw [hWa] at c3
          obtain ⟨kd, hkd⟩ : ∃ kd, hKind x.w = kd := ⟨_, rfl⟩
          rw [hkd] at hs2 hhd hfo
          have hdz1 := decS_size (k : Int)
          have hdz2 := decS_size kd
          have hk64 : (k : Int) ≤ 9223372036854775807 := by omega
          have hhs := headS_size k kd s
          have n1 : ¬ 9223372036854775807 < (decS (k : Int)).size + 1 := by omega
          have n2 : ¬ 9223372036854775807 < (decS (k : Int)).size + 1 + (decS kd).size := by omega
          obtain ⟨hk0, hk255, _⟩ := hhd
          have hcapW := hMr.capW
          have HWA := Lib.hid hWa
          have HS2 := Lib.hid hs2
          have HK2 := Lib.hid hk
          have HM1 := Lib.hid m1
          have HFO2 := Lib.hid hfo
          have HXN : Hid ((x.n : Int) = hSize x.w) := hobn
          have HE2 := Lib.hid hE.out
          have HB2 := Lib.hid hB.out
          have HSZ := Lib.hid hsz
          have HWW := Lib.hid hW
          have HXW := Lib.hid hxw
          have HM3 := Lib.hid m3
          have HIL := Lib.hid hil
          have HKD := Lib.hid hkd
          clear hs hs2 hdrop hmem m1 m2 m3 hobn hfo hE hB hkd hk hlt hW hsz4 hat hTe hxw hMr hil hWa hcW hsz
          go_upto_region 15 with (go_at_call 35; refine (toHead_yes x.w HXW.out.1 HXW.out.2 HM3.out _).mono ?_; rintro e w5 ⟨rfl, hq⟩; have HX5 := Lib.hid hq; clear hq)
          refine named_world' (fun W5 hW5 => ?_)
          obtain ⟨H, hH⟩ : ∃ H, H = w5.heap.size := ⟨_, rfl⟩
          rw [← hH]
          have hX5 : Ext wr W5 := by rw [hW5]; exact HX5.out.alloc_ _
          have hob : W5.heap[H]? = some (.cells #[.int .i64 kd, .int .i64 (hAge x.w), .int .i64 (hMark x.w), .int .i64 (hSize x.w)] 77 (0, 0)) := by rw [hW5, hH, ← HKD.out]; exact heap_alloc_new _ _
          have hHb : bl < H := by rw [hH]; exact Nat.lt_of_lt_of_le HB2.out.lt HX5.out.size
          have h0 : W5.cell? ⟨H, 0, none⟩ = some (.int .i64 kd) := by simp [World.cell?, hob]
          have HOB := Lib.hid hob
          have HX := Lib.hid hX5
          have HHB := Lib.hid hHb
          clear hW5 hH hX5 hob hHb hc0 hcW' c3
          go_wp2
          refine wp_region_held_drew (S := fun W => W.cell? ⟨H, 0, none⟩ = some (.int .i64 kd)) (by kernel_rfl) ?_ (fun hHeld => ?_)
          · exact h0
          refine tk 0 ⟨some 68, _, _, _, _, _⟩ ?_ rfl ?_ ?_
          rotate_left
          · (intro w hSw; (try dsimp only at hSw); go_simp; try with_reducible rfl)
          try simp only [tkS]
          refine tk 3 ⟨some 71, _, _, _, _, _⟩ ?_ rfl ?_ ?_
          rotate_left
          · (intro w hSw; (try dsimp only at hSw); go_simp; try with_reducible rfl)
          try simp only [tkS]
          refine tk 4 ⟨some 72, _, _, _, _, _⟩ ?_ rfl ?_ ?_
          rotate_left
          · (intro w hSw; (try dsimp only at hSw); go_simp; try with_reducible rfl)
          try simp only [tkS]
          refine wpAnyH_ready (rs := [1]) (by kernel_rfl) (by simp) ?_
          refine AllReadyH.cons (o := ⟨some 69, _, _, _, _, _⟩) rfl (fun K hK => ?_) AllReadyH.nil
          go_simp
          refine (itoaS_any (k : Int) (by omega) (by omega) _ (((HTB.out.ext HX2.out).ext (HE2.out.trans_ HX.out)).ext (by repeat (first | exact Ext.refl _ | (refine Ext.drew_ ?_) | (refine Ext.drewN_ ?_ _))))).mono ?_
          rintro e w6 ⟨rfl, hq⟩
          have q6 := hq.cell_ hHeld
          have HX6 : Hid (Ext W5 w6) := Ext.trans_ (by repeat (first | exact Ext.refl _ | (refine Ext.drew_ ?_) | (refine Ext.drewN_ ?_ _))) hq
          clear hq
          refine hK.out _ _ ?_ (fun hHeld => ?_)
          · (try dsimp only); exact q6
          clear hK K
          try simp only [tkS]
          refine tk 2 ⟨some 70, _, _, _, _, _⟩ ?_ rfl ?_ ?_
          rotate_left
          · (intro w hSw; (try dsimp only at hSw); go_simp; try with_reducible rfl)
          try simp only [tkS]
          refine wpAnyH_ready (rs := [5]) (by kernel_rfl) (by simp) ?_
          refine AllReadyH.cons (o := ⟨some 73, _, _, _, _, _⟩) rfl (fun K hK => ?_) AllReadyH.nil
          go_simp
          refine (itoaS_any kd (by omega) (by omega) _ (((HTB.out.ext HX2.out).ext (HE2.out.trans_ HX.out)).ext HX6.out)).mono ?_
          rintro e w7 ⟨rfl, hq⟩
          have q7 := hq.cell_ hHeld
          have HX7 := Lib.hid hq
          clear hq
          refine hK.out _ _ ?_ (fun hHeld => ?_)
          · (try dsimp only); exact q7
          clear hK K
          try simp only [tkS]
          refine tk 6 ⟨some 74, _, _, _, _, _⟩ ?_ rfl ?_ ?_
          rotate_left
          · (intro w hSw; (try dsimp only at hSw); go_simp; try with_reducible rfl)
          try simp only [tkS]
          refine wpAnyH_ready (rs := [7]) (by kernel_rfl) (by simp) ?_
          refine AllReadyH.cons (o := ⟨some 75, _, _, _, _, _⟩) rfl (fun K hK => ?_) AllReadyH.nil
          go_simp
          refine (write_ex bl bl s _ _ (HB2.out.ext (HX.out.trans_ (HX6.out.trans_ HX7.out))) (by rw [ByteArray.size_append, ByteArray.size_append, z1']; have := HSZ.out; omega) (by have h1 := HBL.out; have h2 := HE2.out.size; have h3 := HX.out.size; have h4 := HX6.out.size; have h5 := HX7.out.size; omega)).mono ?_
          rintro e w8 ⟨z, rfl, q1, q2, q3⟩
          have HB8 := Lib.hid q1
          have HQ2 := Lib.hid q2
          have hob8 := q3 H _ ((HX6.out.trans_ HX7.out).heap_ HOB.out) (by simp; have := HHB.out; omega) (by intro c fz e; injection e with e1 e2; revert e2; decide)
          have HOB8 := Lib.hid hob8
          have q8 : w8.cell? ⟨H, 0, none⟩ = some (.int .i64 kd) := by simp [World.cell?, hob8]
          clear q1 q2 q3 hob8
          refine hK.out _ _ ?_ (fun hHeld => ?_)
          · (try dsimp only); exact q8
          clear hK K
          try simp only [tkS]
          refine wpAnyH_done (by kernel_rfl) ?_ _
          have hHW := hHeld
          clear hHeld h0
          have hE8 : Ext w2 w8 := bld_step HBL.out HE2.out (HX.out.trans_ (HX6.out.trans_ HX7.out)) HQ2.out
          have hB8 : Bld bl bl (headS k kd s) w8 := by
            have e : headS k kd s = s ++ ((decS (k : Int) ++ ⟨#[32]⟩) ++ decS kd) := by unfold headS; simp only [ByteArray.append_assoc]
            rw [e]; exact HB8.out
          obtain ⟨y, hy⟩ : ∃ y, y = headS k kd s := ⟨_, rfl⟩
          rw [← hy] at hB8 hhs
          have HY := Lib.hid hy
          have HE8 := Lib.hid hE8
          have HB8y := Lib.hid hB8
          have hMc := HM.out.ext (HX2.out.trans_ hE8)
          have c3 := hMc.W
          have hbz8 := hMc.lt
          simp only [Nat.zero_add] at c3
          rw [HWA.out] at c3
          have hcap := hMc.capW
          have hsz := HXN.out
          have hm1 := HM1.out
          have h3 : w8.cell? ⟨H, 3, none⟩ = some (.int .i64 (hSize x.w)) := by simp [World.cell?, HOB8.out]
          obtain ⟨A, C, hsl, hAC, hAn, hRA⟩ := run_part (P := Tryz.prog) undU64 sizeU64 wb wo M.W.length S.W.2 (x.a + 1) (x.a + 1 + x.n) ((x.a : Int) + 1) ((x.a : Int) + 1 + hSize x.w) (by omega) (by omega) (by omega) (by omega)
          have HRA2 : Hid (∀ wr, RMem wr b 0 M S → RSl wr A (wcells (fldsW M.W x))) := fun wr hr => by
            have := hRA wr _ (HWA.out ▸ hr.rW)
            rw [flds_cells M x (by omega)] at this
            exact this
          rw [show x.a + 1 + x.n - (x.a + 1) = x.n by omega] at hsl hAC
          have e1 : IntKind.i64.wrap ((x.a : Int) + 1) = (x.a : Int) + 1 := IntWalk.i64_in _ (by have := HWW.out; omega)
          have e2 : IntKind.i64.wrap ((x.a : Int) + 1 + hSize x.w) = (x.a : Int) + 1 + hSize x.w := IntWalk.i64_in _ (by have := HWW.out; omega)
          have hxn : x.n ≤ 1000000 := by omega
          have hHz := cell_lt h3
          simp only at hHz
          clear hRA hMc hcap hm1 hy hE8 hB8 hHW
          go_wp2
          go_region
          go_wp2
          have HXN2 := Lib.hid hxn
          obtain ⟨wB, hwB⟩ : ∃ x, x = w8.drew := ⟨_, rfl⟩
          have HEB : Hid (Ext w2 wB) := by rw [hwB]; exact HE8.out.drew_
          have HBB : Hid (Bld bl bl y wB) := by rw [hwB]; exact HB8y.out.ext ((Ext.refl _).drew_)
          have HOBB : Hid (wB.heap[H]? = some (.cells #[.int .i64 kd, .int .i64 (hAge x.w), .int .i64 (hMark x.w), .int .i64 (hSize x.w)] 77 (0, 0))) := by rw [hwB]; exact HOB8.out
          clear hsl hAC e1 e2 c3 h3
          go_loopg [89] (x.n) (fun r i wr2 => ∃ (j : Nat) (t : ByteArray), j + r = x.n ∧ i = .int .i64 (j : Int) ∧ t.size ≤ y.size + 40 * j ∧ Hid (t = fieldsS l kd ((fldsW M.W x).take j) y) ∧ Hid (Bld bl bl t wr2) ∧ Hid (Ext w2 wr2) ∧ Hid (wr2.heap[H]? = some (.cells #[.int .i64 kd, .int .i64 (hAge x.w), .int .i64 (hMark x.w), .int .i64 (hSize x.w)] 77 (0, 0))))
          case atStart => (try rw [← hwB]); exact ⟨0, y, by omega, rfl, Nat.le_refl _, rfl, HBB.out, HEB.out, HOBB.out⟩
          case round =>
            obtain ⟨j, t, hj, rfl, htz, ht, hB, hE, hOb⟩ := hrel
            have h0 : wr.cell? ⟨H, 0, none⟩ = some (.int .i64 kd) := by simp [World.cell?, hOb.out]
            have hHz := cell_lt h0
            simp only at hHz
            cases gk with
            | succ r2 =>
              have hlt : j < x.n := by omega
              have hltz2 : (j : Int) < (x.n : Int) := by omega
              obtain ⟨ab, ao, hA, hcell⟩ := HRA2.out _ (HM.out.ext (HX2.out.trans_ hE.out)) j _ (wcells_at (fldsW M.W x) j (by simp [fldsW]; omega))
              have hgd : (fldsW M.W x).getD j 0 = wat M.W (x.a + 1 + j) := by simp [fldsW, List.getD_eq_getElem?_getD, hlt]
              rw [hgd] at hcell
              subst hA
              obtain ⟨hu2, hu3⟩ := wat_in HM.out.ok (x.a + 1 + j)
              have hsn := foldl_snoc (fieldS l kd) y (fldsW M.W x) j (by simp [fldsW]; omega)
              have hge : (fldsW M.W x)[j]'(by simp [fldsW]; omega) = wat M.W (x.a + 1 + j) := by simp [fldsW]
              rw [hge] at hsn
              have hfb : rawB kd = false → fldB (startsM M) (wat M.W (x.a + 1 + j)) = true := fun hr => HFO2.out hr j hlt
              generalize wat M.W (x.a + 1 + j) = u at *
              have htd := toldS_size u l
              have hfz := fieldS_size l kd t u
              have hblz := hB.out.lt
              have HJ := Lib.hid hj
              have HSN := Lib.hid hsn
              have HFB := Lib.hid hfb
              have HTZ := Lib.hid htz
              have hyz : y.size ≤ 1000000000000 := by have := HSZ.out; omega
              clear hj hsn hfb htz hgd hge hlt
              by_cases hk8 : kd < 8
              · obtain ⟨v, rfl⟩ : ∃ v : Nat, u = (v : Int) := ⟨u.toNat, by omega⟩
                have hrw : rawB kd = true := decide_eq_true hk8
                have HR := Lib.hid hrw
                obtain ⟨hx1, hx2⟩ := hexS_hex v (by omega)
                have HX1' := Lib.hid hx2
                obtain ⟨hx, hhx⟩ : ∃ hx : ByteArray, hx = ⟨(hexL 15 v).toArray⟩ := ⟨_, rfl⟩
                have hxs : hx.size = (hexL 15 v).length := by rw [hhx]; rfl
                have hxs16 : hx.size ≤ 16 := by omega
                have HHX := Lib.hid hhx
                have HXS := Lib.hid hxs
                have z3 : (⟨#[32, 48, 120]⟩ : ByteArray).size = 3 := rfl
                clear hhx hxs hx2 hx1 hrw
                go_wp2_with (first
                  | (go_at_call 34; refine (raw_any _ _).mono ?_; rintro e w' ⟨he, hw9⟩; rw [HR.out] at he; subst he; have hw9 := hw9.symm; subst hw9)
                  | (go_at_call 73; refine (fmt16_any v (by omega) _ ((HTB.out.ext HX2.out).ext hE.out).tz).mono ?_; rintro e w4 ⟨he, hq⟩; rw [← HHX.out] at he; subst he; have HX4 := Lib.hid hq; clear hq)
                  | (go_at_call 74; refine (repeat0_any _ (by omega) (by omega) _).mono ?_; rintro e w5 ⟨rp, rfl, hrp, hrz, hq⟩; have HRP := Lib.hid hrp; have HX5 := Lib.hid hq; clear hrp hq)
                  | (go_at_call 70; refine (write_ex bl bl t _ _ (hB.out.ext (HX4.out.trans_ HX5.out)) (by rw [ByteArray.size_append, ByteArray.size_append]; have := HTZ.out; omega) (by have h1 := HX4.out.size; have h2 := HX5.out.size; omega)).mono ?_; rintro e w6 ⟨z, rfl, q1, q2, q3⟩; have HB6 := Lib.hid q1; have HE6 := Lib.hid (bld_step HBL.out hE.out (HX4.out.trans_ HX5.out) q2); have HO6 := Lib.hid (q3 H _ ((HX4.out.trans_ HX5.out).heap_ hOb.out) (by simp; have := HHB.out; omega) (by intro c fz e; injection e with e1 e2; revert e2; decide)); clear q1 q2 q3))
                go_roundg r2
                case measure => omega
                case rel =>
                  refine ⟨j + 1, fieldS l kd t (v : Int), (by have := HJ.out; omega), (by go_num), (by have := HTZ.out; omega), ?_, ?_, HE6.out, HO6.out⟩
                  · show _ = _
                    have h1 := HSN.out
                    unfold fieldsS at ht ⊢
                    rw [h1, ← ht.out]
                  · have e : fieldS l kd t (v : Int) = t ++ ((⟨#[32, 48, 120]⟩ ++ rp) ++ hx) := by
                      unfold fieldS
                      rw [if_pos hk8, ← HX1'.out, ← HHX.out, HRP.out]
                      have e2 : ((16 : Int) - (hx.size : Int)).toNat = 16 - (hexL 15 v).length := by have := HXS.out; omega
                      rw [e2]
                      simp only [ByteArray.append_assoc]
                    rw [e]
                    exact HB6.out
              · have hrw : rawB kd = false := decide_eq_false hk8
                have HR := Lib.hid hrw
                have HU := Lib.hid (HFB.out hrw)
                have z2 : (⟨#[32]⟩ : ByteArray).size = 1 := rfl
                clear hrw
                go_wp2_with (first
                  | (go_at_call 34; refine (raw_any _ _).mono ?_; rintro e w' ⟨he, hw9⟩; rw [HR.out] at he; subst he; have hw9 := hw9.symm; subst hw9)
                  | (go_at_call 71; refine (mTold_any M HG.out u hu2 hu3 HU.out (by rw [← HLL.out]; omega) mb _ (HMP.out.ext hE.out) ((HTB.out.ext HX2.out).ext hE.out)).mono ?_; rintro e w4 ⟨he, hq⟩; rw [← HLL.out] at he; subst he; have HX4 := Lib.hid hq; clear hq)
                  | (go_at_call 70; refine (write_ex bl bl t _ _ (hB.out.ext HX4.out) (by rw [ByteArray.size_append]; have := HTZ.out; omega) (by have h1 := HX4.out.size; omega)).mono ?_; rintro e w6 ⟨z, rfl, q1, q2, q3⟩; have HB6 := Lib.hid q1; have HE6 := Lib.hid (bld_step HBL.out hE.out HX4.out q2); have HO6 := Lib.hid (q3 H _ (HX4.out.heap_ hOb.out) (by simp; have := HHB.out; omega) (by intro c fz e; injection e with e1 e2; revert e2; decide)); clear q1 q2 q3))
                go_roundg r2
                case measure => omega
                case rel =>
                  refine ⟨j + 1, fieldS l kd t u, (by have := HJ.out; omega), (by go_num), (by have := HTZ.out; omega), ?_, ?_, HE6.out, HO6.out⟩
                  · show _ = _
                    have h1 := HSN.out
                    unfold fieldsS at ht ⊢
                    rw [h1, ← ht.out]
                  · have e : fieldS l kd t u = t ++ (⟨#[32]⟩ ++ toldS u l) := by
                      unfold fieldS
                      rw [if_neg (show ¬ kd < 8 by omega)]
                      simp only [ByteArray.append_assoc]
                    rw [e]
                    exact HB6.out
            | zero =>
              obtain rfl : j = x.n := by omega
              have hltz2 : ¬ ((x.n : Nat) : Int) < (x.n : Int) := by omega
              have ht' : t = fieldsS l kd (fldsW M.W x) y := by
                have := ht.out
                rw [List.take_of_length_le (by simp [fldsW])] at this
                exact this
              have HT' := Lib.hid ht'
              have hxn' := HXN.out
              have HTZ := Lib.hid htz
              have hblz := hB.out.lt
              clear ht ht' hj htz
              go_wp2_with (go_at_call 70; refine (write_ex bl bl t _ _ hB.out (by have h1 := HTZ.out; have h2 := HSZ.out; omega) (by omega)).mono ?_; rintro e w6 ⟨z, rfl, q1, q2, q3⟩; have HB6 := Lib.hid q1; have HE6 := Lib.hid (bld_step HBL.out hE.out (Ext.refl _) q2); clear q1 q2 q3)
              go_roundg r
              case measure => omega
              case rel =>
                refine ⟨k + 1, t ++ ⟨#[10]⟩, (by have := HK2.out; omega), (by go_num), (by rw [ByteArray.size_append]; have h1 := HTZ.out; have h2 := HSZ.out; omega), ?_, HB6, HE6⟩
                have h := HS2.out
                rw [← HY.out, ← HT'.out] at h
                exact h
        | zero =>
          obtain rfl : k = l.length := by omega
          have hltz : ¬ ((l.length : Nat) : Int) < (l.length : Int) := by omega
          have hgs : s = graphS M := by
            have h := hs.out
            rw [List.drop_length, objsS] at h
            exact h
          obtain ⟨g, hg⟩ : ∃ g, g = graphS M := ⟨_, rfl⟩
          rw [← hg] at hgs
          subst hgs
          have HGS := Lib.hid hg
          have hMr := HM.out.ext (HX2.out.trans_ hE.out)
          have k3 := hMr.weak
          have hbz4 := hMr.lt
          simp only [Nat.zero_add] at k3
          have hgz : s.size ≤ 50000000000 := by omega
          obtain ⟨sk, hsk⟩ : ∃ sk, S.K.1 = sk := ⟨_, rfl⟩
          rw [hsk] at k3
          have HSK := Lib.hid hsk
          obtain ⟨wA2, rfl⟩ : ∃ x, x = wr := ⟨wr, rfl⟩
          have HEA2 : Hid (Ext w2 wA2) := hE.out
          have HBA2 : Hid (Bld bl bl s wA2) := hB.out
          clear hs hg hMr hk hE hB hsz hsk
          have z5' : (⟨#[119, 101, 97, 107, 32]⟩ : ByteArray).size = 5 := rfl
          go_wp2
          clear k3
          go_loopg [119] (M.weak.length) (fun r i wr => ∃ (k : Nat) (t : ByteArray), k + r = M.weak.length ∧ i = .int .i64 (k : Int) ∧ t.size ≤ 40 * k ∧ Hid (t = weaksS l (M.weak.take k) ⟨#[]⟩) ∧ Hid (Bld bl bl (s ++ t) wr) ∧ Hid (Ext w2 wr))
          case atStart => exact ⟨0, ⟨#[]⟩, by omega, rfl, Nat.le_refl _, rfl, (by have e : s ++ ⟨#[]⟩ = s := ByteArray.append_empty; unfold Hid; rw [e]; exact HBA2.out), HEA2.out⟩
          case round =>
            obtain ⟨k, t, hk, rfl, htz, ht, hB, hE⟩ := hrel
            cases gk with
            | succ r =>
              have hlt : k < M.weak.length := by omega
              have hltz : (k : Int) < (M.weak.length : Int) := by omega
              have hMr := HM.out.ext (HX2.out.trans_ hE.out)
              obtain ⟨rb, ro, hRa, hc⟩ := hMr.rK k _ (wcells_at M.weak k hlt)
              obtain ⟨hu2, hu3⟩ := HWB.out k hlt
              have hu1 := HWK.out k hlt
              have hsn := foldl_snoc (weakS l) ⟨#[]⟩ M.weak k hlt
              have hgd : M.weak[k] = M.weak.getD k 0 := by rw [List.getD_eq_getElem?_getD, List.getElem?_eq_getElem hlt]; rfl
              rw [hgd] at hsn
              generalize M.weak.getD k 0 = u at *
              have htd := toldS_size u l
              have hblz := hB.out.lt
              obtain rfl : sk = some ⟨rb, ro, none⟩ := HSK.out.symm.trans hRa
              have hrs := weakS_size l t u
              have HU := Lib.hid hu1
              have HSN := Lib.hid hsn
              have HK2 := Lib.hid hk
              clear hMr hRa hu1 hsn hgd hk hlt
              go_wp2_with (first
                | (go_at_call 71; refine (mTold_any M HG.out u hu2 hu3 HU.out (by rw [← HLL.out]; omega) mb _ (HMP.out.ext hE.out) ((HTB.out.ext HX2.out).ext hE.out)).mono ?_; rintro e w4 ⟨he, hq⟩; rw [← HLL.out] at he; subst he; have HX4 := Lib.hid hq; clear hq)
                | (go_at_call 70; refine (write_ex bl bl (s ++ t) _ _ (hB.out.ext HX4.out) (by rw [ByteArray.size_append, ByteArray.size_append, ByteArray.size_append]; omega) (by have := HX4.out.size; omega)).mono ?_; rintro e w5 ⟨z, rfl, q1, q2, q3⟩; have HB5 := Lib.hid q1; have HE5 := Lib.hid (bld_step HBL.out hE.out HX4.out q2); clear q1 q2 q3))
              go_roundg r
              case measure => omega
              case rel =>
                refine ⟨k + 1, weakS l t u, (by have := HK2.out; omega), (by go_num), (by omega), ?_, ?_, HE5.out⟩
                · show _ = _
                  unfold weaksS at ht ⊢
                  rw [HSN.out, ← ht.out]
                · have e : s ++ weakS l t u = (s ++ t) ++ ((⟨#[119, 101, 97, 107, 32]⟩ ++ toldS u l) ++ ⟨#[10]⟩) := by unfold weakS; simp only [ByteArray.append_assoc]
                  rw [e]
                  exact HB5.out
            | zero =>
              obtain rfl : k = M.weak.length := by omega
              have hltz : ¬ ((M.weak.length : Nat) : Int) < (M.weak.length : Int) := by omega
              have ht' : t = weaksS l M.weak ⟨#[]⟩ := by have := ht.out; rw [List.take_length] at this; exact this
              have HTW := Lib.hid ht'
              have hMr := HM.out.ext (HX2.out.trans_ hE.out)
              have i3 := hMr.ids
              have hbz5 := hMr.lt
              simp only [Nat.zero_add] at i3
              have hri := hMr.rI
              obtain ⟨si, hsi⟩ : ∃ si, S.I.1 = si := ⟨_, rfl⟩
              rw [hsi] at i3 hri
              have HRI := Lib.hid hri
              have htz0 : t.size ≤ 40000000 := by omega
              have hblz := hB.out.lt
              clear ht ht' hMr hk htz hsi hri
              go_wp2_with (first
                | (go_at_call 76; refine (valuesI_any _ _ _ _).mono ?_; rintro e w9 ⟨rfl, hw9⟩; have hw9 := hw9.symm; subst hw9)
                | (go_at_call 75; refine (sorted_any wr.heap.size si S.I.2 M.ids hIl HIB.out HND.out _ (by simp [go_sem]) (HRI.out.ext ((Ext.refl _).alloc_ _))).mono ?_; rintro e w10 ⟨a, c, rfl, q1, q2⟩; have HRS := Lib.hid q1; have HX10 : Hid (Ext wr w10) := Ext.trans_ ((Ext.refl _).alloc_ _) q2; clear q1 q2))
              obtain ⟨wC, hwC⟩ : ∃ x, x = w10 := ⟨_, rfl⟩
              have HEC : Hid (Ext w2 w10) := hE.out.trans_ HX10.out
              have HBC : Hid (Bld bl bl (s ++ t) w10) := hB.out.ext HX10.out
              generalize hTA2 : a = TA2
              have HTA2 := Lib.hid hTA2
              clear hTA2 hE hB hwC i3
              have hsl' := sortI_len M.ids
              have HSL := Lib.hid hsl'
              have HSI : Hid (∀ x ∈ sortI M.ids, x ∈ M.ids) := fun x hx => (sortI_perm M.ids).mem_iff.1 hx
              have z3' : (⟨#[105, 100, 32]⟩ : ByteArray).size = 3 := rfl
              have z2 : (⟨#[32, 64]⟩ : ByteArray).size = 2 := rfl
              clear hsl'
              go_loopg [138] (M.ids.length) (fun r i wr => ∃ (k : Nat) (t2 : ByteArray), k + r = M.ids.length ∧ i = .int .i64 (k : Int) ∧ t2.size ≤ t.size + 60 * k ∧ Hid (t2 = ((sortI M.ids).take k).foldl (fun o x => idLine l x o) t) ∧ Hid (Bld bl bl (s ++ t2) wr) ∧ Hid (Ext w2 wr) ∧ Hid (wr.ownsRow (bl + 1) 68 2 (.slice TA2 M.ids.length c) M.ids.length (icells (sortI M.ids))))
              case atStart => exact ⟨0, t, by omega, rfl, by omega, rfl, HBC.out, HEC.out, (by rw [← HTA2.out]; exact own_le HRS.out (by simp; omega) (Ext.refl _))⟩
              case round =>
                obtain ⟨k, t2, hk, rfl, htz, ht, hB, hE, hOw⟩ := hrel
                have hRs := Lib.hid (row_rsl hOw.out).1
                cases gk with
                | succ r =>
                  have hlt : k < (sortI M.ids).length := by rw [HSL.out]; omega
                  have hltz : (k : Int) < (M.ids.length : Int) := by omega
                  obtain ⟨p0, p1⟩ := icells_at (sortI M.ids) k hlt
                  obtain ⟨ib, io, hIa, c0⟩ := hRs.out _ _ p0
                  have hRs2 := hRs.out
                  rw [hIa] at hRs2
                  have c1 := hRs2.at_ p1
                  rw [← Nat.add_assoc] at c1
                  obtain rfl : TA2 = some ⟨ib, io, none⟩ := hIa
                  have hxm := HSI.out _ (List.getElem_mem hlt)
                  have hsn := foldl_snoc (fun o x => idLine l x o) t (sortI M.ids) k hlt
                  obtain ⟨hx0, hx1⟩ := HIB.out _ hxm
                  obtain ⟨g0, g1, g2⟩ := HIG.out _ hxm
                  generalize (sortI M.ids)[k] = x at *
                  have hp : pointedB x.1 = true := by
                    unfold pointedB
                    unfold kindW at g0
                    simp [g0, g1]
                  have hpt := pointed_pts HG.out g2 hp
                  have ep : ptsW x.1 = placeW x.1 := by
                    unfold ptsW at hpt ⊢
                    split at hpt
                    · rename_i hc; rw [if_pos hc]
                    · omega
                  have hMp := HMP.out.ext (hE.out.alloc_ (.cells #[.int .u64 x.1, .int .i64 x.2] 68))
                  have HK2 := Lib.hid hk
                  have HSN := Lib.hid hsn
                  have HTZ := Lib.hid htz
                  have hils := idLine_size l x t2
                  have hblz := hB.out.lt
                  have hdz := decS_size x.2
                  have hibz := cell_lt c0
                  simp only at hibz
                  have hx01 := hx0.1
                  have hx02 := hx0.2
                  have hs1 := hx1.1
                  have hs2 := hx1.2
                  clear hRs2 p0 p1 hxm hsn hx0 hx1 hk htz hp hpt hlt
                  by_cases hin : objAt l (placeW x.1) < 0
                  · have hlk : (Instr.lookup 70 (.map (some mb)) (.int .i64 (placeW x.1)) true).run Tryz.prog (wr.alloc (.cells #[.int .u64 x.1, .int .i64 x.2] 68)) = .ok (.tuple #[.int .i64 0, .bool false]) (wr.alloc (.cells #[.int .u64 x.1, .int .i64 x.2] 68)) := by
                      rw [map_look hMp, ← HLL.out, mlook_no hin]; rfl
                    have hil : idLine l x t2 = t2 := by
                      unfold idLine
                      rw [if_neg (by rw [ep]; omega)]
                    have HIL := Lib.hid hil
                    clear hMp hin hil
                    go_wp2_with (go_at_call 55; refine (place_any _ hx01 hx02 _).mono ?_; rintro e w' ⟨rfl, hw9⟩; have hw9 := hw9.symm; subst hw9)
                    go_roundg r
                    case measure => omega
                    case rel =>
                      refine ⟨k + 1, t2, (by have := HK2.out; omega), (by go_num), (by have := HTZ.out; omega), ?_, hB.out.ext ((Ext.refl _).alloc_ _), hE.out.alloc_ _, own_le hOw.out (Nat.le_refl _) ((Ext.refl _).alloc_ _)⟩
                      show _ = _
                      rw [HSN.out, ← ht.out]
                      exact HIL.out.symm
                  · obtain ⟨n, hn⟩ : ∃ n, n = objAt l (placeW x.1) := ⟨_, rfl⟩
                    have hlk : (Instr.lookup 70 (.map (some mb)) (.int .i64 (placeW x.1)) true).run Tryz.prog (wr.alloc (.cells #[.int .u64 x.1, .int .i64 x.2] 68)) = .ok (.tuple #[.int .i64 n, .bool true]) (wr.alloc (.cells #[.int .u64 x.1, .int .i64 x.2] 68)) := by
                      rw [map_look hMp, ← HLL.out, mlook_at (by omega), ← hn]; rfl
                    have hn0 : 0 ≤ n := by omega
                    have hn1 : n ≤ 1000000 := by
                      rcases objAt_lt l (placeW x.1) with q | q <;> omega
                    have hil : idLine l x t2 = t2 ++ ((((⟨#[105, 100, 32]⟩ ++ decS x.2) ++ ⟨#[32, 64]⟩) ++ decS n) ++ ⟨#[10]⟩) := by
                      unfold idLine
                      rw [ep, if_pos (by omega), ← hn]
                      simp only [ByteArray.append_assoc]
                    have hdn := decS_size n
                    have HIL := Lib.hid hil
                    have HXA : Hid (Ext wr (wr.alloc (.cells #[.int .u64 x.1, .int .i64 x.2] 68))) := (Ext.refl _).alloc_ _
                    have tok1 : True := trivial
                    clear hMp hin hil hn
                    go_wp2_with (first
                      | (go_at_call 55; refine (place_any _ hx01 hx02 _).mono ?_; rintro e w' ⟨rfl, hw9⟩; have hw9 := hw9.symm; subst hw9)
                      | (go_at_call 72; have _t := tok1; refine (itoaS_any _ (by omega) (by omega) _ (((HTB.out.ext HX2.out).ext hE.out).ext (by repeat (first | exact Ext.refl _ | (refine Ext.drew_ ?_) | (refine Ext.alloc_ ?_ _))))).mono ?_; rintro e w5 ⟨rfl, hq⟩; have HX5 : Hid (Ext wr w5) := Ext.trans_ (by repeat (first | exact Ext.refl _ | (refine Ext.drew_ ?_) | (refine Ext.alloc_ ?_ _))) hq; clear hq tok1)
                      | (go_at_call 72; refine (itoaS_any _ (by omega) (by omega) _ (((HTB.out.ext HX2.out).ext hE.out).ext HX5.out)).mono ?_; rintro e w6 ⟨rfl, hq⟩; have HX6 : Hid (Ext wr w6) := HX5.out.trans_ hq; clear hq)
                      | (go_at_call 70; refine (write_ex bl bl (s ++ t2) _ _ (hB.out.ext HX6.out) (by rw [ByteArray.size_append, ByteArray.size_append, ByteArray.size_append, ByteArray.size_append, ByteArray.size_append]; have := HTZ.out; omega) (by have := HX6.out.size; omega)).mono ?_; rintro e w7 ⟨z, rfl, q1, q2, q3⟩; have HB7 := Lib.hid q1; have HE7 := Lib.hid (bld_step HBL.out hE.out HX6.out q2); have HQ3 := Lib.hid q3; clear q1 q2 q3))
                    go_roundg r
                    case measure => omega
                    case rel =>
                      refine ⟨k + 1, idLine l x t2, (by have := HK2.out; omega), (by go_num), (by have := HTZ.out; omega), ?_, ?_, HE7.out, ?_⟩
                      · show _ = _
                        rw [HSN.out, ← ht.out]
                      · rw [HIL.out, ← ByteArray.append_assoc]
                        exact HB7.out
                      · exact own_write (own_le hOw.out (Nat.le_refl _) HX6.out) HQ3.out (Nat.lt_succ_self _) (by decide)
                | zero =>
                  obtain rfl : k = M.ids.length := by omega
                  have hltz : ¬ ((M.ids.length : Nat) : Int) < (M.ids.length : Int) := by omega
                  have hfin : s ++ t2 = graphS M ++ moreS M := by
                    have h1 := ht.out
                    rw [List.take_of_length_le (by rw [HSL.out]; exact Nat.le_refl _)] at h1
                    unfold moreS
                    rw [idsS_sort M.ids (reachP M) HND.out (fun x hx => (HIB.out x hx).2.1), ← HLL.out, ← HTW.out, ← h1, ← HGS.out]
                  have HFZ : Hid ((graphS M ++ moreS M).size ≤ 4000000000000) := by rw [← hfin, Hid, ByteArray.size_append]; omega
                  have HFIN := Lib.hid hfin
                  have hblz := hB.out.lt
                  clear ht hfin hk htz hRs
                  go_wp2_with (go_at_call 78; refine (string_any bl bl _ _ hB.out (by omega)).mono ?_; rintro e w8 ⟨rfl, hq⟩; have HQ8 := Lib.hid (bld_step HBL.out hE.out (Ext.refl _) hq); clear hq)
                  go_ret2
                  exact ⟨by rw [HFIN.out]; rfl, HFZ.out, HX2.out.trans_ HQ8.out⟩
theorem graphM_nil (E : Nat → Addr) (w : World) (hE : G3 E w) : Calls Tryz.prog 21 #[.pointer none] w fun e w' => e = .returned (.tuple #[.string ⟨#[]⟩, errC E 3]) ∧ Ext w w' := by
  have HE := Lib.hid hE
  clear hE
  go_enter Tryz.func21, Tryz.ntmps21
  go_wp2_with (go_at_call 20; refine (check_nil _ (E 2) (HE.out.ext (by repeat (first | exact Ext.refl _ | (refine Ext.drew_ ?_) | (refine Ext.drewN_ ?_ _) | (refine Ext.alloc_ ?_ _)))).shape).mono ?_; rintro e w1 ⟨rfl, hq⟩; have HX1 : Hid (Ext w w1) := Ext.trans_ (by repeat (first | exact Ext.refl _ | (refine Ext.drew_ ?_) | (refine Ext.drewN_ ?_ _) | (refine Ext.alloc_ ?_ _))) hq; clear hq)
  go_ret2
  exact ⟨rfl, HX1.out⟩
set_option maxRecDepth 100000 in
theorem graphM_chk (b o : Nat) (M : Mem) (S : Sls) (E : Nat → Addr) (w : World) (hM : RMem w b o M S) (hE : G3 E w) (h : chk M ≠ 0) :
    Calls Tryz.prog 21 #[.pointer (some ⟨b, o, none⟩)] w fun e w' => e = .returned (.tuple #[.string ⟨#[]⟩, errC E (chk M)]) ∧ Ext w w' := by
  obtain ⟨a, ha⟩ : ∃ a, errC E (chk M) = errV a := ⟨_, errC_pos E _ h⟩
  have HC := Lib.hid ha
  have HM := Lib.hid hM
  have HE := Lib.hid hE
  clear hM hE h ha
  go_enter Tryz.func21, Tryz.ntmps21
  go_wp2_with (go_at_call 20; refine (check_c b o M S E _ (HM.out.ext (by repeat (first | exact Ext.refl _ | (refine Ext.drew_ ?_) | (refine Ext.drewN_ ?_ _) | (refine Ext.alloc_ ?_ _)))) (HE.out.ext (by repeat (first | exact Ext.refl _ | (refine Ext.drew_ ?_) | (refine Ext.drewN_ ?_ _) | (refine Ext.alloc_ ?_ _))))).mono ?_; rintro e w1 ⟨he, hq⟩; rw [HC.out] at he; subst he; have HX1 : Hid (Ext w w1) := Ext.trans_ (by repeat (first | exact Ext.refl _ | (refine Ext.drew_ ?_) | (refine Ext.drewN_ ?_ _) | (refine Ext.alloc_ ?_ _))) hq; clear hq)
  go_ret2
  exact ⟨by rw [HC.out]; rfl, HX1.out⟩
theorem liveM_nil (E : Nat → Addr) (w : World) (hE : G3 E w) : Calls Tryz.prog 22 #[.pointer none] w fun e w' => e = .returned (.tuple #[.int .i64 0, errC E 3]) ∧ Ext w w' := by
  have HE := Lib.hid hE
  clear hE
  go_enter Tryz.func22, Tryz.ntmps22
  go_wp2_with (go_at_call 20; refine (check_nil _ (E 2) (HE.out.ext (by repeat (first | exact Ext.refl _ | (refine Ext.drew_ ?_) | (refine Ext.drewN_ ?_ _) | (refine Ext.alloc_ ?_ _)))).shape).mono ?_; rintro e w1 ⟨rfl, hq⟩; have HX1 : Hid (Ext w w1) := Ext.trans_ (by repeat (first | exact Ext.refl _ | (refine Ext.drew_ ?_) | (refine Ext.drewN_ ?_ _) | (refine Ext.alloc_ ?_ _))) hq; clear hq)
  go_ret2
  exact ⟨rfl, HX1.out⟩
set_option maxRecDepth 100000 in
theorem liveM_chk (b o : Nat) (M : Mem) (S : Sls) (E : Nat → Addr) (w : World) (hM : RMem w b o M S) (hE : G3 E w) (h : chk M ≠ 0) :
    Calls Tryz.prog 22 #[.pointer (some ⟨b, o, none⟩)] w fun e w' => e = .returned (.tuple #[.int .i64 0, errC E (chk M)]) ∧ Ext w w' := by
  obtain ⟨a, ha⟩ : ∃ a, errC E (chk M) = errV a := ⟨_, errC_pos E _ h⟩
  have HC := Lib.hid ha
  have HM := Lib.hid hM
  have HE := Lib.hid hE
  clear hM hE h ha
  go_enter Tryz.func22, Tryz.ntmps22
  go_wp2_with (go_at_call 20; refine (check_c b o M S E _ (HM.out.ext (by repeat (first | exact Ext.refl _ | (refine Ext.drew_ ?_) | (refine Ext.drewN_ ?_ _) | (refine Ext.alloc_ ?_ _)))) (HE.out.ext (by repeat (first | exact Ext.refl _ | (refine Ext.drew_ ?_) | (refine Ext.drewN_ ?_ _) | (refine Ext.alloc_ ?_ _))))).mono ?_; rintro e w1 ⟨he, hq⟩; rw [HC.out] at he; subst he; have HX1 : Hid (Ext w w1) := Ext.trans_ (by repeat (first | exact Ext.refl _ | (refine Ext.drew_ ?_) | (refine Ext.drewN_ ?_ _) | (refine Ext.alloc_ ?_ _))) hq; clear hq)
  go_ret2
  exact ⟨by rw [HC.out]; rfl, HX1.out⟩
set_option maxRecDepth 100000 in
theorem liveM_walk (b : Nat) (M : Mem) (S : Sls) (E : Nat → Addr) (w : World) (hM : RMem w b 0 M S) (hE : G3 E w) (hc : chk M = 0) :
    Calls Tryz.prog 22 #[.pointer (some ⟨b, 0, none⟩)] w fun e w' => e = .returned (.tuple #[.int .i64 (liveM M : Int), .nilIface]) ∧ Ext w w' := by
  have HG := Lib.hid (chk_zero hc).1
  have HC : Hid (errC E (chk M) = .nilIface) := by rw [Hid, hc]; rfl
  have HM := Lib.hid hM
  have HE := Lib.hid hE
  clear hM hE hc
  go_enter Tryz.func22, Tryz.ntmps22
  go_wp2_with (first
    | (go_at_call 20; refine (check_c b 0 M S E _ (HM.out.ext (by repeat (first | exact Ext.refl _ | (refine Ext.drew_ ?_) | (refine Ext.drewN_ ?_ _) | (refine Ext.alloc_ ?_ _)))) (HE.out.ext (by repeat (first | exact Ext.refl _ | (refine Ext.drew_ ?_) | (refine Ext.drewN_ ?_ _) | (refine Ext.alloc_ ?_ _))))).mono ?_; rintro e w1 ⟨he, hq⟩; rw [HC.out] at he; subst he; have HX1 : Hid (Ext w w1) := Ext.trans_ (by repeat (first | exact Ext.refl _ | (refine Ext.drew_ ?_) | (refine Ext.drewN_ ?_ _) | (refine Ext.alloc_ ?_ _))) hq; clear hq)
    | (go_at_call 49; refine (mReached_walk b 0 M S _ (HM.out.ext (HX1.out.trans_ (by repeat (first | exact Ext.refl _ | (refine Ext.drew_ ?_) | (refine Ext.drewN_ ?_ _) | (refine Ext.alloc_ ?_ _))))) HG.out).mono ?_; rintro e w2 ⟨rfl, hq⟩; have HX2 : Hid (Ext w w2) := Ext.trans_ (HX1.out.trans_ (by repeat (first | exact Ext.refl _ | (refine Ext.drew_ ?_) | (refine Ext.drewN_ ?_ _) | (refine Ext.alloc_ ?_ _)))) hq; clear hq))
  go_ret2
  exact ⟨rfl, HX2.out⟩
theorem coded_0 (w : World) : Calls Tryz.prog 11 #[.nilIface, .int .i64 0] w fun e w' => e = .returned (.bool true) ∧ w' = w := codedQ_nil 0 w
set_option maxRecDepth 100000 in
set_option maxHeartbeats 8000000 in
theorem liveOf_walk (b o : Nat) (M : Mem) (S : Sls) (w : World) (hM : RMem w b o M S) (hg : goodB M = true) :
    Calls Tryz.prog 17 #[.pointer (some ⟨b, o, none⟩)] w fun e w' => e = .returned (.int .i64 (liveM M : Int)) ∧ Ext w w' := by
  obtain ⟨hs, -⟩ := good_parts hg
  have hlM := len_small hs
  have hlr := words_len hg (reachP_gath hg)
  have hmem : Hid (∀ x ∈ reachP M, x ∈ objsAll M) := fun x hx => (reachP_gath hg).mem x hx
  have hn4 : Hid (∀ x ∈ reachP M, x.n ≤ 4096) := fun x hx => by
    have h1 := found_n hM.ok hs (hmem.out x hx)
    have h2 : hSize x.w ≤ 4096 := ((isHd_iff x.w).1 (mem_in hs (hmem.out x hx)).2.2).2.2
    omega
  have HM := Lib.hid hM
  have HG := Lib.hid hg
  have HS := Lib.hid hs
  clear hM hg hs
  go_enter Tryz.func17, Tryz.ntmps17
  go_wp2_with (go_at_call 42; refine (reached_walk b o M S _ HM.out HG.out).mono ?_; rintro e w1 ⟨ra, rc, rfl, hq1, hq2⟩; have HR := Lib.hid (own_rsl hq1); have HE1 := Lib.hid hq2; clear hq1 hq2)
  generalize hl : reachP M = l at *
  have HL := Lib.hid hl
  clear hl
  generalize hTA : ra = TA
  have HTA := Lib.hid hTA
  clear hTA
  go_loopg [4, 5] (l.length) (fun r s i wr => ∃ k : Nat, k + r = l.length ∧ i = .int .i64 (k : Int) ∧ s = .int .i64 ((sumO (l.take k) : Nat) : Int) ∧ Hid (Ext w1 wr))
  case atStart => exact ⟨0, by omega, rfl, rfl, Ext.refl _⟩
  case round =>
    obtain ⟨k, hk, rfl, rfl, hE⟩ := hrel
    cases gk with
    | succ r =>
      have hlt : k < l.length := by omega
      have hltz : (k : Int) < (l.length : Int) := by omega
      obtain ⟨tb, tp, hTe, -, -, -, c3⟩ := ob_cells4 (HR.out.ext hE.out) hlt
      obtain rfl : TA = some ⟨tb, tp, none⟩ := HTA.out.symm.trans hTe
      have hm := hmem.out _ (List.getElem_mem hlt)
      have hsz := found_n HM.out.ok HS.out hm
      have hz4 := hn4.out _ (List.getElem_mem hlt)
      have hsn := sumO_snoc l k hlt
      have hsl := sumO_le (l.take k) fun x hx => hn4.out x (List.mem_of_mem_take hx)
      rw [List.length_take] at hsl
      generalize l[k] = x at *
      generalize sumO (l.take k) = s at *
      have e1 : IntKind.i64.wrap ((s : Int) + 1) = (s : Int) + 1 := IntWalk.i64_in _ (by omega)
      have e2 : IntKind.i64.wrap ((s : Int) + 1 + hSize x.w) = (s : Int) + 1 + hSize x.w := IntWalk.i64_in _ (by omega)
      have HK := Lib.hid hk
      have HSN := Lib.hid hsn
      have HSZ := Lib.hid hsz
      clear hk hm hsz hz4 hsn hsl hlt hTe
      go_wp2
      go_roundg r
      case measure => omega
      case rel =>
        refine ⟨k + 1, by have := HK.out; omega, by go_num, ?_, hE.out⟩
        have h1 := HSN.out
        have h2 := HSZ.out
        congr 1
        omega
    | zero =>
      obtain rfl : k = l.length := by omega
      have hltz : ¬ ((l.length : Nat) : Int) < (l.length : Int) := by omega
      have hfin : sumO (l.take l.length) = liveM M := by rw [List.take_length, ← HL.out]; rfl
      rw [hfin]
      clear hfin hk
      go_wp2
      go_ret
      exact ⟨rfl, HE1.out.trans_ hE.out⟩
set_option maxRecDepth 100000 in
set_option maxHeartbeats 4000000 in
theorem memChecks_nil (w : World) (E : Nat → Addr) (h : ErrEnv E w) (hT : Tabs w) :
    Calls Tryz.prog 5 #[.pointer none] w fun e w' => e = .returned (.bool true) ∧ Ext w w' := by
  have H := Lib.hid h
  have hc1 : (1 : Int) ≤ 3 := by decide
  have hc2 : (3 : Int) ≤ 7 := by decide
  have tokA : True := trivial
  have tokB : True := trivial
  have tokC : True := trivial
  clear h
  go_enter Tryz.func5, Tryz.ntmps5
  go_wp2_with (first
    | (go_at_call 19; refine (freshQ_any _ E H.out.g3).mono ?_; rintro e w1 ⟨rfl, hq⟩; have HB1 := Lib.hid hq; clear hq)
    | (go_at_call 7; refine (near_nil _).mono ?_; rintro e w' ⟨rfl, hw9⟩; have hw9 := hw9.symm; subst hw9)
    | (go_at_call 8; refine (kCheck_nil _).mono ?_; rintro e w2 ⟨rfl, hq⟩; have HB2 : Hid (Ext w w2) := Ext.trans_ (HB1.out.trans_ (by repeat (first | exact Ext.refl _ | (refine Ext.drew_ ?_) | (refine Ext.drewN_ ?_ _) | (refine Ext.alloc_ ?_ _)))) hq; clear hq)
    | (go_at_call 9; refine (memOf_nil _).mono ?_; rintro e w' ⟨rfl, hw9⟩; have hw9 := hw9.symm; subst hw9)
    | (go_at_call 20; refine (check_nil _ (E 2) (H.out.ext (HB2.out.trans_ (by repeat (first | exact Ext.refl _ | (refine Ext.drew_ ?_) | (refine Ext.drewN_ ?_ _) | (refine Ext.alloc_ ?_ _))))).shape).mono ?_; rintro e w4 ⟨he, hq⟩; have HB4 : Hid (Ext w w4) := Ext.trans_ (HB2.out.trans_ (by repeat (first | exact Ext.refl _ | (refine Ext.drew_ ?_) | (refine Ext.drewN_ ?_ _) | (refine Ext.alloc_ ?_ _)))) hq; replace he : e = .returned (errC E 3) := he; subst he; clear hq)
    | (go_at_call 11; have _t := tokA; refine (coded_c (H.out.ext (HB4.out.trans_ (by repeat (first | exact Ext.refl _ | (refine Ext.drew_ ?_) | (refine Ext.drewN_ ?_ _) | (refine Ext.alloc_ ?_ _))))) 3 hc1 hc2).mono ?_; rintro e w5 ⟨rfl, hq⟩; have HB5 : Hid (Ext w w5) := Ext.trans_ (HB4.out.trans_ (by repeat (first | exact Ext.refl _ | (refine Ext.drew_ ?_) | (refine Ext.drewN_ ?_ _) | (refine Ext.alloc_ ?_ _)))) hq; clear hq tokA _t)
    | (go_at_call 21; refine (graphM_nil E _ (H.out.ext (HB5.out.trans_ (by repeat (first | exact Ext.refl _ | (refine Ext.drew_ ?_) | (refine Ext.drewN_ ?_ _) | (refine Ext.alloc_ ?_ _))))).g3).mono ?_; rintro e w6 ⟨rfl, hq⟩; have HB6 : Hid (Ext w w6) := Ext.trans_ (HB5.out.trans_ (by repeat (first | exact Ext.refl _ | (refine Ext.drew_ ?_) | (refine Ext.drewN_ ?_ _) | (refine Ext.alloc_ ?_ _)))) hq; clear hq)
    | (go_at_call 22; refine (liveM_nil E _ (H.out.ext (HB6.out.trans_ (by repeat (first | exact Ext.refl _ | (refine Ext.drew_ ?_) | (refine Ext.drewN_ ?_ _) | (refine Ext.alloc_ ?_ _))))).g3).mono ?_; rintro e w7 ⟨rfl, hq⟩; have HB7 : Hid (Ext w w7) := Ext.trans_ (HB6.out.trans_ (by repeat (first | exact Ext.refl _ | (refine Ext.drew_ ?_) | (refine Ext.drewN_ ?_ _) | (refine Ext.alloc_ ?_ _)))) hq; clear hq)
    | (go_at_call 11; have _t := tokB; refine (coded_c (H.out.ext (HB7.out.trans_ (by repeat (first | exact Ext.refl _ | (refine Ext.drew_ ?_) | (refine Ext.drewN_ ?_ _) | (refine Ext.alloc_ ?_ _))))) 3 hc1 hc2).mono ?_; rintro e w8 ⟨rfl, hq⟩; have HB8 : Hid (Ext w w8) := Ext.trans_ (HB7.out.trans_ (by repeat (first | exact Ext.refl _ | (refine Ext.drew_ ?_) | (refine Ext.drewN_ ?_ _) | (refine Ext.alloc_ ?_ _)))) hq; clear hq tokB _t)
    | (go_at_call 11; have _t := tokC; refine (coded_c (H.out.ext (HB8.out.trans_ (by repeat (first | exact Ext.refl _ | (refine Ext.drew_ ?_) | (refine Ext.drewN_ ?_ _) | (refine Ext.alloc_ ?_ _))))) 3 hc1 hc2).mono ?_; rintro e w9 ⟨rfl, hq⟩; have HB9 : Hid (Ext w w9) := Ext.trans_ (HB8.out.trans_ (by repeat (first | exact Ext.refl _ | (refine Ext.drew_ ?_) | (refine Ext.drewN_ ?_ _) | (refine Ext.alloc_ ?_ _)))) hq; clear hq tokC _t))
  go_ret
  exact ⟨rfl, HB9.out⟩
set_option maxRecDepth 100000 in
set_option maxHeartbeats 4000000 in
theorem memChecks_far (b o : Nat) (M : Mem) (S : Sls) (w : World) (hM : RMem w b o M S) (E : Nat → Addr) (h : ErrEnv E w) (hn : ¬ Near M) :
    Calls Tryz.prog 5 #[.pointer (some ⟨b, o, none⟩)] w fun e w' => e = .returned (.bool true) ∧ Ext w w' := by
  have H := Lib.hid h
  have HM := Lib.hid hM
  have HN := Lib.hid hn
  clear h hM hn
  go_enter Tryz.func5, Tryz.ntmps5
  go_wp2_with (first
    | (go_at_call 19; refine (freshQ_any _ E H.out.g3).mono ?_; rintro e w1 ⟨rfl, hq⟩; have HB1 := Lib.hid hq; clear hq)
    | (go_at_call 7; refine (near_no b o M S HN.out _ (HM.out.ext HB1.out)).mono ?_; rintro e w' ⟨rfl, hw9⟩; have hw9 := hw9.symm; subst hw9))
  go_ret
  exact ⟨rfl, HB1.out⟩
set_option maxRecDepth 100000 in
set_option maxHeartbeats 8000000 in
theorem memChecks_chk (b o : Nat) (M : Mem) (S : Sls) (hn : Near M) (w : World) (hM : RMem w b o M S) (E : Nat → Addr) (h : ErrEnv E w) (c : Int) (hc : chk M = c) (hc0 : c ≠ 0) (hc1 : 1 ≤ c) (hc2 : c ≤ 7) :
    Calls Tryz.prog 5 #[.pointer (some ⟨b, o, none⟩)] w fun e w' => e = .returned (.bool true) ∧ Ext w w' := by
  have HF := Lib.hid hn.few
  have HOK := Lib.hid hM.ok
  have H := Lib.hid h
  have HM := Lib.hid hM
  have HN := Lib.hid hn
  have HCK := Lib.hid hc
  have HC0 : Hid (chk M ≠ 0) := by rw [Hid, hc]; exact hc0
  have k0 : (c == 0) = false := by simpa using hc0
  have k1 : 0 < c := by omega
  have tokA : True := trivial
  have tokB : True := trivial
  have tokC : True := trivial
  clear h hM hn hc
  go_enter Tryz.func5, Tryz.ntmps5
  go_upto_region 5 with (first
    | (go_at_call 19; refine (freshQ_any _ E H.out.g3).mono ?_; rintro e w1 ⟨rfl, hq⟩; have HB1 := Lib.hid hq; clear hq)
    | (go_at_call 7; refine (near_yes b o M S HN.out _ (HM.out.ext HB1.out)).mono ?_; rintro e w' ⟨rfl, hw9⟩; have hw9 := hw9.symm; subst hw9)
    | (go_at_call 8; refine (kCheck_any b o M S _ (HM.out.ext (HB1.out.trans_ (by repeat (first | exact Ext.refl _ | (refine Ext.drew_ ?_) | (refine Ext.drewN_ ?_ _) | (refine Ext.alloc_ ?_ _)))))).mono ?_; rintro e w2 ⟨he, hq⟩; rw [HCK.out] at he; subst he; have HB2 : Hid (Ext w w2) := Ext.trans_ (HB1.out.trans_ (by repeat (first | exact Ext.refl _ | (refine Ext.drew_ ?_) | (refine Ext.drewN_ ?_ _) | (refine Ext.alloc_ ?_ _)))) hq; clear hq))
  go_wp2_with (first
    | (go_at_call 9; refine (memOf_walk b o M S _ (HM.out.ext (HB2.out.trans_ (by repeat (first | exact Ext.refl _ | (refine Ext.drew_ ?_) | (refine Ext.drewN_ ?_ _) | (refine Ext.alloc_ ?_ _))))) HF.out).mono ?_; rintro e w3 ⟨bx, Sx, rfl, hq1, hq2⟩; have HX := Lib.hid (hq1.mem HOK.out); have HB3 : Hid (Ext w w3) := Ext.trans_ (HB2.out.trans_ (by repeat (first | exact Ext.refl _ | (refine Ext.drew_ ?_) | (refine Ext.drewN_ ?_ _) | (refine Ext.alloc_ ?_ _)))) hq2; clear hq1 hq2)
    | (go_at_call 20; refine (check_c bx 0 M Sx E _ (HX.out.ext (show Ext w3 _ from (by repeat (first | exact Ext.refl _ | (refine Ext.drew_ ?_) | (refine Ext.drewN_ ?_ _) | (refine Ext.alloc_ ?_ _))))) (H.out.ext (HB3.out.trans_ (show Ext w3 _ from (by repeat (first | exact Ext.refl _ | (refine Ext.drew_ ?_) | (refine Ext.drewN_ ?_ _) | (refine Ext.alloc_ ?_ _)))))).g3).mono ?_; rintro e w4 ⟨he, hq⟩; rw [HCK.out] at he; subst he; have HE4 : Hid (Ext w3 w4) := Ext.trans_ (show Ext w3 _ from (by repeat (first | exact Ext.refl _ | (refine Ext.drew_ ?_) | (refine Ext.drewN_ ?_ _) | (refine Ext.alloc_ ?_ _)))) hq; clear hq)
    | (go_at_call 11; have _t := tokA; refine (coded_c (H.out.ext (HB3.out.trans_ (HE4.out.trans_ (by repeat (first | exact Ext.refl _ | (refine Ext.drew_ ?_) | (refine Ext.drewN_ ?_ _) | (refine Ext.alloc_ ?_ _)))))) c hc1 hc2).mono ?_; rintro e w5 ⟨he, hq⟩; subst he; have HE5 : Hid (Ext w3 w5) := Ext.trans_ (HE4.out.trans_ (by repeat (first | exact Ext.refl _ | (refine Ext.drew_ ?_) | (refine Ext.drewN_ ?_ _) | (refine Ext.alloc_ ?_ _)))) hq; clear hq tokA)
    | (go_at_call 21; refine (graphM_chk bx 0 M Sx E _ (HX.out.ext (HE5.out.trans_ (by repeat (first | exact Ext.refl _ | (refine Ext.drew_ ?_) | (refine Ext.drewN_ ?_ _) | (refine Ext.alloc_ ?_ _))))) (H.out.ext (HB3.out.trans_ (HE5.out.trans_ (by repeat (first | exact Ext.refl _ | (refine Ext.drew_ ?_) | (refine Ext.drewN_ ?_ _) | (refine Ext.alloc_ ?_ _)))))).g3 HC0.out).mono ?_; rintro e w6 ⟨he, hq⟩; rw [HCK.out] at he; subst he; have HE6 : Hid (Ext w3 w6) := Ext.trans_ (HE5.out.trans_ (by repeat (first | exact Ext.refl _ | (refine Ext.drew_ ?_) | (refine Ext.drewN_ ?_ _) | (refine Ext.alloc_ ?_ _)))) hq; clear hq)
    | (go_at_call 22; refine (liveM_chk bx 0 M Sx E _ (HX.out.ext (HE6.out.trans_ (by repeat (first | exact Ext.refl _ | (refine Ext.drew_ ?_) | (refine Ext.drewN_ ?_ _) | (refine Ext.alloc_ ?_ _))))) (H.out.ext (HB3.out.trans_ (HE6.out.trans_ (by repeat (first | exact Ext.refl _ | (refine Ext.drew_ ?_) | (refine Ext.drewN_ ?_ _) | (refine Ext.alloc_ ?_ _)))))).g3 HC0.out).mono ?_; rintro e w7 ⟨he, hq⟩; rw [HCK.out] at he; subst he; have HE7 : Hid (Ext w3 w7) := Ext.trans_ (HE6.out.trans_ (by repeat (first | exact Ext.refl _ | (refine Ext.drew_ ?_) | (refine Ext.drewN_ ?_ _) | (refine Ext.alloc_ ?_ _)))) hq; clear hq)
    | (go_at_call 11; have _t := tokB; refine (coded_c (H.out.ext (HB3.out.trans_ (HE7.out.trans_ (by repeat (first | exact Ext.refl _ | (refine Ext.drew_ ?_) | (refine Ext.drewN_ ?_ _) | (refine Ext.alloc_ ?_ _)))))) c hc1 hc2).mono ?_; rintro e w8 ⟨he, hq⟩; subst he; have HE8 : Hid (Ext w3 w8) := Ext.trans_ (HE7.out.trans_ (by repeat (first | exact Ext.refl _ | (refine Ext.drew_ ?_) | (refine Ext.drewN_ ?_ _) | (refine Ext.alloc_ ?_ _)))) hq; clear hq tokB)
    | (go_at_call 11; have _t := tokC; refine (coded_c (H.out.ext (HB3.out.trans_ (HE8.out.trans_ (by repeat (first | exact Ext.refl _ | (refine Ext.drew_ ?_) | (refine Ext.drewN_ ?_ _) | (refine Ext.alloc_ ?_ _)))))) c hc1 hc2).mono ?_; rintro e w9 ⟨he, hq⟩; subst he; have HE9 : Hid (Ext w3 w9) := Ext.trans_ (HE8.out.trans_ (by repeat (first | exact Ext.refl _ | (refine Ext.drew_ ?_) | (refine Ext.drewN_ ?_ _) | (refine Ext.alloc_ ?_ _)))) hq; clear hq tokC))
  go_ret
  exact ⟨rfl, HB3.out.trans_ HE9.out⟩
set_option maxRecDepth 100000 in
set_option maxHeartbeats 8000000 in
theorem memChecks_main (b o : Nat) (M : Mem) (S : Sls) (hn : Near M) (w : World) (hM : RMem w b o M S) (E : Nat → Addr) (h : ErrEnv E w) (hT : Tabs w) (hc : chk M = 0) :
    Calls Tryz.prog 5 #[.pointer (some ⟨b, o, none⟩)] w fun e w' => e = .returned (.bool true) ∧ Ext w w' := by
  have HGM := Lib.hid (chk_zero hc).1
  have HF := Lib.hid hn.few
  have HOK := Lib.hid hM.ok
  have H := Lib.hid h
  have HM := Lib.hid hM
  have HN := Lib.hid hn
  have HCK := Lib.hid hc
  have HTB := Lib.hid hT
  have HC : Hid (errC E (chk M) = .nilIface) := by rw [Hid, hc]; rfl
  clear h hM hn hc hT
  go_enter Tryz.func5, Tryz.ntmps5
  go_upto_region 5 with (first
    | (go_at_call 19; refine (freshQ_any _ E H.out.g3).mono ?_; rintro e w1 ⟨rfl, hq⟩; have HB1 := Lib.hid hq; clear hq)
    | (go_at_call 7; refine (near_yes b o M S HN.out _ (HM.out.ext HB1.out)).mono ?_; rintro e w' ⟨rfl, hw9⟩; have hw9 := hw9.symm; subst hw9)
    | (go_at_call 8; refine (kCheck_any b o M S _ (HM.out.ext (HB1.out.trans_ (by repeat (first | exact Ext.refl _ | (refine Ext.drew_ ?_) | (refine Ext.drewN_ ?_ _) | (refine Ext.alloc_ ?_ _)))))).mono ?_; rintro e w2 ⟨he, hq⟩; rw [HCK.out] at he; subst he; have HB2 : Hid (Ext w w2) := Ext.trans_ (HB1.out.trans_ (by repeat (first | exact Ext.refl _ | (refine Ext.drew_ ?_) | (refine Ext.drewN_ ?_ _) | (refine Ext.alloc_ ?_ _)))) hq; clear hq))
  go_upto_region 9 with (first
    | (go_at_call 9; refine (memOf_walk b o M S _ (HM.out.ext (HB2.out.trans_ (by repeat (first | exact Ext.refl _ | (refine Ext.drew_ ?_) | (refine Ext.drewN_ ?_ _) | (refine Ext.alloc_ ?_ _))))) HF.out).mono ?_; rintro e w3 ⟨bx, Sx, rfl, hq1, hq2⟩; have HX := Lib.hid (hq1.mem HOK.out); have HB3 : Hid (Ext w w3) := Ext.trans_ (HB2.out.trans_ (by repeat (first | exact Ext.refl _ | (refine Ext.drew_ ?_) | (refine Ext.drewN_ ?_ _) | (refine Ext.alloc_ ?_ _)))) hq2; clear hq1 hq2)
    | (go_at_call 20; refine (check_c bx 0 M Sx E _ (HX.out.ext (show Ext w3 _ from (by repeat (first | exact Ext.refl _ | (refine Ext.drew_ ?_) | (refine Ext.drewN_ ?_ _) | (refine Ext.alloc_ ?_ _))))) (H.out.ext (HB3.out.trans_ (show Ext w3 _ from (by repeat (first | exact Ext.refl _ | (refine Ext.drew_ ?_) | (refine Ext.drewN_ ?_ _) | (refine Ext.alloc_ ?_ _)))))).g3).mono ?_; rintro e w4 ⟨he, hq⟩; rw [HC.out] at he; subst he; have HE4 : Hid (Ext w3 w4) := Ext.trans_ (show Ext w3 _ from (by repeat (first | exact Ext.refl _ | (refine Ext.drew_ ?_) | (refine Ext.drewN_ ?_ _) | (refine Ext.alloc_ ?_ _)))) hq; clear hq)
    | (go_at_call 11; refine (coded_0 _).mono ?_; rintro e w' ⟨rfl, hw9⟩; have hw9 := hw9.symm; subst hw9)
    | (go_at_call 21; refine (graphM_walk bx M Sx E _ (HX.out.ext (HE4.out.trans_ (by repeat (first | exact Ext.refl _ | (refine Ext.drew_ ?_) | (refine Ext.drewN_ ?_ _) | (refine Ext.alloc_ ?_ _))))) (H.out.ext (HB3.out.trans_ (HE4.out.trans_ (by repeat (first | exact Ext.refl _ | (refine Ext.drew_ ?_) | (refine Ext.drewN_ ?_ _) | (refine Ext.alloc_ ?_ _)))))).g3 HCK.out HF.out (HTB.out.ext (HB3.out.trans_ (HE4.out.trans_ (by repeat (first | exact Ext.refl _ | (refine Ext.drew_ ?_) | (refine Ext.drewN_ ?_ _) | (refine Ext.alloc_ ?_ _))))))).mono ?_; rintro e w6 ⟨he, hz, hq⟩; subst he; have HE6 : Hid (Ext w3 w6) := Ext.trans_ (HE4.out.trans_ (by repeat (first | exact Ext.refl _ | (refine Ext.drew_ ?_) | (refine Ext.drewN_ ?_ _) | (refine Ext.alloc_ ?_ _)))) hq; have HZ := Lib.hid hz; clear hq hz))
  obtain ⟨gs, hgs⟩ : ∃ gs, graphS M = gs := ⟨_, rfl⟩
  obtain ⟨ms, hms⟩ : ∃ ms, moreS M = ms := ⟨_, rfl⟩
  rw [hgs, hms] at HZ ⊢
  have n1 : ¬ 9223372036854775807 < gs.size + ms.size := by have := HZ.out; rw [ByteArray.size_append] at this; omega
  have HGS := Lib.hid hgs
  have HMS := Lib.hid hms
  clear hgs hms
  go_wp2_with (first
    | (go_at_call 22; refine (liveM_walk bx M Sx E _ (HX.out.ext (HE6.out.trans_ (by repeat (first | exact Ext.refl _ | (refine Ext.drew_ ?_) | (refine Ext.drewN_ ?_ _) | (refine Ext.alloc_ ?_ _))))) (H.out.ext (HB3.out.trans_ (HE6.out.trans_ (by repeat (first | exact Ext.refl _ | (refine Ext.drew_ ?_) | (refine Ext.drewN_ ?_ _) | (refine Ext.alloc_ ?_ _)))))).g3 HCK.out).mono ?_; rintro e w7 ⟨he, hq⟩; subst he; have HE7 : Hid (Ext w3 w7) := Ext.trans_ (HE6.out.trans_ (by repeat (first | exact Ext.refl _ | (refine Ext.drew_ ?_) | (refine Ext.drewN_ ?_ _) | (refine Ext.alloc_ ?_ _)))) hq; clear hq)
    | (go_at_call 14; refine (graph_walk b o M S _ (HM.out.ext (HB3.out.trans_ (HE7.out.trans_ (by repeat (first | exact Ext.refl _ | (refine Ext.drew_ ?_) | (refine Ext.drewN_ ?_ _) | (refine Ext.alloc_ ?_ _)))))) HGM.out HF.out).mono ?_; rintro e w8 ⟨he, hq⟩; rw [HGS.out, HMS.out] at he; subst he; have HE8 : Hid (Ext w3 w8) := Ext.trans_ (HE7.out.trans_ (by repeat (first | exact Ext.refl _ | (refine Ext.drew_ ?_) | (refine Ext.drewN_ ?_ _) | (refine Ext.alloc_ ?_ _)))) hq; clear hq)
    | (go_at_call 17; refine (liveOf_walk b o M S _ (HM.out.ext (HB3.out.trans_ (HE8.out.trans_ (by repeat (first | exact Ext.refl _ | (refine Ext.drew_ ?_) | (refine Ext.drewN_ ?_ _) | (refine Ext.alloc_ ?_ _)))))) HGM.out).mono ?_; rintro e w9 ⟨he, hq⟩; subst he; have HE9 : Hid (Ext w3 w9) := Ext.trans_ (HE8.out.trans_ (by repeat (first | exact Ext.refl _ | (refine Ext.drew_ ?_) | (refine Ext.drewN_ ?_ _) | (refine Ext.alloc_ ?_ _)))) hq; clear hq)
    | (go_at_call 13; refine (memBack_walk bx 0 M Sx _ (HX.out.ext (HE9.out.trans_ (by repeat (first | exact Ext.refl _ | (refine Ext.drew_ ?_) | (refine Ext.drewN_ ?_ _) | (refine Ext.alloc_ ?_ _))))) HF.out).mono ?_; rintro e w10 ⟨B6, b6, S6, rfl, hq1, hq2, hq3⟩; have H6 := Lib.hid (hq1.mem HOK.out); have HB10 : Hid (Ext w w10) := Ext.trans_ (HB3.out.trans_ (HE9.out.trans_ (by repeat (first | exact Ext.refl _ | (refine Ext.drew_ ?_) | (refine Ext.drewN_ ?_ _) | (refine Ext.alloc_ ?_ _))))) hq3; clear hq1 hq2 hq3)
    | (go_at_call 12; refine (sameMemory_yes b6 0 b o M S6 S _ (H6.out.ext (by repeat (first | exact Ext.refl _ | (refine Ext.drew_ ?_) | (refine Ext.drewN_ ?_ _) | (refine Ext.alloc_ ?_ _)))) (HM.out.ext (HB10.out.trans_ (by repeat (first | exact Ext.refl _ | (refine Ext.drew_ ?_) | (refine Ext.drewN_ ?_ _) | (refine Ext.alloc_ ?_ _)))))).mono ?_; rintro e w11 ⟨rfl, hq⟩; have HB11 : Hid (Ext w w11) := Ext.trans_ (HB10.out.trans_ (by repeat (first | exact Ext.refl _ | (refine Ext.drew_ ?_) | (refine Ext.drewN_ ?_ _) | (refine Ext.alloc_ ?_ _)))) hq; clear hq))
  go_ret
  exact ⟨rfl, HB11.out⟩
theorem memChecks_any (b o : Nat) (M : Mem) (S : Sls) (w : World) (hM : RMem w b o M S) (E : Nat → Addr) (h : ErrEnv E w) (hT : Tabs w) :
    Calls Tryz.prog 5 #[.pointer (some ⟨b, o, none⟩)] w fun e w' => e = .returned (.bool true) ∧ Ext w w' := by
  by_cases hn : Near M
  · by_cases hc : chk M = 0
    · exact memChecks_main b o M S hn w hM E h hT hc
    · refine memChecks_chk b o M S hn w hM E h _ rfl hc ?_ ?_
      · unfold chk at hc ⊢
        split <;> (try split) <;> simp_all
      · unfold chk
        split <;> (try split) <;> decide
  · exact memChecks_far b o M S w hM E h hn
end Go.Proofs.YtecbbbaafcoliaaGreatDoor
