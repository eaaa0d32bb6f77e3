/- The walk of the document's come. -/
import Derived.Test.YtecbbbaafcoliaaGreatDoorJZn07
import Derived.Test.YtecbbbaafcoliaaGreatDoorJZn30
import Derived.Deep.Cut
import Derived.Test.YtecbbbaafcoliaaGreatDoorJZn24
import Derived.StillTailTactics
import Derived.Test.YtecbbbaafcoliaaGreatDoorJZn13
namespace Go.Proofs.YtecbbbaafcoliaaGreatDoor
open Go.RowKit
set_option linter.unusedVariables false
set_option linter.unusedSimpArgs false

/-- What is gathered behind come: an own row. -/
def ComePost (w : World) (B : Nat) (oa : Option Addr) (oc n : Nat) (l : List Ob) (e : Ending) (w' : World) : Prop :=
  ∃ a c, e = .returned (.slice a l.length c) ∧ OwnObjs w' B a c l ∧ Keep (fun k => (Value.slice oa n oc).ownBlock = some k) w w' ∧ ∀ k, (Value.slice a l.length c).ownBlock = some k → (Value.slice oa n oc).ownBlock = some k ∨ w.heap.size ≤ k
set_option maxRecDepth 100000 in
set_option maxHeartbeats 4000000 in
theorem come_no (u : Int) (h0 : 0 ≤ u) (h1 : u ≤ 18446744073709551615) (B : Nat) (oa : Option Addr) (oc : Nat) (out : List Ob) (la : Value) (w : World) (hl : out.length ≤ 9223372036854775807) (hO : OwnObjs w B oa oc out)
    (hn : ¬ (0 ≤ ptsW u ∧ inSt (ats out) (ptsW u) = false)) :
    Calls Tryz.prog 90 #[.slice oa out.length oc, la, .int .u64 u] w (ComePost w B oa oc out.length out) := by
  have hfin : ComePost w B oa oc out.length out (.returned (.slice oa out.length oc)) w := ⟨oa, oc, rfl, hO, Keep.refl _ _, fun k hk => Or.inl hk⟩
  have HF := Lib.hid hfin
  have HR := Lib.hid (own_rsl hO)
  clear hfin hO
  by_cases hp : 0 ≤ ptsW u
  · have hin : inSt (ats out) (ptsW u) = true := by
      cases hq : inSt (ats out) (ptsW u) with
      | true => rfl
      | false => exact absurd ⟨hp, hq⟩ hn
    have hob : decide (0 ≤ objAt out (ptsW u)) = true := by rw [objAt_nonneg]; exact hin
    have hob' : 0 ≤ objAt out (ptsW u) := of_decide_eq_true hob
    clear hn hin
    go_enter Tryz.func90, Tryz.ntmps90
    go_wp2_with (first
      | (go_at_call 28; refine (points_any _ h0 h1 _).mono ?_; rintro e w' ⟨rfl, rfl⟩)
      | (go_at_call 29; refine (objectAt_any _ _ out _ _ hl HR.out).mono ?_; rintro e w' ⟨rfl, rfl⟩))
    go_ret
    exact HF.out
  · clear hn
    go_enter Tryz.func90, Tryz.ntmps90
    go_wp2_with (first
      | (go_at_call 28; refine (points_any _ h0 h1 _).mono ?_; rintro e w' ⟨rfl, rfl⟩))
    go_ret
    exact HF.out
set_option maxRecDepth 100000 in
set_option maxHeartbeats 4000000 in
theorem come_yes (u : Int) (h0 : 0 ≤ u) (h1 : u ≤ 18446744073709551615) (B : Nat) (oa : Option Addr) (oc : Nat) (out : List Ob) (la : Option Addr) (lc : Nat) (l : List Ob) (w : World) (hB : B ≤ w.heap.size) (hl : out.length ≤ 1000000) (hl2 : l.length ≤ 1000000) (hlc : l.length ≤ lc)
    (hO : OwnObjs w B oa oc out) (hR : RSl w la (ocells l)) (hp : 0 ≤ ptsW u) (hn : inSt (ats out) (ptsW u) = false) (i : Nat) (hi : i < l.length) (hi2 : objAt l (ptsW u) = (i : Int)) :
    Calls Tryz.prog 90 #[.slice oa out.length oc, .slice la l.length lc, .int .u64 u] w (ComePost w B oa oc out.length (out ++ [l[i]])) := by
  obtain ⟨i0, hif, hz0, hz1, hz2⟩ := info_parts infoObj
  obtain ⟨p0, p1, p2, p3⟩ := ocells_at l i hi
  obtain ⟨ob, oo, rfl, c0⟩ := hR _ _ p0
  have c1 := hR.at_ p1
  have c2 := hR.at_ p2
  have c3 := hR.at_ p3
  rw [← Nat.add_assoc] at c1 c2 c3
  have hob : ¬ 0 ≤ objAt out (ptsW u) := fun h => by
    have := decide_eq_true h
    rw [objAt_nonneg] at this
    have h2 : inSt (ats out) (ptsW u) = true := this
    rw [hn] at h2; cases h2
  have HO := Lib.hid hO
  have HR := Lib.hid hR
  have HRo := Lib.hid (own_rsl hO)
  have HI := Lib.hid hi2
  have hlo : out.length ≤ 9223372036854775807 := by omega
  have hll : l.length ≤ 9223372036854775807 := by omega
  have hiz : (i : Int) < (l.length : Int) := by omega
  generalize hx : l[i] = x at *
  clear hO hR hn p0 p1 p2 p3 hi2
  go_enter Tryz.func90, Tryz.ntmps90
  go_upto_region 4 with (first
    | (go_at_call 28; refine (points_any _ h0 h1 _).mono ?_; rintro e w' ⟨rfl, rfl⟩)
    | (go_at_call 29; refine (objectAt_any _ _ out _ _ hlo HRo.out).mono ?_; rintro e w' ⟨rfl, rfl⟩))
  go_wp2_with (first
    | (go_at_call 29; refine (objectAt_any _ _ l _ _ hll HR.out).mono ?_; rintro e w' ⟨he, rfl⟩; rw [HI.out] at he; subst he)
    | (at_builtin; (refine wpList_append_src rfl _ _ 57 rfl B 62 i0 (.agg #[.int .i64 0, .int .i64 0, .int .i64 0, .int .i64 0]) 4 32 undObjs hif hz0 hz1 hz2 rfl (by decide) _ out.length (ocells out) rfl (HO.out.alloc _) (some ⟨_, 0, none⟩) 1 1 [.int .i64 (x.a : Int), .int .i64 (hKind x.w), .int .i64 (hAge x.w), .int .i64 (hSize x.w)] rfl (fun h => by cases h) (Nat.le_refl _) rfl ?c1 ?c2 ?c3 ?c4 ?c5 ?_)))
  case c1 => exact rsl_block (heap_alloc_new _ _)
  case c2 => intro u hu; simp at hu; rcases hu with rfl | rfl | rfl | rfl <;> rfl
  case c3 => unfold maxLen; omega
  case c4 => omega
  case c5 => simp; omega
  · intro a' c' w2 hown hgrow hat'
    have HOW := Lib.hid hown
    have HGR := Lib.hid hgrow
    have HAT := Lib.hid hat'
    clear hown hgrow hat'
    go_wp2
    go_ret
    refine ⟨a', c', ?_, ?_, ?_, fun k hk => ?_⟩
    · simp
    · unfold OwnObjs
      rw [ocells_snoc, List.length_append]
      exact HOW.out
    · exact ((Keep.refl _ _).alloc_ _).trans (Keep.of_grown HGR.out fun k hk => Or.inl hk)
    · rw [List.length_append] at hk
      have hk' : (Value.slice a' (out.length + 1) c').ownBlock = some k := hk
      rcases HAT.out with q | q
      · exact Or.inl (by rw [← q]; exact hk')
      · rw [q] at hk'
        injection hk' with hk'
        right; exact (by have := hk'; omega)
end Go.Proofs.YtecbbbaafcoliaaGreatDoor
/- The walk of the document's Reached. -/
namespace Go.Proofs.YtecbbbaafcoliaaGreatDoor
open Go.RowKit
set_option linter.unusedVariables false
set_option linter.unusedSimpArgs false

theorem obs_w {M : Mem} {x : Ob} (hx : x ∈ objsAll M) : x = obW M.W x.a := by
  have hw : x.w = wat M.W x.a := by
    rcases obM_of hx with q | q
    · exact q.w
    · exact q.w
  unfold obW; rw [← hw]
theorem objs_len {M : Mem} (hs : Shp M) : (objsAll M).length ≤ M.W.length := by
  obtain ⟨hb, b0, b1⟩ := hs.base
  have s1 := hs.h1; have s2 := hs.t2; have s3 := hs.p2; have s4 := hs.w; have s5 := hs.t1; have s6 := hs.p1
  unfold objsAll
  rw [List.length_append]
  have l1 := part_len M.W (M.base + M.top.toNat - M.base) M.base (M.base + M.top.toNat)
  have l2 := part_len M.W ((2 * M.half).toNat + M.oldTop.toNat - (2 * M.half).toNat) (2 * M.half).toNat ((2 * M.half).toNat + M.oldTop.toNat)
  have e1 : (partN M).1.length ≤ M.base + M.top.toNat - M.base := l1
  have e2 : (partO M).1.length ≤ (2 * M.half).toNat + M.oldTop.toNat - (2 * M.half).toNat := l2
  omega
/-- come, whatever the word. -/
theorem come_any (M : Mem) (hg : goodB M = true) (u : Int) (hf : fldB (startsM M) u = true) (h0 : 0 ≤ u) (h1 : u ≤ 18446744073709551615) (B : Nat) (oa : Option Addr) (oc : Nat) (out : List Ob) (la : Option Addr) (lc : Nat) (w : World) (hB : B ≤ w.heap.size)
    (hG : Gath M out) (hlc : (objsAll M).length ≤ lc) (hO : OwnObjs w B oa oc out) (hR : RSl w la (ocells (objsAll M))) :
    Calls Tryz.prog 90 #[.slice oa out.length oc, .slice la (objsAll M).length lc, .int .u64 u] w (ComePost w B oa oc out.length (comeP M.W out u)) := by
  obtain ⟨hs, -⟩ := good_parts hg
  have hl := objs_len hs
  have hl2 := len_small hs
  have hl3 := hG.len
  unfold comeP
  by_cases hc : 0 ≤ ptsW u ∧ inSt (ats out) (ptsW u) = false
  · rw [if_pos hc]
    obtain ⟨x, hx, e1, e2⟩ := pts_ob hf hc.1
    obtain ⟨i, hi, e3, e4⟩ := objAt_found (l := objsAll M) (P := ptsW u) (List.contains_iff_mem.2 (List.mem_map.2 ⟨x, hx, e1⟩))
    have e5 : (objsAll M)[i] = obW M.W (ptsW u).toNat := by
      have h := obs_w (List.getElem_mem hi)
      rw [h, ← e4, Int.toNat_natCast]
    rw [← e5]
    exact come_yes u h0 h1 B oa oc out la lc (objsAll M) w hB (by omega) (by omega) hlc hO hR hc.1 hc.2 i hi e3
  · rw [if_neg hc]
    exact come_no u h0 h1 B oa oc out _ w (by omega) hO hc
theorem comesP_snoc (W : List Int) (out : List Ob) (us : List Int) (k : Nat) (hk : k < us.length) : comesP W out (us.take (k + 1)) = comeP W (comesP W out (us.take k)) (us.getD k 0) := by
  unfold comesP
  rw [List.take_add_one, List.getElem?_eq_getElem hk, List.foldl_append, List.getD_eq_getElem?_getD, List.getElem?_eq_getElem hk]
  rfl
theorem reachG_end (W : List Int) (f k : Nat) (out : List Ob) (h : out.length ≤ k) : reachG W f k out = out := by
  cases f with
  | zero => rfl
  | succ f => unfold reachG; rw [List.getElem?_eq_none h]
def ReachedPost (w : World) (M : Mem) (e : Ending) (w' : World) : Prop :=
  ∃ a c, e = .returned (.slice a (reachP M).length c) ∧ OwnObjs w' w.heap.size a c (reachP M) ∧ Ext w w'
set_option maxRecDepth 100000 in
set_option maxHeartbeats 8000000 in
theorem reached_walk (b o : Nat) (M : Mem) (S : Sls) (w : World) (hM : RMem w b o M S) (hg : goodB M = true) :
    Calls Tryz.prog 42 #[.pointer (some ⟨b, o, none⟩)] w (ReachedPost w M) := by
  obtain ⟨hs, hob, hro, hwk, hfo, hid⟩ := good_parts hg
  have hkk : (kN M).1 ++ (kO M).1 = objsAll M := by
    have h2 : ((kN M).2 && (kO M).2) = true := by
      cases hq : ((kN M).2 && (kO M).2) with
      | true => rfl
      | false => have := kAll_bad hq; rw [hob] at this; cases this
    exact (kAll_ok h2).1
  have hol := objs_len hs
  have hsm := len_small hs
  have HRO : Hid (∀ k, k < M.roots.length → fldB (startsM M) (M.roots.getD k 0) = true ∧ 0 ≤ M.roots.getD k 0 ∧ M.roots.getD k 0 ≤ 18446744073709551615) := fun k hk => by
    unfold fieldsB at hro
    rw [List.all_eq_true] at hro
    exact ⟨getD_in hro hk, getD_in (P := fun x => 0 ≤ x ∧ x ≤ 18446744073709551615) hM.ok.roots hk⟩
  have hlr := hM.ok.lenR
  have HM := Lib.hid hM
  have HG := Lib.hid hg
  have HS := Lib.hid hs
  have HFO := Lib.hid hfo
  have HKK := Lib.hid hkk
  clear hM hg hs hob hro hwk hfo hid hkk
  go_enter Tryz.func42, Tryz.ntmps42
  go_wp2_with (go_at_call 26; refine (kAll_walk b o M S HS.out _ HM.out).mono ?_; rintro e w1 ⟨la, lc, rfl, hOl, hE1⟩; have HOL := Lib.hid hOl; have HE1 := Lib.hid hE1; clear hOl hE1; rw [HKK.out] at HOL; rw [HKK.out])
  have HLC := Lib.hid (own_cap HOL.out)
  have HRL := Lib.hid (own_rsl HOL.out)
  clear HOL
  go_loopw [6, 5] (fun i out wr => ∃ (k : Nat) (v : List Ob) (oa : Option Addr) (oc : Nat), k ≤ M.roots.length ∧ i = .int .i64 (k : Int) ∧ out = .slice oa v.length oc ∧ Hid (OwnObjs wr w1.heap.size oa oc v) ∧ Hid (Gath M v) ∧
      Hid (v = comesP M.W [] (M.roots.take k)) ∧ Hid (Ext w1 wr))
    (fun i _ _ => M.roots.length - (intOf i).toNat)
  case atStart => exact ⟨0, [], none, 0, Nat.zero_le _, rfl, rfl, World.ownsRow_nil _ _ _ _, Gath.nil M, rfl, Ext.refl w1⟩
  case round =>
    obtain ⟨k, v, oa, oc, hk, rfl, rfl, hO, hGa, hV, hE⟩ := hrel
    have hMr : RMem wr b o M S := HM.out.ext (HE1.out.trans_ hE.out)
    have c_R := hMr.roots
    by_cases hlt : k < M.roots.length
    · have hltz : (k : Int) < (M.roots.length : Int) := by omega
      obtain ⟨rb, ro, hRa, hc⟩ := hMr.rR k _ (wcells_at M.roots k hlt)
      rw [hRa] at c_R
      obtain ⟨hu1, hu2, hu3⟩ := HRO.out k hlt
      have hsz := hE.out.size
      generalize hu : M.roots.getD k 0 = u at *
      have HU := Lib.hid hu
      have HU1 := Lib.hid hu1
      clear hMr hRa hu hu1
      go_wp2_with (go_at_call 90; refine (come_any M HG.out u HU1.out hu2 hu3 w1.heap.size oa oc v la lc wr hsz hGa.out HLC.out hO.out (HRL.out.ext hE.out)).mono ?_; rintro e w2 ⟨a2, c2, rfl, q1, q2, q3⟩; have Q1 := Lib.hid q1; have Q2 := Lib.hid q2; clear q1 q2 q3)
      go_roundw
      case rel =>
        refine ⟨k + 1, _, a2, c2, by omega, by go_num, rfl, Q1.out, hGa.out.come HU1.out, ?_, ?_⟩
        · show _ = _
          rw [comesP_snoc _ _ _ _ hlt, HU.out, ← hV.out]
        · exact Ext.keep hE.out Q2.out fun i hi => (hO.out.lt i hi).1
      case measure => simp [intOf]; omega
    · have hltz : ¬ (k : Int) < (M.roots.length : Int) := by omega
      obtain rfl : k = M.roots.length := by omega
      have hV' : v = comesP M.W [] M.roots := by have := hV.out; rw [List.take_length] at this; exact this
      have HV := Lib.hid hV'
      clear hV hV' hMr hlt
      go_wp2
      go_loopw [7, 5] (fun i out wr2 => ∃ (k : Nat) (v : List Ob) (oa : Option Addr) (oc : Nat), k ≤ v.length ∧ i = .int .i64 (k : Int) ∧ out = .slice oa v.length oc ∧ Hid (OwnObjs wr2 w1.heap.size oa oc v) ∧ Hid (Gath M v) ∧
          Hid (reachG M.W (M.W.length - k) k v = reachP M) ∧ Hid (Ext w1 wr2))
        (fun i _ _ => M.W.length + 1 - (intOf i).toNat)
      case atStart => exact ⟨0, v, oa, oc, Nat.zero_le _, rfl, rfl, hO, hGa, (by show reachG M.W (M.W.length - 0) 0 v = reachP M; rw [HV.out]; rfl), hE⟩
      case round =>
        clear HV hO hGa hE hltz
        obtain ⟨k, v, oa, oc, hk2, rfl, rfl, hO, hGa, hV, hE⟩ := hrel
        have hglen := hGa.out.len
        by_cases hlt : k < v.length
        · have hltz : (k : Int) < (v.length : Int) := by omega
          obtain ⟨ob, oo, rfl, c0, c1, c3⟩ := ob_cells (own_rsl hO.out) hlt
          have hmem := hGa.out.mem _ (List.getElem_mem hlt)
          obtain ⟨f, hf⟩ : ∃ f, M.W.length - k = f + 1 := ⟨M.W.length - k - 1, by omega⟩
          have hstep : reachG M.W f (k + 1) (stepP M.W v v[k]) = reachP M := by
            have := hV.out
            rw [hf] at this
            unfold reachG at this
            rw [List.getElem?_eq_getElem hlt] at this
            exact this
          have HST := Lib.hid hstep
          have hobn := found_n HM.out.ok HS.out hmem
          obtain ⟨m1, m2, m3⟩ := mem_in HS.out hmem
          have HGET : Hid (v[k]? = some v[k]) := List.getElem?_eq_getElem hlt
          generalize hx : v[k] = x at *
          have hkr : 0 ≤ hKind x.w ∧ hKind x.w ≤ 255 := by have := hd_in x.w (by rw [m2]; exact (wat_in HM.out.ok _).1); exact ⟨this.1, this.2.1⟩
          have HF := Lib.hid hf
          have HMEM := Lib.hid hmem
          have HM2 := Lib.hid m2
          clear hV hstep hf hmem hx m2 m3
          cases hraw : rawB (hKind x.w) with
          | true =>
            have hk8 : hKind x.w < 8 := by unfold rawB at hraw; exact of_decide_eq_true hraw
            have HRAW := Lib.hid hraw
            clear hraw
            go_wp2
            go_roundw
            case rel =>
              refine ⟨k + 1, v, some ⟨ob, oo, none⟩, oc, by omega, by go_num, rfl, hO, hGa, ?_, hE⟩
              show reachG M.W (M.W.length - (k + 1)) (k + 1) v = reachP M
              have := HST.out
              unfold stepP at this
              rw [HRAW.out] at this
              rw [show M.W.length - (k + 1) = f by have := HF.out; omega]
              exact this
            case measure => simp [intOf]; omega
          | false =>
            have hk8 : ¬ hKind x.w < 8 := by unfold rawB at hraw; exact of_decide_eq_false hraw
            have HRAW := Lib.hid hraw
            clear hraw
            have HKK2 : Hid (k < v.length) := hlt
            have HMW : Hid (x.a + 1 + x.n ≤ M.W.length) := m1
            have hfl : Hid (∀ j, j < x.n → fldB (startsM M) (wat M.W (x.a + 1 + j)) = true) := fun j hj => fld_ok HFO.out HMEM.out HRAW.out j hj
            have HXN : Hid ((x.n : Int) = hSize x.w) := hobn
            clear hobn
            go_wp2
            clear c0 c1 c3
            go_loopw [8, 5] (fun i out wr3 => ∃ (j : Nat) (v3 : List Ob) (oa : Option Addr) (oc : Nat), j ≤ x.n ∧ i = .int .i64 (j : Int) ∧ out = .slice oa v3.length oc ∧ Hid (OwnObjs wr3 w1.heap.size oa oc v3) ∧ Hid (Gath M v3) ∧
                Hid (v3 = comesP M.W v ((fldsW M.W x).take j)) ∧ Hid (v3[k]? = some x) ∧ Hid (Ext w1 wr3))
              (fun i _ _ => x.n - (intOf i).toNat)
            case atStart => exact ⟨0, v, some ⟨ob, oo, none⟩, oc, Nat.zero_le _, rfl, rfl, hO, hGa, rfl, HGET, hE⟩
            case round =>
              clear hO hGa hE
              obtain ⟨j, v3, oa3, oc3, hj, rfl, rfl, hO, hGa, hV, hX, hE⟩ := hrel
              obtain ⟨hk3, hx3⟩ := List.getElem?_eq_some_iff.1 hX.out
              obtain ⟨ob3, oo3, rfl, c0, c1, c3⟩ := ob_cells (own_rsl hO.out) hk3
              rw [hx3] at c0 c1 c3
              have hk3z : (k : Int) < (v3.length : Int) := by omega
              have HX3 := Lib.hid hx3
              clear hx3 c1
              by_cases hlt : j < x.n
              · have hltz : (j : Int) < hSize x.w := by rw [← HXN.out]; omega
                have hMr : RMem wr b o M S := HM.out.ext (HE1.out.trans_ hE.out)
                have c_W := hMr.W
                obtain ⟨idx, hidx⟩ : ∃ i : Nat, i = x.a + 1 + j := ⟨_, rfl⟩
                have hil : idx < M.W.length := by have := HMW.out; omega
                obtain ⟨wb, wo, hWa, hc⟩ := hMr.rW idx _ (wcells_at M.W idx hil)
                rw [hWa] at c_W
                have i1 : IntKind.i64.wrap ((x.a : Int) + 1) = (x.a : Int) + 1 := IntWalk.i64_in _ (by omega)
                have i2 : IntKind.i64.wrap ((x.a : Int) + 1 + (j : Int)) = (idx : Int) := by rw [IntWalk.i64_in _ (by omega)]; omega
                have hilz : (idx : Int) < (M.W.length : Int) := by omega
                have hu1 := hfl.out j hlt
                obtain ⟨hu2, hu3⟩ := wat_in HM.out.ok idx
                have hsz := hE.out.size
                change wr.cell? ⟨wb, wo + idx, none⟩ = some (.int .u64 (wat M.W idx)) at hc
                rw [← hidx] at hu1
                have HIDX := Lib.hid hidx
                generalize hu : wat M.W idx = u at *
                have HU := Lib.hid hu
                have HU1 := Lib.hid hu1
                have HLT := Lib.hid hlt
                clear hMr hWa hu hu1 hidx hlt
                go_wp2
                go_still_tail 16, (by kernel_rfl)
                change wpList _ _ _ _ _ wr.drew
                have hxd : Ext wr wr.drew := (Ext.refl _).drew_
                generalize wr.drew = wd at hxd ⊢
                have hEd := hE.out.trans_ hxd
                have hszd := hEd.size
                have HED := Lib.hid hEd
                have hOd : OwnObjs wd w1.heap.size (some ⟨ob3, oo3, none⟩) oc3 v3 := own_le hO.out (Nat.le_refl _) hxd
                have HOD := Lib.hid hOd
                clear hO hE hxd hEd hOd c0 c_W hc
                go_wp2_with (go_at_call 90; refine (come_any M HG.out u HU1.out hu2 hu3 w1.heap.size _ oc3 v3 la lc wd hszd hGa.out HLC.out HOD.out (HRL.out.ext HED.out)).mono ?_; rintro e w2 ⟨a2, c2, rfl, q1, q2, q3⟩; have Q1 := Lib.hid q1; have Q2 := Lib.hid q2; clear q1 q2 q3)
                go_roundw
                case rel =>
                  refine ⟨j + 1, _, a2, c2, by have := HLT.out; omega, by go_num, rfl, Q1.out, hGa.out.come HU1.out, ?_, ?_, ?_⟩
                  · show _ = _
                    have h1 := HLT.out
                    have h2 : (fldsW M.W x).getD j 0 = u := by
                      rw [← HU.out, HIDX.out]
                      simp [fldsW, List.getD_eq_getElem?_getD, h1]
                    rw [comesP_snoc _ _ _ _ (by simpa [fldsW] using h1), h2, ← hV.out]
                  · obtain ⟨t, ht⟩ := comeP_app M.W v3 u
                    show _ = _
                    rw [ht, List.getElem?_append_left (List.getElem?_eq_some_iff.1 hX.out).1]; exact hX.out
                  · exact Ext.keep HED.out Q2.out fun i hi => (HOD.out.lt i hi).1
                case measure =>
                  have h1 := HLT.out
                  simp [intOf]; omega
              · have hltz : ¬ (j : Int) < hSize x.w := by rw [← HXN.out]; omega
                obtain rfl : j = x.n := by omega
                have hV' : v3 = stepP M.W v x := by
                  have := hV.out
                  unfold stepP
                  rw [HRAW.out, this, List.take_of_length_le (by simp [fldsW])]; rfl
                have HV2 := Lib.hid hV'
                have HL2 : Hid (k < v3.length) := hk3
                clear hV hV' hlt c0
                go_wp2
                go_roundw
                case rel =>
                  refine ⟨k + 1, v3, _, oc3, by have := HL2.out; omega, by go_num, rfl, hO, hGa, ?_, hE⟩
                  show reachG M.W (M.W.length - (k + 1)) (k + 1) v3 = reachP M
                  rw [show M.W.length - (k + 1) = f by have := HF.out; omega, HV2.out]
                  exact HST.out
                case measure => simp [intOf]; omega
        · have hltz : ¬ (k : Int) < (v.length : Int) := by omega
          have hV' : v = reachP M := by have := hV.out; rw [reachG_end _ _ _ _ (by omega)] at this; exact this
          have HV := Lib.hid hV'
          clear hV hV' hlt
          go_wp2
          go_ret
          unfold ReachedPost
          rw [← HV.out]
          refine ⟨oa, oc, rfl, own_le hO.out HE1.out.size (Ext.refl _), HE1.out.trans_ hE.out⟩
end Go.Proofs.YtecbbbaafcoliaaGreatDoor
/- The law MinorAges: what is asked of its objects: plainly. -/
namespace Go.Proofs.YtecbbbaafcoliaaGreatDoor
open Go.RowKit
set_option linter.unusedVariables false
set_option linter.unusedSimpArgs false

theorem ob_cells4 {W : World} {la : Option Addr} {l : List Ob} (h : RSl W la (ocells l)) {k : Nat} (hk : k < l.length) :
    ∃ ob oo, la = some ⟨ob, oo, none⟩ ∧ W.cell? ⟨ob, oo + k * 4, none⟩ = some (.int .i64 (l[k].a : Int)) ∧ W.cell? ⟨ob, oo + k * 4 + 1, none⟩ = some (.int .i64 (hKind l[k].w)) ∧ W.cell? ⟨ob, oo + k * 4 + 2, none⟩ = some (.int .i64 (hAge l[k].w)) ∧ W.cell? ⟨ob, oo + k * 4 + 3, none⟩ = some (.int .i64 (hSize l[k].w)) := by
  obtain ⟨p0, p1, p2, p3⟩ := ocells_at l k hk
  obtain ⟨ob, oo, rfl, c0⟩ := h _ _ p0
  have c1 := h.at_ p1
  have c2 := h.at_ p2
  have c3 := h.at_ p3
  rw [← Nat.add_assoc] at c1 c2 c3
  exact ⟨ob, oo, rfl, c0, c1, c2, c3⟩
section
variable {M : Mem} {ten : Int}
theorem collectC_few (hr : Ready M ten) (hf : Few M) : Few (collectC M ten) := by
  obtain ⟨_, _, _, _, _, _, D, h1, h2, h3, h4⟩ := collect_inv hr
  refine ⟨?_, ?_, ?_, ?_, ?_⟩
  · show (col4 M ten).M.W.length ≤ _
    rw [h1.like.lenW]; exact hf.W
  · show (col4 M ten).M.roots.length ≤ _
    rw [h3]; exact hf.R
  · show (weakC (col4 M ten)).length ≤ _
    unfold weakC
    rw [List.length_map, h1.like.weak]; exact hf.K
  · show (idsC (col4 M ten)).length ≤ _
    refine Nat.le_trans (List.length_filterMap_le _ _) ?_
    rw [h1.like.ids]; exact hf.I
  · show (col4 M ten).M.cards.length ≤ _
    rw [h1.like.lenC]; exact hf.C
theorem collectC_ok (hr : Ready M ten) : (collectC M ten).Ok := by rw [collectC_fin]; exact (collect_fin hr).ok hr
theorem collectC_chk (hr : Ready M ten) : chk (collectC M ten) = 0 := by rw [collectC_fin]; exact (collect_fin hr).chk hr
theorem collectC_half (hr : Ready M ten) : (collectC M ten).half = M.half := by
  obtain ⟨_, _, _, _, _, _, D, h1, _⟩ := collect_inv hr
  exact h1.like.half
/-- WHAT BECOMES OF EACH OBJECT THAT IS COME TO. -/
theorem collectC_ages (hr : Ready M ten) : (reachP (collectC M ten)).length = (reachP M).length ∧ ∀ k (h1 : k < (reachP M).length) (h2 : k < (reachP (collectC M ten)).length),
    hKind (reachP (collectC M ten))[k].w = hKind (reachP M)[k].w ∧ hSize (reachP (collectC M ten))[k].w = hSize (reachP M)[k].w ∧
    ((2 * M.half ≤ ((reachP M)[k].a : Int) ∧ ((reachP (collectC M ten))[k].a : Int) = ((reachP M)[k].a : Int)) ∨
     (((reachP M)[k].a : Int) < 2 * M.half ∧ (2 * M.half ≤ ((reachP (collectC M ten))[k].a : Int) ↔ ten ≤ hAge (reachP M)[k].w) ∧ (((reachP (collectC M ten))[k].a : Int) < 2 * M.half → hAge (reachP (collectC M ten))[k].w = min 15 (hAge (reachP M)[k].w + 1)))) := by
  have hf := collect_fin hr
  obtain ⟨e1, e2⟩ := hf.reach hr
  rw [← collectC_fin] at e1
  refine ⟨by rw [e1, List.length_map], fun k h1 h2 => ?_⟩
  have e3 : (reachP (collectC M ten))[k] = obW (col4 M ten).M.W (goC M (col4 M ten) (reachP M)[k].a) := by
    have : (reachP (collectC M ten))[k]? = some (obW (col4 M ten).M.W (goC M (col4 M ten) (reachP M)[k].a)) := by rw [e1, List.getElem?_map, List.getElem?_eq_getElem h1]; rfl
    rw [List.getElem?_eq_getElem h2] at this
    exact Option.some.inj this
  obtain ⟨d1, d2⟩ := e2 _ (List.getElem_mem h1)
  obtain ⟨a1, a2, a3⟩ := hf.ages hr d1
  have ew : (reachP M)[k].w = wat M.W (reachP M)[k].a := by rw [d2]; rfl
  rw [e3, ew]
  obtain ⟨hh, n1, n2, n3, n4, n5, n6, n7, n8, n9, n10, n11, n12⟩ := hr.shp.nums
  refine ⟨a1, a2, ?_⟩
  rcases a3 with ⟨b1, b2⟩ | ⟨b1, b2, b3⟩
  · left
    refine ⟨by omega, ?_⟩
    show (goC M (col4 M ten) (reachP M)[k].a : Int) = _
    rw [b2]
  · right
    refine ⟨by omega, ?_, fun q => b3 ?_⟩
    · rw [← b2]
      show 2 * M.half ≤ (goC M (col4 M ten) (reachP M)[k].a : Int) ↔ _
      omega
    · have q' : (goC M (col4 M ten) (reachP M)[k].a : Int) < 2 * M.half := q
      omega
/-- The nursery's words behind it. -/
def wordsN (h : Int) (l : List Ob) : Int := ((((l.filter fun o => decide ((o.a : Int) < 2 * h)).map fun o => 1 + o.n).sum : Nat) : Int)
theorem wordsN_snoc (h : Int) (l : List Ob) (k : Nat) (hk : k < l.length) : wordsN h (l.take (k + 1)) = if (l[k].a : Int) < 2 * h then wordsN h (l.take k) + (1 + (l[k].n : Int)) else wordsN h (l.take k) := by
  unfold wordsN
  rw [List.take_add_one, List.getElem?_eq_getElem hk, List.filter_append, List.map_append, List.sum_append]
  by_cases q : (l[k].a : Int) < 2 * h
  · rw [if_pos q]
    have : List.filter (fun o : Ob => decide ((o.a : Int) < 2 * h)) (some l[k]).toList = [l[k]] := by simp [q]
    rw [this]; simp
  · rw [if_neg q]
    have : List.filter (fun o : Ob => decide ((o.a : Int) < 2 * h)) (some l[k]).toList = [] := by simp [q]
    rw [this]; simp
theorem collectC_words (hr : Ready M ten) : wordsN M.half (objsAll (collectC M ten)) = (collectC M ten).top ∧ (collectC M ten).top ≤ M.top := by
  obtain ⟨w1, w2, w3⟩ := (collect_fin hr).words hr
  unfold wordsN
  rw [collectC_fin, w1]
  show ((col4 M ten).top.toNat : Int) = (col4 M ten).top ∧ (col4 M ten).top ≤ _
  exact ⟨by omega, w3⟩
end
end Go.Proofs.YtecbbbaafcoliaaGreatDoor
/- What Alloc leaves is a memory still: plainly. -/
namespace Go.Proofs.YtecbbbaafcoliaaGreatDoor
open Go.RowKit
set_option linter.unusedVariables false
set_option linter.unusedSimpArgs false

theorem splice_mem {L : List Int} {off : Nat} {cs : List Int} {x : Int} (h : x ∈ splice L off cs) : x ∈ L ∨ x ∈ cs := by
  unfold splice at h
  rcases List.mem_append.1 h with h | h
  · exact Or.inl (List.mem_of_mem_take h)
  · rcases List.mem_append.1 h with h | h
    · exact Or.inr h
    · exact Or.inl (List.mem_of_mem_drop h)
theorem allocM_ok {M : Mem} (h : M.Ok) {kind : Int} {fs : List Int} (hfb : ∀ x ∈ fs, 0 ≤ x ∧ x ≤ 18446744073709551615) (hk0 : 0 ≤ kind) (hk1 : kind ≤ 255) (hl : fs.length ≤ 200) (ht : -9223372036854775808 ≤ M.top + 1 + (fs.length : Int) ∧ M.top + 1 + (fs.length : Int) ≤ 9223372036854775807)
    (hfit : M.base + M.top.toNat + 1 + fs.length ≤ M.W.length) : (allocM M kind fs).Ok :=
  ⟨h.half, h.old, h.card, h.used, ht, h.oldTop, fun x hx => by
    rcases splice_mem hx with q | q
    · rcases List.mem_or_eq_of_mem_set q with q | q
      · exact h.W x q
      · subst q; exact headW_in kind 0 0 (fs.length : Int) ⟨hk0, hk1⟩ (by omega) (by omega) ⟨by omega, by omega⟩
    · exact hfb x q, h.roots, h.weak, h.ids, by unfold allocM; simp only; rw [length_splice _ _ _ (by simp; omega)]; simp; exact h.lenW, h.lenR, h.lenK, h.lenI, h.lenC⟩
end Go.Proofs.YtecbbbaafcoliaaGreatDoor
