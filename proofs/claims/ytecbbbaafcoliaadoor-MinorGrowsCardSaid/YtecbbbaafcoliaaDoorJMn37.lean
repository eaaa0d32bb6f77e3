/- The law MemAllocs: its walk where an object is given; whatever it is given. -/
import Derived.Test.YtecbbbaafcoliaaDoorJMn36
import Derived.Deep.RegionHeld3
import Derived.Test.YtecbbbaafcoliaaDoorJMn25
import Derived.Test.YtecbbbaafcoliaaDoorJMn33
import Derived.Test.YtecbbbaafcoliaaDoorJMn13
namespace Go.Proofs.YtecbbbaafcoliaaDoor
open Go.RowKit
set_option linter.unusedVariables false
set_option linter.unusedSimpArgs false

theorem splice_take (L : List Int) (off : Nat) (fs : List Int) (k : Nat) (hk : k < fs.length) (ho : off + fs.length ≤ L.length) : splice L off (fs.take (k + 1)) = (splice L off (fs.take k)).set (off + k) (fs.getD k 0) := by
  unfold splice
  apply List.ext_getElem?
  intro i
  have e1 : (fs.take (k + 1)).length = k + 1 := by simp; omega
  have e2 : (fs.take k).length = k := by simp; omega
  have e3 : (L.take off).length = off := by simp; omega
  rw [List.getElem?_set]
  simp only [List.getElem?_append, e1, e2, e3, List.length_append, List.length_drop]
  by_cases h1 : i < off
  · rw [if_pos h1, if_pos h1, if_neg (by omega)]
  · rw [if_neg h1]
    by_cases h2 : i = off + k
    · subst h2
      rw [if_pos (by omega), if_pos rfl, if_pos (by omega), List.getElem?_take, if_pos (by omega)]
      rw [List.getD_eq_getElem?_getD, show off + k - off = k by omega, List.getElem?_eq_getElem hk]
      rfl
    · rw [if_neg (show ¬ off + k = i by omega), if_neg h1]
      by_cases h3 : i - off < k
      · rw [if_pos (by omega), if_pos h3, List.getElem?_take, List.getElem?_take, if_pos (by omega), if_pos h3]
      · rw [if_neg (by omega), if_neg h3, List.getElem?_drop, List.getElem?_drop]
        congr 1
        omega
theorem splice_zero (L : List Int) (off : Nat) (fs : List Int) : splice L off (fs.take 0) = L := by simp [splice]
def partM (M : Mem) (kind : Int) (fs : List Int) (k : Nat) : Mem := { M with W := splice (M.W.set (M.base + M.top.toNat) (headW kind 0 0 fs.length)) (M.base + M.top.toNat + 1) (fs.take k) }
theorem partM_len (M : Mem) (kind : Int) (fs : List Int) (k : Nat) (h : M.base + M.top.toNat + 1 + fs.length ≤ M.W.length) : (partM M kind fs k).W.length = M.W.length := by
  unfold partM
  simp only
  rw [length_splice _ _ _ (by simp; omega)]; simp
theorem partM_next (M : Mem) (kind : Int) (fs : List Int) (k : Nat) (hk : k < fs.length) (h : M.base + M.top.toNat + 1 + fs.length ≤ M.W.length) :
    partM M kind fs (k + 1) = { partM M kind fs k with W := (partM M kind fs k).W.set (M.base + M.top.toNat + 1 + k) (fs.getD k 0) } := by
  unfold partM
  simp only
  rw [splice_take _ _ _ _ hk (by simp; omega)]
theorem named_calls {P : Program} {f : FuncId} {a : Array Value} {Q : Ending → World → Prop} {W : World} (h : ∀ W9, W9 = W → Calls P f a W9 Q) : Calls P f a W Q := h W rfl
theorem partM_step {W : World} {B bw : Nat} {tI : TypeId} {M : Mem} {kind : Int} {fs : List Int} {k p at_ : Nat} {v : Int} {Sw : Sls} (hp : p = at_ + 1 + k) (hv : v = fs.getD k 0) (hat : at_ = M.base + M.top.toNat) (hk : k < fs.length)
    (hfit : at_ + 1 + fs.length ≤ M.W.length) (h : OMem W B bw tI { partM M kind fs k with W := (partM M kind fs k).W.set p v } Sw) : OMem W B bw tI (partM M kind fs (k + 1)) Sw := by
  rw [partM_next M kind fs k hk (by omega), ← hat, ← hp, ← hv]
  exact h
theorem allocs_x {w wr : World} {B bx bw : Nat} {tI : TypeId} {M : Mem} {S : Sls} {v : Value} (h : OMem w B bx tI M S) (hE : Ext w wr) (hb : w.heap.size ≤ bw) : OMem (wr.setCell ⟨bw, 5, none⟩ v) B bx tI M S := OM.ext h (Ext.set_ hE hb _)
theorem allocs_w {wr : World} {B bw at_ : Nat} {tI : TypeId} {M : Mem} {kind : Int} {fs : List Int} {Sw : Sls} (h : OMem wr B bw tI (partM M kind fs fs.length) Sw) (hat : at_ = M.base + M.top.toNat) :
    OMem (wr.setCell ⟨bw, 5, none⟩ (.int .i64 (M.top + 1 + (fs.length : Int)))) B bw tI (allocM M kind fs) Sw := by
  have := OMem.setTop h (M.top + 1 + (fs.length : Int))
  unfold partM at this
  rw [List.take_length] at this
  exact this
theorem splice_mem {L : List Int} {off : Nat} {cs : List Int} {x : Int} (h : x ∈ splice L off cs) : x ∈ L ∨ x ∈ cs := by
  unfold splice at h
  rcases List.mem_append.1 h with h | h
  · exact Or.inl (List.mem_of_mem_take h)
  · rcases List.mem_append.1 h with h | h
    · exact Or.inr h
    · exact Or.inl (List.mem_of_mem_drop h)
theorem allocM_ok {M : Mem} (h : M.Ok) {kind : Int} {fs : List Int} (hfb : ∀ x ∈ fs, 0 ≤ x ∧ x ≤ 18446744073709551615) (hk0 : 0 ≤ kind) (hk1 : kind ≤ 255) (hl : fs.length ≤ 200) (ht : -9223372036854775808 ≤ M.top + 1 + (fs.length : Int) ∧ M.top + 1 + (fs.length : Int) ≤ 9223372036854775807)
    (hfit : M.base + M.top.toNat + 1 + fs.length ≤ M.W.length) : (allocM M kind fs).Ok :=
  ⟨h.half, h.old, h.card, h.used, ht, h.oldTop, fun x hx => by
    rcases splice_mem hx with q | q
    · rcases List.mem_or_eq_of_mem_set q with q | q
      · exact h.W x q
      · subst q; exact headW_in kind 0 0 (fs.length : Int) ⟨hk0, hk1⟩ (by omega) (by omega) ⟨by omega, by omega⟩
    · exact hfb x q, h.roots, h.weak, h.ids, by unfold allocM; simp only; rw [length_splice _ _ _ (by simp; omega)]; simp; exact h.lenW, h.lenR, h.lenK, h.lenI, h.lenC⟩
theorem allocM_few {M : Mem} (h : Few M) {kind : Int} {fs : List Int} (hfit : M.base + M.top.toNat + 1 + fs.length ≤ M.W.length) : Few (allocM M kind fs) :=
  ⟨by unfold allocM; simp only; rw [length_splice _ _ _ (by simp; omega)]; simp; exact h.W, h.R, h.K, h.I, h.C⟩
set_option maxRecDepth 100000 in
set_option maxHeartbeats 8000000 in
theorem memAllocs_yes (b o : Nat) (M : Mem) (S : Sls) (hn : Near M) (w : World) (hM : RMem w b o M S) (E : Nat → Addr) (h : ErrEnv E w) (kind : Int) (fa : Option Addr) (fc : Nat) (fs : List Int) (hR : RSl w fa (wcells fs)) (hfc : fs.length ≤ fc) (hfn : fa = none → fc = 0) (hfb : ∀ x ∈ fs, 0 ≤ x ∧ x ≤ 18446744073709551615) (hl : fs.length ≤ 200) (hc : chk M = 0) (hk1 : ¬ kind < 0) (hk2 : ¬ 255 < kind) (hf : rawB kind = true ∨ fieldsB (startsM M) fs = true) (hfull : ¬ M.half < M.top + 1 + (fs.length : Int)) :
    Calls Tryd.prog 7 #[.pointer (some ⟨b, o, none⟩), .int .i64 kind, .slice fa fs.length fc] w fun e w' => e = .returned (.bool true) ∧ Ext w w' := by
  obtain ⟨i0, hi, hz0, hz1, hz2⟩ := info_parts infoF0
  obtain ⟨hs, -⟩ := good_parts (chk_zero hc).1
  have s3 := hs.t1
  have s4 := hs.t2
  have s2 := hs.h2
  have s1 := hs.h1
  have s7 := hs.o1
  have s9 := hs.w
  obtain ⟨hb, b0, b1⟩ := hs.base
  have hwl := len_small hs
  have e1 : IntKind.i64.wrap (M.top + 1) = M.top + 1 := IntWalk.i64_in _ (by omega)
  have e2 : IntKind.i64.wrap (M.top + 1 + (fs.length : Int)) = M.top + 1 + (fs.length : Int) := IntWalk.i64_in _ (by omega)
  obtain ⟨at_, hat⟩ : ∃ a : Nat, a = M.base + M.top.toNat := ⟨_, rfl⟩
  have hfit : at_ + 1 + fs.length ≤ M.W.length := by omega
  have e5 : IntKind.i64.wrap (M.used * M.half) = M.used * M.half := IntWalk.i64_in _ (by omega)
  have e6 : IntKind.i64.wrap (M.used * M.half + M.top) = (at_ : Int) := by rw [IntWalk.i64_in _ (by omega)]; omega
  have E5 := Lib.hid e5
  have E6 := Lib.hid e6
  have HAN : Hid (((M.base + M.top.toNat : Nat) : Int) = (at_ : Int)) := by unfold Hid; rw [hat]
  have HAT := Lib.hid hat
  have HFITN := Lib.hid hfit
  have HCK := Lib.hid hc
  have HC := Lib.hid hc
  have HGD := Lib.hid (chk_zero hc).1
  have HK1 := Lib.hid hk1
  have HK2 := Lib.hid hk2
  have HK3 : Hid (¬ (4096 : Int) < (fs.length : Int)) := by unfold Hid; omega
  have HFD := Lib.hid hf
  have HFU := Lib.hid hfull
  have hlz : ¬ (200 : Int) < (fs.length : Int) := by omega
  have HFO : Hid (rawB kind = false → fieldsB (startsM M) fs = true) := fun h => by rcases hf with g | g; (rw [h] at g; cases g); exact g
  clear hs hb hat e5 e6 hc hf s9
  have HF := Lib.hid hn.few
  have HOK := Lib.hid hM.ok
  have HU := Lib.hid hM.used
  have H := Lib.hid h
  have HM := Lib.hid hM
  have HN := Lib.hid hn
  have HFR := Lib.hid hR
  have HFN := Lib.hid hfn
  have HFB := Lib.hid hfb
  have HFL : Hid (fs.length ≤ 9223372036854775807) := by unfold Hid; omega
  have hltb := hM.lt
  clear h hM hn hR hfn hfb
  have w3r := HM.out.rW
  cases hr : rawB kind with
  | true =>
    have hk7 : ¬ 7 < kind := by have := of_decide_eq_true hr; omega
    have HRW := Lib.hid hr
    clear hr w3r
    go_enter Tryd.func7, Tryd.ntmps7
    go_wp2_with (first
      | (go_at_call 11; refine (fresh_any _ E H.out.g3).mono ?_; rintro e w1 ⟨rfl, hq⟩; have HB1 := Lib.hid hq; clear hq)
      | (go_at_call 12; refine (near_yes b o M S HN.out _ (HM.out.ext HB1.out)).mono ?_; rintro e w' ⟨rfl, hw9⟩; have hw9 := hw9.symm; subst hw9)
      | (go_at_call 18; refine (kCheck_any b o M S _ (HM.out.ext HB1.out)).mono ?_; rintro e w2 ⟨he, hq⟩; rw [HCK.out] at he; subst he; have HB2 : Hid (Ext w w2) := Ext.trans_ HB1.out hq; clear hq)
      | (go_at_call 13; refine (memOf_walk b o M S _ (HM.out.ext HB2.out) HF.out).mono ?_; rintro e w3 ⟨bx, Sx, rfl, hq1, hq2⟩; have HX := Lib.hid hq1; have HB3 : Hid (Ext w w3) := Ext.trans_ HB2.out hq2; clear hq1 hq2)
      | (at_builtin; refine wpList_append_src rfl _ _ 35 rfl w3.heap.size 30 i0 (.int .u64 0) 1 8 und0 hi hz0 hz1 hz2 rfl (by decide) _ 0 [] rfl (World.ownsRow_nil _ _ _ _) fa fs.length fc (wcells fs) rfl HFN.out hfc (wcells_len fs) (HFR.out.ext HB3.out) (wcells_one _) (by unfold maxLen; omega) (by omega) (Nat.le_refl _) ?_))
    intro a2 c2 w5 hown hgrow hat
    try simp only [Nat.zero_add, List.nil_append] at hown
    have hE35 : Ext w3 w5 := Below.grown (Ext.refl w3) hgrow (Nat.le_refl _) (fun g hg => by cases hg)
    have HE35 := Lib.hid hE35
    have HB5 : Hid (Ext w w5) := Ext.trans_ HB3.out hE35
    have HX5 : Hid (OMem w5 w2.heap.size bx 72 M Sx) := OM.ext HX.out hE35
    have HRO := Lib.hid (row_rsl hown).1
    have HNO := Lib.hid (not_ownW HX.out hown)
    clear hown hgrow hat hE35
    try simp only [Nat.zero_add]
    go_wp2_with fail
    refine (alloc_yes w2.heap.size bx M Sx E kind a2 fs c2 _ HX5.out HOK.out (H.out.ext HB5.out).g4 HC.out (by have := HK1.out; omega) (by have := HK2.out; omega) (by have := HK3.out; omega) HFD.out HRO.out HFB.out HNO.out (by have := HFU.out; omega)).mono ?_
    rintro e w6 ⟨he, hq1, hq2⟩
    rw [HAN.out] at he
    subst he
    have HX6 := Lib.hid hq1
    have HB6 : Hid (Ext w w6) := Below.trans HB5.out (Below.mono (Keep.belowO hq2 HX5.out HX5.out.hbs) HB2.out.size)
    clear hq1 hq2
    go_wp2_with fail
    have HB7 : Hid (Ext w w6) := HB6
    have HX7 := HX6
    have n0 := (HM.out.ext HB7.out).half
    have n5 := (HM.out.ext HB7.out).top
    go_quiet (fail)
    clear n0 n5
    go_wp2_with fail
    refine named_calls (fun W7 hW7 => ?_)
    have hB7 : Ext w W7 := by rw [hW7]; repeat (first | exact HB7.out | (refine Ext.drew_ ?_) | (refine Ext.drewN_ ?_ _))
    have hX7 : OMem W7 w2.heap.size bx 72 (allocM M kind fs) Sx := by rw [hW7]; exact OM.ext HX7.out (by (repeat (first | exact Ext.refl _ | (refine Ext.drew_ ?_) | (refine Ext.drewN_ ?_ _))))
    have HBW := Lib.hid hB7
    have HXW := Lib.hid hX7
    clear hW7 hB7 hX7
    refine (own_walk b o M S W7 (HM.out.ext HBW.out) HF.out).mono ?_
    rintro e w8 ⟨bw, Sw, rfl, hq1, hq2⟩
    have HWO := Lib.hid hq1
    have HB8 : Hid (Ext w w8) := Ext.trans_ HBW.out hq2
    have HE78 : Hid (Ext W7 w8) := hq2
    clear hq1 hq2
    go_wp2_with fail
    have n0 := (HM.out.ext HB8.out).half
    have n5 := (HM.out.ext HB8.out).top
    have n4 := (HM.out.ext HB8.out).used
    have e5 := E5.out
    have e6 := E6.out
    go_quiet (fail)
    clear e5 e6 n0 n5 n4
    go_wp2
    refine named_world' (fun W9 hW9 => ?_)
    have hE89 : Ext w8 W9 := by rw [hW9]; repeat (first | exact Ext.refl _ | (refine Ext.drew_ ?_) | (refine Ext.drewN_ ?_ _))
    have HE89 := Lib.hid hE89
    have hWO9 : OMem W9 W7.heap.size bw 71 M Sw := OM.ext HWO.out hE89
    have hlen0 : at_ < M.W.length := by omega
    obtain ⟨g, hg, hgB, hgl, hgf, hgc, -⟩ := own_block hWO9.fW (by omega)
    have c3 := (hWO9.mem HOK.out).W
    simp only [Nat.zero_add] at c3
    rw [hg] at c3
    have hcell : W9.cell? ⟨g, at_, none⟩ = some (.int .u64 (M.W.getD at_ 0)) := by
      have := (hWO9.mem HOK.out).rW
      rw [hg] at this
      simpa using this.at_ (wcells_at M.W at_ hlen0)
    have hfg := hgf at_
    have hgb := hWO9.notW hg
    have hatz : (at_ : Int) < (M.W.length : Int) := by omega
    have HG := Lib.hid hg
    have HWO9 := Lib.hid hWO9
    have kk0 : 0 ≤ kind := by have := HK1.out; omega
    have kk1 : kind ≤ 255 := by have := HK2.out; omega
    clear hW9 hE89 hWO9 hgf hg
    refine wp_region_held_drew (S := fun W => W.cell? ⟨bw, 3, none⟩ = some (.slice (some ⟨g, 0, none⟩) M.W.length Sw.W.2)) (by kernel_rfl) ?_ (fun hHeld => ?_)
    · exact c3
    refine wpAnyH_take (i := 0) (oi := ⟨some 118, _, _, _, _, _⟩) (v := ?_) rfl (by kernel_rfl) (by kernel_rfl) (by kernel_rfl) (fun _ _ _ h => h) (Or.inl ⟨by rfl, ?_⟩) (by assumption) ?_
    rotate_left
    · (intro w hSw; (try dsimp only at hSw); go_simp; try with_reducible rfl)
    try simp only [Act.put, List.setIfInBounds_toArray, List.set_cons_zero, List.set_cons_succ]
    refine wpAnyH_take (i := 1) (oi := ⟨some 119, _, _, _, _, _⟩) (v := ?_) rfl (by kernel_rfl) (by kernel_rfl) (by kernel_rfl) (fun _ _ _ h => h) (Or.inl ⟨by rfl, ?_⟩) (by assumption) ?_
    rotate_left
    · (intro w hSw; (try dsimp only at hSw); go_simp; try with_reducible rfl)
    try simp only [Act.put, List.setIfInBounds_toArray, List.set_cons_zero, List.set_cons_succ]
    refine wpAnyH_take (i := 2) (oi := ⟨some 120, _, _, _, _, _⟩) (v := ?_) rfl (by kernel_rfl) (by kernel_rfl) (by kernel_rfl) (fun _ _ _ h => h) (Or.inl ⟨by rfl, ?_⟩) (by assumption) ?_
    rotate_left
    · (intro w hSw; (try dsimp only at hSw); go_simp; try with_reducible rfl)
    try simp only [Act.put, List.setIfInBounds_toArray, List.set_cons_zero, List.set_cons_succ]
    refine wpAnyH_take (i := 3) (oi := ⟨some 121, _, _, _, _, _⟩) (v := ?_) rfl (by kernel_rfl) (by kernel_rfl) (by kernel_rfl) (fun _ _ _ h => h) (Or.inl ⟨by rfl, ?_⟩) (by assumption) ?_
    rotate_left
    · (intro w hSw; (try dsimp only at hSw); go_simp; try with_reducible rfl)
    try simp only [Act.put, List.setIfInBounds_toArray, List.set_cons_zero, List.set_cons_succ]
    refine wpAnyH_take (i := 4) (oi := ⟨some 122, _, _, _, _, _⟩) (v := ?_) rfl (by kernel_rfl) (by kernel_rfl) (by kernel_rfl) (fun _ _ _ h => h) (Or.inl ⟨by rfl, ?_⟩) (by assumption) ?_
    rotate_left
    · (intro w hSw; (try dsimp only at hSw); go_simp; try with_reducible rfl)
    try simp only [Act.put, List.setIfInBounds_toArray, List.set_cons_zero, List.set_cons_succ]
    refine wpAnyH_take (i := 5) (oi := ⟨some 123, _, _, _, _, _⟩) (v := ?_) rfl (by kernel_rfl) (by kernel_rfl) (by kernel_rfl) (fun _ _ _ h => h) (Or.inl ⟨by rfl, ?_⟩) (by assumption) ?_
    rotate_left
    · (intro w hSw; (try dsimp only at hSw); go_simp; try with_reducible rfl)
    try simp only [Act.put, List.setIfInBounds_toArray, List.set_cons_zero, List.set_cons_succ]
    refine wpAnyH_take (i := 6) (oi := ⟨some 124, _, _, _, _, _⟩) (v := ?_) rfl (by kernel_rfl) (by kernel_rfl) (by kernel_rfl) (fun _ _ _ h => h) (Or.inl ⟨by rfl, ?_⟩) (by assumption) ?_
    rotate_left
    · (intro w hSw; (try dsimp only at hSw); go_simp; try with_reducible rfl)
    try simp only [Act.put, List.setIfInBounds_toArray, List.set_cons_zero, List.set_cons_succ]
    refine wpAnyH_take (i := 7) (oi := ⟨some 125, _, _, _, _, _⟩) (v := ?_) rfl (by kernel_rfl) (by kernel_rfl) (by kernel_rfl) (fun _ _ _ h => h) (Or.inl ⟨by rfl, ?_⟩) (by assumption) ?_
    rotate_left
    · (intro w hSw; (try dsimp only at hSw); go_simp; try with_reducible rfl)
    try simp only [Act.put, List.setIfInBounds_toArray, List.set_cons_zero, List.set_cons_succ]
    refine wpAnyH_ready (rs := [8]) (by kernel_rfl) (by simp) ?_
    refine AllReadyH.cons (o := ⟨some 126, _, _, _, _, _⟩) rfl (fun K hK => ?_) AllReadyH.nil
    go_simp
    refine (kHeadWord_any kind 0 0 (fs.length : Int) ⟨kk0, kk1⟩ (by omega) (by omega) ⟨by omega, by omega⟩ _).mono ?_
    rintro e w' ⟨rfl, hw9⟩
    have hw9 := hw9.symm
    subst hw9
    refine hK.out _ _ ?_ (fun hHeld => ?_)
    · (try dsimp only); exact c3
    clear hK K
    try simp only [Act.put, List.setIfInBounds_toArray, List.set_cons_zero, List.set_cons_succ]
    refine wpAnyH_take (i := 9) (oi := ⟨some 127, _, _, _, _, _⟩) (v := ?_) rfl (by kernel_rfl) (by kernel_rfl) (by kernel_rfl) (fun _ _ _ h => h) (Or.inl ⟨by rfl, ?_⟩) (by assumption) ?_
    rotate_left
    · (intro w hSw; (try dsimp only at hSw); go_simp; try with_reducible rfl)
    try simp only [Act.put, List.setIfInBounds_toArray, List.set_cons_zero, List.set_cons_succ]
    refine wpAnyH_ready (rs := [10]) (by kernel_rfl) (by simp) ?_
    refine AllReadyH.cons (o := ⟨none, _, _, _, _, _⟩) rfl (fun K hK => ?_) AllReadyH.nil
    go_simp
    skip
    refine hK.out _ _ ?_ (fun hHeld => ?_)
    · (try dsimp only); show (W9.setCell ⟨g, at_, none⟩ (Value.int .u64 (headW kind 0 0 (fs.length : Int)))).cell? ⟨bw, 3, none⟩ = _; rw [World.cell?_setCell_far _ _ _ _ (by simp; omega)]; exact c3
    clear hK K
    try simp only [Act.put, List.setIfInBounds_toArray, List.set_cons_zero, List.set_cons_succ]
    refine wpAnyH_done (by kernel_rfl) ?_ _
    clear hHeld
    generalize hWA : (W9.setCell ⟨g, at_, none⟩ (Value.int .u64 (headW kind 0 0 (fs.length : Int)))).drew = WA
    have hWB : Below W7.heap.size w8 WA := by rw [← hWA]; exact Below.drew (Below.setCell (p := ⟨g, at_, none⟩) (Below.mono HE89.out HWO.out.hbs) hgB _)
    have hOA : OMem WA W7.heap.size bw 71 (partM M kind fs 0) Sw := by
      rw [← hWA]
      have := OM.ext (OMem.setW HWO9.out HG.out at_ hlen0 (headW kind 0 0 (fs.length : Int))) (Ext.refl _).drew_
      unfold partM
      rw [splice_zero, ← HAT.out]
      exact this
    have HOA := Lib.hid hOA
    have HEA : Hid (Ext W7 WA) := Below.trans HE78.out hWB
    clear hWA hWB hOA hcell hfg c3
    go_wp2
    go_loopw [15] (fun i wr => ∃ k : Nat, k ≤ fs.length ∧ i = .int .i64 (k : Int) ∧ Hid (OMem wr W7.heap.size bw 71 (partM M kind fs k) Sw) ∧ Hid (Ext W7 wr)) (fun i _ => fs.length - (intOf i).toNat)
    case atStart => exact ⟨0, Nat.zero_le _, rfl, HOA.out, HEA.out⟩
    case round =>
      obtain ⟨k, hk, rfl, hO, hE⟩ := hrel
      by_cases hlt : k < fs.length
      · have HPL := Lib.hid (partM_len M kind fs k (by have h1 := HAT.out; have h2 := HFITN.out; omega))
        have hltz : (k : Int) < (fs.length : Int) := by omega
        obtain ⟨g, hg, hgB, hgl, hgf, hgc, -⟩ := own_block hO.out.fW (by rw [HPL.out]; omega)
        have c3 : wr.cell? ⟨bw, 3, none⟩ = some (.slice Sw.W.1 M.W.length Sw.W.2) := by
          have := (hO.out.fld ⟨3, 30, 1, Sw.W.1, (partM M kind fs k).W.length, Sw.W.2, wcells (partM M kind fs k).W⟩ (by simp [memFlds])).1
          simp only [Fld.val, HPL.out] at this
          exact this
        rw [hg] at c3
        obtain ⟨p, hp⟩ : ∃ p : Nat, p = at_ + 1 + k := ⟨_, rfl⟩
        have hpl : p < M.W.length := by omega
        have hpz : (p : Int) < (M.W.length : Int) := by omega
        have hcell : wr.cell? ⟨g, p, none⟩ = some (.int .u64 ((partM M kind fs k).W.getD p 0)) := by
          have := (row_rsl hO.out.fW).1
          rw [hg] at this
          simpa using this.at_ (wcells_at (partM M kind fs k).W p (by rw [HPL.out]; exact hpl))
        have hfg := hgf p
        have hgb := hO.out.notW hg
        have hwr : Ext w wr := Ext.trans_ HBW.out hE.out
        obtain ⟨fb, fo, hfa, hfcell⟩ := HFR.out k _ (wcells_at fs k hlt)
        replace hfcell := hwr.cell_ hfcell
        have hfbz : fb < wr.heap.size := cell_lt hfcell
        have HV : Hid (∃ v, v = fs.getD k 0) := ⟨_, rfl⟩
        obtain ⟨v, hv⟩ := HV.out
        rw [← hv] at hfcell
        have HVE := Lib.hid hv
        have HPE := Lib.hid hp
        have HG := Lib.hid hg
        have HWR := Lib.hid hwr
        have HLT := Lib.hid hlt
        have e7 : IntKind.i64.wrap ((at_ : Int) + 1) = (at_ : Int) + 1 := IntWalk.i64_in _ (by omega)
        have e8 : IntKind.i64.wrap ((at_ : Int) + 1 + (k : Int)) = (p : Int) := by rw [IntWalk.i64_in _ (by omega)]; omega
        subst hfa
        clear hp hv hg hgf hwr HV
        go_wp2
        go_region
        clear e7 e8
        go_wp2
        go_roundw
        case rel => exact ⟨k + 1, by omega, by go_num, partM_step HPE.out HVE.out HAT.out HLT.out HFITN.out (OM.ext (OMem.setW hO.out HG.out p (by rw [HPL.out]; exact hpl) v) (by (repeat (first | exact Ext.refl _ | (refine Ext.drew_ ?_) | (refine Ext.drewN_ ?_ _))))), Below.drew (Below.setCell (p := ⟨g, p, none⟩) hE.out (Nat.le_trans (Nat.le_refl _) hgB) _)⟩
        case measure => simp [intOf]; omega
      · have hltz : ¬ (k : Int) < (fs.length : Int) := by omega
        obtain rfl : k = fs.length := by omega
        have hwr : Ext w wr := Ext.trans_ HBW.out hE.out
        have n5 := (HM.out.ext hwr).top
        have q5 : wr.cell? ⟨bw, 5, none⟩ = some (.int .i64 M.top) := hO.out.num (5, M.top) (by simp [memNums, partM])
        have f5 := hO.out.frozen 5
        have l5 := OM.lt hO.out
        have lb5 : b < wr.heap.size := by have := hwr.size; omega
        have HWR := Lib.hid hwr
        clear hwr hlt
        have HOKA : Hid (allocM M kind fs).Ok := (allocM_ok HOK.out HFB.out (by have := HK1.out; omega) (by have := HK2.out; omega) hl ⟨by omega, by omega⟩ (by have h1 := HAT.out; have h2 := HFITN.out; omega))
        have HFEW : Hid (Few (allocM M kind fs)) := allocM_few HF.out (by have h1 := HAT.out; have h2 := HFITN.out; omega)
        have HXF : Hid (OMem (wr.setCell ⟨bw, 5, none⟩ (.int .i64 (M.top + 1 + (fs.length : Int)))) w2.heap.size bx 72 (allocM M kind fs) Sx) := allocs_x HXW.out hE.out hO.out.hb
        have HWF : Hid (OMem (wr.setCell ⟨bw, 5, none⟩ (.int .i64 (M.top + 1 + (fs.length : Int)))) W7.heap.size bw 71 (allocM M kind fs) Sw) := allocs_w hO.out HAT.out
        have HEF : Hid (Ext w (wr.setCell ⟨bw, 5, none⟩ (.int .i64 (M.top + 1 + (fs.length : Int))))) := Ext.set_ HWR.out (by have := hO.out.hb; have := HBW.out.size; simp; omega) _
        go_wp2_with (go_at_call 21; refine (kAddrWord_any _ _).mono ?_; rintro e w' ⟨rfl, hw9⟩; have hw9 := hw9.symm; subst hw9)
        refine (memBack_walk bx 0 (allocM M kind fs) Sx _ (HXF.out.mem HOKA.out) HFEW.out).mono ?_
        rintro e w10 ⟨B10, b10, S10, rfl, hq1, hq2, hq3⟩
        have HQ := Lib.hid hq1
        have HE10 := Lib.hid hq3
        clear hq1 hq2 hq3
        go_wp2_with fail
        refine (sameMemory_yes b10 0 bw 0 (allocM M kind fs) S10 Sw _ (HQ.out.mem HOKA.out) (OMem.mem (OM.ext HWF.out HE10.out) HOKA.out)).mono ?_
        rintro e w11 ⟨rfl, hq⟩
        have HE11 : Hid (Ext w w11) := Ext.trans_ (Ext.trans_ HEF.out HE10.out) hq
        clear hq
        go_wp2
        go_ret
        exact ⟨rfl, HE11.out⟩
  | false =>
    have hk7 : 7 < kind := by have := of_decide_eq_false hr; omega
    have HFO := Lib.hid (HFO.out hr)
    have HRW := Lib.hid hr
    clear hr w3r
    go_enter Tryd.func7, Tryd.ntmps7
    go_wp2_with (first
      | (go_at_call 11; refine (fresh_any _ E H.out.g3).mono ?_; rintro e w1 ⟨rfl, hq⟩; have HB1 := Lib.hid hq; clear hq)
      | (go_at_call 12; refine (near_yes b o M S HN.out _ (HM.out.ext HB1.out)).mono ?_; rintro e w' ⟨rfl, hw9⟩; have hw9 := hw9.symm; subst hw9)
      | (go_at_call 18; refine (kCheck_any b o M S _ (HM.out.ext HB1.out)).mono ?_; rintro e w2 ⟨he, hq⟩; rw [HCK.out] at he; subst he; have HB2 : Hid (Ext w w2) := Ext.trans_ HB1.out hq; clear hq)
      | (go_at_call 13; refine (memOf_walk b o M S _ (HM.out.ext HB2.out) HF.out).mono ?_; rintro e w3 ⟨bx, Sx, rfl, hq1, hq2⟩; have HX := Lib.hid hq1; have HB3 : Hid (Ext w w3) := Ext.trans_ HB2.out hq2; clear hq1 hq2)
      | (at_builtin; refine wpList_append_src rfl _ _ 35 rfl w3.heap.size 30 i0 (.int .u64 0) 1 8 und0 hi hz0 hz1 hz2 rfl (by decide) _ 0 [] rfl (World.ownsRow_nil _ _ _ _) fa fs.length fc (wcells fs) rfl HFN.out hfc (wcells_len fs) (HFR.out.ext HB3.out) (wcells_one _) (by unfold maxLen; omega) (by omega) (Nat.le_refl _) ?_))
    intro a2 c2 w5 hown hgrow hat
    try simp only [Nat.zero_add, List.nil_append] at hown
    have hE35 : Ext w3 w5 := Below.grown (Ext.refl w3) hgrow (Nat.le_refl _) (fun g hg => by cases hg)
    have HE35 := Lib.hid hE35
    have HB5 : Hid (Ext w w5) := Ext.trans_ HB3.out hE35
    have HX5 : Hid (OMem w5 w2.heap.size bx 72 M Sx) := OM.ext HX.out hE35
    have HRO := Lib.hid (row_rsl hown).1
    have HNO := Lib.hid (not_ownW HX.out hown)
    clear hown hgrow hat hE35
    try simp only [Nat.zero_add]
    go_wp2_with fail
    refine (alloc_yes w2.heap.size bx M Sx E kind a2 fs c2 _ HX5.out HOK.out (H.out.ext HB5.out).g4 HC.out (by have := HK1.out; omega) (by have := HK2.out; omega) (by have := HK3.out; omega) HFD.out HRO.out HFB.out HNO.out (by have := HFU.out; omega)).mono ?_
    rintro e w6 ⟨he, hq1, hq2⟩
    rw [HAN.out] at he
    subst he
    have HX6 := Lib.hid hq1
    have HB6 : Hid (Ext w w6) := Below.trans HB5.out (Below.mono (Keep.belowO hq2 HX5.out HX5.out.hbs) HB2.out.size)
    clear hq1 hq2
    go_wp2_with fail
    go_wp2_with (go_at_call 29; refine (kFieldsOK_any b o M S HGD.out fa fc fs HFL.out HFB.out _ (HM.out.ext HB6.out) (HFR.out.ext HB6.out)).mono ?_; rintro e w7 ⟨he, hq⟩; rw [HFO.out] at he; subst he; have HB7 : Hid (Ext w w7) := Ext.trans_ HB6.out hq; have HX7 : Hid (OMem w7 w2.heap.size bx 72 (allocM M kind fs) Sx) := OM.ext HX6.out hq; clear hq)
    have n0 := (HM.out.ext HB7.out).half
    have n5 := (HM.out.ext HB7.out).top
    go_quiet (fail)
    clear n0 n5
    go_wp2_with fail
    refine named_calls (fun W7 hW7 => ?_)
    have hB7 : Ext w W7 := by rw [hW7]; repeat (first | exact HB7.out | (refine Ext.drew_ ?_) | (refine Ext.drewN_ ?_ _))
    have hX7 : OMem W7 w2.heap.size bx 72 (allocM M kind fs) Sx := by rw [hW7]; exact OM.ext HX7.out (by (repeat (first | exact Ext.refl _ | (refine Ext.drew_ ?_) | (refine Ext.drewN_ ?_ _))))
    have HBW := Lib.hid hB7
    have HXW := Lib.hid hX7
    clear hW7 hB7 hX7
    refine (own_walk b o M S W7 (HM.out.ext HBW.out) HF.out).mono ?_
    rintro e w8 ⟨bw, Sw, rfl, hq1, hq2⟩
    have HWO := Lib.hid hq1
    have HB8 : Hid (Ext w w8) := Ext.trans_ HBW.out hq2
    have HE78 : Hid (Ext W7 w8) := hq2
    clear hq1 hq2
    go_wp2_with fail
    have n0 := (HM.out.ext HB8.out).half
    have n5 := (HM.out.ext HB8.out).top
    have n4 := (HM.out.ext HB8.out).used
    have e5 := E5.out
    have e6 := E6.out
    go_quiet (fail)
    clear e5 e6 n0 n5 n4
    go_wp2
    refine named_world' (fun W9 hW9 => ?_)
    have hE89 : Ext w8 W9 := by rw [hW9]; repeat (first | exact Ext.refl _ | (refine Ext.drew_ ?_) | (refine Ext.drewN_ ?_ _))
    have HE89 := Lib.hid hE89
    have hWO9 : OMem W9 W7.heap.size bw 71 M Sw := OM.ext HWO.out hE89
    have hlen0 : at_ < M.W.length := by omega
    obtain ⟨g, hg, hgB, hgl, hgf, hgc, -⟩ := own_block hWO9.fW (by omega)
    have c3 := (hWO9.mem HOK.out).W
    simp only [Nat.zero_add] at c3
    rw [hg] at c3
    have hcell : W9.cell? ⟨g, at_, none⟩ = some (.int .u64 (M.W.getD at_ 0)) := by
      have := (hWO9.mem HOK.out).rW
      rw [hg] at this
      simpa using this.at_ (wcells_at M.W at_ hlen0)
    have hfg := hgf at_
    have hgb := hWO9.notW hg
    have hatz : (at_ : Int) < (M.W.length : Int) := by omega
    have HG := Lib.hid hg
    have HWO9 := Lib.hid hWO9
    have kk0 : 0 ≤ kind := by have := HK1.out; omega
    have kk1 : kind ≤ 255 := by have := HK2.out; omega
    clear hW9 hE89 hWO9 hgf hg
    refine wp_region_held_drew (S := fun W => W.cell? ⟨bw, 3, none⟩ = some (.slice (some ⟨g, 0, none⟩) M.W.length Sw.W.2)) (by kernel_rfl) ?_ (fun hHeld => ?_)
    · exact c3
    refine wpAnyH_take (i := 0) (oi := ⟨some 118, _, _, _, _, _⟩) (v := ?_) rfl (by kernel_rfl) (by kernel_rfl) (by kernel_rfl) (fun _ _ _ h => h) (Or.inl ⟨by rfl, ?_⟩) (by assumption) ?_
    rotate_left
    · (intro w hSw; (try dsimp only at hSw); go_simp; try with_reducible rfl)
    try simp only [Act.put, List.setIfInBounds_toArray, List.set_cons_zero, List.set_cons_succ]
    refine wpAnyH_take (i := 1) (oi := ⟨some 119, _, _, _, _, _⟩) (v := ?_) rfl (by kernel_rfl) (by kernel_rfl) (by kernel_rfl) (fun _ _ _ h => h) (Or.inl ⟨by rfl, ?_⟩) (by assumption) ?_
    rotate_left
    · (intro w hSw; (try dsimp only at hSw); go_simp; try with_reducible rfl)
    try simp only [Act.put, List.setIfInBounds_toArray, List.set_cons_zero, List.set_cons_succ]
    refine wpAnyH_take (i := 2) (oi := ⟨some 120, _, _, _, _, _⟩) (v := ?_) rfl (by kernel_rfl) (by kernel_rfl) (by kernel_rfl) (fun _ _ _ h => h) (Or.inl ⟨by rfl, ?_⟩) (by assumption) ?_
    rotate_left
    · (intro w hSw; (try dsimp only at hSw); go_simp; try with_reducible rfl)
    try simp only [Act.put, List.setIfInBounds_toArray, List.set_cons_zero, List.set_cons_succ]
    refine wpAnyH_take (i := 3) (oi := ⟨some 121, _, _, _, _, _⟩) (v := ?_) rfl (by kernel_rfl) (by kernel_rfl) (by kernel_rfl) (fun _ _ _ h => h) (Or.inl ⟨by rfl, ?_⟩) (by assumption) ?_
    rotate_left
    · (intro w hSw; (try dsimp only at hSw); go_simp; try with_reducible rfl)
    try simp only [Act.put, List.setIfInBounds_toArray, List.set_cons_zero, List.set_cons_succ]
    refine wpAnyH_take (i := 4) (oi := ⟨some 122, _, _, _, _, _⟩) (v := ?_) rfl (by kernel_rfl) (by kernel_rfl) (by kernel_rfl) (fun _ _ _ h => h) (Or.inl ⟨by rfl, ?_⟩) (by assumption) ?_
    rotate_left
    · (intro w hSw; (try dsimp only at hSw); go_simp; try with_reducible rfl)
    try simp only [Act.put, List.setIfInBounds_toArray, List.set_cons_zero, List.set_cons_succ]
    refine wpAnyH_take (i := 5) (oi := ⟨some 123, _, _, _, _, _⟩) (v := ?_) rfl (by kernel_rfl) (by kernel_rfl) (by kernel_rfl) (fun _ _ _ h => h) (Or.inl ⟨by rfl, ?_⟩) (by assumption) ?_
    rotate_left
    · (intro w hSw; (try dsimp only at hSw); go_simp; try with_reducible rfl)
    try simp only [Act.put, List.setIfInBounds_toArray, List.set_cons_zero, List.set_cons_succ]
    refine wpAnyH_take (i := 6) (oi := ⟨some 124, _, _, _, _, _⟩) (v := ?_) rfl (by kernel_rfl) (by kernel_rfl) (by kernel_rfl) (fun _ _ _ h => h) (Or.inl ⟨by rfl, ?_⟩) (by assumption) ?_
    rotate_left
    · (intro w hSw; (try dsimp only at hSw); go_simp; try with_reducible rfl)
    try simp only [Act.put, List.setIfInBounds_toArray, List.set_cons_zero, List.set_cons_succ]
    refine wpAnyH_take (i := 7) (oi := ⟨some 125, _, _, _, _, _⟩) (v := ?_) rfl (by kernel_rfl) (by kernel_rfl) (by kernel_rfl) (fun _ _ _ h => h) (Or.inl ⟨by rfl, ?_⟩) (by assumption) ?_
    rotate_left
    · (intro w hSw; (try dsimp only at hSw); go_simp; try with_reducible rfl)
    try simp only [Act.put, List.setIfInBounds_toArray, List.set_cons_zero, List.set_cons_succ]
    refine wpAnyH_ready (rs := [8]) (by kernel_rfl) (by simp) ?_
    refine AllReadyH.cons (o := ⟨some 126, _, _, _, _, _⟩) rfl (fun K hK => ?_) AllReadyH.nil
    go_simp
    refine (kHeadWord_any kind 0 0 (fs.length : Int) ⟨kk0, kk1⟩ (by omega) (by omega) ⟨by omega, by omega⟩ _).mono ?_
    rintro e w' ⟨rfl, hw9⟩
    have hw9 := hw9.symm
    subst hw9
    refine hK.out _ _ ?_ (fun hHeld => ?_)
    · (try dsimp only); exact c3
    clear hK K
    try simp only [Act.put, List.setIfInBounds_toArray, List.set_cons_zero, List.set_cons_succ]
    refine wpAnyH_take (i := 9) (oi := ⟨some 127, _, _, _, _, _⟩) (v := ?_) rfl (by kernel_rfl) (by kernel_rfl) (by kernel_rfl) (fun _ _ _ h => h) (Or.inl ⟨by rfl, ?_⟩) (by assumption) ?_
    rotate_left
    · (intro w hSw; (try dsimp only at hSw); go_simp; try with_reducible rfl)
    try simp only [Act.put, List.setIfInBounds_toArray, List.set_cons_zero, List.set_cons_succ]
    refine wpAnyH_ready (rs := [10]) (by kernel_rfl) (by simp) ?_
    refine AllReadyH.cons (o := ⟨none, _, _, _, _, _⟩) rfl (fun K hK => ?_) AllReadyH.nil
    go_simp
    skip
    refine hK.out _ _ ?_ (fun hHeld => ?_)
    · (try dsimp only); show (W9.setCell ⟨g, at_, none⟩ (Value.int .u64 (headW kind 0 0 (fs.length : Int)))).cell? ⟨bw, 3, none⟩ = _; rw [World.cell?_setCell_far _ _ _ _ (by simp; omega)]; exact c3
    clear hK K
    try simp only [Act.put, List.setIfInBounds_toArray, List.set_cons_zero, List.set_cons_succ]
    refine wpAnyH_done (by kernel_rfl) ?_ _
    clear hHeld
    generalize hWA : (W9.setCell ⟨g, at_, none⟩ (Value.int .u64 (headW kind 0 0 (fs.length : Int)))).drew = WA
    have hWB : Below W7.heap.size w8 WA := by rw [← hWA]; exact Below.drew (Below.setCell (p := ⟨g, at_, none⟩) (Below.mono HE89.out HWO.out.hbs) hgB _)
    have hOA : OMem WA W7.heap.size bw 71 (partM M kind fs 0) Sw := by
      rw [← hWA]
      have := OM.ext (OMem.setW HWO9.out HG.out at_ hlen0 (headW kind 0 0 (fs.length : Int))) (Ext.refl _).drew_
      unfold partM
      rw [splice_zero, ← HAT.out]
      exact this
    have HOA := Lib.hid hOA
    have HEA : Hid (Ext W7 WA) := Below.trans HE78.out hWB
    clear hWA hWB hOA hcell hfg c3
    go_wp2
    go_loopw [15] (fun i wr => ∃ k : Nat, k ≤ fs.length ∧ i = .int .i64 (k : Int) ∧ Hid (OMem wr W7.heap.size bw 71 (partM M kind fs k) Sw) ∧ Hid (Ext W7 wr)) (fun i _ => fs.length - (intOf i).toNat)
    case atStart => exact ⟨0, Nat.zero_le _, rfl, HOA.out, HEA.out⟩
    case round =>
      obtain ⟨k, hk, rfl, hO, hE⟩ := hrel
      by_cases hlt : k < fs.length
      · have HPL := Lib.hid (partM_len M kind fs k (by have h1 := HAT.out; have h2 := HFITN.out; omega))
        have hltz : (k : Int) < (fs.length : Int) := by omega
        obtain ⟨g, hg, hgB, hgl, hgf, hgc, -⟩ := own_block hO.out.fW (by rw [HPL.out]; omega)
        have c3 : wr.cell? ⟨bw, 3, none⟩ = some (.slice Sw.W.1 M.W.length Sw.W.2) := by
          have := (hO.out.fld ⟨3, 30, 1, Sw.W.1, (partM M kind fs k).W.length, Sw.W.2, wcells (partM M kind fs k).W⟩ (by simp [memFlds])).1
          simp only [Fld.val, HPL.out] at this
          exact this
        rw [hg] at c3
        obtain ⟨p, hp⟩ : ∃ p : Nat, p = at_ + 1 + k := ⟨_, rfl⟩
        have hpl : p < M.W.length := by omega
        have hpz : (p : Int) < (M.W.length : Int) := by omega
        have hcell : wr.cell? ⟨g, p, none⟩ = some (.int .u64 ((partM M kind fs k).W.getD p 0)) := by
          have := (row_rsl hO.out.fW).1
          rw [hg] at this
          simpa using this.at_ (wcells_at (partM M kind fs k).W p (by rw [HPL.out]; exact hpl))
        have hfg := hgf p
        have hgb := hO.out.notW hg
        have hwr : Ext w wr := Ext.trans_ HBW.out hE.out
        obtain ⟨fb, fo, hfa, hfcell⟩ := HFR.out k _ (wcells_at fs k hlt)
        replace hfcell := hwr.cell_ hfcell
        have hfbz : fb < wr.heap.size := cell_lt hfcell
        have HV : Hid (∃ v, v = fs.getD k 0) := ⟨_, rfl⟩
        obtain ⟨v, hv⟩ := HV.out
        rw [← hv] at hfcell
        have HVE := Lib.hid hv
        have HPE := Lib.hid hp
        have HG := Lib.hid hg
        have HWR := Lib.hid hwr
        have HLT := Lib.hid hlt
        have e7 : IntKind.i64.wrap ((at_ : Int) + 1) = (at_ : Int) + 1 := IntWalk.i64_in _ (by omega)
        have e8 : IntKind.i64.wrap ((at_ : Int) + 1 + (k : Int)) = (p : Int) := by rw [IntWalk.i64_in _ (by omega)]; omega
        subst hfa
        clear hp hv hg hgf hwr HV
        go_wp2
        go_region
        clear e7 e8
        go_wp2
        go_roundw
        case rel => exact ⟨k + 1, by omega, by go_num, partM_step HPE.out HVE.out HAT.out HLT.out HFITN.out (OM.ext (OMem.setW hO.out HG.out p (by rw [HPL.out]; exact hpl) v) (by (repeat (first | exact Ext.refl _ | (refine Ext.drew_ ?_) | (refine Ext.drewN_ ?_ _))))), Below.drew (Below.setCell (p := ⟨g, p, none⟩) hE.out (Nat.le_trans (Nat.le_refl _) hgB) _)⟩
        case measure => simp [intOf]; omega
      · have hltz : ¬ (k : Int) < (fs.length : Int) := by omega
        obtain rfl : k = fs.length := by omega
        have hwr : Ext w wr := Ext.trans_ HBW.out hE.out
        have n5 := (HM.out.ext hwr).top
        have q5 : wr.cell? ⟨bw, 5, none⟩ = some (.int .i64 M.top) := hO.out.num (5, M.top) (by simp [memNums, partM])
        have f5 := hO.out.frozen 5
        have l5 := OM.lt hO.out
        have lb5 : b < wr.heap.size := by have := hwr.size; omega
        have HWR := Lib.hid hwr
        clear hwr hlt
        have HOKA : Hid (allocM M kind fs).Ok := (allocM_ok HOK.out HFB.out (by have := HK1.out; omega) (by have := HK2.out; omega) hl ⟨by omega, by omega⟩ (by have h1 := HAT.out; have h2 := HFITN.out; omega))
        have HFEW : Hid (Few (allocM M kind fs)) := allocM_few HF.out (by have h1 := HAT.out; have h2 := HFITN.out; omega)
        have HXF : Hid (OMem (wr.setCell ⟨bw, 5, none⟩ (.int .i64 (M.top + 1 + (fs.length : Int)))) w2.heap.size bx 72 (allocM M kind fs) Sx) := allocs_x HXW.out hE.out hO.out.hb
        have HWF : Hid (OMem (wr.setCell ⟨bw, 5, none⟩ (.int .i64 (M.top + 1 + (fs.length : Int)))) W7.heap.size bw 71 (allocM M kind fs) Sw) := allocs_w hO.out HAT.out
        have HEF : Hid (Ext w (wr.setCell ⟨bw, 5, none⟩ (.int .i64 (M.top + 1 + (fs.length : Int))))) := Ext.set_ HWR.out (by have := hO.out.hb; have := HBW.out.size; simp; omega) _
        go_wp2_with (go_at_call 21; refine (kAddrWord_any _ _).mono ?_; rintro e w' ⟨rfl, hw9⟩; have hw9 := hw9.symm; subst hw9)
        refine (memBack_walk bx 0 (allocM M kind fs) Sx _ (HXF.out.mem HOKA.out) HFEW.out).mono ?_
        rintro e w10 ⟨B10, b10, S10, rfl, hq1, hq2, hq3⟩
        have HQ := Lib.hid hq1
        have HE10 := Lib.hid hq3
        clear hq1 hq2 hq3
        go_wp2_with fail
        refine (sameMemory_yes b10 0 bw 0 (allocM M kind fs) S10 Sw _ (HQ.out.mem HOKA.out) (OMem.mem (OM.ext HWF.out HE10.out) HOKA.out)).mono ?_
        rintro e w11 ⟨rfl, hq⟩
        have HE11 : Hid (Ext w w11) := Ext.trans_ (Ext.trans_ HEF.out HE10.out) hq
        clear hq
        go_wp2
        go_ret
        exact ⟨rfl, HE11.out⟩
theorem memAllocs_any (b o : Nat) (M : Mem) (S : Sls) (kind : Int) (fa : Option Addr) (fc : Nat) (fs : List Int) (w : World) (hR : RSl w fa (wcells fs)) (hfc : fs.length ≤ fc) (hfn : fa = none → fc = 0) (hfb : ∀ x ∈ fs, 0 ≤ x ∧ x ≤ 18446744073709551615) (hM : RMem w b o M S) (E : Nat → Addr) (h : ErrEnv E w) :
    Calls Tryd.prog 7 #[.pointer (some ⟨b, o, none⟩), .int .i64 kind, .slice fa fs.length fc] w fun e w' => e = .returned (.bool true) ∧ Ext w w' := by
  by_cases hn : Near M
  · by_cases hl : fs.length ≤ 200
    · by_cases hc : chk M = 0
      · by_cases hk1 : kind < 0
        · exact memAllocs_bound b o M S hn w hM E h kind fa fc fs hR hfc hfn hfb hl hc (Or.inl hk1)
        · by_cases hk2 : 255 < kind
          · exact memAllocs_bound b o M S hn w hM E h kind fa fc fs hR hfc hfn hfb hl hc (Or.inr ⟨hk1, hk2⟩)
          · cases hr : rawB kind with
            | true =>
              by_cases hfull : M.half < M.top + 1 + (fs.length : Int)
              · exact memAllocs_full1 b o M S hn w hM E h kind fa fc fs hR hfc hfn hfb hl hc hk1 hk2 hr hfull
              · exact memAllocs_yes b o M S hn w hM E h kind fa fc fs hR hfc hfn hfb hl hc hk1 hk2 (Or.inl hr) hfull
            | false =>
              cases hf : fieldsB (startsM M) fs with
              | false => exact memAllocs_shape b o M S hn w hM E h kind fa fc fs hR hfc hfn hfb hl hc hk1 hk2 hr hf
              | true =>
                by_cases hfull : M.half < M.top + 1 + (fs.length : Int)
                · exact memAllocs_full2 b o M S hn w hM E h kind fa fc fs hR hfc hfn hfb hl hc hk1 hk2 hr hf hfull
                · exact memAllocs_yes b o M S hn w hM E h kind fa fc fs hR hfc hfn hfb hl hc hk1 hk2 (Or.inr hf) hfull
      · exact memAllocs_chk b o M S hn w hM E h kind fa fc fs hR hfc hfn hfb hl (by unfold chk at hc ⊢; split <;> (try split) <;> simp_all)
    · exact memAllocs_far b o M S w hM E h kind fa fc fs (Or.inr ⟨hn, by omega⟩)
  · exact memAllocs_far b o M S w hM E h kind fa fc fs (Or.inl hn)
theorem memAllocs_nil (kind : Int) (fa : Option Addr) (fc : Nat) (fs : List Int) (w : World) (hR : RSl w fa (wcells fs)) (hfc : fs.length ≤ fc) (hfn : fa = none → fc = 0) (hfb : ∀ x ∈ fs, 0 ≤ x ∧ x ≤ 18446744073709551615) (E : Nat → Addr) (h : ErrEnv E w) :
    Calls Tryd.prog 7 #[.pointer none, .int .i64 kind, .slice fa fs.length fc] w fun e w' => e = .returned (.bool true) ∧ Ext w w' := memAllocs_nil0 w E h kind fa fc fs hR hfc hfn hfb
end Go.Proofs.YtecbbbaafcoliaaDoor
/- The laws' closed fact still. -/
namespace Go.Proofs.YtecbbbaafcoliaaDoor
open Go.RowKit
set_option linter.unusedVariables false
set_option linter.unusedSimpArgs false

def stillM : Mem := allocM (newM 4 5 2) 9 []
theorem still_chk : chk stillM = 0 := by decide
theorem still_end : (collectC stillM 1).top = 0 ∧ (collectC stillM 1).used = 1 := by decide
theorem still_ok : stillM.Ok := allocM_ok (newM_ok 4 5 2 (by decide)) (by simp) (by decide) (by decide) (by decide) (by decide) (by decide)
theorem still_ready : Ready stillM 1 := ⟨still_ok, still_chk, by decide, by decide⟩
theorem still_end_ok : (collectC stillM 1).Ok := by rw [collectC_fin]; exact (collect_fin still_ready).ok still_ready
set_option maxRecDepth 100000 in
set_option maxHeartbeats 4000000 in
theorem still_any (w : World) (E : Nat → Addr) (h : G4 E w) : Calls Tryd.prog 25 #[] w fun e w' => e = .returned (.bool true) ∧ Ext w w' := by
  have H := Lib.hid h
  have HGB : Hid (0 < w.heap.size ∧ 1 < w.heap.size) := ⟨cell_lt h.bound, cell_lt h.shape⟩
  have hne : ¬ addrW (((newM 4 5 2).base + (newM 4 5 2).top.toNat : Nat) : Int) = 0 := by decide
  have hne2 : (addrW (((newM 4 5 2).base + (newM 4 5 2).top.toNat : Nat) : Int) == 0) = false := by decide
  clear h
  go_enter Tryd.func25, Tryd.ntmps25
  go_wp2_with (first
    | (go_at_call 35; refine (new_yes 4 5 2 (by decide) _).mono ?_; rintro e w1 ⟨b, S, rfl, hom, hx⟩; have HM := Lib.hid hom; have HX := Lib.hid hx; clear hom hx)
    | (go_at_call 17; refine (alloc_yes w.heap.size b (newM 4 5 2) S E 9 none [] 0 _ HM.out (newM_ok 4 5 2 (by decide)) (H.out.ext HX.out) (by decide) (by decide) (by decide) (by decide) (Or.inr (by decide)) (RSl.nil _ _) (by simp) (fun x hx => by cases hx) (by decide)).mono ?_; rintro e w2 ⟨rfl, hq1, hq2⟩; have HM2 : Hid (OMem w2 w.heap.size b 72 stillM S) := hq1; have HX2 : Hid (Ext w w2) := Ext.keep HX.out hq2 (fun i hi => (HM.out.ownL hi).1); clear hq1 hq2)
    | (go_at_call 26; refine (collect_walk w.heap.size b stillM S E 1 _ HM2.out (H.out.ext HX2.out).toG3 still_ready HX2.out.size HGB.out).mono ?_; rintro e w3 ⟨rfl, S3, hq1, hq2, hq3⟩; have hMM := hq1.mem still_end_ok; have k5 : w3.cell? ⟨b, 5, none⟩ = some (.int .i64 0) := (by have := hMM.top; rw [still_end.1] at this; exact this); have k4 : w3.cell? ⟨b, 4, none⟩ = some (.int .i64 1) := (by have := hMM.used; rw [still_end.2] at this; exact this); have HX3 : Hid (Ext w w3) := Ext.keep HX2.out hq2 (fun i hi => (HM2.out.own_size hi).1); clear hq1 hq2 hq3 hMM))
  go_ret
  exact ⟨rfl, HX3.out⟩
end Go.Proofs.YtecbbbaafcoliaaDoor
/- The walk of the minor collector's Collect where it does nothing. -/
namespace Go.Proofs.YtecbbbaafcoliaaDoor
open Go.RowKit
set_option linter.unusedVariables false
set_option linter.unusedSimpArgs false

def CNo (w : World) (E : Nat → Addr) (c : Int) (e : Ending) (w' : World) : Prop := e = .returned (errC E c) ∧ Ext w w'
set_option maxRecDepth 100000 in
set_option maxHeartbeats 4000000 in
theorem collect_chk (b o : Nat) (M : Mem) (S : Sls) (E : Nat → Addr) (ten : Int) (w : World) (hM : RMem w b o M S) (hE : G3 E w) (h : chk M ≠ 0) :
    Calls Tryd.prog 26 #[.pointer (some ⟨b, o, none⟩), .int .i64 ten] w (CNo w E (chk M)) := by
  obtain ⟨a, ha⟩ : ∃ a, errC E (chk M) = errV a := ⟨_, errC_pos E _ h⟩
  have HC := Lib.hid ha
  have HM := Lib.hid hM
  have HE := Lib.hid hE
  clear hM hE h ha
  go_enter Tryd.func26, Tryd.ntmps26
  go_wp2_with (go_at_call 24; refine (check_c b o M S E w HM.out HE.out).mono ?_; rintro e w1 ⟨he, hq⟩; rw [HC.out] at he; subst he; have HX1 := Lib.hid hq; clear hq)
  go_ret
  exact ⟨by rw [HC.out]; rfl, HX1.out⟩
set_option maxRecDepth 100000 in
set_option maxHeartbeats 4000000 in
theorem collect_bound (b o : Nat) (M : Mem) (S : Sls) (E : Nat → Addr) (ten : Int) (w : World) (hM : RMem w b o M S) (hE : G3 E w) (h : chk M = 0) (ht : ten < 0 ∨ (¬ ten < 0 ∧ 15 < ten)) :
    Calls Tryd.prog 26 #[.pointer (some ⟨b, o, none⟩), .int .i64 ten] w (CNo w E 2) := by
  have HC : Hid (errC E (chk M) = .nilIface) := by rw [Hid, h]; rfl
  have HM := Lib.hid hM
  have HE := Lib.hid hE
  clear hM hE h
  rcases ht with h1 | ⟨h1, h2⟩
  all_goals
    go_enter Tryd.func26, Tryd.ntmps26
    go_wp2_with (go_at_call 24; refine (check_c b o M S E w HM.out HE.out).mono ?_; rintro e w1 ⟨he, hq⟩; rw [HC.out] at he; subst he; have k1 := (HE.out.ext hq).bound; have HX1 := Lib.hid hq; clear hq)
    go_ret
    exact ⟨rfl, HX1.out⟩
set_option maxRecDepth 100000 in
set_option maxHeartbeats 4000000 in
theorem collect_full (b o : Nat) (M : Mem) (S : Sls) (E : Nat → Addr) (ten : Int) (w : World) (hM : RMem w b o M S) (hE : G4 E w) (h : chk M = 0) (t0 : 0 ≤ ten) (t1 : ten ≤ 15) (hf : M.old - M.oldTop < M.top) :
    Calls Tryd.prog 26 #[.pointer (some ⟨b, o, none⟩), .int .i64 ten] w (CNo w E 6) := by
  have HC : Hid (errC E (chk M) = .nilIface) := by rw [Hid, h]; rfl
  obtain ⟨hs, -⟩ := good_parts (chk_zero h).1
  have s3 := hs.o1; have s4 := hs.o2; have s7 := hs.p1; have s8 := hs.p2
  have e1 : IntKind.i64.wrap (M.old - M.oldTop) = M.old - M.oldTop := IntWalk.i64_in _ (by omega)
  have HM := Lib.hid hM
  have HE := Lib.hid hE
  have HF := Lib.hid hf
  clear hM hE h hs hf
  go_enter Tryd.func26, Tryd.ntmps26
  go_wp2_with (go_at_call 24; refine (check_c b o M S E w HM.out HE.out.toG3).mono ?_; rintro e w1 ⟨he, hq⟩; rw [HC.out] at he; subst he; have HX1 := Lib.hid hq; clear hq)
  have hM1 := HM.out.ext HX1.out
  have d1 := hM1.old
  have d6 := hM1.oldTop
  have d5 := hM1.top
  have k5 := (HE.out.ext HX1.out).full
  have hf := HF.out
  clear hM1
  go_region
  go_wp2
  go_ret
  exact ⟨rfl, HX1.out.drew_⟩
end Go.Proofs.YtecbbbaafcoliaaDoor
