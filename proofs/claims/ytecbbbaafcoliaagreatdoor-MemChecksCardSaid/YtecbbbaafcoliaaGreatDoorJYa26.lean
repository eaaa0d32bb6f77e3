/- The walk of the document's CheckOf, where lengths, headers, roots or weak words are wrong. -/
import Derived.Test.YtecbbbaafcoliaaGreatDoorJYa07
import Derived.Test.YtecbbbaafcoliaaGreatDoorJYa25
import Derived.Deep.RegionHeld3
namespace Go.Proofs.YtecbbbaafcoliaaGreatDoor
open Go.RowKit
set_option linter.unusedVariables false
set_option linter.unusedSimpArgs false

set_option maxRecDepth 100000 in
set_option maxHeartbeats 8000000 in
theorem kCheck_nil (w : World) : Calls Tryz.prog 8 #[.pointer none] w fun e w' => e = .returned (.int .i64 3) ∧ Ext w w' := by
  go_enter Tryz.func8, Tryz.ntmps8
  go_wp2_with (go_at_call 25; refine (kShaped_nil w).mono ?_; rintro e w1 ⟨rfl, hq⟩; have HX1 := Lib.hid hq; clear hq)
  go_ret
  exact ⟨rfl, HX1.out⟩
set_option maxRecDepth 100000 in
set_option maxHeartbeats 8000000 in
theorem kCheck_1 (b o : Nat) (M : Mem) (S : Sls) (w : World) (hM : RMem w b o M S) (hs : shapeB M = false) :
    Calls Tryz.prog 8 #[.pointer (some ⟨b, o, none⟩)] w fun e w' => e = .returned (.int .i64 3) ∧ Ext w w' := by
  have HM := Lib.hid hM
  have hltb := hM.lt
  clear hM
  have HS := Lib.hid hs
  clear hs
  go_enter Tryz.func8, Tryz.ntmps8
  go_wp2_with (go_at_call 25; refine (kShaped_any b o M S w HM.out).mono ?_; rintro e w1 ⟨he, hq⟩; rw [HS.out] at he; subst he; have HX1 := Lib.hid hq; clear hq)
  go_ret
  exact ⟨rfl, HX1.out⟩
set_option maxRecDepth 100000 in
set_option maxHeartbeats 8000000 in
theorem kCheck_2 (b o : Nat) (M : Mem) (S : Sls) (w : World) (hM : RMem w b o M S) (hs : shapeB M = true) (hb : ((kN M).2 && (kO M).2) = false) :
    Calls Tryz.prog 8 #[.pointer (some ⟨b, o, none⟩)] w fun e w' => e = .returned (.int .i64 3) ∧ Ext w w' := by
  have HM := Lib.hid hM
  have hltb := hM.lt
  clear hM
  have HS := Lib.hid hs
  have HSH := Lib.hid (shp_of hs)
  have HB := Lib.hid hb
  clear hs hb
  go_enter Tryz.func8, Tryz.ntmps8
  go_wp2_with (first
    | (go_at_call 25; refine (kShaped_any b o M S w HM.out).mono ?_; rintro e w1 ⟨he, hq⟩; rw [HS.out] at he; subst he; have HX1 := Lib.hid hq; clear hq)
    | (go_at_call 26; refine (kAll_walk b o M S HSH.out _ (HM.out.ext HX1.out)).mono ?_; rintro e w2 ⟨la, lc, he, hown, hq⟩; rw [HB.out] at he; subst he; have HX2 : Hid (Ext w w2) := Ext.trans_ HX1.out hq; clear hq hown))
  go_ret
  exact ⟨rfl, HX2.out⟩
set_option maxRecDepth 100000 in
set_option maxHeartbeats 8000000 in
theorem kCheck_3 (b o : Nat) (M : Mem) (S : Sls) (w : World) (hM : RMem w b o M S) (hs : shapeB M = true) (hb : ((kN M).2 && (kO M).2) = true) (hr : fieldsB (startsM M) M.roots = false) :
    Calls Tryz.prog 8 #[.pointer (some ⟨b, o, none⟩)] w fun e w' => e = .returned (.int .i64 3) ∧ Ext w w' := by
  have HM := Lib.hid hM
  have hltb := hM.lt
  clear hM
  have HR := Lib.hid hr
  clear hr
  have HS := Lib.hid hs
  have hsh := shp_of hs
  have HSH := Lib.hid hsh
  obtain ⟨hl1, -, -, -⟩ := kAll_ok hb
  have HB := Lib.hid hb
  obtain ⟨l, hl⟩ : ∃ l, l = objsAll M := ⟨_, rfl⟩
  rw [← hl] at hl1
  have HLI := Lib.hid hl1
  have HL := Lib.hid hl
  have HATS : Hid (ats l = startsM M) := by unfold Hid; rw [hl]; rfl
  have hobm : ∀ x ∈ l, ObM M x := fun x hx => obM_of (by rw [← hl]; exact hx)
  have HOBM := Lib.hid hobm
  have HLT : Hid (∀ x ∈ l, (x.a : Int) < 1099511627776) := fun x hx => (starts_in M hsh _ (by rw [← HATS.out]; exact List.mem_map_of_mem hx)).2
  have HLL : Hid (l.length ≤ 9223372036854775807) := by
    have h1 := partK_len M.W M.base (M.base + M.top.toNat)
    have h2 := partK_len M.W (2 * M.half).toNat ((2 * M.half).toNat + M.oldTop.toNat)
    have h3 := congrArg List.length hl1
    rw [List.length_append] at h3
    have e1 : (kN M).1 = (partK M.W M.base (M.base + M.top.toNat)).1 := rfl
    have e2 : (kO M).1 = (partK M.W (2 * M.half).toNat ((2 * M.half).toNat + M.oldTop.toNat)).1 := rfl
    rw [e1, e2] at h3
    have h4 := hsh.t2; have h5 := hsh.p2; have h6 := hsh.h2; have h7 := hsh.o2; have h8 := hsh.t1; have h9 := hsh.p1
    unfold Hid; omega
  clear hs hsh hb hl hl1 hobm
  go_enter Tryz.func8, Tryz.ntmps8
  have n7 := HM.out.roots
  go_wp2_with (first
    | (go_at_call 25; refine (kShaped_any b o M S w HM.out).mono ?_; rintro e w1 ⟨he, hq⟩; rw [HS.out] at he; subst he; have HX1 := Lib.hid hq; clear hq)
    | ((go_at_call 26; refine (kAll_walk b o M S HSH.out _ (HM.out.ext HX1.out)).mono ?_; rintro e w2 ⟨la, lc, he, hown, hq⟩; rw [HB.out, HLI.out] at he; rw [HLI.out] at hown; subst he; have HX2 : Hid (Ext w w2) := Ext.trans_ HX1.out hq; have HLR := Lib.hid (own_rsl hown); have HLN := Lib.hid (own_nil hown); have hlc := own_cap hown; clear hq hown); have k7 := HX2.out.cell_ n7))
  refine (fieldsOK_any S.R.1 S.R.2 M.roots HM.out.ok.lenR HM.out.ok.roots la lc l _ HLL.out (HM.out.ext HX2.out).rR HLR.out HLT.out).mono ?_
  rintro e w' ⟨he, hw9⟩
  have hw9 := hw9.symm
  subst hw9
  rw [HATS.out, HR.out] at he
  subst he
  go_wp2
  go_ret
  exact ⟨rfl, HX2.out⟩
set_option maxRecDepth 100000 in
set_option maxHeartbeats 8000000 in
theorem kCheck_4 (b o : Nat) (M : Mem) (S : Sls) (w : World) (hM : RMem w b o M S) (hs : shapeB M = true) (hb : ((kN M).2 && (kO M).2) = true) (hr : fieldsB (startsM M) M.roots = true) (hk : fieldsB (startsM M) M.weak = false) :
    Calls Tryz.prog 8 #[.pointer (some ⟨b, o, none⟩)] w fun e w' => e = .returned (.int .i64 3) ∧ Ext w w' := by
  have HM := Lib.hid hM
  have hltb := hM.lt
  clear hM
  have HR := Lib.hid hr
  have HK := Lib.hid hk
  clear hr hk
  have HS := Lib.hid hs
  have hsh := shp_of hs
  have HSH := Lib.hid hsh
  obtain ⟨hl1, -, -, -⟩ := kAll_ok hb
  have HB := Lib.hid hb
  obtain ⟨l, hl⟩ : ∃ l, l = objsAll M := ⟨_, rfl⟩
  rw [← hl] at hl1
  have HLI := Lib.hid hl1
  have HL := Lib.hid hl
  have HATS : Hid (ats l = startsM M) := by unfold Hid; rw [hl]; rfl
  have hobm : ∀ x ∈ l, ObM M x := fun x hx => obM_of (by rw [← hl]; exact hx)
  have HOBM := Lib.hid hobm
  have HLT : Hid (∀ x ∈ l, (x.a : Int) < 1099511627776) := fun x hx => (starts_in M hsh _ (by rw [← HATS.out]; exact List.mem_map_of_mem hx)).2
  have HLL : Hid (l.length ≤ 9223372036854775807) := by
    have h1 := partK_len M.W M.base (M.base + M.top.toNat)
    have h2 := partK_len M.W (2 * M.half).toNat ((2 * M.half).toNat + M.oldTop.toNat)
    have h3 := congrArg List.length hl1
    rw [List.length_append] at h3
    have e1 : (kN M).1 = (partK M.W M.base (M.base + M.top.toNat)).1 := rfl
    have e2 : (kO M).1 = (partK M.W (2 * M.half).toNat ((2 * M.half).toNat + M.oldTop.toNat)).1 := rfl
    rw [e1, e2] at h3
    have h4 := hsh.t2; have h5 := hsh.p2; have h6 := hsh.h2; have h7 := hsh.o2; have h8 := hsh.t1; have h9 := hsh.p1
    unfold Hid; omega
  clear hs hsh hb hl hl1 hobm
  go_enter Tryz.func8, Tryz.ntmps8
  have n7 := HM.out.roots
  have n8 := HM.out.weak
  go_wp2_with (first
    | (go_at_call 25; refine (kShaped_any b o M S w HM.out).mono ?_; rintro e w1 ⟨he, hq⟩; rw [HS.out] at he; subst he; have HX1 := Lib.hid hq; clear hq)
    | ((go_at_call 26; refine (kAll_walk b o M S HSH.out _ (HM.out.ext HX1.out)).mono ?_; rintro e w2 ⟨la, lc, he, hown, hq⟩; rw [HB.out, HLI.out] at he; rw [HLI.out] at hown; subst he; have HX2 : Hid (Ext w w2) := Ext.trans_ HX1.out hq; have HLR := Lib.hid (own_rsl hown); have HLN := Lib.hid (own_nil hown); have hlc := own_cap hown; clear hq hown); have k7 := HX2.out.cell_ n7; have k8 := HX2.out.cell_ n8))
  refine (fieldsOK_any S.R.1 S.R.2 M.roots HM.out.ok.lenR HM.out.ok.roots la lc l _ HLL.out (HM.out.ext HX2.out).rR HLR.out HLT.out).mono ?_
  rintro e w' ⟨he, hw9⟩
  have hw9 := hw9.symm
  subst hw9
  rw [HATS.out, HR.out] at he
  subst he
  go_wp2_with fail
  refine (fieldsOK_any S.K.1 S.K.2 M.weak HM.out.ok.lenK HM.out.ok.weak la lc l _ HLL.out (HM.out.ext HX2.out).rK HLR.out HLT.out).mono ?_
  rintro e w' ⟨he, hw9⟩
  have hw9 := hw9.symm
  subst hw9
  rw [HATS.out, HK.out] at he
  subst he
  go_wp2
  go_ret
  exact ⟨rfl, HX2.out⟩
end Go.Proofs.YtecbbbaafcoliaaGreatDoor
