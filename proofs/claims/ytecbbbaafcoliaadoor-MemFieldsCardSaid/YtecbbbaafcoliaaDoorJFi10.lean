/- The walk of the document's CheckOf, whatever the memory: it is the program's Check. -/
import Derived.Test.YtecbbbaafcoliaaDoorJFi09
import Derived.Handy
import Derived.Test.YtecbbbaafcoliaaDoorJFi06
import Derived.Test.YtecbbbaafcoliaaDoorJFi05
namespace Go.Proofs.YtecbbbaafcoliaaDoor
open Go.RowKit
set_option linter.unusedVariables false
set_option linter.unusedSimpArgs false

theorem kCheck_any (b o : Nat) (M : Mem) (S : Sls) (w : World) (hM : RMem w b o M S) :
    Calls Tryd.prog 18 #[.pointer (some ⟨b, o, none⟩)] w fun e w' => e = .returned (.int .i64 (chk M)) ∧ Ext w w' := by
  cases hs : shapeB M with
  | false =>
    have e : chk M = 3 := by unfold chk goodB; rw [hs]; rfl
    rw [e]; exact kCheck_1 b o M S w hM hs
  | true =>
    cases hb : ((kN M).2 && (kO M).2) with
    | false =>
      have e : chk M = 3 := by unfold chk goodB; rw [hs, kAll_bad hb]; rfl
      rw [e]; exact kCheck_2 b o M S w hM hs hb
    | true =>
      cases hr : fieldsB (startsM M) M.roots with
      | false =>
        have e : chk M = 3 := by unfold chk goodB; rw [hs, hr]; simp
        rw [e]; exact kCheck_3 b o M S w hM hs hb hr
      | true =>
        cases hk : fieldsB (startsM M) M.weak with
        | false =>
          have e : chk M = 3 := by unfold chk goodB; rw [hs, hr, hk]; simp
          rw [e]; exact kCheck_4 b o M S w hM hs hb hr hk
        | true => exact kCheck_5 b o M S w hM hs hb hr hk
end Go.Proofs.YtecbbbaafcoliaaDoor
/- The walk of the document's FieldAt. -/
namespace Go.Proofs.YtecbbbaafcoliaaDoor
open Go.RowKit
set_option linter.unusedVariables false
set_option linter.unusedSimpArgs false

theorem objAt_found {l : List Ob} {P : Int} (h : inSt (ats l) P = true) : ∃ i, ∃ hi : i < l.length, objAt l P = (i : Int) ∧ (l[i].a : Int) = P := by
  unfold objAt
  have : (l.findIdx? fun o => (o.a : Int) == P).isSome = true := by
    rw [List.findIdx?_isSome]
    obtain ⟨x, hx, e⟩ := List.mem_map.1 (List.contains_iff_mem.1 h)
    exact List.any_eq_true.2 ⟨x, hx, by simpa using e⟩
  obtain ⟨i, hi⟩ := Option.isSome_iff_exists.1 this
  rw [hi]
  obtain ⟨h1, h2, -⟩ := List.findIdx?_eq_some_iff_getElem.1 hi
  exact ⟨i, h1, rfl, by simpa using h2⟩
def F3 (w : World) (a k c : Int) (e : Ending) (w' : World) : Prop := e = .returned (.tuple #[.int .i64 a, .int .i64 k, .int .i64 c]) ∧ Ext w w'
set_option maxRecDepth 100000 in
set_option maxHeartbeats 4000000 in
theorem fieldAt_pt (b o : Nat) (M : Mem) (S : Sls) (p f : Int) (h0 : 0 ≤ p) (h1 : p ≤ 18446744073709551615) (w : World) (hM : RMem w b o M S) (hg : goodB M = true) (hp : ptB (startsM M) p = false) :
    Calls Tryd.prog 33 #[.pointer (some ⟨b, o, none⟩), .int .u64 p, .int .i64 f] w (F3 w (-1) 0 5) := by
  have hpp : (decide (0 ≤ ptsW p) && inSt (startsM M) (ptsW p)) = false := by rw [pts_place (startsM M) p h0 (starts_in M (good_parts hg).1)]; exact hp
  obtain ⟨hs, hob, -⟩ := good_parts hg
  have HKB : Hid (((kN M).2 && (kO M).2) = true) := by
    cases hb : ((kN M).2 && (kO M).2) with
    | true => rfl
    | false => have := kAll_bad hb; rw [this] at hob; cases hob
  obtain ⟨l, hl⟩ : ∃ l, l = objsAll M := ⟨_, rfl⟩
  have HLI : Hid ((kN M).1 ++ (kO M).1 = l) := by rw [Hid, hl]; exact (kAll_ok HKB.out).1
  have HATS : Hid (ats l = startsM M) := by rw [Hid, hl]; rfl
  have HLN : Hid (l.length ≤ 9223372036854775807) := by
    have h1 := partK_len M.W M.base (M.base + M.top.toNat)
    have h2 := partK_len M.W (2 * M.half).toNat ((2 * M.half).toNat + M.oldTop.toNat)
    have h3 := congrArg List.length HLI.out
    rw [List.length_append] at h3
    have e1 : (kN M).1 = (partK M.W M.base (M.base + M.top.toNat)).1 := rfl
    have e2 : (kO M).1 = (partK M.W (2 * M.half).toNat ((2 * M.half).toNat + M.oldTop.toNat)).1 := rfl
    rw [e1, e2] at h3
    have h4 := hs.t2; have h5 := hs.p2; have h6 := hs.h2; have h7 := hs.o2; have h8 := hs.t1; have h9 := hs.p1
    unfold Hid; omega
  have hlen := len_small hs
  have HPT := Lib.hid (fun W => points_any p h0 h1 W)
  have HS := Lib.hid hs
  have HM := Lib.hid hM
  obtain ⟨P, hP⟩ : ∃ P, P = ptsW p := ⟨_, rfl⟩
  rw [← hP] at hpp HPT
  clear hM hs hob hl hg hp hP
  by_cases hP0 : P < 0
  · clear hpp
    go_enter Tryd.func33, Tryd.ntmps33
    go_wp2_with (first
      | (go_at_call 19; refine (kAll_walk b o M S HS.out _ HM.out).mono ?_; rintro e w4 ⟨la, lc, he, hown, hq⟩; rw [HKB.out, HLI.out] at he; rw [HLI.out] at hown; subst he; have HB4 := Lib.hid hq; have HLR := Lib.hid (own_rsl hown); clear hq hown)
      | (go_at_call 48; refine (HPT.out _).mono ?_; rintro e w' ⟨rfl, hw9⟩; have hw9 := hw9.symm; subst hw9))
    go_returns
    exact ⟨rfl, HB4.out⟩
  · have hin : inSt (startsM M) P = false := by rw [decide_eq_true (by omega : 0 ≤ P), Bool.true_and] at hpp; exact hpp
    have hoa : decide (0 ≤ objAt l P) = false := by rw [objAt_nonneg]; show inSt (ats l) P = false; rw [HATS.out]; exact hin
    obtain ⟨q, hq⟩ : ∃ q, objAt l P = q := ⟨_, rfl⟩
    rw [hq] at hoa
    have hq0 : q < 0 := by have := of_decide_eq_false hoa; omega
    have HOA := Lib.hid hq
    clear hpp hin hoa hq
    go_enter Tryd.func33, Tryd.ntmps33
    go_wp2_with (first
      | (go_at_call 19; refine (kAll_walk b o M S HS.out _ HM.out).mono ?_; rintro e w4 ⟨la, lc, he, hown, hq⟩; rw [HKB.out, HLI.out] at he; rw [HLI.out] at hown; subst he; have HB4 := Lib.hid hq; have HLR := Lib.hid (own_rsl hown); clear hq hown)
      | (go_at_call 48; refine (HPT.out _).mono ?_; rintro e w' ⟨rfl, hw9⟩; have hw9 := hw9.symm; subst hw9)
      | (go_at_call 49; refine (objectAt_any la lc l P _ HLN.out HLR.out).mono ?_; rintro e w' ⟨he, hw9⟩; have hw9 := hw9.symm; subst hw9; rw [HOA.out] at he; subst he))
    go_returns
    exact ⟨rfl, HB4.out⟩
set_option maxRecDepth 100000 in
set_option maxHeartbeats 4000000 in
theorem fieldAt_in (b o : Nat) (M : Mem) (S : Sls) (p f : Int) (h0 : 0 ≤ p) (h1 : p ≤ 18446744073709551615) (w : World) (hM : RMem w b o M S) (hg : goodB M = true) (hp : ptB (startsM M) p = true) (x : Ob) (hx : x ∈ objsAll M) (hpl : placeW p = (x.a : Int)) :
    (¬ f < 0 → ¬ hSize x.w ≤ f → Calls Tryd.prog 33 #[.pointer (some ⟨b, o, none⟩), .int .u64 p, .int .i64 f] w (F3 w ((x.a : Int) + 1 + f) (hKind x.w) 0)) ∧
    (f < 0 ∨ (¬ f < 0 ∧ hSize x.w ≤ f) → Calls Tryd.prog 33 #[.pointer (some ⟨b, o, none⟩), .int .u64 p, .int .i64 f] w (F3 w (-1) 0 2)) := by
  have hpp : (decide (0 ≤ ptsW p) && inSt (startsM M) (ptsW p)) = true := by rw [pts_place (startsM M) p h0 (starts_in M (good_parts hg).1)]; exact hp
  have hpe : ptsW p = (x.a : Int) := by
    have h2 := pt_ob hp
    rw [Bool.and_eq_true] at hpp
    have h3 := of_decide_eq_true hpp.1
    unfold ptsW at h3 ⊢
    split
    · exact hpl
    · rename_i h4; rw [if_neg h4] at h3; omega
  have hok := hM.ok
  obtain ⟨hs, hob, -⟩ := good_parts hg
  have HKB : Hid (((kN M).2 && (kO M).2) = true) := by
    cases hb : ((kN M).2 && (kO M).2) with
    | true => rfl
    | false => have := kAll_bad hb; rw [this] at hob; cases hob
  obtain ⟨l, hl⟩ : ∃ l, l = objsAll M := ⟨_, rfl⟩
  have HLI : Hid ((kN M).1 ++ (kO M).1 = l) := by rw [Hid, hl]; exact (kAll_ok HKB.out).1
  have HATS : Hid (ats l = startsM M) := by rw [Hid, hl]; rfl
  have HLN : Hid (l.length ≤ 9223372036854775807) := by
    have h1 := partK_len M.W M.base (M.base + M.top.toNat)
    have h2 := partK_len M.W (2 * M.half).toNat ((2 * M.half).toNat + M.oldTop.toNat)
    have h3 := congrArg List.length HLI.out
    rw [List.length_append] at h3
    have e1 : (kN M).1 = (partK M.W M.base (M.base + M.top.toNat)).1 := rfl
    have e2 : (kO M).1 = (partK M.W (2 * M.half).toNat ((2 * M.half).toNat + M.oldTop.toNat)).1 := rfl
    rw [e1, e2] at h3
    have h4 := hs.t2; have h5 := hs.p2; have h6 := hs.h2; have h7 := hs.o2; have h8 := hs.t1; have h9 := hs.p1
    unfold Hid; omega
  have hlen := len_small hs
  have HPT := Lib.hid (fun W => points_any p h0 h1 W)
  have HS := Lib.hid hs
  have HM := Lib.hid hM
  obtain ⟨P, hP⟩ : ∃ P, P = ptsW p := ⟨_, rfl⟩
  rw [← hP] at hpp HPT hpe
  rw [Bool.and_eq_true] at hpp
  have hP0 : ¬ P < 0 := by have := of_decide_eq_true hpp.1; omega
  obtain ⟨i, hi, ho1, ho2⟩ := objAt_found (l := l) (P := P) (by rw [HATS.out]; exact hpp.2)
  have HOA := Lib.hid ho1
  have HCE := fun (W : World) la (hW : RSl W la (ocells l)) => ob_cells hW hi
  have hli : l[i] ∈ objsAll M := by rw [← hl]; exact List.getElem_mem hi
  have hlx : l[i] = x := by
    have q1 := (mem_in hs hli).2.1
    have q2 := (mem_in hs hx).2.1
    have q3 : l[i].a = x.a := by omega
    rw [q3, ← q2] at q1
    cases hz : l[i] with | mk a w => rw [hz] at q1 q3; cases x; simp only at q1 q3; rw [q1, q3]
  have HCE2 : Hid (∀ (W : World) la, RSl W la (ocells l) → ∃ ob oo, la = some ⟨ob, oo, none⟩ ∧ W.cell? ⟨ob, oo + i * 4, none⟩ = some (.int .i64 (x.a : Int)) ∧ W.cell? ⟨ob, oo + i * 4 + 1, none⟩ = some (.int .i64 (hKind x.w)) ∧ W.cell? ⟨ob, oo + i * 4 + 2, none⟩ = some (.int .i64 (hAge x.w)) ∧ W.cell? ⟨ob, oo + i * 4 + 3, none⟩ = some (.int .i64 (hSize x.w))) := fun W la hW => by
    obtain ⟨p0, p1, p2, p3⟩ := ocells_at l i hi
    obtain ⟨ob, oo, rfl, c0⟩ := hW _ _ p0
    have c1 := hW.at_ p1
    have c2 := hW.at_ p2
    have c3 := hW.at_ p3
    rw [← Nat.add_assoc] at c1 c2 c3
    rw [hlx] at c0 c1 c2 c3
    exact ⟨ob, oo, rfl, c0, c1, c2, c3⟩
  have hxl := (mem_in hs hx).1
  have hn := found_n hok hs hx
  have hiz : (i : Int) < (l.length : Int) := by omega
  have hi0 : ¬ (i : Int) < 0 := by omega
  clear hM hs hob hl hg hp hP hpp hpe hpl HCE hli hlx ho1 ho2 hx hok
  refine ⟨fun hf1 hf2 => ?_, fun hb => ?_⟩
  · have e1 : IntKind.i64.wrap ((x.a : Int) + 1) = (x.a : Int) + 1 := IntWalk.i64_in _ (by omega)
    have e2 : IntKind.i64.wrap ((x.a : Int) + 1 + f) = (x.a : Int) + 1 + f := IntWalk.i64_in _ (by omega)
    have E1 := Lib.hid e1
    have E2 := Lib.hid e2
    clear e1 e2
    go_enter Tryd.func33, Tryd.ntmps33
    go_wp2_with (first
      | (go_at_call 19; refine (kAll_walk b o M S HS.out _ HM.out).mono ?_; rintro e w4 ⟨la, lc, he, hown, hq⟩; rw [HKB.out, HLI.out] at he; rw [HLI.out] at hown; subst he; have HB4 := Lib.hid hq; have HLR := Lib.hid (own_rsl hown); clear hq hown; obtain ⟨ob, oo, hla, c0, c1, c2, c3⟩ := HCE2.out _ _ HLR.out; subst hla)
      | (go_at_call 48; refine (HPT.out _).mono ?_; rintro e w' ⟨rfl, hw9⟩; have hw9 := hw9.symm; subst hw9)
      | (go_at_call 49; refine (objectAt_any _ lc l P _ HLN.out HLR.out).mono ?_; rintro e w' ⟨he, hw9⟩; have hw9 := hw9.symm; subst hw9; rw [HOA.out] at he; subst he))
    have e1 := E1.out
    have e2 := E2.out
    go_quiet (fail)
    clear e1 e2
    go_wp2
    go_returns
    exact ⟨rfl, by repeat (first | exact HB4.out | (refine Ext.drew_ ?_) | (refine Ext.drewN_ ?_ _) | (refine Ext.alloc_ ?_ _))⟩
  · rcases hb with hb | ⟨hb, hb2⟩
    · go_enter Tryd.func33, Tryd.ntmps33
      go_wp2_with (first
        | (go_at_call 19; refine (kAll_walk b o M S HS.out _ HM.out).mono ?_; rintro e w4 ⟨la, lc, he, hown, hq⟩; rw [HKB.out, HLI.out] at he; rw [HLI.out] at hown; subst he; have HB4 := Lib.hid hq; have HLR := Lib.hid (own_rsl hown); clear hq hown; obtain ⟨ob, oo, hla, c0, c1, c2, c3⟩ := HCE2.out _ _ HLR.out; subst hla)
        | (go_at_call 48; refine (HPT.out _).mono ?_; rintro e w' ⟨rfl, hw9⟩; have hw9 := hw9.symm; subst hw9)
        | (go_at_call 49; refine (objectAt_any _ lc l P _ HLN.out HLR.out).mono ?_; rintro e w' ⟨he, hw9⟩; have hw9 := hw9.symm; subst hw9; rw [HOA.out] at he; subst he))
      go_returns
      exact ⟨rfl, by repeat (first | exact HB4.out | (refine Ext.drew_ ?_) | (refine Ext.drewN_ ?_ _) | (refine Ext.alloc_ ?_ _))⟩
    · go_enter Tryd.func33, Tryd.ntmps33
      go_wp2_with (first
        | (go_at_call 19; refine (kAll_walk b o M S HS.out _ HM.out).mono ?_; rintro e w4 ⟨la, lc, he, hown, hq⟩; rw [HKB.out, HLI.out] at he; rw [HLI.out] at hown; subst he; have HB4 := Lib.hid hq; have HLR := Lib.hid (own_rsl hown); clear hq hown; obtain ⟨ob, oo, hla, c0, c1, c2, c3⟩ := HCE2.out _ _ HLR.out; subst hla)
        | (go_at_call 48; refine (HPT.out _).mono ?_; rintro e w' ⟨rfl, hw9⟩; have hw9 := hw9.symm; subst hw9)
        | (go_at_call 49; refine (objectAt_any _ lc l P _ HLN.out HLR.out).mono ?_; rintro e w' ⟨he, hw9⟩; have hw9 := hw9.symm; subst hw9; rw [HOA.out] at he; subst he))
      go_returns
      exact ⟨rfl, by repeat (first | exact HB4.out | (refine Ext.drew_ ?_) | (refine Ext.drewN_ ?_ _) | (refine Ext.alloc_ ?_ _))⟩
end Go.Proofs.YtecbbbaafcoliaaDoor
/- The walk of Memory.Alloc where it gives an object; whatever it answers. -/
namespace Go.Proofs.YtecbbbaafcoliaaDoor
open Go.RowKit
set_option linter.unusedVariables false
set_option linter.unusedSimpArgs false

theorem sizeF0 : (Tryd.prog.info? 30).map (·.size) = some 1 := by kernel_rfl
theorem run_tail {P : Program} {t e : TypeId} (ht : P.underlying t = some (.slice e)) (hz : ∀ w, (sizeOf e).run P w = .ok 1 w) (g len cap i : Nat) (x : Int) (hx : x = (i : Int)) (hi : i ≤ len) (hc : len ≤ cap) :
    ∃ A C, (∀ w' : World, (Instr.slice t (.slice (some ⟨g, 0, none⟩) len cap) (some (.int .i64 x)) none none).run P w' = .ok (.slice A (len - i) C) w') ∧ (i < cap → A = some ⟨g, i, none⟩) := by
  have he : P.elem t = e := by simp [Program.elem, ht]
  have ht' : P.underlying t = some (.slice (P.elem t)) := by rw [he]; exact ht
  refine ⟨if cap = i then some ⟨g, 0, none⟩ else some ⟨g, i, none⟩, cap - i, fun w' => ?_, fun h => by rw [if_neg (by omega)]⟩
  subst hx
  rw [run_slice_l w' t (some ⟨g, 0, none⟩) len cap ht' .i64 (i : Int) (by omega) (by omega), he, hz]
  simp [Result.andThen, sliced, Addr.add]
  split
  · rfl
  · split
    · rename_i h0; subst h0; simp
    · rfl
theorem wcells_splice (l fs : List Int) (off : Nat) : wcells (splice l off fs) = splice (wcells l) off (wcells fs) := by
  simp [wcells, splice, List.map_take, List.map_drop]
section
variable {w5 w6 : World} {B b : Nat} {M : Mem} {S : Sls} {kind size : Int} {g : Nat}
theorem fresh_n3 (h : OMem w5 B b 72 (freshM M kind size) S) (hg : S.W.1 = some ⟨g, 0, none⟩) : w5.cell? ⟨b, 3, none⟩ = some (.slice (some ⟨g, 0, none⟩) M.W.length S.W.2) := by
  have := (h.fld ⟨3, 30, 1, S.W.1, (freshM M kind size).W.length, S.W.2, wcells (freshM M kind size).W⟩ (by simp [memFlds])).1
  simp only [Fld.val, hg, freshM, List.length_set] at this
  exact this
theorem fresh_cur (h : OMem w5 B b 72 (freshM M kind size) S) (hg : S.W.1 = some ⟨g, 0, none⟩) {at_ : Nat} (hl : at_ < M.W.length) :
    ∃ cur : List Value, w5.heap[g]? = some (.cells cur.toArray 30 (0, 0)) ∧ M.W.length ≤ cur.length := by
  have hf := h.fW
  have e : (freshM M kind size).W.length = M.W.length := by simp [freshM]
  rw [e] at hf
  obtain ⟨g', hg', -, -, -, hc, cur, hh, hl', -⟩ := own_block hf (by omega)
  rw [hg] at hg'
  injection hg' with hg'
  injection hg' with hg'
  subst hg'
  exact ⟨cur, hh, by omega⟩
/-- What Alloc leaves where it gives an object. -/
def AYes (w : World) (B b : Nat) (M : Mem) (S : Sls) (kind : Int) (fs : List Int) (e : Ending) (w' : World) : Prop :=
  e = .returned (.tuple #[.int .u64 (addrW ((M.base + M.top.toNat : Nat) : Int)), .nilIface]) ∧ OMem w' B b 72 (allocM M kind fs) S ∧ Keep (OwnL b S) w w'
theorem alloc_fin {w : World} {fs : List Int} (h : OMem w5 B b 72 (freshM M kind (fs.length : Int)) S) (hk : Keep (OwnL b S) w w5) (hg : S.W.1 = some ⟨g, 0, none⟩) {at_ : Nat} (ha : M.base + M.top.toNat = at_) {cur : List Value}
    (hc : w5.heap[g]? = some (.cells cur.toArray 30 (0, 0)) ∧ M.W.length ≤ cur.length) (hb : But g w5 w6) (hw : w6.heap[g]? = some (.cells (splice cur (at_ + 1) (wcells fs)).toArray 30 (0, 0))) (hf : at_ + 1 + fs.length ≤ M.W.length) :
    AYes w B b M S kind fs (.returned (.tuple #[.int .u64 (addrW (at_ : Int)), .nilIface])) w6 := by
  have e : (freshM M kind (fs.length : Int)).W.length = M.W.length := by simp [freshM]
  have h1 := OMem.rowW h hg hb (splice (freshM M kind (fs.length : Int)).W (at_ + 1) fs) (by rw [length_splice]; omega)
    (by rw [wcells_splice]; exact own_splice h.fW hg hc.1 (at_ + 1) (wcells fs) (by rw [e]; simpa [wcells] using hf) hw)
  refine ⟨by rw [ha], ?_, hk.trans ((Keep.of_but hb).sub fun k hk => by subst hk; exact Or.inr (Or.inl hg))⟩
  unfold freshM at h1
  rw [ha] at h1
  unfold allocM
  rw [ha]
  exact h1
end
set_option maxRecDepth 100000 in
set_option maxHeartbeats 8000000 in
theorem alloc_yes (B b : Nat) (M : Mem) (S : Sls) (E : Nat → Addr) (kind : Int) (fa : Option Addr) (fs : List Int) (fc : Nat) (w : World) (hO : OMem w B b 72 M S) (hok : M.Ok) (hE : G4 E w) (h : chk M = 0)
    (h1 : ¬ kind < 0) (h2 : ¬ 255 < kind) (h3 : ¬ (4096 : Int) < (fs.length : Int)) (hf : rawB kind = true ∨ fieldsB (startsM M) fs = true) (hR : RSl w fa (wcells fs)) (hfb : ∀ x ∈ fs, 0 ≤ x ∧ x ≤ 18446744073709551615)
    (hno : ∀ x, fa = some x → ¬ OwnL b S x.block) (hfull : ¬ M.half < M.top + 1 + (fs.length : Int)) :
    Calls Tryd.prog 17 #[.pointer (some ⟨b, 0, none⟩), .int .i64 kind, .slice fa fs.length fc] w (AYes w B b M S kind fs) := by
  obtain ⟨hs, ho, -⟩ := good_parts (chk_zero h).1
  have HC : Hid (errC E (chk M) = .nilIface) := by rw [Hid, h]; rfl
  have hM := hO.mem hok
  have s3 := hs.t1
  have s4 := hs.t2
  have s2 := hs.h2
  have s7 := hs.o1
  have s8 := hs.w
  obtain ⟨hb, b0, b1⟩ := hs.base
  have e1 : IntKind.i64.wrap (M.top + 1) = M.top + 1 := IntWalk.i64_in _ (by omega)
  have e2 : IntKind.i64.wrap (M.top + 1 + (fs.length : Int)) = M.top + 1 + (fs.length : Int) := IntWalk.i64_in _ (by omega)
  obtain ⟨at_, hat⟩ : ∃ a : Nat, a = M.base + M.top.toNat := ⟨_, rfl⟩
  have hlen : at_ < M.W.length := by omega
  have hfit : at_ + 1 + fs.length ≤ M.W.length := by omega
  obtain ⟨g, hg, hgB, hgl, hgf, hgc, -⟩ := own_block hO.fW (by omega)
  obtain ⟨A, C, hsl, hA⟩ := run_tail (P := Tryd.prog) undU64 sizeU64 g M.W.length S.W.2 (at_ + 1) ((at_ : Int) + 1) (by omega) (by omega) hgc
  have e3 : IntKind.i64.wrap ((at_ : Int) + 1) = (at_ : Int) + 1 := IntWalk.i64_in _ (by omega)
  have HPOS : Hid (∀ W : World, RSl W fa (wcells fs) → 0 < (wcells fs).length → A = some ⟨g, at_ + 1, none⟩ ∧ ∃ ad, fa = some ad ∧ ∀ j v, (wcells fs)[j]? = some v → W.cell? (ad.add j) = some v) := fun W hW hp => by
    have hl : (wcells fs).length = fs.length := by simp [wcells]
    refine ⟨hA (by omega), ?_⟩
    obtain ⟨b', off, hfa, -⟩ := hW 0 _ (List.getElem?_eq_getElem hp)
    refine ⟨_, hfa, fun j v hv => ?_⟩
    obtain ⟨b2, off2, hfa2, hcell⟩ := hW j v hv
    rw [hfa] at hfa2
    injection hfa2 with hfa2
    injection hfa2 with q1 q2
    subst q1 q2
    by_cases e : j = 0
    · subst e; simpa [Addr.add] using hcell
    · simpa [Addr.add, e] using hcell
  have HMIN : Hid ((wcells fs).length = Nat.min fs.length (M.W.length - (at_ + 1))) := by
    have hl : (wcells fs).length = fs.length := by simp [wcells]
    unfold Hid; rw [hl]; exact (Nat.min_eq_left (by omega)).symm
  have HFIT : Hid (∀ cur : List Value, M.W.length ≤ cur.length → at_ + 1 + (wcells fs).length ≤ cur.length) := fun cur hc => by
    have hl : (wcells fs).length = fs.length := by simp [wcells]
    omega
  have HFITN := Lib.hid hfit
  have HATN : Hid (M.base + M.top.toNat = at_) := hat.symm
  have HAT : Hid (((M.base + M.top.toNat : Nat) : Int) = (at_ : Int)) := by unfold Hid; rw [hat]
  have HM := Lib.hid hM
  have HO := Lib.hid hO
  have HOK := Lib.hid hok
  have HG := Lib.hid hg
  have HE := Lib.hid hE
  have HS := Lib.hid hs
  have HOB := Lib.hid (objs_true ho)
  have HFR := Lib.hid hR
  have HFB := Lib.hid hfb
  have HNO := Lib.hid hno
  have HFL : Hid (fs.length ≤ 9223372036854775807) := by unfold Hid; omega
  clear hM hE h hs ho hR hfb hO hok hg hno hat hA hgf hb s8 hfit
  cases hr : rawB kind with
  | true =>
    have HR := Lib.hid hr
    clear hf hr
    go_enter Tryd.func17, Tryd.ntmps17
    go_wp2_with (first
      | (go_at_call 24; refine (check_c b 0 M S E w HM.out HE.out.toG3).mono ?_; rintro e w1 ⟨he, hq⟩; rw [HC.out] at he; subst he; have HX1 := Lib.hid hq; clear hq)
      | (go_at_call 39; refine (starts_any b 0 M S HS.out (E 1) (E 2) _ (HM.out.ext HX1.out) (HE.out.ext HX1.out).bound (HE.out.ext HX1.out).shape).mono ?_; rintro e w2 ⟨bm, rfl, hsm, hq⟩; have HX2 : Hid (Ext w w2) := Ext.trans_ HX1.out hq; have HSM := Lib.hid (hsm HOB.out); clear hq hsm)
      | (go_at_call 40; refine (raw_any _ _).mono ?_; rintro e w' ⟨he, rfl⟩; rw [HR.out] at he; subst he))
    refine named_world' (fun W3 hW3 => ?_)
    have hE3 : Ext w W3 := by rw [hW3]; (repeat (first | exact HX2.out | (refine Ext.set_ ?_ (by have := HX2.out.size; simp; omega) _) | (refine Ext.alloc_ ?_ _) | (refine Ext.drewN_ ?_ _)))
    have d5 := (HM.out.ext hE3).top
    have d0 := (HM.out.ext hE3).half
    have HX3 := Lib.hid hE3
    clear hW3 hE3
    go_region
    go_wp2_with (first
      | (go_at_call 44; refine (fresh_obj B b M S _ (OM.ext HO.out (by (repeat (first | exact HX3.out | (refine Ext.drew_ ?_) | (refine Ext.drewN_ ?_ _))))) HOK.out HS.out kind (fs.length : Int) ⟨by omega, by omega⟩ ⟨by omega, by omega⟩ (by omega)).mono ?_; rintro e w5 ⟨he, hq1, hq2⟩; rw [HAT.out] at he; subst he; have HK5 : Hid (Keep (OwnL b S) w w5) := Keep.trans (Keep.of_ext (by (repeat (first | exact HX3.out | (refine Ext.drew_ ?_) | (refine Ext.drewN_ ?_ _))))) hq2; have HO5 := Lib.hid hq1; clear hq1 hq2; have n3 := fresh_n3 HO5.out HG.out; obtain ⟨cur, hcur⟩ := fresh_cur HO5.out HG.out hlen; have HCUR := Lib.hid hcur; obtain ⟨w6, hrun, hg6, hb6⟩ := run_copy_but (P := Tryd.prog) 35 35 3 30 undU64 sizeF0 A fa (M.W.length - (at_ + 1)) C fs.length fc g (at_ + 1) cur 30 hcur.1 (wcells fs) HMIN.out (HPOS.out w5 (HFR.out.keep HK5.out HNO.out)) (HFIT.out cur hcur.2) (wcells_one fs); have HG6 := Lib.hid hg6; have HB6 := Lib.hid hb6; clear hcur hg6 hb6)
      | (go_at_call 45; refine (addr_any _ _).mono ?_; rintro e w' ⟨rfl, rfl⟩))
    go_ret2
    exact alloc_fin HO5.out HK5.out HG.out HATN.out HCUR.out HB6.out HG6.out (HFITN.out)
  | false =>
    have hf' : fieldsB (startsM M) fs = true := by rcases hf with q | q; (rw [hr] at q; cases q); exact q
    have HANY := Lib.hid (fields_any _ _ hf')
    have HR := Lib.hid hr
    clear hf hr hf'
    go_enter Tryd.func17, Tryd.ntmps17
    go_wp2_with (first
      | (go_at_call 24; refine (check_c b 0 M S E w HM.out HE.out.toG3).mono ?_; rintro e w1 ⟨he, hq⟩; rw [HC.out] at he; subst he; have HX1 := Lib.hid hq; clear hq)
      | (go_at_call 39; refine (starts_any b 0 M S HS.out (E 1) (E 2) _ (HM.out.ext HX1.out) (HE.out.ext HX1.out).bound (HE.out.ext HX1.out).shape).mono ?_; rintro e w2 ⟨bm, rfl, hsm, hq⟩; have HX2 : Hid (Ext w w2) := Ext.trans_ HX1.out hq; have HSM := Lib.hid (hsm HOB.out); clear hq hsm)
      | (go_at_call 40; refine (raw_any _ _).mono ?_; rintro e w' ⟨he, rfl⟩; rw [HR.out] at he; subst he)
      | (go_at_call 41; refine (containsF_walk (fun x => !fldB (startsM M) x) _ _ a1_enters fa fc fs _ HFL.out ?_ HFB.out ?_).mono ?_; (exact HFR.out.ext (by (repeat (first | exact HX2.out | (refine Ext.set_ ?_ (by have := HX2.out.size; simp; omega) _) | (refine Ext.alloc_ ?_ _) | (refine Ext.drewN_ ?_ _))))); (intro W x hx h0 h1; refine (a1_any x h0 h1 bm w2.heap.size (startsM M) W (HSM.out.ext (Ext.trans_ (by repeat (first | exact Ext.refl _ | (refine Ext.set_ ?_ (by simp) _) | (refine Ext.alloc_ ?_ _))) hx)) (hx.cell_ (by simp [go_sem]))).mono ?_; rintro e w' ⟨rfl, rfl⟩; exact ⟨rfl, hx⟩); rintro e w3 ⟨he, hq⟩; rw [HANY.out] at he; subst he; have HX3 : Hid (Ext w w3) := Ext.trans_ (by (repeat (first | exact HX2.out | (refine Ext.set_ ?_ (by have := HX2.out.size; simp; omega) _) | (refine Ext.alloc_ ?_ _) | (refine Ext.drewN_ ?_ _)))) hq; clear hq))
    have d5 := (HM.out.ext HX3.out).top
    have d0 := (HM.out.ext HX3.out).half
    go_region
    go_wp2_with (first
      | (go_at_call 44; refine (fresh_obj B b M S _ (OM.ext HO.out (by (repeat (first | exact HX3.out | (refine Ext.drew_ ?_) | (refine Ext.drewN_ ?_ _))))) HOK.out HS.out kind (fs.length : Int) ⟨by omega, by omega⟩ ⟨by omega, by omega⟩ (by omega)).mono ?_; rintro e w5 ⟨he, hq1, hq2⟩; rw [HAT.out] at he; subst he; have HK5 : Hid (Keep (OwnL b S) w w5) := Keep.trans (Keep.of_ext (by (repeat (first | exact HX3.out | (refine Ext.drew_ ?_) | (refine Ext.drewN_ ?_ _))))) hq2; have HO5 := Lib.hid hq1; clear hq1 hq2; have n3 := fresh_n3 HO5.out HG.out; obtain ⟨cur, hcur⟩ := fresh_cur HO5.out HG.out hlen; have HCUR := Lib.hid hcur; obtain ⟨w6, hrun, hg6, hb6⟩ := run_copy_but (P := Tryd.prog) 35 35 3 30 undU64 sizeF0 A fa (M.W.length - (at_ + 1)) C fs.length fc g (at_ + 1) cur 30 hcur.1 (wcells fs) HMIN.out (HPOS.out w5 (HFR.out.keep HK5.out HNO.out)) (HFIT.out cur hcur.2) (wcells_one fs); have HG6 := Lib.hid hg6; have HB6 := Lib.hid hb6; clear hcur hg6 hb6)
      | (go_at_call 45; refine (addr_any _ _).mono ?_; rintro e w' ⟨rfl, rfl⟩))
    go_ret2
    exact alloc_fin HO5.out HK5.out HG.out HATN.out HCUR.out HB6.out HG6.out (HFITN.out)
end Go.Proofs.YtecbbbaafcoliaaDoor
/- An own memory: more is appended to one of its rows, and the field is stored anew. -/
namespace Go.Proofs.YtecbbbaafcoliaaDoor
open Go.RowKit
set_option linter.unusedVariables false
set_option linter.unusedSimpArgs false

theorem OM.push {w w1 : World} {B b : Nat} {nums : List (Nat × Int)} {L1 L2 : List Fld} {f : Fld} (h : OM w B b nums (L1 ++ f :: L2)) (a' : Option Addr) (n' c' : Nat) (cs' : List Value)
    (hg : w.grownBy w1 f.val.ownBlock) (ho : w1.ownsRow B f.e f.size (.slice a' n' c') n' cs') (hnew : (Value.slice a' n' c').ownBlock = f.val.ownBlock ∨ (Value.slice a' n' c').ownBlock = some w.heap.size) :
    OM (w1.setCell ⟨b, f.off, none⟩ (.slice a' n' c')) B b nums (L1 ++ ⟨f.off, f.e, f.size, a', n', c', cs'⟩ :: L2) := by
  have hlt := h.lt
  have hap := h.apart
  have hfb := (h.fld f (by simp)).2.2
  have hother : ∀ g ∈ L1 ++ L2, ∀ k, g.val.ownBlock = some k → f.val.ownBlock ≠ some k := fun g hgm k hk e => by
    rw [List.pairwise_append, List.pairwise_cons] at hap
    rcases List.mem_append.1 hgm with q | q
    · exact hap.2.2 g q f (by simp) k hk e
    · exact hap.2.1.1 g q k e hk
  have hbk : w1.heap[b]? = w.heap[b]? := hg.block b hlt (fun e => hfb e.symm)
  have hnb : (Value.slice a' n' c').ownBlock ≠ some b := by
    rcases hnew with e | e
    · rw [e]; exact hfb
    · rw [e]; simp; omega
  have hold : ∀ g ∈ L1 ++ L2, ∀ k, g.val.ownBlock = some k → (Value.slice a' n' c').ownBlock ≠ some k := fun g hgm k hk => by
    have h1 : g ∈ L1 ++ f :: L2 := by rcases List.mem_append.1 hgm with q | q <;> simp [q]
    have := ((h.fld g h1).2.1.lt k hk).2
    rcases hnew with e | e
    · rw [e]; exact hother g hgm k hk
    · rw [e]; simp; omega
  have hrow : ∀ g ∈ L1 ++ L2, w1.ownsRow B g.e g.size g.val g.n g.cs := fun g hgm => by
    have h1 : g ∈ L1 ++ f :: L2 := by rcases List.mem_append.1 hgm with q | q <;> simp [q]
    refine (h.fld g h1).2.1.kept hg ?_
    rcases hv : g.val.ownBlock with _ | k
    · exact Or.inl rfl
    · exact Or.inr fun e => hother g hgm k hv e.symm
  have hoffs := h.offs
  have hfoff : ∀ p ∈ nums, p.1 ≠ f.off := fun p hp e => by
    rw [List.nodup_append] at hoffs
    exact hoffs.2.2 p.1 (List.mem_map_of_mem hp) f.off (List.mem_map_of_mem (by simp)) e
  have hgoff : ∀ g ∈ L1 ++ L2, g.off ≠ f.off := fun g hgm e => by
    have := (List.nodup_append.1 hoffs).2.1
    simp only [List.map_append, List.map_cons] at this
    rw [List.nodup_append, List.nodup_cons] at this
    rcases List.mem_append.1 hgm with q | q
    · exact this.2.2 g.off (List.mem_map_of_mem q) f.off (by simp) e
    · exact this.2.1.1 (by rw [← e]; exact List.mem_map_of_mem q)
  have hcell : ∀ j v, w.cell? ⟨b, j, none⟩ = some v → w1.cell? ⟨b, j, none⟩ = some v := fun j v hc => by
    rw [World.cell?_of_block (w := w) (a := ⟨b, j, none⟩) hbk]; exact hc
  have hblk : ∃ cur t, w1.heap[b]? = some (.cells cur t (0, 0)) := by rw [hbk]; exact h.blk
  have hgood : ∀ g ∈ L1 ++ L2, (w1.setCell ⟨b, f.off, none⟩ (.slice a' n' c')).cell? ⟨b, g.off, none⟩ = some g.val ∧ (w1.setCell ⟨b, f.off, none⟩ (.slice a' n' c')).ownsRow B g.e g.size g.val g.n g.cs ∧ g.val.ownBlock ≠ some b := fun g hgm => by
    have h1 : g ∈ L1 ++ f :: L2 := by rcases List.mem_append.1 hgm with q | q <;> simp [q]
    refine ⟨?_, own_set (hrow g hgm) (h.fld g h1).2.2 _, (h.fld g h1).2.2⟩
    rw [cell_set_off (hgoff g hgm).symm]; exact hcell _ _ (h.fld g h1).1
  refine ⟨h.hb, blk_set hblk, fun p hp => ?_, fun g hgm => ?_, ?_, ?_⟩
  · rw [cell_set_off (hfoff p hp).symm]; exact hcell _ _ (h.num p hp)
  · rcases List.mem_append.1 hgm with q | q
    · exact hgood g (List.mem_append_left _ q)
    · rcases List.mem_cons.1 q with rfl | q
      · exact ⟨cell_set_same (hcell _ _ (h.fld f (by simp)).1), own_set ho hnb _, hnb⟩
      · exact hgood g (List.mem_append_right _ q)
  · rw [List.pairwise_append, List.pairwise_cons] at hap ⊢
    obtain ⟨p1, ⟨p2, p3⟩, p4⟩ := hap
    refine ⟨p1, ⟨fun g hgm k hk e => ?_, p3⟩, fun g hg1 g' hg' k hk => ?_⟩
    · exact hold g (by simp [hgm]) k e hk
    · rcases List.mem_cons.1 hg' with rfl | hg'
      · exact hold g (by simp [hg1]) k hk
      · exact p4 g hg1 g' (by simp [hg']) k hk
  · simpa using hoffs
end Go.Proofs.YtecbbbaafcoliaaDoor
/- The walk of Memory.Alloc: whatever it answers. -/
namespace Go.Proofs.YtecbbbaafcoliaaDoor
open Go.RowKit
set_option linter.unusedVariables false
set_option linter.unusedSimpArgs false

def APost (w : World) (B b : Nat) (M : Mem) (S : Sls) (E : Nat → Addr) (kind : Int) (fs : List Int) (e : Ending) (w' : World) : Prop :=
  (allocC M kind fs ≠ 0 ∧ e = .returned (.tuple #[.int .u64 0, errC E (allocC M kind fs)]) ∧ Ext w w') ∨
  (allocC M kind fs = 0 ∧ e = .returned (.tuple #[.int .u64 (addrW ((M.base + M.top.toNat : Nat) : Int)), .nilIface]) ∧ OMem w' B b 72 (allocM M kind fs) S ∧ Keep (OwnL b S) w w' ∧ goodB M = true ∧ M.base + M.top.toNat + 1 + fs.length ≤ M.W.length)
theorem alloc_any (B b : Nat) (M : Mem) (S : Sls) (E : Nat → Addr) (kind : Int) (fa : Option Addr) (fs : List Int) (fc : Nat) (w : World) (hO : OMem w B b 72 M S) (hok : M.Ok) (hE : G4 E w)
    (hfl : fs.length ≤ 9223372036854775807) (hR : RSl w fa (wcells fs)) (hfb : ∀ x ∈ fs, 0 ≤ x ∧ x ≤ 18446744073709551615) (hno : ∀ x, fa = some x → ¬ OwnL b S x.block) :
    Calls Tryd.prog 17 #[.pointer (some ⟨b, 0, none⟩), .int .i64 kind, .slice fa fs.length fc] w (APost w B b M S E kind fs) := by
  have hM := hO.mem hok
  by_cases h : chk M = 0
  · by_cases hb : kind < 0 ∨ 255 < kind ∨ 4096 < fs.length
    · have e : allocC M kind fs = 2 := by unfold allocC; rw [if_neg (by simp [h]), if_pos hb]
      refine (alloc_bound b 0 M S E kind fa fs.length fc w hM hE h hfl (by omega)).mono fun en w' ⟨he, hx⟩ => Or.inl ⟨by omega, by rw [e]; exact he, hx⟩
    · by_cases hf : rawB kind = false ∧ fieldsB (startsM M) fs = false
      · have e : allocC M kind fs = 3 := by unfold allocC; rw [if_neg (by simp [h]), if_neg hb, if_pos hf]
        exact (alloc_shape b 0 M S E kind fa fs fc w hM hE h (by omega) (by omega) (by omega) hf.1 hf.2 hR hfb).mono fun en w' ⟨he, hx⟩ => Or.inl ⟨by omega, by rw [e]; exact he, hx⟩
      · have hf' : rawB kind = true ∨ fieldsB (startsM M) fs = true := by
          cases h1 : rawB kind <;> cases h2 : fieldsB (startsM M) fs <;> simp_all
        by_cases hfull : M.half < M.top + 1 + (fs.length : Int)
        · have e : allocC M kind fs = 6 := by unfold allocC; rw [if_neg (by simp [h]), if_neg hb, if_neg hf, if_pos hfull]
          exact (alloc_full b 0 M S E kind fa fs fc w hM hE h (by omega) (by omega) (by omega) hf' hR hfb hfull).mono fun en w' ⟨he, hx⟩ => Or.inl ⟨by omega, by rw [e]; exact he, hx⟩
        · have e : allocC M kind fs = 0 := by unfold allocC; rw [if_neg (by simp [h]), if_neg hb, if_neg hf, if_neg hfull]
          obtain ⟨hs, -⟩ := good_parts (chk_zero h).1
          obtain ⟨q1, q2, q3⟩ := hs.base
          have hw := hs.w
          have ht := hs.t1
          have hh := hs.h1
          have ho := hs.o1
          exact (alloc_yes B b M S E kind fa fs fc w hO hok hE h (by omega) (by omega) (by omega) hf' hR hfb hno hfull).mono fun en w' ⟨he, h1, h2⟩ => Or.inr ⟨e, he, h1, h2, (chk_zero h).1, by omega⟩
  · have e : allocC M kind fs = chk M := by unfold allocC; rw [if_pos h]
    exact (alloc_chk b 0 M S E kind fa fs.length fc w hM hE h).mono fun en w' ⟨he, hx⟩ => Or.inl ⟨by rw [e]; exact h, by rw [e]; exact he, hx⟩
/-- A memory's own step leaves all below its base. -/
theorem Keep.belowO {w w' : World} {B b : Nat} {tI : TypeId} {M : Mem} {S : Sls} (h : Keep (OwnL b S) w w') (hO : OMem w B b tI M S) (hB : B ≤ w.heap.size) : Below B w w' :=
  h.below hB fun k hk hl => by have := (hO.ownL hl).1; omega
theorem OMem.hbs {w : World} {B b : Nat} {tI : TypeId} {M : Mem} {S : Sls} (h : OMem w B b tI M S) : B ≤ w.heap.size := by
  have h1 := h.hb
  have h2 := OM.lt h
  omega
/-- A ROOT MORE. -/
theorem OMem.pushRoot {w w1 : World} {B b : Nat} {tI : TypeId} {M : Mem} {S : Sls} (h : OMem w B b tI M S) (x : Int) (a' : Option Addr) (c' : Nat) (hg : w.grownBy w1 (Value.slice S.R.1 M.roots.length S.R.2).ownBlock)
    (ho : w1.ownsRow B 30 1 (.slice a' (M.roots.length + 1) c') (M.roots.length + 1) (wcells M.roots ++ [.int .u64 x])) (hn : (Value.slice a' (M.roots.length + 1) c').ownBlock = (Value.slice S.R.1 M.roots.length S.R.2).ownBlock ∨ (Value.slice a' (M.roots.length + 1) c').ownBlock = some w.heap.size) :
    OMem (w1.setCell ⟨b, 7, none⟩ (.slice a' (M.roots.length + 1) c')) B b tI { M with roots := M.roots ++ [x] } { S with R := (a', c') } := by
  have := OM.push (L1 := (memFlds tI M S).take 1) (L2 := (memFlds tI M S).drop 2) (f := ⟨7, 30, 1, S.R.1, M.roots.length, S.R.2, wcells M.roots⟩) h a' (M.roots.length + 1) c' _ hg ho hn
  unfold OMem memFlds
  rw [show wcells (M.roots ++ [x]) = wcells M.roots ++ [.int .u64 x] from by simp [wcells], show (M.roots ++ [x]).length = M.roots.length + 1 from by simp]
  exact this
end Go.Proofs.YtecbbbaafcoliaaDoor
/- The box of a memory's fields: an own memory too, without numbered objects. -/
namespace Go.Proofs.YtecbbbaafcoliaaDoor
open Go.RowKit
set_option linter.unusedVariables false
set_option linter.unusedSimpArgs false

def partFlds (tI : TypeId) (M : Mem) (S : Sls) (a : Option Addr) (k c : Nat) : List Fld := [⟨3, 30, 1, S.W.1, M.W.length, S.W.2, wcells M.W⟩, ⟨7, 30, 1, S.R.1, M.roots.length, S.R.2, wcells M.roots⟩, ⟨8, 30, 1, S.K.1, M.weak.length, S.K.2, wcells M.weak⟩, ⟨9, tI, 2, a, k, c, icells (M.ids.take k)⟩, ⟨10, 4, 1, S.C.1, M.cards.length, S.C.2, bcells M.cards⟩]
theorem om_box {W : World} {B bx : Nat} {tK : TypeId} (tI t : TypeId) {M : Mem} {S : Sls} (h : OMem W B bx tK M S) :
    OM (W.alloc (.cells #[Value.int .i64 M.half, .int .i64 M.old, .int .i64 M.card, .slice S.W.1 M.W.length S.W.2, .int .i64 M.used, .int .i64 M.top, .int .i64 M.oldTop, .slice S.R.1 M.roots.length S.R.2, .slice S.K.1 M.weak.length S.K.2, .slice none 0 0, .slice S.C.1 M.cards.length S.C.2] t)) B W.heap.size (memNums M) (partFlds tI M S none 0 0) := by
  have hc : ∀ j v, (#[Value.int .i64 M.half, .int .i64 M.old, .int .i64 M.card, .slice S.W.1 M.W.length S.W.2, .int .i64 M.used, .int .i64 M.top, .int .i64 M.oldTop, .slice S.R.1 M.roots.length S.R.2, .slice S.K.1 M.weak.length S.K.2, .slice none 0 0, .slice S.C.1 M.cards.length S.C.2] : Array Value)[j]? = some v → (W.alloc (.cells #[Value.int .i64 M.half, .int .i64 M.old, .int .i64 M.card, .slice S.W.1 M.W.length S.W.2, .int .i64 M.used, .int .i64 M.top, .int .i64 M.oldTop, .slice S.R.1 M.roots.length S.R.2, .slice S.K.1 M.weak.length S.K.2, .slice none 0 0, .slice S.C.1 M.cards.length S.C.2] t)).cell? ⟨W.heap.size, j, none⟩ = some v := fun j v hv => by
    rw [cell_of_row _ W.heap.size j _ t (0, 0) (heap_alloc_new W _)]; exact hv
  have hg : ∀ f ∈ memFlds tK M S, (W.alloc (.cells #[Value.int .i64 M.half, .int .i64 M.old, .int .i64 M.card, .slice S.W.1 M.W.length S.W.2, .int .i64 M.used, .int .i64 M.top, .int .i64 M.oldTop, .slice S.R.1 M.roots.length S.R.2, .slice S.K.1 M.weak.length S.K.2, .slice none 0 0, .slice S.C.1 M.cards.length S.C.2] t)).ownsRow B f.e f.size f.val f.n f.cs ∧ f.val.ownBlock ≠ some W.heap.size := fun f hf => by
    have hr := (h.fld f hf).2.1
    refine ⟨hr.alloc _, fun e => ?_⟩
    have := (hr.lt _ e).2
    omega
  have hap := h.apart
  refine ⟨Nat.le_trans h.hb (Nat.le_of_lt h.lt), ⟨_, t, heap_alloc_new W _⟩, fun p hp => ?_, fun f hf => ?_, ?_, by simp [memNums, partFlds]⟩
  · simp only [memNums, List.mem_cons, List.not_mem_nil, or_false] at hp
    rcases hp with rfl | rfl | rfl | rfl | rfl | rfl <;> exact hc _ _ rfl
  · simp only [partFlds, List.mem_cons, List.not_mem_nil, or_false] at hf
    rcases hf with rfl | rfl | rfl | rfl | rfl
    · exact ⟨hc _ _ rfl, hg _ (by simp [memFlds])⟩
    · exact ⟨hc _ _ rfl, hg _ (by simp [memFlds])⟩
    · exact ⟨hc _ _ rfl, hg _ (by simp [memFlds])⟩
    · exact ⟨hc _ _ rfl, by show World.ownsRow _ _ _ _ (Value.slice none 0 0) 0 []; exact World.ownsRow_nil _ _ _ _, by simp [Fld.val, Value.ownBlock]⟩
    · exact ⟨hc _ _ rfl, hg _ (by simp [memFlds])⟩
  · simp only [memFlds, List.pairwise_cons, List.mem_cons, List.not_mem_nil, or_false, forall_eq_or_imp, forall_eq] at hap
    simp only [partFlds, List.pairwise_cons, List.mem_cons, List.not_mem_nil, or_false, forall_eq_or_imp, forall_eq]
    obtain ⟨⟨p1, p2, p3, p4⟩, ⟨p5, p6, p7⟩, ⟨p8, p9⟩, p10, _⟩ := hap
    exact ⟨⟨p1, p2, fun k _ => by simp [Fld.val, Value.ownBlock], p4⟩, ⟨p5, fun k _ => by simp [Fld.val, Value.ownBlock], p7⟩, ⟨fun k _ => by simp [Fld.val, Value.ownBlock], p9⟩, fun k hk => by simp [Fld.val, Value.ownBlock] at hk, fun _ h => h.elim, List.Pairwise.nil⟩
theorem rsl_made (W : World) (t : TypeId) (y1 y2 : Int) : RSl (W.alloc (.cells #[.int .u64 y1, .int .i64 y2] t)).drew (some ⟨W.heap.size, 0, none⟩) (icells [(y1, y2)]) := by
  have h : RSl (W.alloc (.cells #[.int .u64 y1, .int .i64 y2] t)) (some ⟨W.heap.size, 0, none⟩) (icells [(y1, y2)]) := fun j u hu => ⟨_, 0, rfl, by
    rw [Nat.zero_add, cell_of_row _ W.heap.size j _ t (0, 0) (heap_alloc_new W _)]
    simpa [icells] using hu⟩
  exact h.ext (Ext.refl _).drew_
end Go.Proofs.YtecbbbaafcoliaaDoor
