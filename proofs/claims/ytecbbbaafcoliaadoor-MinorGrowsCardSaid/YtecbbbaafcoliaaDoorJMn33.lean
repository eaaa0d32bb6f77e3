/- The document's FieldsOK; coded at an error by its number; memOf and Alloc at nil; what was appended to nothing lies apart. -/
import Derived.Test.YtecbbbaafcoliaaDoorJMn19
import Derived.Test.YtecbbbaafcoliaaDoorJMn31
import Derived.Test.YtecbbbaafcoliaaDoorJMn23
import Derived.Test.YtecbbbaafcoliaaDoorJMn32
import Derived.Test.YtecbbbaafcoliaaDoorJMn30
import Derived.Test.YtecbbbaafcoliaaDoorJMn08
import Derived.Deep.RegionHeld3
import Derived.Laws.OwnMore
import Derived.IntWalk
import Derived.Test.YtecbbbaafcoliaaDoorJMn13
import Derived.Test.YtecbbbaafcoliaaDoorJMn21
import Derived.Test.YtecbbbaafcoliaaDoorJMn22
namespace Go.Proofs.YtecbbbaafcoliaaDoor
open Go.RowKit
set_option linter.unusedVariables false
set_option linter.unusedSimpArgs false

theorem coded_c {E : Nat → Addr} {w : World} (h : ErrEnv E w) (c : Int) (h1 : 1 ≤ c) (h2 : c ≤ 7) :
    Calls Tryd.prog 30 #[errC E c, .int .i64 c] w fun e w' => e = .returned (.bool true) ∧ Ext w w' := by
  rw [errC_pos E c (by omega)]
  refine (coded_env h (c - 1).toNat (by omega) c).mono fun e w' ⟨he, hx⟩ => ⟨?_, hx⟩
  rw [he, show ((((c - 1).toNat : Nat) : Int) + 1) = c by omega]
  simp
theorem memOf_nil (w : World) : Calls Tryd.prog 13 #[.pointer none] w fun e w' => e = .returned (.pointer none) ∧ w' = w := by
  go_enter Tryd.func13, Tryd.ntmps13
  go_wp2
  go_ret
  exact ⟨rfl, rfl⟩
set_option maxRecDepth 100000 in
theorem alloc_nil (kind : Int) (fa : Option Addr) (fn fc : Nat) (E : Nat → Addr) (w : World) (hE : G3 E w) :
    Calls Tryd.prog 17 #[.pointer none, .int .i64 kind, .slice fa fn fc] w fun e w' => e = .returned (.tuple #[.int .u64 0, errC E 3]) ∧ Ext w w' := by
  have HS := Lib.hid hE.shape
  clear hE
  go_enter Tryd.func17, Tryd.ntmps17
  go_wp2_with (go_at_call 24; refine (check_nil _ (E 2) HS.out).mono ?_; rintro e w1 ⟨rfl, hq⟩; have HX1 := Lib.hid hq; clear hq)
  go_ret2
  exact ⟨rfl, HX1.out⟩
theorem alloc_bad (B b : Nat) (M : Mem) (S : Sls) (E : Nat → Addr) (kind : Int) (fa : Option Addr) (fs : List Int) (fc : Nat) (w : World) (hO : OMem w B b 72 M S) (hok : M.Ok) (hE : G4 E w)
    (hfl : fs.length ≤ 9223372036854775807) (hR : RSl w fa (wcells fs)) (hfb : ∀ x ∈ fs, 0 ≤ x ∧ x ≤ 18446744073709551615) (hno : ∀ x, fa = some x → ¬ OwnL b S x.block) (c : Int) (hc : allocC M kind fs = c) (h0 : c ≠ 0) :
    Calls Tryd.prog 17 #[.pointer (some ⟨b, 0, none⟩), .int .i64 kind, .slice fa fs.length fc] w fun e w' => e = .returned (.tuple #[.int .u64 0, errC E c]) ∧ Ext w w' := by
  refine (alloc_any B b M S E kind fa fs fc w hO hok hE hfl hR hfb hno).mono ?_
  rintro e w' (⟨h1, h2, h3⟩ | ⟨h1, -⟩)
  · rw [hc] at h2; exact ⟨h2, h3⟩
  · exact absurd (hc ▸ h1) h0
set_option maxRecDepth 100000 in
theorem kFieldsOK_any (b o : Nat) (M : Mem) (S : Sls) (hg : goodB M = true) (fa : Option Addr) (fc : Nat) (fs : List Int) (hfl : fs.length ≤ 9223372036854775807) (hfb : ∀ x ∈ fs, 0 ≤ x ∧ x ≤ 18446744073709551615) (w : World) (hM : RMem w b o M S) (hR : RSl w fa (wcells fs)) :
    Calls Tryd.prog 29 #[.pointer (some ⟨b, o, none⟩), .slice fa fs.length fc] w fun e w' => e = .returned (.bool (fieldsB (startsM M) fs)) ∧ Ext w w' := by
  obtain ⟨hs, hob, -⟩ := good_parts hg
  have HKB : Hid (((kN M).2 && (kO M).2) = true) := by
    cases hb : ((kN M).2 && (kO M).2) with
    | true => rfl
    | false => have := kAll_bad hb; rw [this] at hob; cases hob
  obtain ⟨l, hl⟩ : ∃ l, l = objsAll M := ⟨_, rfl⟩
  have HLI : Hid ((kN M).1 ++ (kO M).1 = l) := by rw [Hid, hl]; exact (kAll_ok HKB.out).1
  have HATS : Hid (ats l = startsM M) := by rw [Hid, hl]; rfl
  have HLT : Hid (∀ x ∈ l, (x.a : Int) < 1099511627776) := fun x hx => (starts_in M hs _ (by rw [← HATS.out]; exact List.mem_map_of_mem hx)).2
  have HLN : Hid (l.length ≤ 9223372036854775807) := by
    have h1 := partK_len M.W M.base (M.base + M.top.toNat)
    have h2 := partK_len M.W (2 * M.half).toNat ((2 * M.half).toNat + M.oldTop.toNat)
    have h3 := congrArg List.length HLI.out
    rw [List.length_append] at h3
    have e1 : (kN M).1 = (partK M.W M.base (M.base + M.top.toNat)).1 := rfl
    have e2 : (kO M).1 = (partK M.W (2 * M.half).toNat ((2 * M.half).toNat + M.oldTop.toNat)).1 := rfl
    rw [e1, e2] at h3
    have h4 := hs.t2; have h5 := hs.p2; have h6 := hs.h2; have h7 := hs.o2; have h8 := hs.t1; have h9 := hs.p1
    unfold Hid; omega
  have HS := Lib.hid hs
  have HM := Lib.hid hM
  have HR := Lib.hid hR
  have HFB := Lib.hid hfb
  have HFL := Lib.hid hfl
  clear hs hob hl hM hR hfb hg hfl
  go_enter Tryd.func29, Tryd.ntmps29
  go_wp2_with (first
    | (go_at_call 19; refine (kAll_walk b o M S HS.out _ HM.out).mono ?_; rintro e w4 ⟨la, lc, he, hown, hq⟩; rw [HKB.out, HLI.out] at he; rw [HLI.out] at hown; subst he; have HB4 := Lib.hid hq; have HLR := Lib.hid (own_rsl hown); clear hq hown)
    | (go_at_call 47; refine (fieldsOK_any fa fc fs HFL.out HFB.out la lc l _ HLN.out (HR.out.ext HB4.out) HLR.out HLT.out).mono ?_; rintro e w' ⟨rfl, hw9⟩; have hw9 := hw9.symm; subst hw9))
  go_ret
  exact ⟨by rw [HATS.out]; rfl, HB4.out⟩
theorem not_ownW {w w' : World} {B bx : Nat} {tI : TypeId} {M : Mem} {S : Sls} (h : OMem w B bx tI M S) {la : Option Addr} {lc n : Nat} {e : TypeId} {size : Nat} {cs : List Value} (hl : w'.ownsRow w.heap.size e size (.slice la n lc) n cs) : ∀ y, la = some y → ¬ OwnL bx S y.block := fun y hy hk => by
  have h1 := (h.ownL hk).2
  rcases hl.2 with ⟨h2, _⟩ | ⟨g, cap, cur, h2, hg, _⟩
  · injection h2 with h2
    rw [hy] at h2; cases h2
  · injection h2 with h2
    rw [hy] at h2
    injection h2 with h2
    rw [h2] at h1
    simp only at h1
    omega
end Go.Proofs.YtecbbbaafcoliaaDoor
/- The walk of mem.New. -/
namespace Go.Proofs.YtecbbbaafcoliaaDoor
open Go.RowKit
set_option linter.unusedVariables false
set_option linter.unusedSimpArgs false

theorem n1_any (a hi : Int) (w : World) : Calls Tryd.prog 83 #[.int .i64 a, .int .i64 hi] w fun e w' => e = .returned (.bool (inR a 1 hi)) ∧ w' = w := by
  by_cases h : 1 ≤ a
  · have e : inR a 1 hi = decide (a ≤ hi) := by simp [inR, h]
    rw [e]
    go_enter Tryd.func83, Tryd.ntmps83
    go_wp2
    go_ret
    exact ⟨rfl, rfl⟩
  · have e : inR a 1 hi = false := by simp [inR, h]
    rw [e]
    go_enter Tryd.func83, Tryd.ntmps83
    go_wp2
    go_ret
    exact ⟨rfl, rfl⟩
def newOK (half old card : Int) : Bool := inR half 1 65536 && inR old 1 65536 && inR card 1 1024
theorem new_no (half old card : Int) (h : newOK half old card = false) (w : World) (gb : Addr) (hG : GBound w gb) :
    Calls Tryd.prog 35 #[.int .i64 half, .int .i64 old, .int .i64 card] w fun e w' => e = .returned (.tuple #[.pointer none, errV gb]) ∧ Ext w w' := by
  have h3 : inR half 1 65536 = false ∨ (inR half 1 65536 = true ∧ inR old 1 65536 = false) ∨ (inR half 1 65536 = true ∧ inR old 1 65536 = true ∧ inR card 1 1024 = false) := by
    revert h; unfold newOK; cases inR half 1 65536 <;> cases inR old 1 65536 <;> cases inR card 1 1024 <;> simp
  clear h
  rcases h3 with h1 | ⟨h1, h2⟩ | ⟨h1, h2, h3⟩
  all_goals
    go_enter Tryd.func35, Tryd.ntmps35
    go_wp2_with (go_at_call 83; refine (n1_any _ _ _).mono ?_; rintro e w' ⟨rfl, rfl⟩)
    go_quiet (fail)
    go_wp2
    go_ret2
    exact ⟨rfl, ext_drewN _ _⟩
/-- A new memory. -/
def newM (half old card : Int) : Mem := ⟨half, old, card, List.replicate (2 * half + old).toNat 0, 0, 0, 0, [], [], [], List.replicate ((old + card - 1) / card).toNat false⟩
theorem infoU : (Tryd.prog.info? 30).map (fun i => (i.zero, i.size, i.bytes)) = some (some (.int .u64 0), 1, 8) := by kernel_rfl
theorem infoB : (Tryd.prog.info? 4).map (fun i => (i.zero, i.size, i.bytes)) = some (some (.bool false), 1, 1) := by kernel_rfl
theorem undUs : Tryd.prog.underlying 35 = some (.slice 30) := by kernel_rfl
theorem undBs : Tryd.prog.underlying 37 = some (.slice 4) := by kernel_rfl
def NewPost (w : World) (M : Mem) (e : Ending) (w' : World) : Prop :=
  ∃ b S, e = .returned (.tuple #[.pointer (some ⟨b, 0, none⟩), .nilIface]) ∧ OMem w' w.heap.size b 72 M S ∧ Ext w w'
theorem om_made {wb : World} (B : Nat) (half old card : Int) (t tI : TypeId) (n1 n2 gW gC : Nat) (hn1 : n1 = (2 * half + old).toNat) (hn2 : n2 = ((old + card - 1) / card).toNat) (hB : B ≤ wb.heap.size) (hne : gW ≠ gC)
    (ho1 : wb.ownsRow B 30 1 (.slice (some ⟨gW, 0, none⟩) n1 n1) n1 (madeCells (Value.int .u64 0).cells (n1 * 1)).toList)
    (ho2 : wb.ownsRow B 4 1 (.slice (some ⟨gC, 0, none⟩) n2 n2) n2 (madeCells (Value.bool false).cells (n2 * 1)).toList) :
    OMem (wb.alloc (.cells #[.int .i64 half, .int .i64 old, .int .i64 card, .slice (some ⟨gW, 0, none⟩) n1 n1, .int .i64 0, .int .i64 0, .int .i64 0, .slice none 0 0, .slice none 0 0, .slice none 0 0, .slice (some ⟨gC, 0, none⟩) n2 n2] t)) B wb.heap.size tI (newM half old card)
      ⟨(some ⟨gW, 0, none⟩, n1), (none, 0), (none, 0), (none, 0), (some ⟨gC, 0, none⟩, n2)⟩ := by
  have e1 : (madeCells (Value.int .u64 0).cells (n1 * 1)).toList = wcells (newM half old card).W := by
    rw [show (Value.int .u64 0).cells = #[Value.int .u64 0] from rfl, Nat.mul_one, toList_madeCells_one]; simp [wcells, newM, hn1]
  have e2 : (madeCells (Value.bool false).cells (n2 * 1)).toList = bcells (newM half old card).cards := by
    rw [show (Value.bool false).cells = #[Value.bool false] from rfl, Nat.mul_one, toList_madeCells_one]; simp [bcells, newM, hn2]
  have l1 : (newM half old card).W.length = n1 := by simp [newM, hn1]
  have l2 : (newM half old card).cards.length = n2 := by simp [newM, hn2]
  have lt1 : gW < wb.heap.size := (ho1.lt gW rfl).2
  have lt2 : gC < wb.heap.size := (ho2.lt gC rfl).2
  have hc : ∀ j v, (#[Value.int .i64 half, .int .i64 old, .int .i64 card, .slice (some ⟨gW, 0, none⟩) n1 n1, .int .i64 0, .int .i64 0, .int .i64 0, .slice none 0 0, .slice none 0 0, .slice none 0 0, .slice (some ⟨gC, 0, none⟩) n2 n2] : Array Value)[j]? = some v → (wb.alloc (.cells #[.int .i64 half, .int .i64 old, .int .i64 card, .slice (some ⟨gW, 0, none⟩) n1 n1, .int .i64 0, .int .i64 0, .int .i64 0, .slice none 0 0, .slice none 0 0, .slice none 0 0, .slice (some ⟨gC, 0, none⟩) n2 n2] t)).cell? ⟨wb.heap.size, j, none⟩ = some v := fun j v hv => by
    rw [cell_of_row _ wb.heap.size j _ t (0, 0) (heap_alloc_new wb _)]; exact hv
  have r1 := ho1.alloc (.cells #[.int .i64 half, .int .i64 old, .int .i64 card, .slice (some ⟨gW, 0, none⟩) n1 n1, .int .i64 0, .int .i64 0, .int .i64 0, .slice none 0 0, .slice none 0 0, .slice none 0 0, .slice (some ⟨gC, 0, none⟩) n2 n2] t)
  have r2 := ho2.alloc (.cells #[.int .i64 half, .int .i64 old, .int .i64 card, .slice (some ⟨gW, 0, none⟩) n1 n1, .int .i64 0, .int .i64 0, .int .i64 0, .slice none 0 0, .slice none 0 0, .slice none 0 0, .slice (some ⟨gC, 0, none⟩) n2 n2] t)
  rw [e1] at r1
  rw [e2] at r2
  refine ⟨hB, ⟨_, t, heap_alloc_new wb _⟩, fun p hp => ?_, fun f hf => ?_, ?_, ?_⟩
  · simp only [memNums, List.mem_cons, List.not_mem_nil, or_false] at hp
    rcases hp with rfl | rfl | rfl | rfl | rfl | rfl <;> exact hc _ _ rfl
  · simp only [memFlds, List.mem_cons, List.not_mem_nil, or_false] at hf
    rcases hf with rfl | rfl | rfl | rfl | rfl
    · refine ⟨?_, ?_, ?_⟩
      · simp only [Fld.val, l1]; exact hc _ _ rfl
      · simp only [Fld.val, l1]; exact r1
      · simp [Fld.val, Value.ownBlock]; omega
    · exact ⟨hc _ _ rfl, World.ownsRow_nil _ _ _ _, by simp [Fld.val, Value.ownBlock]⟩
    · exact ⟨hc _ _ rfl, World.ownsRow_nil _ _ _ _, by simp [Fld.val, Value.ownBlock]⟩
    · exact ⟨hc _ _ rfl, World.ownsRow_nil _ _ _ _, by simp [Fld.val, Value.ownBlock]⟩
    · refine ⟨?_, ?_, ?_⟩
      · simp only [Fld.val, l2]; exact hc _ _ rfl
      · simp only [Fld.val, l2]; exact r2
      · simp [Fld.val, Value.ownBlock]; omega
  · simp [memFlds, Fld.val, Value.ownBlock]; exact fun e => hne e.symm
  · simp [memFlds, memNums]

set_option maxRecDepth 100000 in
set_option maxHeartbeats 4000000 in
theorem new_yes (half old card : Int) (h : newOK half old card = true) (w : World) :
    Calls Tryd.prog 35 #[.int .i64 half, .int .i64 old, .int .i64 card] w (NewPost w (newM half old card)) := by
  simp only [newOK, Bool.and_eq_true] at h
  obtain ⟨⟨h1, h2⟩, h3⟩ := h
  obtain ⟨a1, a2⟩ := inR_true.1 h1
  obtain ⟨a3, a4⟩ := inR_true.1 h2
  obtain ⟨a5, a6⟩ := inR_true.1 h3
  obtain ⟨i0, hi0, h0a, h0b, h0c⟩ := info_parts infoU
  obtain ⟨i4, hi4, h4a, h4b, h4c⟩ := info_parts infoB
  have q0 : 0 ≤ (old + card - 1) / card := Int.ediv_nonneg (by omega) (by omega)
  have q1 : (old + card - 1) / card ≤ old + card - 1 := Int.ediv_le_self _ (by omega)
  obtain ⟨n1, hn1⟩ : ∃ n : Nat, 2 * half + old = n := ⟨(2 * half + old).toNat, by omega⟩
  obtain ⟨n2, hn2⟩ : ∃ n : Nat, (old + card - 1) / card = n := ⟨((old + card - 1) / card).toNat, by omega⟩
  have e0 : IntKind.i64.wrap (2 * half) = 2 * half := IntWalk.i64_in _ (by omega)
  have e1 : IntKind.i64.wrap (2 * half + old) = (n1 : Int) := by rw [IntWalk.i64_in _ (by omega)]; exact hn1
  have e2 : IntKind.i64.wrap (old + card) = old + card := IntWalk.i64_in _ (by omega)
  have e3 : IntKind.i64.wrap (old + card - 1) = old + card - 1 := IntWalk.i64_in _ (by omega)
  have e4 : (old + card - 1).tdiv card = (n2 : Int) := by rw [Int.tdiv_eq_ediv_of_nonneg (by omega)]; exact hn2
  have e5 : IntKind.i64.wrap (n2 : Int) = (n2 : Int) := IntWalk.i64_in _ (by omega)
  have e8 : (card == 0) = false := by simp; omega
  have e9 : ¬ card = 0 := by omega
  have z1 : n1 = (2 * half + old).toNat := by omega
  have z2 : n2 = ((old + card - 1) / card).toNat := by omega
  obtain ⟨wa, hr1, ho1, hg1⟩ := run_make_full (P := Tryd.prog) w.drew w.heap.size 35 30 i0 (.int .u64 0) 1 undUs hi0 h0a h0b .i64 .i64 n1 (by rw [h0c]; omega) (by unfold maxLen; omega) (Nat.le_refl _)
  obtain ⟨wb, hr2, ho2, hg2⟩ := run_make_full (P := Tryd.prog) wa w.heap.size 37 4 i4 (.bool false) 1 undBs hi4 h4a h4b .i64 .i64 n2 (by rw [h4c]; omega) (by unfold maxLen; omega) hg1.size
  obtain ⟨va, hs1, hp1, hh1⟩ := run_make_full (P := Tryd.prog) w.drew w.heap.size 37 4 i4 (.bool false) 1 undBs hi4 h4a h4b .i64 .i64 n2 (by rw [h4c]; omega) (by unfold maxLen; omega) (Nat.le_refl _)
  obtain ⟨vb, hs2, hp2, hh2⟩ := run_make_full (P := Tryd.prog) va w.heap.size 35 30 i0 (.int .u64 0) 1 undUs hi0 h0a h0b .i64 .i64 n1 (by rw [h0c]; omega) (by unfold maxLen; omega) hh1.size
  have lt1 : w.heap.size < wa.heap.size := (ho1.lt w.drew.heap.size rfl).2
  have lt2 : w.heap.size < va.heap.size := (hp1.lt w.drew.heap.size rfl).2
  have x1 : Ext w wa := Ext.trans_ (Ext.refl w).drew_ (Below.grown (Below.refl _ _) hg1 (Nat.le_refl _) (fun k hk => by cases hk))
  have x2 : Ext w wb := Ext.trans_ x1 (Below.grown (Below.refl _ _) hg2 (Nat.le_refl _) (fun k hk => by cases hk))
  have x3 : Ext w va := Ext.trans_ (Ext.refl w).drew_ (Below.grown (Below.refl _ _) hh1 (Nat.le_refl _) (fun k hk => by cases hk))
  have x4 : Ext w vb := Ext.trans_ x3 (Below.grown (Below.refl _ _) hh2 (Nat.le_refl _) (fun k hk => by cases hk))
  have HOM := Lib.hid (om_made (wb := wb) w.heap.size half old card 39 72 n1 n2 w.heap.size wa.heap.size z1 z2 x2.size (by omega) (ho1.kept hg2 (Or.inr (by simp [Value.ownBlock]))) ho2)
  have HOV := Lib.hid (om_made (wb := vb) w.heap.size half old card 39 72 n1 n2 va.heap.size w.heap.size z1 z2 x4.size (by omega) hp2 (hp1.kept hh2 (Or.inr (by simp [Value.ownBlock]))))
  have X2 := Lib.hid x2
  have X4 := Lib.hid x4
  clear ho1 hg1 ho2 hg2 x1 x2 x3 x4 hp1 hp2 hh1 hh2 hn1 hn2 z1 z2 q0 q1 lt1 lt2
  go_enter Tryd.func35, Tryd.ntmps35
  go_wp2_with (go_at_call 83; refine (n1_any _ _ _).mono ?_; rintro e w' ⟨rfl, rfl⟩)
  refine wp_region_held_drew (S := fun _ => True) (by kernel_rfl) ?_ (fun hHeld => ?_)
  · trivial
  refine wpAnyH_take (i := 0) (oi := ⟨some 26, _, _, _, _, _⟩) (v := ?_) rfl (by kernel_rfl) (by kernel_rfl) (by kernel_rfl) (fun _ _ _ h => h) (Or.inl ⟨by rfl, ?_⟩) (by assumption) ?_
  rotate_left
  · (intro w hSw; (try dsimp only at hSw); go_simp; try with_reducible rfl)
  try simp only [Act.put, List.setIfInBounds_toArray, List.set_cons_zero, List.set_cons_succ]
  refine wpAnyH_take (i := 1) (oi := ⟨some 27, _, _, _, _, _⟩) (v := ?_) rfl (by kernel_rfl) (by kernel_rfl) (by kernel_rfl) (fun _ _ _ h => h) (Or.inl ⟨by rfl, ?_⟩) (by assumption) ?_
  rotate_left
  · (intro w hSw; (try dsimp only at hSw); go_simp; try with_reducible rfl)
  try simp only [Act.put, List.setIfInBounds_toArray, List.set_cons_zero, List.set_cons_succ]
  refine wpAnyH_take (i := 2) (oi := ⟨some 28, _, _, _, _, _⟩) (v := ?_) rfl (by kernel_rfl) (by kernel_rfl) (by kernel_rfl) (fun _ _ _ h => h) (Or.inl ⟨by rfl, ?_⟩) (by assumption) ?_
  rotate_left
  · (intro w hSw; (try dsimp only at hSw); go_simp; try with_reducible rfl)
  try simp only [Act.put, List.setIfInBounds_toArray, List.set_cons_zero, List.set_cons_succ]
  refine wpAnyH_take (i := 3) (oi := ⟨some 29, _, _, _, _, _⟩) (v := ?_) rfl (by kernel_rfl) (by kernel_rfl) (by kernel_rfl) (fun _ _ _ h => h) (Or.inl ⟨by rfl, ?_⟩) (by assumption) ?_
  rotate_left
  · (intro w hSw; (try dsimp only at hSw); go_simp; try with_reducible rfl)
  try simp only [Act.put, List.setIfInBounds_toArray, List.set_cons_zero, List.set_cons_succ]
  refine wpAnyH_take (i := 4) (oi := ⟨some 30, _, _, _, _, _⟩) (v := ?_) rfl (by kernel_rfl) (by kernel_rfl) (by kernel_rfl) (fun _ _ _ h => h) (Or.inl ⟨by rfl, ?_⟩) (by assumption) ?_
  rotate_left
  · (intro w hSw; (try dsimp only at hSw); go_simp; try with_reducible rfl)
  try simp only [Act.put, List.setIfInBounds_toArray, List.set_cons_zero, List.set_cons_succ]
  refine wpAnyH_take (i := 5) (oi := ⟨some 31, _, _, _, _, _⟩) (v := ?_) rfl (by kernel_rfl) (by kernel_rfl) (by kernel_rfl) (fun _ _ _ h => h) (Or.inl ⟨by rfl, ?_⟩) (by assumption) ?_
  rotate_left
  · (intro w hSw; (try dsimp only at hSw); go_simp; try with_reducible rfl)
  try simp only [Act.put, List.setIfInBounds_toArray, List.set_cons_zero, List.set_cons_succ]
  refine wpAnyH_take (i := 6) (oi := ⟨some 32, _, _, _, _, _⟩) (v := ?_) rfl (by kernel_rfl) (by kernel_rfl) (by kernel_rfl) (fun _ _ _ h => h) (Or.inl ⟨by rfl, ?_⟩) (by assumption) ?_
  rotate_left
  · (intro w hSw; (try dsimp only at hSw); go_simp; try with_reducible rfl)
  try simp only [Act.put, List.setIfInBounds_toArray, List.set_cons_zero, List.set_cons_succ]
  refine wpAnyH_take (i := 8) (oi := ⟨some 34, _, _, _, _, _⟩) (v := ?_) rfl (by kernel_rfl) (by kernel_rfl) (by kernel_rfl) (fun _ _ _ h => h) (Or.inl ⟨by rfl, ?_⟩) (by assumption) ?_
  rotate_left
  · (intro w hSw; (try dsimp only at hSw); go_simp; try with_reducible rfl)
  try simp only [Act.put, List.setIfInBounds_toArray, List.set_cons_zero, List.set_cons_succ]
  refine wpAnyH_take (i := 9) (oi := ⟨some 35, _, _, _, _, _⟩) (v := ?_) rfl (by kernel_rfl) (by kernel_rfl) (by kernel_rfl) (fun _ _ _ h => h) (Or.inl ⟨by rfl, ?_⟩) (by assumption) ?_
  rotate_left
  · (intro w hSw; (try dsimp only at hSw); go_simp; try with_reducible rfl)
  try simp only [Act.put, List.setIfInBounds_toArray, List.set_cons_zero, List.set_cons_succ]
  refine wpAnyH_take (i := 10) (oi := ⟨some 36, _, _, _, _, _⟩) (v := ?_) rfl (by kernel_rfl) (by kernel_rfl) (by kernel_rfl) (fun _ _ _ h => h) (Or.inl ⟨by rfl, ?_⟩) (by assumption) ?_
  rotate_left
  · (intro w hSw; (try dsimp only at hSw); go_simp; try with_reducible rfl)
  try simp only [Act.put, List.setIfInBounds_toArray, List.set_cons_zero, List.set_cons_succ]
  refine wpAnyH_take (i := 11) (oi := ⟨some 37, _, _, _, _, _⟩) (v := ?_) rfl (by kernel_rfl) (by kernel_rfl) (by kernel_rfl) (fun _ _ _ h => h) (Or.inl ⟨by rfl, ?_⟩) (by assumption) ?_
  rotate_left
  · (intro w hSw; (try dsimp only at hSw); go_simp; try with_reducible rfl)
  try simp only [Act.put, List.setIfInBounds_toArray, List.set_cons_zero, List.set_cons_succ]
  refine wpAnyH_take (i := 12) (oi := ⟨some 38, _, _, _, _, _⟩) (v := ?_) rfl (by kernel_rfl) (by kernel_rfl) (by kernel_rfl) (fun _ _ _ h => h) (Or.inl ⟨by rfl, ?_⟩) (by assumption) ?_
  rotate_left
  · (intro w hSw; (try dsimp only at hSw); go_simp; try with_reducible rfl)
  try simp only [Act.put, List.setIfInBounds_toArray, List.set_cons_zero, List.set_cons_succ]
  refine wpAnyH_take (i := 13) (oi := ⟨some 39, _, _, _, _, _⟩) (v := ?_) rfl (by kernel_rfl) (by kernel_rfl) (by kernel_rfl) (fun _ _ _ h => h) (Or.inl ⟨by rfl, ?_⟩) (by assumption) ?_
  rotate_left
  · (intro w hSw; (try dsimp only at hSw); go_simp; try with_reducible rfl)
  try simp only [Act.put, List.setIfInBounds_toArray, List.set_cons_zero, List.set_cons_succ]
  refine wpAnyH_ready (rs := [7, 14]) (by kernel_rfl) (by simp) ?_
  refine AllReadyH.cons (o := ⟨some 33, _, _, _, _, _⟩) rfl (fun K hK => ?_) (AllReadyH.cons (o := ⟨some 40, _, _, _, _, _⟩) rfl (fun K hK => ?_) AllReadyH.nil)
  · skip
    go_simp
    refine hK.out _ _ ?_ (fun hHeld => ?_)
    · (try dsimp only); all_goals trivial
    clear hK K
    try simp only [Act.put, List.setIfInBounds_toArray, List.set_cons_zero, List.set_cons_succ]
    refine wpAnyH_ready (rs := [14]) (by kernel_rfl) (by simp) ?_
    refine AllReadyH.cons (o := ⟨some 40, _, _, _, _, _⟩) rfl (fun K hK => ?_) AllReadyH.nil
    go_simp
    skip
    refine hK.out _ _ ?_ (fun hHeld => ?_)
    · (try dsimp only); all_goals trivial
    clear hK K
    try simp only [Act.put, List.setIfInBounds_toArray, List.set_cons_zero, List.set_cons_succ]
    refine wpAnyH_take (i := 15) (oi := ⟨some 41, _, _, _, _, _⟩) (v := ?_) rfl (by kernel_rfl) (by kernel_rfl) (by kernel_rfl) (fun _ _ _ h => h) (Or.inl ⟨by rfl, ?_⟩) (by assumption) ?_
    rotate_left
    · (intro w hSw; (try dsimp only at hSw); go_simp; try with_reducible rfl)
    try simp only [Act.put, List.setIfInBounds_toArray, List.set_cons_zero, List.set_cons_succ]
    refine wpAnyH_ready (rs := [16]) (by kernel_rfl) (by simp) ?_
    refine AllReadyH.cons (o := ⟨some 42, _, _, _, _, _⟩) rfl (fun K hK => ?_) AllReadyH.nil
    go_simp
    skip
    refine hK.out _ _ ?_ (fun hHeld => ?_)
    · (try dsimp only); all_goals trivial
    clear hK K
    try simp only [Act.put, List.setIfInBounds_toArray, List.set_cons_zero, List.set_cons_succ]
    refine wpAnyH_take (i := 17) (oi := ⟨some 6, _, _, _, _, _⟩) (v := ?_) rfl (by kernel_rfl) (by kernel_rfl) (by kernel_rfl) (fun _ _ _ h => h) (Or.inl ⟨by rfl, ?_⟩) (by assumption) ?_
    rotate_left
    · (intro w hSw; (try dsimp only at hSw); go_simp; try with_reducible rfl)
    try simp only [Act.put, List.setIfInBounds_toArray, List.set_cons_zero, List.set_cons_succ]
    refine wpAnyH_take (i := 18) (oi := ⟨some 7, _, _, _, _, _⟩) (v := ?_) rfl (by kernel_rfl) (by kernel_rfl) (by kernel_rfl) (fun _ _ _ h => h) (Or.inl ⟨by rfl, ?_⟩) (by assumption) ?_
    rotate_left
    · (intro w hSw; (try dsimp only at hSw); go_simp; try with_reducible rfl)
    try simp only [Act.put, List.setIfInBounds_toArray, List.set_cons_zero, List.set_cons_succ]
    refine wpAnyH_done (by kernel_rfl) ?_ _
    go_wp2
    go_ret2
    exact ⟨wb.heap.size, _, rfl, HOM.out, Ext.alloc_ X2.out _⟩
  · skip
    go_simp
    refine hK.out _ _ ?_ (fun hHeld => ?_)
    · (try dsimp only); all_goals trivial
    clear hK K
    try simp only [Act.put, List.setIfInBounds_toArray, List.set_cons_zero, List.set_cons_succ]
    refine wpAnyH_ready (rs := [7]) (by kernel_rfl) (by simp) ?_
    refine AllReadyH.cons (o := ⟨some 33, _, _, _, _, _⟩) rfl (fun K hK => ?_) AllReadyH.nil
    go_simp
    skip
    refine hK.out _ _ ?_ (fun hHeld => ?_)
    · (try dsimp only); all_goals trivial
    clear hK K
    try simp only [Act.put, List.setIfInBounds_toArray, List.set_cons_zero, List.set_cons_succ]
    refine wpAnyH_take (i := 15) (oi := ⟨some 41, _, _, _, _, _⟩) (v := ?_) rfl (by kernel_rfl) (by kernel_rfl) (by kernel_rfl) (fun _ _ _ h => h) (Or.inl ⟨by rfl, ?_⟩) (by assumption) ?_
    rotate_left
    · (intro w hSw; (try dsimp only at hSw); go_simp; try with_reducible rfl)
    try simp only [Act.put, List.setIfInBounds_toArray, List.set_cons_zero, List.set_cons_succ]
    refine wpAnyH_ready (rs := [16]) (by kernel_rfl) (by simp) ?_
    refine AllReadyH.cons (o := ⟨some 42, _, _, _, _, _⟩) rfl (fun K hK => ?_) AllReadyH.nil
    go_simp
    skip
    refine hK.out _ _ ?_ (fun hHeld => ?_)
    · (try dsimp only); all_goals trivial
    clear hK K
    try simp only [Act.put, List.setIfInBounds_toArray, List.set_cons_zero, List.set_cons_succ]
    refine wpAnyH_take (i := 17) (oi := ⟨some 6, _, _, _, _, _⟩) (v := ?_) rfl (by kernel_rfl) (by kernel_rfl) (by kernel_rfl) (fun _ _ _ h => h) (Or.inl ⟨by rfl, ?_⟩) (by assumption) ?_
    rotate_left
    · (intro w hSw; (try dsimp only at hSw); go_simp; try with_reducible rfl)
    try simp only [Act.put, List.setIfInBounds_toArray, List.set_cons_zero, List.set_cons_succ]
    refine wpAnyH_take (i := 18) (oi := ⟨some 7, _, _, _, _, _⟩) (v := ?_) rfl (by kernel_rfl) (by kernel_rfl) (by kernel_rfl) (fun _ _ _ h => h) (Or.inl ⟨by rfl, ?_⟩) (by assumption) ?_
    rotate_left
    · (intro w hSw; (try dsimp only at hSw); go_simp; try with_reducible rfl)
    try simp only [Act.put, List.setIfInBounds_toArray, List.set_cons_zero, List.set_cons_succ]
    refine wpAnyH_done (by kernel_rfl) ?_ _
    go_wp2
    go_ret2
    exact ⟨vb.heap.size, _, rfl, HOV.out, Ext.alloc_ X4.out _⟩
end Go.Proofs.YtecbbbaafcoliaaDoor
/- The closed fact on a new memory. -/
namespace Go.Proofs.YtecbbbaafcoliaaDoor
open Go.RowKit
set_option linter.unusedVariables false
set_option linter.unusedSimpArgs false

theorem newM_ok (half old card : Int) (h : newOK half old card = true) : (newM half old card).Ok := by
  simp only [newOK, Bool.and_eq_true] at h
  obtain ⟨⟨h1, h2⟩, h3⟩ := h
  obtain ⟨a1, a2⟩ := inR_true.1 h1
  obtain ⟨a3, a4⟩ := inR_true.1 h2
  obtain ⟨a5, a6⟩ := inR_true.1 h3
  have q0 : 0 ≤ (old + card - 1) / card := Int.ediv_nonneg (by omega) (by omega)
  have q1 : (old + card - 1) / card ≤ old + card - 1 := Int.ediv_le_self _ (by omega)
  refine ⟨by simp only [newM]; omega, by simp only [newM]; omega, by simp only [newM]; omega, by simp [newM], by simp [newM], by simp [newM], ?_, by simp [newM], by simp [newM], by simp [newM], ?_, by simp [newM], by simp [newM], by simp [newM], ?_⟩
  · intro x hx; simp only [newM] at hx; have := (List.mem_replicate.1 hx).2; omega
  · simp only [newM, List.length_replicate]; omega
  · simp only [newM, List.length_replicate]; omega
theorem fresh_chk : goodB (newM 4 5 2) = true ∧ cardsM (newM 4 5 2) = true := by decide
set_option maxRecDepth 100000 in
theorem fresh_any (w : World) (E : Nat → Addr) (h : G3 E w) : Calls Tryd.prog 11 #[] w fun e w' => e = .returned (.bool true) ∧ Ext w w' := by
  have H := Lib.hid h
  clear h
  go_enter Tryd.func11, Tryd.ntmps11
  go_wp2_with (first
    | (go_at_call 35; refine (new_yes 4 5 2 (by decide) _).mono ?_; rintro e w1 ⟨b, S, rfl, hom, hx⟩; have hM := hom.mem (newM_ok 4 5 2 (by decide)); have k3 : w1.cell? ⟨b, 3, none⟩ = some (.slice S.W.1 (13 : Nat) S.W.2) := hM.W; have k5 : w1.cell? ⟨b, 5, none⟩ = some (.int .i64 0) := hM.top; have k10 : w1.cell? ⟨b, 10, none⟩ = some (.slice S.C.1 (3 : Nat) S.C.2) := hM.cards; have HM := Lib.hid hM; have HX := Lib.hid hx; clear hom hM hx)
    | (go_at_call 24; refine (check_any b 0 (newM 4 5 2) S (E 1) (E 2) (E 4) _ HM.out (HX.out.cell_ H.out.bound) (HX.out.cell_ H.out.shape) (HX.out.cell_ H.out.place)).mono ?_; rintro e w2 ⟨he, hq⟩; rw [show chkV (newM 4 5 2) (E 2) (E 4) = .nilIface by unfold chkV; rw [fresh_chk.1, fresh_chk.2]; rfl] at he; subst he; have k6 := hq.cell_ k5; have HQ := Lib.hid hq; clear hq k5))
  go_ret
  exact ⟨rfl, Ext.trans_ HX.out HQ.out⟩
end Go.Proofs.YtecbbbaafcoliaaDoor
/- The box over a memory's rows that are only read: its numbers and its own row of ids. -/
namespace Go.Proofs.YtecbbbaafcoliaaDoor
open Go.RowKit
set_option linter.unusedVariables false
set_option linter.unusedSimpArgs false

def idsFlds (tI : TypeId) (M : Mem) (a : Option Addr) (k c : Nat) : List Fld := [⟨9, tI, 2, a, k, c, icells (M.ids.take k)⟩]
def RestC (W : World) (bo : Nat) (M : Mem) (S : Sls) : Prop :=
  W.cell? ⟨bo, 3, none⟩ = some (.slice S.W.1 M.W.length S.W.2) ∧ W.cell? ⟨bo, 7, none⟩ = some (.slice S.R.1 M.roots.length S.R.2) ∧ W.cell? ⟨bo, 8, none⟩ = some (.slice S.K.1 M.weak.length S.K.2) ∧ W.cell? ⟨bo, 10, none⟩ = some (.slice S.C.1 M.cards.length S.C.2)
theorem RestC.of_block {W W' : World} {bo : Nat} {M : Mem} {S : Sls} (h : RestC W bo M S) (hb : W'.heap[bo]? = W.heap[bo]?) : RestC W' bo M S := by
  obtain ⟨h1, h2, h3, h4⟩ := h
  refine ⟨?_, ?_, ?_, ?_⟩
  · rw [World.cell?_of_block (w := W) (a := ⟨bo, 3, none⟩) hb]; exact h1
  · rw [World.cell?_of_block (w := W) (a := ⟨bo, 7, none⟩) hb]; exact h2
  · rw [World.cell?_of_block (w := W) (a := ⟨bo, 8, none⟩) hb]; exact h3
  · rw [World.cell?_of_block (w := W) (a := ⟨bo, 10, none⟩) hb]; exact h4
theorem RestC.set9 {W : World} {bo : Nat} {M : Mem} {S : Sls} (h : RestC W bo M S) (u : Value) : RestC (W.setCell ⟨bo, 9, none⟩ u) bo M S := by
  obtain ⟨h1, h2, h3, h4⟩ := h
  exact ⟨by rw [cell_set_off (by decide)]; exact h1, by rw [cell_set_off (by decide)]; exact h2, by rw [cell_set_off (by decide)]; exact h3, by rw [cell_set_off (by decide)]; exact h4⟩
theorem om_ids (W : World) (tI t : TypeId) (M : Mem) (S : Sls) :
    OM (W.alloc (.cells #[Value.int .i64 M.half, .int .i64 M.old, .int .i64 M.card, .slice S.W.1 M.W.length S.W.2, .int .i64 M.used, .int .i64 M.top, .int .i64 M.oldTop, .slice S.R.1 M.roots.length S.R.2, .slice S.K.1 M.weak.length S.K.2, .slice none 0 0, .slice S.C.1 M.cards.length S.C.2] t)) W.heap.size W.heap.size (memNums M) (idsFlds tI M none 0 0) ∧ RestC (W.alloc (.cells #[Value.int .i64 M.half, .int .i64 M.old, .int .i64 M.card, .slice S.W.1 M.W.length S.W.2, .int .i64 M.used, .int .i64 M.top, .int .i64 M.oldTop, .slice S.R.1 M.roots.length S.R.2, .slice S.K.1 M.weak.length S.K.2, .slice none 0 0, .slice S.C.1 M.cards.length S.C.2] t)) W.heap.size M S := by
  have hc : ∀ j v, (#[Value.int .i64 M.half, .int .i64 M.old, .int .i64 M.card, .slice S.W.1 M.W.length S.W.2, .int .i64 M.used, .int .i64 M.top, .int .i64 M.oldTop, .slice S.R.1 M.roots.length S.R.2, .slice S.K.1 M.weak.length S.K.2, .slice none 0 0, .slice S.C.1 M.cards.length S.C.2] : Array Value)[j]? = some v → (W.alloc (.cells #[Value.int .i64 M.half, .int .i64 M.old, .int .i64 M.card, .slice S.W.1 M.W.length S.W.2, .int .i64 M.used, .int .i64 M.top, .int .i64 M.oldTop, .slice S.R.1 M.roots.length S.R.2, .slice S.K.1 M.weak.length S.K.2, .slice none 0 0, .slice S.C.1 M.cards.length S.C.2] t)).cell? ⟨W.heap.size, j, none⟩ = some v := fun j v hv => by
    rw [cell_of_row _ W.heap.size j _ t (0, 0) (heap_alloc_new W _)]; exact hv
  refine ⟨⟨Nat.le_refl _, ⟨_, t, heap_alloc_new W _⟩, fun p hp => ?_, fun f hf => ?_, by simp [idsFlds], by simp [memNums, idsFlds]⟩, hc _ _ rfl, hc _ _ rfl, hc _ _ rfl, hc _ _ rfl⟩
  · simp only [memNums, List.mem_cons, List.not_mem_nil, or_false] at hp
    rcases hp with rfl | rfl | rfl | rfl | rfl | rfl <;> exact hc _ _ rfl
  · simp only [idsFlds, List.mem_cons, List.not_mem_nil, or_false] at hf
    subst hf
    exact ⟨hc _ _ rfl, by show World.ownsRow _ _ _ _ (Value.slice none 0 0) 0 []; exact World.ownsRow_nil _ _ _ _, by simp [Fld.val, Value.ownBlock]⟩
theorem rmem_back {w wr : World} {b o B bo : Nat} {tI : TypeId} {M : Mem} {S : Sls} {a : Option Addr} {c : Nat} (hM : RMem w b o M S) (hE : Ext w wr) (hO : OM wr B bo (memNums M) (idsFlds tI M a M.ids.length c)) (hR : RestC wr bo M S) :
    RMem wr bo 0 M ⟨S.W, S.R, S.K, (a, c), S.C⟩ := by
  have h1 := hM.ext hE
  have hn := hO.num
  have q9 := hO.fld ⟨9, tI, 2, a, M.ids.length, c, icells (M.ids.take M.ids.length)⟩ (by simp [idsFlds])
  obtain ⟨r9, c9, n9⟩ := row_rsl q9.2.1
  rw [List.take_length] at r9
  have e : ∀ j : Nat, (⟨bo, 0 + j, none⟩ : Addr) = ⟨bo, j, none⟩ := fun j => by rw [Nat.zero_add]
  obtain ⟨k3, k7, k8, k10⟩ := hR
  refine ⟨?_, ?_, ?_, ?_, ?_, ?_, ?_, ?_, ?_, ?_, ?_, h1.rW, h1.rR, h1.rK, r9, h1.rC, h1.capW, h1.capR, h1.capK, c9, h1.capC, h1.nilW, h1.nilR, h1.nilK, n9, h1.nilC, h1.ok⟩
  · exact hn _ (List.mem_of_getElem? (l := memNums M) (i := 0) rfl)
  · rw [e]; exact hn _ (List.mem_of_getElem? (l := memNums M) (i := 1) rfl)
  · rw [e]; exact hn _ (List.mem_of_getElem? (l := memNums M) (i := 2) rfl)
  · rw [e]; exact k3
  · rw [e]; exact hn _ (List.mem_of_getElem? (l := memNums M) (i := 3) rfl)
  · rw [e]; exact hn _ (List.mem_of_getElem? (l := memNums M) (i := 4) rfl)
  · rw [e]; exact hn _ (List.mem_of_getElem? (l := memNums M) (i := 5) rfl)
  · rw [e]; exact k7
  · rw [e]; exact k8
  · rw [e]; exact q9.1
  · rw [e]; exact k10
end Go.Proofs.YtecbbbaafcoliaaDoor
