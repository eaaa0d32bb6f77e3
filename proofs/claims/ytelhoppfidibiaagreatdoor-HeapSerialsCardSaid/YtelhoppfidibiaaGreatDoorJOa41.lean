/- What Alloc leaves is a memory still: plainly. -/
import Derived.Test.YtelhoppfidibiaaGreatDoorJOa12
import Derived.Test.YtelhoppfidibiaaGreatDoorJOa23
import Derived.Test.YtelhoppfidibiaaGreatDoorJOa40
import Derived.Test.YtelhoppfidibiaaGreatDoorJOa39
import Derived.Test.YtelhoppfidibiaaGreatDoorJOa30
import Derived.Test.YtelhoppfidibiaaGreatDoorJOa29
import Derived.Test.YtelhoppfidibiaaGreatDoorJOa34
import Derived.Lib.SmallJoins
import Derived.Lib.AppendIntMem
import Derived.Deep.QuietTactic
import Derived.BigQuiet
namespace Go.Proofs.YtelhoppfidibiaaGreatDoor
open Go.RowKit
set_option linter.unusedVariables false
set_option linter.unusedSimpArgs false
/- The laws' closed fact still. -/
theorem numQ_bits (a : Int) (h0 : 0 ≤ a) (h1 : a ≤ 18446744073709551615) : wrap64 a / 4 = numW a := by
  unfold wrap64 numW; split <;> omega
theorem numQ_any (a : Int) (h0 : 0 ≤ a) (h1 : a ≤ 18446744073709551615) (w : World) :
    Calls Tryz.prog 114 #[.int .u64 a] w fun e w' => e = .returned (.int .i64 (numW a)) ∧ w' = w := by
  rw [← numQ_bits a h0 h1]
  go_enter Tryz.func114, Tryz.ntmps114
  go_wp2
  go_ret
  exact ⟨rfl, rfl⟩
/-- The library's tables that texts of numbers read. -/
structure Tabs (w : World) : Prop where
  pow : Lib.TabIs Tryz.prog w "internal/strconv.uint64pow10" .u64 Lib.pow10Tab
  tz : Tz16 w
theorem Tabs.ext {w w' : World} (h : Tabs w) (hx : Ext w w') : Tabs w' := ⟨Lib.tabBelow_of_tabIs h.pow w' hx, hx.cell_ h.tz⟩
theorem ext_grow {w : World} (k : Nat) (os : Array Obj) : Ext w (Sort.grow (w.drewN k) os) := by
  refine ⟨rfl, rfl, rfl, ?_, fun i hi => ?_⟩
  · show w.heap.size ≤ (w.heap ++ os).size
    simp
  · show (w.heap ++ os)[i]? = w.heap[i]?
    rw [Array.getElem?_append, if_pos hi]
theorem itoaS_any (n : Int) (h0 : -9223372036854775808 ≤ n) (h1 : n ≤ 9223372036854775807) (w : World) (ht : Tabs w) :
    Calls Tryz.prog 57 #[.int .i64 n] w fun e w' => e = .returned (.string (decS n)) ∧ Ext w w' := by
  refine (itoa_any n h0 h1 w ht.pow).mono ?_
  rintro e w' ⟨he, k, os, rfl⟩
  rw [decS_itoa n h0 h1] at he
  exact ⟨he, ext_grow k os⟩
theorem fmtS_any (n : Int) (h0 : -9223372036854775808 ≤ n) (h1 : n ≤ 9223372036854775807) (w : World) (ht : Tabs w) :
    Calls Tryz.prog 58 #[.int .i64 n, .int .i64 10] w fun e w' => e = .returned (.string (decS n)) ∧ Ext w w' := by
  refine (fmt_any n h0 h1 w ht.pow).mono ?_
  rintro e w' ⟨he, k, os, rfl⟩
  rw [decS_itoa n h0 h1] at he
  exact ⟨he, ext_grow k os⟩
theorem mlook_obj (l : List Ob) (p : Int) : mlook (numE (ats l)) p = (l.findIdx? fun o => (o.a : Int) == p).map fun i : Nat => (i : Int) := by
  have key : ∀ (l : List Ob) (n : Nat), ((((ats l).zipIdx n).map fun q => (q.1, (q.2 : Int))).find? fun q => p == q.1).map (·.2) = (l.findIdx? fun o => (o.a : Int) == p).map fun i : Nat => ((i + n : Nat) : Int) := fun l => by
    induction l with
    | nil => intro n; rfl
    | cons o l ih =>
      intro n
      have e : ats (o :: l) = (o.a : Int) :: ats l := rfl
      rw [e, List.zipIdx_cons, List.map_cons, List.find?_cons, List.findIdx?_cons]
      by_cases h : (o.a : Int) = p
      · subst h
        simp
      · have h1 : (p == (o.a : Int)) = false := by simpa using fun q : p = (o.a : Int) => h q.symm
        have h2 : ((o.a : Int) == p) = false := by simpa using h
        simp only [h1, h2]
        rw [ih (n + 1), if_neg (by decide), Option.map_map]
        congr 1
        funext i
        simp
        omega
  have := key l 0
  simp only [Nat.add_zero] at this
  exact this
theorem mlook_at {l : List Ob} {p : Int} (h : 0 ≤ objAt l p) : mlook (numE (ats l)) p = some (objAt l p) := by
  rw [mlook_obj]
  unfold objAt at h ⊢
  cases hf : l.findIdx? fun o => (o.a : Int) == p with
  | none => rw [hf] at h; simp at h
  | some i => rfl
theorem mlook_no {l : List Ob} {p : Int} (h : objAt l p < 0) : mlook (numE (ats l)) p = none := by
  rw [mlook_obj]
  unfold objAt at h
  cases hf : l.findIdx? fun o => (o.a : Int) == p with
  | none => rfl
  | some i =>
    rw [hf] at h
    simp at h
    omega
theorem numW_in (u : Int) (h0 : 0 ≤ u) (h1 : u ≤ 18446744073709551615) : -9223372036854775808 ≤ numW u ∧ numW u ≤ 9223372036854775807 := by
  unfold numW
  split <;> omega
set_option maxRecDepth 100000 in
set_option maxHeartbeats 4000000 in
theorem mTold_any (M : Mem) (hg : goodB M = true) (u : Int) (h0 : 0 ≤ u) (h1 : u ≤ 18446744073709551615) (hf : fldB (startsM M) u = true) (hl : (reachP M).length ≤ 1000000) (mb : Nat) (w : World) (hMp : MapI w mb .i64 (mvE (numE (ats (reachP M))))) (hT : Tabs w) :
    Calls Tryz.prog 55 #[.int .u64 u, .map (some mb)] w fun e w' => e = .returned (.string (toldS u (reachP M))) ∧ Ext w w' := by
  have HT := Lib.hid hT
  clear hT
  by_cases k1 : u % 4 = 1
  · have e : toldS u (reachP M) = decS (numW u) := by unfold toldS; rw [if_pos k1]
    have hk : kindW u = 1 := k1
    obtain ⟨n0, n1⟩ := numW_in u h0 h1
    rw [e]
    clear e hMp
    go_enter Tryz.func55, Tryz.ntmps55
    go_wp2_with (first
      | (go_at_call 103; refine (kind_any _ h0 h1 _).mono ?_; rintro e w' ⟨he, hw9⟩; rw [hk] at he; subst he; have hw9 := hw9.symm; subst hw9)
      | (go_at_call 114; refine (numQ_any _ h0 h1 _).mono ?_; rintro e w' ⟨rfl, hw9⟩; have hw9 := hw9.symm; subst hw9)
      | (go_at_call 58; refine (fmtS_any _ n0 n1 _ HT.out).mono ?_; rintro e w1 ⟨rfl, hq⟩; have HQ := Lib.hid hq; clear hq))
    go_ret
    exact ⟨rfl, HQ.out⟩
  · by_cases k2 : u % 4 = 2
    · have hu : u = 2 ∨ u = 6 ∨ u = 10 := by
        unfold fldB kindW at hf
        rw [if_neg (by omega), if_neg (by omega), if_pos k2] at hf
        have := of_decide_eq_true hf
        omega
      clear hMp hf
      rcases hu with rfl | rfl | rfl
      · have e : toldS 2 (reachP M) = ⟨#[110, 111, 110, 101]⟩ := by unfold toldS; rw [if_neg (by decide), if_pos (by decide)]; rfl
        have hk : kindW 2 = 2 := rfl
        have hix : ∀ w : World, (Instr.index 173 (.agg #[.string ⟨#[110, 111, 110, 101]⟩, .string ⟨#[102, 97, 108, 115, 101]⟩, .string ⟨#[116, 114, 117, 101]⟩]) (.int .u64 0)).run Tryz.prog w = .ok (.string ⟨#[110, 111, 110, 101]⟩) w := fun w => by kernel_rfl
        rw [e]
        clear e
        go_enter Tryz.func55, Tryz.ntmps55
        go_wp2_with (go_at_call 103; refine (kind_any _ h0 h1 _).mono ?_; rintro e w' ⟨he, hw9⟩; rw [hk] at he; subst he; have hw9 := hw9.symm; subst hw9)
        go_ret
        exact ⟨rfl, Ext.refl _⟩
      · have e : toldS 6 (reachP M) = ⟨#[102, 97, 108, 115, 101]⟩ := by unfold toldS; rw [if_neg (by decide), if_pos (by decide)]; rfl
        have hk : kindW 6 = 2 := rfl
        have hix : ∀ w : World, (Instr.index 173 (.agg #[.string ⟨#[110, 111, 110, 101]⟩, .string ⟨#[102, 97, 108, 115, 101]⟩, .string ⟨#[116, 114, 117, 101]⟩]) (.int .u64 1)).run Tryz.prog w = .ok (.string ⟨#[102, 97, 108, 115, 101]⟩) w := fun w => by kernel_rfl
        rw [e]
        clear e
        go_enter Tryz.func55, Tryz.ntmps55
        go_wp2_with (go_at_call 103; refine (kind_any _ h0 h1 _).mono ?_; rintro e w' ⟨he, hw9⟩; rw [hk] at he; subst he; have hw9 := hw9.symm; subst hw9)
        go_ret
        exact ⟨rfl, Ext.refl _⟩
      · have e : toldS 10 (reachP M) = ⟨#[116, 114, 117, 101]⟩ := by unfold toldS; rw [if_neg (by decide), if_pos (by decide)]; rfl
        have hk : kindW 10 = 2 := rfl
        have hix : ∀ w : World, (Instr.index 173 (.agg #[.string ⟨#[110, 111, 110, 101]⟩, .string ⟨#[102, 97, 108, 115, 101]⟩, .string ⟨#[116, 114, 117, 101]⟩]) (.int .u64 2)).run Tryz.prog w = .ok (.string ⟨#[116, 114, 117, 101]⟩) w := fun w => by kernel_rfl
        rw [e]
        clear e
        go_enter Tryz.func55, Tryz.ntmps55
        go_wp2_with (go_at_call 103; refine (kind_any _ h0 h1 _).mono ?_; rintro e w' ⟨he, hw9⟩; rw [hk] at he; subst he; have hw9 := hw9.symm; subst hw9)
        go_ret
        exact ⟨rfl, Ext.refl _⟩
    · by_cases hz : u = 0
      · subst hz
        have e : toldS 0 (reachP M) = ⟨#[110, 111, 119, 104, 101, 114, 101]⟩ := by unfold toldS; simp
        have hk : kindW 0 = 0 := rfl
        rw [e]
        clear e hMp
        go_enter Tryz.func55, Tryz.ntmps55
        go_wp2_with (go_at_call 103; refine (kind_any _ h0 h1 _).mono ?_; rintro e w' ⟨he, hw9⟩; rw [hk] at he; subst he; have hw9 := hw9.symm; subst hw9)
        go_ret
        exact ⟨rfl, Ext.refl _⟩
      · have hk : kindW u = 0 := by
          unfold fldB at hf
          by_cases q : kindW u = 0
          · exact q
          · rw [if_neg q, if_neg (show ¬ kindW u = 1 from k1), if_neg (show ¬ kindW u = 2 from k2)] at hf
            cases hf
        have hu1 : (u == 0) = false := by simpa using hz
        have hp : pointedB u = true := by
          unfold pointedB
          unfold kindW at hk
          simp [hk, hz]
        have hpt := pointed_pts hg hf hp
        have ep : ptsW u = placeW u := by
          unfold ptsW at hpt ⊢
          split at hpt
          · rename_i hc; rw [if_pos hc]
          · omega
        have e0 : toldS u (reachP M) = if objAt (reachP M) (placeW u) < 0 then ⟨#[64]⟩ else ⟨#[64]⟩ ++ decS (objAt (reachP M) (placeW u)) := by
          unfold toldS
          rw [if_neg k1, if_neg k2, if_neg hz, ep]
        rw [e0]
        by_cases hin : objAt (reachP M) (placeW u) < 0
        · rw [if_pos hin]
          have hlk : ∀ n, (Instr.lookup 103 (.map (some mb)) (.int .i64 (placeW u)) true).run Tryz.prog (w.drewN n) = .ok (.tuple #[.int .i64 0, .bool false]) (w.drewN n) := fun n => by
            rw [map_look (hMp.drewN n), mlook_no hin]; rfl
          have hlk0 : (Instr.lookup 103 (.map (some mb)) (.int .i64 (placeW u)) true).run Tryz.prog w = .ok (.tuple #[.int .i64 0, .bool false]) w := by
            rw [map_look hMp, mlook_no hin]; rfl
          clear hMp hin e0 hp hpt ep hf k1 k2
          go_enter Tryz.func55, Tryz.ntmps55
          go_wp2_with (first
            | (go_at_call 103; refine (kind_any _ h0 h1 _).mono ?_; rintro e w' ⟨he, hw9⟩; rw [hk] at he; subst he; have hw9 := hw9.symm; subst hw9)
            | (go_at_call 104; refine (place_any _ h0 h1 _).mono ?_; rintro e w' ⟨rfl, hw9⟩; have hw9 := hw9.symm; subst hw9))
          go_ret
          exact ⟨rfl, Ext.refl _⟩
        · rw [if_neg hin]
          obtain ⟨i, hi⟩ : ∃ i, i = objAt (reachP M) (placeW u) := ⟨_, rfl⟩
          have hii : 0 ≤ i ∧ i < (reachP M).length := by
            rw [hi]
            unfold objAt at hin ⊢
            cases hfi : (reachP M).findIdx? fun o => (o.a : Int) == placeW u with
            | none => rw [hfi] at hin; exact absurd (by decide) hin
            | some j =>
              have := (List.findIdx?_eq_some_iff_getElem.1 hfi).1
              simp
              omega
          rw [← hi]
          have hlk0 : (Instr.lookup 103 (.map (some mb)) (.int .i64 (placeW u)) true).run Tryz.prog w = .ok (.tuple #[.int .i64 i, .bool true]) w := by
            rw [map_look hMp, mlook_at (by omega), ← hi]; rfl
          have hds := decS_size i
          have i0 : -9223372036854775808 ≤ i := by omega
          have i1 : i ≤ 9223372036854775807 := by omega
          clear hMp hin e0 hp hpt ep hf k1 k2 hi hii
          go_enter Tryz.func55, Tryz.ntmps55
          go_wp2_with (first
            | (go_at_call 103; refine (kind_any _ h0 h1 _).mono ?_; rintro e w' ⟨he, hw9⟩; rw [hk] at he; subst he; have hw9 := hw9.symm; subst hw9)
            | (go_at_call 104; refine (place_any _ h0 h1 _).mono ?_; rintro e w' ⟨rfl, hw9⟩; have hw9 := hw9.symm; subst hw9)
            | (go_at_call 57; refine (itoaS_any _ i0 i1 _ HT.out).mono ?_; rintro e w1 ⟨rfl, hq⟩; have HQ := Lib.hid hq; clear hq))
          go_ret
          exact ⟨rfl, HQ.out⟩
end Go.Proofs.YtelhoppfidibiaaGreatDoor
