/- The law MinorGrows: its walk. -/
import Derived.Test.YtecbbbaafcoliaaDoorJGp02
import Derived.Test.YtecbbbaafcoliaaDoorJGp01
import Derived.Test.YtecbbbaafcoliaaDoorJMn37
import Derived.Test.YtecbbbaafcoliaaDoorJMn33
import Derived.Test.YtecbbbaafcoliaaDoorJMn34
import Derived.Test.YtecbbbaafcoliaaDoorJMn38
import Derived.Deep.Cut
import Derived.Test.YtecbbbaafcoliaaDoorJMn39
import Derived.Test.YtecbbbaafcoliaaDoorCards
import Derived.JoinedCond
import Derived.Lib.SmallJoins
import Derived.ProofKit
namespace Go.Proofs.YtecbbbaafcoliaaDoor
open Go.RowKit
set_option linter.unusedVariables false
set_option linter.unusedSimpArgs false

set_option maxRecDepth 100000 in
set_option maxHeartbeats 4000000 in
theorem minorGrows_nil (ten : Int) (w : World) (E : Nat → Addr) (h : G4 E w) :
    Calls Tryd.prog 6 #[.pointer none, .int .i64 ten] w fun e w' => e = .returned (.bool true) ∧ Ext w w' := by
  have H := Lib.hid h
  clear h
  go_enter Tryd.func6, Tryd.ntmps6
  go_wp2_with (first
    | (go_at_call 25; refine (still_any _ E H.out).mono ?_; rintro e w1 ⟨rfl, hq⟩; have HB1 := Lib.hid hq; clear hq)
    | (go_at_call 12; refine (near_nil _).mono ?_; rintro e w' ⟨rfl, hw9⟩; have hw9 := hw9.symm; subst hw9)
    | (go_at_call 18; refine (kCheck_nil _).mono ?_; rintro e w3 ⟨rfl, hq⟩; have HB3 : Hid (Ext w w3) := Ext.trans_ HB1.out hq; clear hq))
  go_ret
  exact ⟨rfl, HB3.out⟩
set_option maxRecDepth 100000 in
set_option maxHeartbeats 8000000 in
theorem minorGrows_out (b o : Nat) (M : Mem) (S : Sls) (ten : Int) (w : World) (hM : RMem w b o M S) (E : Nat → Addr) (h : G4 E w) (hf : ¬ Near M ∨ (Near M ∧ 0 < chk M) ∨ (Near M ∧ chk M = 0 ∧ ten < 0) ∨ (Near M ∧ chk M = 0 ∧ ¬ ten < 0 ∧ 15 < ten)) :
    Calls Tryd.prog 6 #[.pointer (some ⟨b, o, none⟩), .int .i64 ten] w fun e w' => e = .returned (.bool true) ∧ Ext w w' := by
  have H := Lib.hid h
  have HM := Lib.hid hM
  clear h hM
  rcases hf with hn | ⟨hn, hc⟩ | ⟨hn, hc, ht⟩ | ⟨hn, hc, ht, ht2⟩
  · have HN := Lib.hid hn
    clear hn
    go_enter Tryd.func6, Tryd.ntmps6
    go_wp2_with (first
      | (go_at_call 25; refine (still_any _ E H.out).mono ?_; rintro e w1 ⟨rfl, hq⟩; have HB1 := Lib.hid hq; clear hq)
      | (go_at_call 12; refine (near_no b o M S HN.out _ (HM.out.ext HB1.out)).mono ?_; rintro e w' ⟨rfl, hw9⟩; have hw9 := hw9.symm; subst hw9))
    go_ret
    exact ⟨rfl, HB1.out⟩
  all_goals
    have HN := Lib.hid hn
    clear hn
    obtain ⟨c, hcc⟩ : ∃ c, chk M = c := ⟨_, rfl⟩
    rw [hcc] at hc
    have HCK := Lib.hid hcc
    clear hcc
    try subst hc
    go_enter Tryd.func6, Tryd.ntmps6
    go_wp2_with (first
      | (go_at_call 25; refine (still_any _ E H.out).mono ?_; rintro e w1 ⟨rfl, hq⟩; have HB1 := Lib.hid hq; clear hq)
      | (go_at_call 12; refine (near_yes b o M S HN.out _ (HM.out.ext HB1.out)).mono ?_; rintro e w' ⟨rfl, hw9⟩; have hw9 := hw9.symm; subst hw9)
      | (go_at_call 18; refine (kCheck_any b o M S _ (HM.out.ext HB1.out)).mono ?_; rintro e w2 ⟨he, hq⟩; rw [HCK.out] at he; subst he; have HB2 : Hid (Ext w w2) := Ext.trans_ HB1.out hq; clear hq))
    go_ret
    exact ⟨rfl, HB2.out⟩
set_option maxRecDepth 100000 in
set_option maxHeartbeats 8000000 in
theorem minorGrows_main (b o : Nat) (M : Mem) (S : Sls) (ten : Int) (hn : Near M) (w : World) (hM : RMem w b o M S) (E : Nat → Addr) (h : G4 E w) (hc : chk M = 0) (t0 : 0 ≤ ten) (t1 : ten ≤ 15) :
    Calls Tryd.prog 6 #[.pointer (some ⟨b, o, none⟩), .int .i64 ten] w fun e w' => e = .returned (.bool true) ∧ Ext w w' := by
  have HG0 := Lib.hid (Grown.start (ten := ten) hM.ok hc hn.few)
  have hgb : 0 < w.heap.size ∧ 1 < w.heap.size := ⟨cell_lt h.bound, cell_lt h.shape⟩
  have HCK := Lib.hid hc
  have HF := Lib.hid hn.few
  have HOK := Lib.hid hM.ok
  have H := Lib.hid h
  have HM := Lib.hid hM
  have HN := Lib.hid hn
  have HGB := Lib.hid hgb
  have HGM := Lib.hid (chk_zero hc).1
  have HE6 : Hid (errC E 6 = errV (E 5)) := rfl
  clear h hM hn hc hgb
  go_enter Tryd.func6, Tryd.ntmps6
  go_wp2_with (first
    | (go_at_call 25; refine (still_any _ E H.out).mono ?_; rintro e w1 ⟨rfl, hq⟩; have HB1 := Lib.hid hq; clear hq)
    | (go_at_call 12; refine (near_yes b o M S HN.out _ (HM.out.ext HB1.out)).mono ?_; rintro e w' ⟨rfl, hw9⟩; have hw9 := hw9.symm; subst hw9)
    | (go_at_call 18; refine (kCheck_any b o M S _ (HM.out.ext HB1.out)).mono ?_; rintro e w2 ⟨he, hq⟩; rw [HCK.out] at he; subst he; have HB2 : Hid (Ext w w2) := Ext.trans_ HB1.out hq; clear hq)
    | (go_at_call 13; refine (memOf_walk b o M S _ (HM.out.ext HB2.out) HF.out).mono ?_; rintro e w3 ⟨bx, Sx, rfl, hq1, hq2⟩; have HX := Lib.hid hq1; have HB3 : Hid (Ext w w3) := Ext.trans_ HB2.out hq2; have hB0 : Hid (w2.heap.size ≤ w3.heap.size) := hq2.size; clear hq1 hq2))
  go_loopw [7] (fun i wr => ∃ (k : Nat) (NN : Mem) (S' : Sls), (k : Int) ≤ ten + 1 ∧ i = .int .i64 (k : Int) ∧ Hid (Grown M ten k NN) ∧ Hid (OMem wr w2.heap.size bx 72 NN S') ∧ Hid (Ext w wr) ∧ Hid (w2.heap.size ≤ wr.heap.size)) (fun i _ => (ten + 1).toNat - (intOf i).toNat)
  case atStart => exact ⟨0, M, Sx, by omega, rfl, HG0.out, HX.out, HB3.out, hB0.out⟩
  case round =>
    clear HG0 hB0 HB3 HX
    obtain ⟨k, NN, S', hk, rfl, HG, HO, HE, HB⟩ := hrel
    by_cases hlt : (k : Int) ≤ ten
    · by_cases hfu : NN.old - NN.oldTop < NN.top
      · have HFU := Lib.hid hfu
        clear hfu
        go_wp2_with (go_at_call 26; refine (collect_full bx 0 NN S' E ten _ (HO.out.mem HG.out.ok) (H.out.ext HE.out) HG.out.chk t0 t1 HFU.out).mono ?_; rintro e w4 ⟨he, hq⟩; rw [HE6.out] at he; subst he; have HB4 : Hid (Ext w w4) := Ext.trans_ HE.out hq; clear hq)
        go_ret
        exact ⟨rfl, HB4.out⟩
      · have hr := HG.out.ready t0 t1 hfu
        have HR := Lib.hid hr
        clear hfu hr
        go_wp2_with (go_at_call 26; refine (collect_walk w2.heap.size bx NN S' E ten _ HO.out (H.out.ext HE.out).toG3 HR.out HB.out ⟨Nat.lt_of_lt_of_le HGB.out.1 HB2.out.size, Nat.lt_of_lt_of_le HGB.out.2 HB2.out.size⟩).mono ?_; rintro e w4 ⟨rfl, S4, hq1, hq2, hq3⟩; have HO4 := Lib.hid hq1; have HE4 : Hid (Ext w w4) := Ext.keep HE.out hq2 (fun i hi => Nat.le_trans HB2.out.size (HO.out.own_size hi).1); have HB4 : Hid (w2.heap.size ≤ w4.heap.size) := Nat.le_trans HB.out hq2.size; clear hq1 hq2 hq3)
        go_roundw
        case rel => exact ⟨k + 1, collectC NN ten, S4, by omega, by go_num, HG.out.next HR.out, HO4.out, HE4.out, HB4.out⟩
        case measure => simp [intOf]; omega
    · have ht0 := HG.out.done (by omega) t0
      have hgn := (chk_zero HG.out.chk).1
      have hgr := HG.out.graph
      have HT := Lib.hid ht0
      have HGN := Lib.hid hgn
      have HGR := Lib.hid hgr
      clear ht0 hgn hgr
      go_upto_region 12 with (first
        | (go_at_call 16; refine (memBack_walk bx 0 NN S' _ (HO.out.mem HG.out.ok) HG.out.few).mono ?_; rintro e w5 ⟨B5, b5, S5, rfl, hq1, hq2, hq3⟩; have H5 := Lib.hid (hq1.mem HG.out.ok); have HB5 : Hid (Ext w w5) := Ext.trans_ HE.out hq3; clear hq1 hq2 hq3)
        | (go_at_call 28; refine (graph_walk b o M S _ (HM.out.ext HB5.out) HGM.out HF.out).mono ?_; rintro e w6 ⟨rfl, hq⟩; have HB6 : Hid (Ext w w6) := Ext.trans_ HB5.out hq; have HE56 := Lib.hid hq; clear hq))
      go_wp2_with (go_at_call 28; refine (graph_walk b5 0 NN S5 _ (H5.out.ext HE56.out) HGN.out HG.out.few).mono ?_; rintro e w7 ⟨he, hq⟩; rw [HGR.out] at he; subst he; have dt7 := ((H5.out.ext HE56.out).ext hq).top; rw [HT.out] at dt7; have hb7 := ((H5.out.ext HE56.out).ext hq).lt; have HB7 : Hid (Ext w w7) := Ext.trans_ HB6.out hq; clear hq)
      go_ret
      exact ⟨rfl, HB7.out⟩
theorem minorGrows_any (b o : Nat) (M : Mem) (S : Sls) (ten : Int) (w : World) (hM : RMem w b o M S) (E : Nat → Addr) (h : G4 E w) :
    Calls Tryd.prog 6 #[.pointer (some ⟨b, o, none⟩), .int .i64 ten] w fun e w' => e = .returned (.bool true) ∧ Ext w w' := by
  by_cases hn : Near M
  · by_cases hc : chk M = 0
    · by_cases t0 : ten < 0
      · exact minorGrows_out b o M S ten w hM E h (Or.inr (Or.inr (Or.inl ⟨hn, hc, t0⟩)))
      · by_cases t1 : 15 < ten
        · exact minorGrows_out b o M S ten w hM E h (Or.inr (Or.inr (Or.inr ⟨hn, hc, t0, t1⟩)))
        · exact minorGrows_main b o M S ten hn w hM E h hc (by omega) (by omega)
    · exact minorGrows_out b o M S ten w hM E h (Or.inr (Or.inl ⟨hn, by
        unfold chk at hc ⊢
        split at hc <;> (try split at hc) <;> simp_all⟩))
  · exact minorGrows_out b o M S ten w hM E h (Or.inl hn)
end Go.Proofs.YtecbbbaafcoliaaDoor
/- The law MinorGrows: its contract: whatever it is given it answers true, and leaves what was there. -/
namespace Go.Proofs.YtecbbbaafcoliaaDoor.MinorGrows
open Go.ChangeShapes Go.WideShapes Go.ChangeAt Go.RowKit
open Go.ChangeMaps (open_string)
set_option linter.unusedVariables false
set_option linter.unusedSimpArgs false

set_option maxRecDepth 100000 in
theorem contract (H : Type) (enc : TypeId × Value → H) (W : World) (base : Nat) (args : Array Value) (ds gs : List (DataW H)) (before : List MemPlace)
    (hval : ∀ (j : Nat) t v, Tryd.f6.params[j]? = some t → args[j]? = some v → Value.okWide Tryd.prog W .any base t v)
    (hW : DataW.Whole enc Tryd.prog Tryd.f6.params.toList Rows.minorGrowsSpec.vars false W args.toList ds gs before)
    (hsz : (DataW.weightsEach Tryd.prog (Tryd.f6.params.toList ++ (OpenSpec.ofChange Rows.minorGrowsSpec).bare.plain.varTypes Tryd.prog) (ds ++ gs)).all (· ≤ reachBytes) = true) (hL : laidMetH Tryd.prog Rows.minorGrowsRow.laid W) :
    Calls Tryd.prog 6 args W fun e W' => ∃ v, e = .returned v ∧ Rows.minorGrowsSpec.post enc Tryd.prog Tryd.f6 false true false false W args v W' := by
  have hW' := hW
  obtain ⟨p, q, hA0, hV, rfl, hfz, hnd⟩ := hW
  have hA : DataW.TrodAll enc Tryd.prog W 0 (fun _ => true) true Tryd.f6.params.toList args.toList ds p := hA0
  rw [Tryd.params6] at hA hval
  obtain ⟨v0, vs0, d0, ds0, p0, q0, hargs, rfl, rfl, h0, r0⟩ := trodAll_cons hA
  obtain ⟨v1, vs1, d1, ds1, p1, q1, rfl, rfl, rfl, h1, r1⟩ := trodAll_cons r0
  obtain ⟨rfl, rfl, rfl⟩ := trodAll_nil r1
  obtain rfl : args = #[v0, v1] := by cases args; simp_all
  obtain ⟨rfl, rfl⟩ := trodVars_none hV
  obtain ⟨x1, rfl, rfl, rfl, w1⟩ := open_int Tryd.underlying3 (hval 1 3 v1 rfl rfl) h1
  obtain ⟨E, hE⟩ := g4_of_laid (W := W) (hL.filter fun x => laid4.any (·.1 == x.1))
  clear hA0
  obtain ⟨fuel0, hh0⟩ := id h0
  obtain ⟨pa0, rfl⟩ := okWide_pointer Tryd.underlying22 (hval 0 22 v0 rfl rfl)
  rcases read_mem hh0 with e0 | ⟨b0, o0, M0, S0, e0, hM0⟩
  · obtain rfl := Value.pointer.inj (List.singleton_inj.1 e0)
    refine (minorGrows_nil x1 W  E hE ).mono fun e W' ⟨he, hg⟩ => ?_
    subst he
    exact ⟨_, rfl, law_post rfl rfl hW' (by simp [Rows.minorGrowsSpec]) (by decide +kernel) hg⟩
  · obtain rfl := Value.pointer.inj (List.singleton_inj.1 e0)
    refine (minorGrows_any b0 o0 M0 S0 x1 W  hM0 E hE ).mono fun e W' ⟨he, hg⟩ => ?_
    subst he
    exact ⟨_, rfl, law_post rfl rfl hW' (by simp [Rows.minorGrowsSpec]) (by decide +kernel) hg⟩
end Go.Proofs.YtecbbbaafcoliaaDoor.MinorGrows
/- The law MinorGrows: its row's step, out of the contract; an input that fits. -/
namespace Go.Proofs.YtecbbbaafcoliaaDoor.MinorGrows
open Go.ChangeShapes Go.WideShapes Go.ChangeAt Go.RowKit

theorem laid_met (os : Os) : laidMetH Tryd.prog Rows.minorGrowsRow.laid ((World.doorLaid Tryd.prog 200 os).forCall (fun _ _ => 0) ⟨#[], #[.pointer none, .int .i64 0], []⟩).memory :=
  laidMetH_of_parts3 (fuel := 8) (laidMet_of_run' 8 (by kernel_rfl) (by kernel_rfl)) (by kernel_rfl) (by kernel_rfl)
theorem reads (os : Os) {H : Type} (enc : TypeId × Value → H) : ∃ places, DataW.whole enc Tryd.prog ((World.doorLaid Tryd.prog 200 os).forCall (fun _ _ => 0) ⟨#[], #[.pointer none, .int .i64 0], []⟩).memory Tryd.f6.params.toList Rows.minorGrowsSpec.vars false #[.pointer none, .int .i64 0].toList 8 = some ([.nil, .lit (.int .i64 0)], [], places) :=
  ⟨[], by kernel_rfl⟩

set_option maxRecDepth 100000 in
theorem lifted (os : Os) (started : os.Started) (H : Type) (enc : TypeId × Value → H) (F : Stop.Interp) :
    ReturnsInHanded {} Tryd.checked os 6 .any ((OpenSpec.ofChange Rows.minorGrowsSpec).preRow enc Tryd.prog Tryd.f6 Rows.minorGrowsRow.domain false Rows.minorGrowsRow.laid) (((OpenSpec.ofChange Rows.minorGrowsSpec).at F).post enc Tryd.prog Tryd.f6 false true false false) := by
  obtain ⟨places, hx⟩ := reads os enc
  refine returnsInHanded_of_row (C := Tryd.checked) (s := OpenSpec.ofChange Rows.minorGrowsSpec) own started (by kernel_rfl) Tryd.func6
    (witness_row_atRef (enc := enc) (C := Tryd.checked) false (World.doorLaid Tryd.prog 200 os) #[.pointer none, .int .i64 0] rfl (by kernel_rfl) (by kernel_rfl) (by kernel_rfl)
      (OpenSpec.preRow_of_cond 8 hx (by kernel_rfl) (fun k hk => by cases hk) (by kernel_rfl) (laid_met os))) ?_
  intro W base args ds gs before hval hW _ _ hsz hL _ _
  exact contract H enc W base args ds gs before hval hW hsz hL
end Go.Proofs.YtecbbbaafcoliaaDoor.MinorGrows
/- The law MinorGrows: the closed facts of its row, each by itself. -/
namespace Go.Proofs.YtecbbbaafcoliaaDoor.MinorGrows
open Go.ChangeShapes Go.WideShapes Go.ChangeAt Go.RowKit

set_option maxHeartbeats 40000000 in
theorem closed : joinedFacts Tryd.prog 6 Tryd.f6 (OpenSpec.ofChange Rows.minorGrowsSpec).bare Rows.minorGrowsRow = true := by
  unfold joinedFacts
  repeat' (with_reducible refine Bool.and_eq_true_iff.2 ⟨?_, ?_⟩)
  all_goals as_aux_lemma => kernel_rfl
end Go.Proofs.YtecbbbaafcoliaaDoor.MinorGrows
