/- The law HeapWeak, walked. -/
import Derived.Test.YtbbiaepgenbloaaGreatDoorJHc01
import Derived.Deep.LoopGhost
import Derived.Test.YtbbiaepgenbloaaGreatDoorJHa41
import Derived.Test.YtbbiaepgenbloaaGreatDoorJHa40
import Derived.Test.YtbbiaepgenbloaaGreatDoorCards
import Derived.JoinedCond
import Derived.Lib.SmallJoins
import Derived.ProofKit
import Derived.Test.YtbbiaepgenbloaaGreatDoorTie
namespace Go.Proofs.YtbbiaepgenbloaaGreatDoor
open Go.RowKit
set_option linter.unusedVariables false
set_option linter.unusedSimpArgs false

theorem hnew4_yes (half old card ten : Int) (h : newOK half old card = true) (ht : 0 ≤ ten ∧ ten ≤ 15) (w : World) :
    Calls Tryz.prog 9 #[.agg #[.int .i64 half, .int .i64 old, .int .i64 card, .int .i64 ten], .int .i64 4] w (HNewPost w ten (newHM half old card 4)) := hnew_yes half old card ten 4 h ht (by omega) w
theorem lookW {M : Mem} {keep : Bool} {P Q : Prop} (h : P ∧ Q ∧ WkM M ∧ M.weak.length = 1 ∧ (kindW (M.weak.getD 0 0) == 0) = keep) : lookC M 0 3 = 0 := by
  unfold lookC
  rw [h.2.2.2.1, rootB_true.2 (by have hrr := h.2.2.1.roots; omega)]; rfl
set_option maxRecDepth 100000 in
set_option maxHeartbeats 8000000 in
theorem heapWeak_any (size : Int) (keep : Bool) (deep : Int) (w : World) (E : Nat → Addr) (hE : G4 E w) (hT : Tabs w) :
    Calls Tryz.prog 5 #[.int .i64 size, .bool keep, .int .i64 deep] w fun e w' => e = .returned (.bool true) ∧ Ext w w' := by
  have HE := Lib.hid hE
  have HT := Lib.hid hT
  clear hE hT
  have h5 : size < 0 ∨ (¬ size < 0 ∧ 20 < size) ∨ (¬ size < 0 ∧ ¬ 20 < size ∧ deep < 0) ∨ (¬ size < 0 ∧ ¬ 20 < size ∧ ¬ deep < 0 ∧ 5 < deep) ∨ (¬ size < 0 ∧ ¬ 20 < size ∧ ¬ deep < 0 ∧ ¬ 5 < deep) := by omega
  rcases h5 with a | ⟨a, b⟩ | ⟨a, b, c⟩ | ⟨a, b, c, d⟩ | ⟨a, b, c, d⟩
  rotate_right
  · obtain ⟨sz, rfl⟩ : ∃ n : Nat, size = (n : Int) := ⟨size.toNat, by omega⟩
    obtain ⟨dp, rfl⟩ : ∃ n : Nat, deep = (n : Int) := ⟨deep.toNat, by omega⟩
    have hsz : sz ≤ 20 := by omega
    have hdp : dp ≤ 5 := by omega
    obtain ⟨f1, f2, f3, f4⟩ := wk_facts hsz
    have F1 := Lib.hid f1
    have F2 := Lib.hid f2
    have F3 := Lib.hid f3
    have F4 := Lib.hid f4
    clear f1 f2 f3 f4
    go_enter Tryz.func5, Tryz.ntmps5
    go_upto_region 4 with (go_at_call 8; refine (hold_walk E _ HE.out HT.out).mono ?_; rintro e w1 ⟨rfl, hq⟩; have HX1 := Lib.hid hq; clear hq)
    have HGB := Lib.hid ((HE.out.ext HX1.out).gb)
    have HZ : Hid (w.heap.size ≤ w1.heap.size) := HX1.out.size
    go_upto_region 10 with (first
      | (go_at_call 9; refine (hnew4_yes 64 256 8 1 (by decide) (by omega) _).mono ?_; rintro e w2 ⟨hb, b, S0, rfl, h1, hq⟩; have HA0 : Hid (OHeap w2 w1.heap.size hb b wk0 S0 1 1) := h1; have XA0 : Hid (Ext w w2) := HX1.out.trans_ hq; clear h1 hq)
      | (go_at_call 10; refine (make_walk _ HA0.out wk0_ok.inv (HE.out.ext XA0.out) (by omega) HGB.out 0 (by omega) (rootB_true.2 (by have hrr := wk0_ok.roots; omega)) 9 sz (by omega) (by omega)).mono ?_; rintro e w3 ⟨he, SA1, h1, h2⟩; rw [F1.out, show errC E 0 = .nilIface from rfl] at he; subst he; have HA1 : Hid (OHeap w3 w1.heap.size hb b (wkA sz) SA1 1 1) := (by rw [F1.out] at h1; exact h1); have XA1 : Hid (Ext w w3) := HStep.extB XA0.out HZ.out HA0.out h2; clear h1 h2)
      | (go_at_call 18; refine (weak_walk _ HA1.out (wkA_ok hsz).1.inv (HE.out.ext XA1.out) 0 (by omega) F2.out (by rw [(wkA_ok hsz).2]; omega)).mono ?_; rintro e w4 ⟨he, SA2, h1, h2⟩; rw [show (((wkA sz).weak.length : Nat) : Int) = 0 by rw [(wkA_ok hsz).2]; rfl, show errC E 0 = .nilIface from rfl] at he; subst he; have HA2 : Hid (OHeap w4 w1.heap.size hb b (wkB sz) SA2 1 1) := (by exact h1); have XA2 : Hid (Ext w w4) := HStep.extB XA1.out HZ.out HA1.out h2; clear h1 h2))
    cases keep with
    | false =>
      have WE := Lib.hid (wk_end (wkK_ok hsz 0 (by omega)).1 (wkK_ok hsz 0 (by omega)).2 F3.out)
      have HK : Hid (OHeap w4 w1.heap.size hb b (wkK sz 0) SA2 1 1) := HA2.out
      have XK := XA2
      go_wp2_with (first
        | (go_at_call 16; refine (const_walk _ HK.out (wkK_ok hsz 0 (by omega)).1.inv (HE.out.ext XK.out) 0 (by omega) (rootB_true.2 (by have hrr := (wkK_ok hsz 0 (by omega)).1.roots; omega)) 0).mono ?_; rintro e w8 ⟨he, SC1, h1, h2⟩; rw [show constC 0 = 0 from rfl, show errC E 0 = .nilIface from rfl] at he; subst he; have HC1 : Hid (OHeap w8 w1.heap.size hb b (wkF (wkK sz 0)) SC1 1 1) := (by rw [show constC 0 = 0 from rfl] at h1; exact h1); have XC1 : Hid (Ext w w8) := HStep.extB XK.out HZ.out HK.out h2; clear h1 h2)
        | (go_at_call 12; refine (hMajor_walk _ HC1.out (WE.out).1.inv.ok (HE.out.ext XC1.out) (WE.out).1.inv.chk).mono ?_; rintro e w9 ⟨he, SC2, h1, h2⟩; rw [(WE.out).2.1, show errC E 0 = .nilIface from rfl] at he; subst he; have HC2 : Hid (OHeap w9 w1.heap.size hb b (majorH (wkF (wkK sz 0))) SC2 1 1) := (by exact h1); have XC2 : Hid (Ext w w9) := HStep.extB XC1.out HZ.out HC1.out h2; clear h1 h2)
        | (go_at_call 19; refine (look_walk _ HC2.out (WE.out).2.2.1.inv (HE.out.ext XC2.out) 0 3 (by omega) (lookW (WE.out))).mono ?_; rintro e w10 ⟨he, SC3, h1, h2⟩; rw [show (kindW ((majorH (wkF (wkK sz 0))).weak.getD (0 : Int).toNat 0) == 0) = false from (WE.out).2.2.2.2, show errC E 0 = .nilIface from rfl] at he; subst he; have HC3 : Hid (OHeap w10 w1.heap.size hb b (rootM (majorH (wkF (wkK sz 0))) 3 ((majorH (wkF (wkK sz 0))).weak.getD 0 0)) SC3 1 1) := (by exact h1); have XC3 : Hid (Ext w w10) := HStep.extB XC2.out HZ.out HC2.out h2; clear h1 h2))
      go_ret
      exact ⟨rfl, XC3.out⟩
    | true =>
      go_wp2
      go_loopw [11] (fun i wr => ∃ k : Nat, k ≤ dp + 1 ∧ i = .int .i64 (k : Int) ∧ Hid (∃ S, OHeap wr w1.heap.size hb b (wkK sz k) S 1 1) ∧ Hid (Ext w wr)) (fun i _ => dp + 1 - (intOf i).toNat)
      case atStart => exact ⟨0, by omega, rfl, ⟨SA2, HA2.out⟩, XA2.out⟩
      case round =>
        obtain ⟨k, hk, rfl, hO, hX⟩ := hrel
        obtain ⟨SL, hO2⟩ := hO.out
        have HL := Lib.hid hO2
        have XL := hX
        clear hO2 hO hX
        have OK := Lib.hid (wkK_ok hsz k (by omega))
        by_cases hlt : k < dp + 1
        · have hltz : (k : Int) ≤ (dp : Int) := by omega
          have f9 : IntKind.i64.wrap ((k : Int) + 1) = ((k + 1 : Nat) : Int) := by rw [IntWalk.i64_in _ (by omega)]; omega
          have G1 := Lib.hid (F4.out k (by omega)).1
          have G2 := Lib.hid (F4.out k (by omega)).2.1
          have O1 := Lib.hid (st1_ok OK.out.1 G1.out).1
          have O2 := Lib.hid (st2_ok OK.out.1 G1.out G2.out).1
          go_wp2_with (first
            | (go_at_call 10; refine (make_walk _ HL.out OK.out.1.inv (HE.out.ext XL.out) (by omega) HGB.out 1 (by omega) (rootB_true.2 (by have hrr := OK.out.1.roots; omega)) 8 1 (by omega) (by omega)).mono ?_; rintro e w5 ⟨he, SL1, h1, h2⟩; rw [G1.out, show errC E 0 = .nilIface from rfl] at he; subst he; have HL1 : Hid (OHeap w5 w1.heap.size hb b (st1 (wkK sz k)) SL1 1 1) := (by rw [G1.out] at h1; exact h1); have XL1 : Hid (Ext w w5) := HStep.extB XL.out HZ.out HL.out h2; clear h1 h2)
            | (go_at_call 15; refine (put_walk _ HL1.out O1.out.inv (HE.out.ext XL1.out) 1 0 0 (by omega) (by omega) G2.out).mono ?_; rintro e w6 ⟨he, SL2, h1, h2⟩; rw [show errC E 0 = .nilIface from rfl] at he; subst he; have HL2 : Hid (OHeap w6 w1.heap.size hb b (st2 (wkK sz k)) SL2 1 1) := (by exact h1); have XL2 : Hid (Ext w w6) := HStep.extB XL1.out HZ.out HL1.out h2; clear h1 h2)
            | (go_at_call 14; refine (hcopy_walk _ HL2.out O2.out.inv (HE.out.ext XL2.out) 0 (by omega) 1 (by omega) (by rw [rootB_true.2 (by have hrr := O2.out.roots; omega), rootB_true.2 (by have hrr := O2.out.roots; omega)]; rfl)).mono ?_; rintro e w7 ⟨he, SL3, h1, h2⟩; skip; subst he; have HL3 : Hid (OHeap w7 w1.heap.size hb b (wkK sz (k + 1)) SL3 1 1) := (by exact h1); have XL3 : Hid (Ext w w7) := HStep.extB XL2.out HZ.out HL2.out h2; clear h1 h2))
          go_roundw
          case rel => exact ⟨k + 1, by omega, by go_num, ⟨_, HL3.out⟩, XL3.out⟩
          case measure => simp [intOf]; omega
        · obtain rfl : k = dp + 1 := by omega
          have hltz : ¬ (((dp + 1 : Nat) : Int) ≤ (dp : Int)) := by omega
          have hltz2 : ¬ ((dp : Int) + 1 ≤ (dp : Int)) := by omega
          have WE := Lib.hid (wk_end OK.out.1 OK.out.2 (F4.out dp (by omega)).2.2)
          have HK := HL
          have XK := XL
          go_wp2_with (first
            | (go_at_call 16; refine (const_walk _ HK.out OK.out.1.inv (HE.out.ext XK.out) 0 (by omega) (rootB_true.2 (by have hrr := OK.out.1.roots; omega)) 0).mono ?_; rintro e w8 ⟨he, SC1, h1, h2⟩; rw [show constC 0 = 0 from rfl, show errC E 0 = .nilIface from rfl] at he; subst he; have HC1 : Hid (OHeap w8 w1.heap.size hb b (wkF (wkK sz (dp + 1))) SC1 1 1) := (by rw [show constC 0 = 0 from rfl] at h1; exact h1); have XC1 : Hid (Ext w w8) := HStep.extB XK.out HZ.out HK.out h2; clear h1 h2)
            | (go_at_call 12; refine (hMajor_walk _ HC1.out (WE.out).1.inv.ok (HE.out.ext XC1.out) (WE.out).1.inv.chk).mono ?_; rintro e w9 ⟨he, SC2, h1, h2⟩; rw [(WE.out).2.1, show errC E 0 = .nilIface from rfl] at he; subst he; have HC2 : Hid (OHeap w9 w1.heap.size hb b (majorH (wkF (wkK sz (dp + 1)))) SC2 1 1) := (by exact h1); have XC2 : Hid (Ext w w9) := HStep.extB XC1.out HZ.out HC1.out h2; clear h1 h2)
            | (go_at_call 19; refine (look_walk _ HC2.out (WE.out).2.2.1.inv (HE.out.ext XC2.out) 0 3 (by omega) (lookW (WE.out))).mono ?_; rintro e w10 ⟨he, SC3, h1, h2⟩; rw [show (kindW ((majorH (wkF (wkK sz (dp + 1)))).weak.getD (0 : Int).toNat 0) == 0) = true from (WE.out).2.2.2.2, show errC E 0 = .nilIface from rfl] at he; subst he; have HC3 : Hid (OHeap w10 w1.heap.size hb b (rootM (majorH (wkF (wkK sz (dp + 1)))) 3 ((majorH (wkF (wkK sz (dp + 1)))).weak.getD 0 0)) SC3 1 1) := (by exact h1); have XC3 : Hid (Ext w w10) := HStep.extB XC2.out HZ.out HC2.out h2; clear h1 h2))
          go_ret
          exact ⟨rfl, XC3.out⟩
  all_goals
    go_enter Tryz.func5, Tryz.ntmps5
    go_wp2_with (go_at_call 8; refine (hold_walk E _ HE.out HT.out).mono ?_; rintro e w1 ⟨rfl, hq⟩; have HX1 := Lib.hid hq; clear hq)
    go_ret
    exact ⟨rfl, HX1.out⟩
end Go.Proofs.YtbbiaepgenbloaaGreatDoor
/- The law HeapWeak: its contract: whatever it is given it answers true, and leaves what was there. -/
namespace Go.Proofs.YtbbiaepgenbloaaGreatDoor.HeapWeak
open Go.ChangeShapes Go.WideShapes Go.ChangeAt Go.RowKit
open Go.ChangeMaps (open_string)
set_option linter.unusedVariables false
set_option linter.unusedSimpArgs false

set_option maxRecDepth 100000 in
theorem contract (H : Type) (enc : TypeId × Value → H) (W : World) (base : Nat) (args : Array Value) (ds gs : List (DataW H)) (before : List MemPlace)
    (hval : ∀ (j : Nat) t v, Tryz.f5.params[j]? = some t → args[j]? = some v → Value.okWide Tryz.prog W .any base t v)
    (hW : DataW.Whole enc Tryz.prog Tryz.f5.params.toList Rows.heapWeakSpec.vars false W args.toList ds gs before)
    (hsz : (DataW.weightsEach Tryz.prog (Tryz.f5.params.toList ++ (OpenSpec.ofChange Rows.heapWeakSpec).bare.plain.varTypes Tryz.prog) (ds ++ gs)).all (· ≤ reachBytes) = true) (hL : laidMetH Tryz.prog Rows.heapWeakRow.laid W) :
    Calls Tryz.prog 5 args W fun e W' => ∃ v, e = .returned v ∧ Rows.heapWeakSpec.post enc Tryz.prog Tryz.f5 false true false false W args v W' := by
  have hW' := hW
  obtain ⟨p, q, hA0, hV, rfl, hfz, hnd⟩ := hW
  have hA : DataW.TrodAll enc Tryz.prog W 0 (fun _ => true) true Tryz.f5.params.toList args.toList ds p := hA0
  rw [Tryz.params5] at hA hval
  obtain ⟨v0, vs0, d0, ds0, p0, q0, hargs, rfl, rfl, h0, r0⟩ := trodAll_cons hA
  obtain ⟨v1, vs1, d1, ds1, p1, q1, rfl, rfl, rfl, h1, r1⟩ := trodAll_cons r0
  obtain ⟨v2, vs2, d2, ds2, p2, q2, rfl, rfl, rfl, h2, r2⟩ := trodAll_cons r1
  obtain ⟨rfl, rfl, rfl⟩ := trodAll_nil r2
  obtain rfl : args = #[v0, v1, v2] := by cases args; simp_all
  obtain ⟨rfl, rfl⟩ := trodVars_none hV
  obtain ⟨x0, rfl, rfl, rfl, w0⟩ := open_int Tryz.underlying3 (hval 0 3 v0 rfl rfl) h0
  obtain ⟨x1, rfl, rfl, rfl⟩ := open_bool Tryz.underlying4 (hval 1 4 v1 rfl rfl) h1
  obtain ⟨x2, rfl, rfl, rfl, w2⟩ := open_int Tryz.underlying3 (hval 2 3 v2 rfl rfl) h2
  obtain ⟨E, hE⟩ := g4_of_laid (W := W) (hL.filter fun x => laid4.any (·.1 == x.1))
  have hT : Tabs W := tabs_of_laid (hL.filter fun x => x.1 == "math/bits.deBruijn64tab" || x.1 == "internal/strconv.uint64pow10")
  clear hA0
  refine (heapWeak_any x0 x1 x2 W E hE hT ).mono fun e W' ⟨he, hg⟩ => ?_
  subst he
  exact ⟨_, rfl, law_post rfl rfl hW' (by simp [Rows.heapWeakSpec]) (by decide +kernel) hg⟩
end Go.Proofs.YtbbiaepgenbloaaGreatDoor.HeapWeak
/- The law HeapWeak: its row's step, out of the contract; an input that fits. -/
namespace Go.Proofs.YtbbiaepgenbloaaGreatDoor.HeapWeak
open Go.ChangeShapes Go.WideShapes Go.ChangeAt Go.RowKit

theorem laid_met (os : Os) : laidMetH Tryz.prog Rows.heapWeakRow.laid ((World.doorLaid Tryz.prog 200 os).forCall (fun _ _ => 0) ⟨#[], #[.int .i64 0, .bool false, .int .i64 0], []⟩).memory :=
  laidMetH_of_parts3 (fuel := 8) (laidMet_of_run' 8 (by kernel_rfl) (by kernel_rfl)) (by kernel_rfl) (by kernel_rfl)
theorem reads (os : Os) {H : Type} (enc : TypeId × Value → H) : ∃ places, DataW.whole enc Tryz.prog ((World.doorLaid Tryz.prog 200 os).forCall (fun _ _ => 0) ⟨#[], #[.int .i64 0, .bool false, .int .i64 0], []⟩).memory Tryz.f5.params.toList Rows.heapWeakSpec.vars false #[.int .i64 0, .bool false, .int .i64 0].toList 8 = some ([.lit (.int .i64 0), .lit (.bool false), .lit (.int .i64 0)], [], places) :=
  ⟨[], by kernel_rfl⟩

set_option maxRecDepth 100000 in
theorem lifted (os : Os) (started : os.Started) (H : Type) (enc : TypeId × Value → H) (F : Stop.Interp) :
    ReturnsInHanded {} Tryz.checked os 5 .any ((OpenSpec.ofChange Rows.heapWeakSpec).preRow enc Tryz.prog Tryz.f5 Rows.heapWeakRow.domain false Rows.heapWeakRow.laid) (((OpenSpec.ofChange Rows.heapWeakSpec).at F).post enc Tryz.prog Tryz.f5 false true false false) := by
  obtain ⟨places, hx⟩ := reads os enc
  refine returnsInHanded_of_row (C := Tryz.checked) (s := OpenSpec.ofChange Rows.heapWeakSpec) own started (by kernel_rfl) Tryz.func5
    (witness_row_atRef (enc := enc) (C := Tryz.checked) false (World.doorLaid Tryz.prog 200 os) #[.int .i64 0, .bool false, .int .i64 0] rfl (by kernel_rfl) (by kernel_rfl) (by kernel_rfl)
      (OpenSpec.preRow_of_cond 8 hx (by kernel_rfl) (fun k hk => by cases hk) (by kernel_rfl) (laid_met os))) ?_
  intro W base args ds gs before hval hW _ _ hsz hL _ _
  exact contract H enc W base args ds gs before hval hW hsz hL
end Go.Proofs.YtbbiaepgenbloaaGreatDoor.HeapWeak
/- The law HeapWeak: the closed facts of its row, each by itself. -/
namespace Go.Proofs.YtbbiaepgenbloaaGreatDoor.HeapWeak
open Go.ChangeShapes Go.WideShapes Go.ChangeAt Go.RowKit

set_option maxHeartbeats 40000000 in
theorem closed : joinedFacts Tryz.prog 5 Tryz.f5 (OpenSpec.ofChange Rows.heapWeakSpec).bare Rows.heapWeakRow = true := by
  unfold joinedFacts
  repeat' (with_reducible refine Bool.and_eq_true_iff.2 ⟨?_, ?_⟩)
  all_goals as_aux_lemma => kernel_rfl
end Go.Proofs.YtbbiaepgenbloaaGreatDoor.HeapWeak
/- The law HeapWeak: the statement, closed. -/
namespace Go.Proofs.YtbbiaepgenbloaaGreatDoor.HeapWeak
open Go.ChangeShapes Go.WideShapes Go.ChangeAt Go.RowKit

set_option maxRecDepth 100000 in
theorem said : Rows.HeapWeakSaid :=
  OpenClaim.holds_of_cond 5 Tryz.f5 rfl rfl rfl rfl rfl rfl rfl ⟨rfl, rfl, rfl, rfl, rfl⟩ rfl rfl rfl rfl rfl (by kernel_rfl) Tryz.func5 closed
    (of_decide_eq_true (by kernel_rfl)) (by unfold Func.isWrapper; first | (rw [if_pos (by decide +kernel)]; kernel_rfl) | (rw [if_neg (by decide +kernel)]; exact ⟨rfl, rfl⟩))
    (fun os started H enc _ F => by rw [OpenClaim.pre_eq_preRow]; exact lifted os started H enc F)

theorem looks0 : true = Tryz.pinned.checked.prog.looks [] := by kernel_rfl
/-- No parameter wants a stand-in; the looks are the program's own. -/
theorem plain (f : FuncId) (fn : Func) (hf : Tryz.pinned.checked.prog.funcNamed "nurserypy/nurserypylaw3.HeapWeak" = some f) (hfn : Tryz.pinned.checked.prog.funcs[f]? = some fn) :
    true = Tryz.pinned.checked.prog.looks [] ∧ ∀ (j : Nat) t, fn.params[j]? = some t → Tryz.pinned.checked.prog.wantsStandIn t = false := by
  obtain rfl : f = 5 := Option.some.inj ((show Tryz.prog.funcNamed "nurserypy/nurserypylaw3.HeapWeak" = some 5 by kernel_rfl).symm.trans hf) |>.symm
  obtain rfl : fn = Tryz.f5 := (Option.some.inj (Tryz.func5.symm.trans hfn)).symm
  refine ⟨looks0, fun j t ht => ?_⟩
  rw [Tryz.params5] at ht
  have hm := Array.mem_of_getElem? ht
  simp only [List.mem_toArray, List.mem_cons, List.not_mem_nil, or_false] at hm
  rcases hm with rfl | rfl | rfl
  · exact (show Tryz.prog.wantsStandIn 3 = false by kernel_rfl)
  · exact (show Tryz.prog.wantsStandIn 4 = false by kernel_rfl)
  · exact (show Tryz.prog.wantsStandIn 3 = false by kernel_rfl)
theorem wfT : Rows.heapWeakRow.wfByText (OpenSpec.ofChange Rows.heapWeakSpec) = true := by kernel_rfl
theorem goesB : false = Rows.heapWeakRow.goesBy Tryz.pinned.checked.prog := by kernel_rfl
theorem mainI : Tryz.pinned.checked.prog.mainIs = some (Rows.heapWeakCard.stood.harness.1, Rows.heapWeakCard.stood.harness.2.toList) := by kernel_rfl

/-- THE STATEMENT. -/
theorem heapWeak_holds : Rows.HeapWeakCardSaid :=
  Claim7.holds_tied_plain_at .later [] _ _ _ _ said (fun _ h => by cases h) wfT (fun _ h => by cases h) heapWeak_row_tie rfl ⟨rfl, rfl⟩ mainI rfl plain goesB
end Go.Proofs.YtbbiaepgenbloaaGreatDoor.HeapWeak
