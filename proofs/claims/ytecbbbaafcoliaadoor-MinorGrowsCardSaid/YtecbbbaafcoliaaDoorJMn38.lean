/- The law MemFields: its walk where nothing is found. -/
import Derived.Test.YtecbbbaafcoliaaDoorJMn30
import Derived.Test.YtecbbbaafcoliaaDoorJMn33
import Derived.Test.YtecbbbaafcoliaaDoorJMn34
import Derived.Test.YtecbbbaafcoliaaDoorJMn35
import Derived.Test.YtecbbbaafcoliaaDoorJMn08
import Derived.ProofKit
import Derived.Deep.Fields
import Derived.Deep.SlicePairs
import Derived.OpenShut
namespace Go.Proofs.YtecbbbaafcoliaaDoor
open Go.RowKit
set_option linter.unusedVariables false
set_option linter.unusedSimpArgs false

set_option maxRecDepth 100000 in
set_option maxHeartbeats 4000000 in
theorem find_nil (p f : Int) (E : Nat → Addr) (w : World) (hE : G3 E w) :
    Calls Tryd.prog 51 #[.pointer none, .int .u64 p, .int .i64 f] w (FNo w (errC E 3)) := by
  have HE := Lib.hid hE
  unfold FNo head0
  clear hE
  go_enter Tryd.func51, Tryd.ntmps51
  go_wp2_with fail
  refine (check_nil _ (E 2) (HE.out.ext ((Ext.refl w).alloc_ _)).shape).mono ?_
  rintro e w1 ⟨rfl, hq⟩
  have HX1 : Hid (Ext w w1) := Ext.trans_ ((Ext.refl w).alloc_ _) hq
  obtain ⟨t0, t1, t2, t3, u0, u1, u2, u3⟩ := head_block hq
  have hz1 : w.heap.size < w1.heap.size := cell_lt t0
  clear hq
  go_wp2
  refine named_body (fun W5 hW5 => ?_)
  obtain ⟨z0, z1, z2, z3, -, -, -, -, hE5⟩ := head_set hz1 t0 t1 t2 t3 u0 u1 u2 u3 0 0 0 0
  have hX5 : Ext w W5 := by rw [hW5]; exact Below.trans HX1.out hE5
  have HX5 := Lib.hid hX5
  have z0' : W5.cell? ⟨w.heap.size, 0, none⟩ = some (.int .i64 0) := by rw [hW5]; exact z0
  have z1' : W5.cell? ⟨w.heap.size, 1, none⟩ = some (.int .i64 0) := by rw [hW5]; exact z1
  have z2' : W5.cell? ⟨w.heap.size, 2, none⟩ = some (.int .i64 0) := by rw [hW5]; exact z2
  have z3' : W5.cell? ⟨w.heap.size, 3, none⟩ = some (.int .i64 0) := by rw [hW5]; exact z3
  clear hW5 hE5 hX5 z0 z1 z2 z3
  exact bodyPost_ret (v := .tuple #[.int .i64 0, head0, errV (E 2)]) (by simp [results, Tryd.results51, go_sem, z0', z1', z2', z3']) rfl ⟨rfl, HX5.out⟩
set_option maxRecDepth 100000 in
set_option maxHeartbeats 4000000 in
theorem get_nil (p f : Int) (E : Nat → Addr) (w : World) (hE : G3 E w) :
    Calls Tryd.prog 20 #[.pointer none, .int .u64 p, .int .i64 f] w fun e w' => e = .returned (.tuple #[.int .u64 0, errC E 3]) ∧ Ext w w' := by
  have HC := Lib.hid (find_nil p f E w hE)
  clear hE
  go_enter Tryd.func20, Tryd.ntmps20
  go_wp2_with fail
  refine HC.out.mono ?_
  rintro e w1 ⟨he, hq⟩
  rw [errC_pos E 3 (by decide)] at he
  subst he
  have HX1 := Lib.hid hq
  clear hq
  go_wp2
  go_ret2
  exact ⟨rfl, by repeat (first | exact HX1.out | (refine Ext.set_ ?_ (by have := HX1.out.size; simp; omega) _) | (refine Ext.alloc_ ?_ _))⟩
set_option maxRecDepth 100000 in
set_option maxHeartbeats 4000000 in
theorem put_nil (p f v : Int) (E : Nat → Addr) (w : World) (hE : G3 E w) :
    Calls Tryd.prog 22 #[.pointer none, .int .u64 p, .int .i64 f, .int .u64 v] w fun e w' => e = .returned (errC E 3) ∧ Ext w w' := by
  have HC := Lib.hid (find_nil p f E w hE)
  clear hE
  go_enter Tryd.func22, Tryd.ntmps22
  go_wp2_with fail
  refine HC.out.mono ?_
  rintro e w1 ⟨he, hq⟩
  rw [errC_pos E 3 (by decide)] at he
  subst he
  have HX1 := Lib.hid hq
  clear hq
  go_wp2
  go_ret
  exact ⟨rfl, by repeat (first | exact HX1.out | (refine Ext.set_ ?_ (by have := HX1.out.size; simp; omega) _) | (refine Ext.alloc_ ?_ _))⟩
set_option maxRecDepth 100000 in
set_option maxHeartbeats 4000000 in
theorem memFields_nil (p f v : Int) (w : World) (E : Nat → Addr) (h : ErrEnv E w) (p0 : 0 ≤ p) (p1 : p ≤ 18446744073709551615) (v0 : 0 ≤ v) (v1 : v ≤ 18446744073709551615) :
    Calls Tryd.prog 8 #[.pointer none, .int .u64 p, .int .i64 f, .int .u64 v] w fun e w' => e = .returned (.bool true) ∧ Ext w w' := by
  have H := Lib.hid h
  clear h
  go_enter Tryd.func8, Tryd.ntmps8
  go_wp2_with (first
    | (go_at_call 11; refine (fresh_any _ E H.out.g3).mono ?_; rintro e w1 ⟨rfl, hq⟩; have HB1 := Lib.hid hq; clear hq)
    | (go_at_call 12; refine (near_nil _).mono ?_; rintro e w' ⟨rfl, hw9⟩; have hw9 := hw9.symm; subst hw9)
    | (go_at_call 18; refine (kCheck_nil _).mono ?_; rintro e w3 ⟨rfl, hq⟩; have HB3 : Hid (Ext w w3) := Ext.trans_ HB1.out hq; clear hq)
    | (go_at_call 13; refine (memOf_nil _).mono ?_; rintro e w' ⟨rfl, hw9⟩; have hw9 := hw9.symm; subst hw9)
    | (go_at_call 20; refine (get_nil p f E _ (H.out.ext HB3.out).g3).mono ?_; rintro e w4 ⟨rfl, hq⟩; have HB4 : Hid (Ext w w4) := Ext.trans_ HB3.out hq; clear hq)
    | (go_at_call 22; refine (put_nil p f v E _ (H.out.ext HB4.out).g3).mono ?_; rintro e w5 ⟨rfl, hq⟩; have HB5 : Hid (Ext w w5) := Ext.trans_ HB4.out hq; clear hq))
  refine (coded_c (H.out.ext HB5.out) 3 (by decide) (by decide)).mono ?_
  rintro e w6 ⟨rfl, hq⟩
  have HB6 : Hid (Ext w w6) := Ext.trans_ HB5.out hq
  clear hq
  go_wp2_with fail
  refine (coded_c (H.out.ext HB6.out) 3 (by decide) (by decide)).mono ?_
  rintro e w7 ⟨rfl, hq⟩
  have HB7 : Hid (Ext w w7) := Ext.trans_ HB6.out hq
  clear hq
  go_wp2
  go_ret
  exact ⟨rfl, HB7.out⟩
set_option maxRecDepth 100000 in
set_option maxHeartbeats 4000000 in
theorem memFields_far (b o : Nat) (M : Mem) (S : Sls) (hn : ¬ Near M) (w : World) (hM : RMem w b o M S) (E : Nat → Addr) (h : ErrEnv E w) (p f v : Int) :
    Calls Tryd.prog 8 #[.pointer (some ⟨b, o, none⟩), .int .u64 p, .int .i64 f, .int .u64 v] w fun e w' => e = .returned (.bool true) ∧ Ext w w' := by
  have H := Lib.hid h
  have HM := Lib.hid hM
  have HN := Lib.hid hn
  clear h hM hn
  go_enter Tryd.func8, Tryd.ntmps8
  go_wp2_with (first
    | (go_at_call 11; refine (fresh_any _ E H.out.g3).mono ?_; rintro e w1 ⟨rfl, hq⟩; have HB1 := Lib.hid hq; clear hq)
    | (go_at_call 12; refine (near_no b o M S HN.out _ (HM.out.ext HB1.out)).mono ?_; rintro e w' ⟨rfl, hw9⟩; have hw9 := hw9.symm; subst hw9))
  go_ret
  exact ⟨rfl, HB1.out⟩
set_option maxRecDepth 100000 in
set_option maxHeartbeats 8000000 in
theorem memFields_chk (b o : Nat) (M : Mem) (S : Sls) (hn : Near M) (w : World) (hM : RMem w b o M S) (E : Nat → Addr) (h : ErrEnv E w) (p f v : Int) (p0 : 0 ≤ p) (p1 : p ≤ 18446744073709551615) (v0 : 0 ≤ v) (v1 : v ≤ 18446744073709551615) (hc : 0 < chk M) :
    Calls Tryd.prog 8 #[.pointer (some ⟨b, o, none⟩), .int .u64 p, .int .i64 f, .int .u64 v] w fun e w' => e = .returned (.bool true) ∧ Ext w w' := by
  obtain ⟨c, hcc⟩ : ∃ c, chk M = c := ⟨_, rfl⟩
  rw [hcc] at hc
  have HCK := Lib.hid hcc
  have HFC : Hid (findC M p f = c) := by unfold Hid findC; rw [if_pos (by omega), hcc]
  have HNE : Hid (findC M p f ≠ 0) := by rw [Hid, HFC.out]; omega
  have HC1 : Hid (1 ≤ c) := by unfold Hid; omega
  have HC2 : Hid (c ≤ 7) := by rw [Hid, ← hcc]; unfold chk; split <;> (try split) <;> omega
  have hc0 : (c == 0) = false := by simp; omega
  clear hcc
  have HP0 := Lib.hid p0
  have HP1 := Lib.hid p1
  have HF := Lib.hid hn.few
  have HOK := Lib.hid hM.ok
  have H := Lib.hid h
  have HM := Lib.hid hM
  have HN := Lib.hid hn
  have hltb := hM.lt
  clear h hM hn p0 p1
  go_enter Tryd.func8, Tryd.ntmps8
  go_wp2_with (first
    | (go_at_call 11; refine (fresh_any _ E H.out.g3).mono ?_; rintro e w1 ⟨rfl, hq⟩; have HB1 := Lib.hid hq; clear hq)
    | (go_at_call 12; refine (near_yes b o M S HN.out _ (HM.out.ext HB1.out)).mono ?_; rintro e w' ⟨rfl, hw9⟩; have hw9 := hw9.symm; subst hw9)
    | (go_at_call 18; refine (kCheck_any b o M S _ (HM.out.ext HB1.out)).mono ?_; rintro e w2 ⟨he, hq⟩; rw [HCK.out] at he; subst he; have HB2 : Hid (Ext w w2) := Ext.trans_ HB1.out hq; clear hq)
    | (go_at_call 13; refine (memOf_walk b o M S _ (HM.out.ext HB2.out) HF.out).mono ?_; rintro e w3 ⟨bx, Sx, rfl, hq1, hq2⟩; have HX := Lib.hid hq1; have HB3 : Hid (Ext w w3) := Ext.trans_ HB2.out hq2; clear hq1 hq2)
    | (go_at_call 20; refine (get_no bx 0 M Sx E p f HP0.out HP1.out _ (HX.out.mem HOK.out) (H.out.ext HB3.out).g3 HNE.out).mono ?_; rintro e w4 ⟨he, hq⟩; rw [HFC.out] at he; subst he; have HB4 : Hid (Ext w w4) := Ext.trans_ HB3.out hq; have HX4 : Hid (OMem w4 w2.heap.size bx 72 M Sx) := OM.ext HX.out hq; clear hq)
    | (go_at_call 22; refine (put_no bx 0 M Sx E p f v HP0.out HP1.out _ (HX4.out.mem HOK.out) (H.out.ext HB4.out).g3 HNE.out).mono ?_; rintro e w5 ⟨he, hq⟩; rw [HFC.out] at he; subst he; have HB5 : Hid (Ext w w5) := Ext.trans_ HB4.out hq; have HX5 : Hid (OMem w5 w2.heap.size bx 72 M Sx) := OM.ext HX4.out hq; clear hq))
  refine (coded_c (H.out.ext HB5.out) c HC1.out HC2.out).mono ?_
  rintro e w6 ⟨rfl, hq⟩
  have HB6 : Hid (Ext w w6) := Ext.trans_ HB5.out hq
  have HX6 : Hid (OMem w6 w2.heap.size bx 72 M Sx) := OM.ext HX5.out hq
  clear hq
  go_wp2_with fail
  refine (coded_c (H.out.ext HB6.out) c HC1.out HC2.out).mono ?_
  rintro e w7 ⟨rfl, hq⟩
  have HB7 : Hid (Ext w w7) := Ext.trans_ HB6.out hq
  have HX7 : Hid (OMem w7 w2.heap.size bx 72 M Sx) := OM.ext HX6.out hq
  clear hq
  go_wp2_with (first
    | (go_at_call 16; refine (memBack_walk bx 0 M Sx _ (HX7.out.mem HOK.out) HF.out).mono ?_; rintro e w8 ⟨B8, b8, S8, rfl, hq1, hq2, hq3⟩; have H8 := Lib.hid (hq1.mem HOK.out); have HB8 : Hid (Ext w w8) := Ext.trans_ HB7.out hq3; clear hq1 hq2 hq3)
    | (go_at_call 15; refine (sameMemory_yes b8 0 b o M S8 S _ H8.out (HM.out.ext HB8.out)).mono ?_; rintro e w9 ⟨rfl, hq⟩; have HB9 : Hid (Ext w w9) := Ext.trans_ HB8.out hq; clear hq))
  go_ret
  exact ⟨rfl, HB9.out⟩
set_option maxRecDepth 100000 in
set_option maxHeartbeats 8000000 in
theorem memFields_pt (b o : Nat) (M : Mem) (S : Sls) (hn : Near M) (w : World) (hM : RMem w b o M S) (E : Nat → Addr) (h : ErrEnv E w) (p f v : Int) (p0 : 0 ≤ p) (p1 : p ≤ 18446744073709551615) (v0 : 0 ≤ v) (v1 : v ≤ 18446744073709551615) (hc : chk M = 0) (hp : ptB (startsM M) p = false) :
    Calls Tryd.prog 8 #[.pointer (some ⟨b, o, none⟩), .int .u64 p, .int .i64 f, .int .u64 v] w fun e w' => e = .returned (.bool true) ∧ Ext w w' := by
  have HCK := Lib.hid hc
  have hg := (chk_zero hc).1
  have HFC : Hid (findC M p f = 5) := by unfold Hid findC; rw [if_neg (by omega), if_pos hp]
  have HNE : Hid (findC M p f ≠ 0) := by rw [Hid, HFC.out]; omega
  have HC1 : Hid ((1 : Int) ≤ 5) := by unfold Hid; omega
  have HC2 : Hid ((5 : Int) ≤ 7) := by unfold Hid; omega
  have HFA : Hid (∀ W, RMem W b o M S → Calls Tryd.prog 33 #[.pointer (some ⟨b, o, none⟩), .int .u64 p, .int .i64 f] W (F3 W (-1) 0 5)) := fun W hW => fieldAt_pt b o M S p f p0 p1 W hW hg hp
  clear hc hg hp
  have HP0 := Lib.hid p0
  have HP1 := Lib.hid p1
  have HF := Lib.hid hn.few
  have HOK := Lib.hid hM.ok
  have H := Lib.hid h
  have HM := Lib.hid hM
  have HN := Lib.hid hn
  have hltb := hM.lt
  clear h hM hn p0 p1
  go_enter Tryd.func8, Tryd.ntmps8
  go_wp2_with (first
    | (go_at_call 11; refine (fresh_any _ E H.out.g3).mono ?_; rintro e w1 ⟨rfl, hq⟩; have HB1 := Lib.hid hq; clear hq)
    | (go_at_call 12; refine (near_yes b o M S HN.out _ (HM.out.ext HB1.out)).mono ?_; rintro e w' ⟨rfl, hw9⟩; have hw9 := hw9.symm; subst hw9)
    | (go_at_call 18; refine (kCheck_any b o M S _ (HM.out.ext HB1.out)).mono ?_; rintro e w2 ⟨he, hq⟩; rw [HCK.out] at he; subst he; have HB2 : Hid (Ext w w2) := Ext.trans_ HB1.out hq; clear hq)
    | (go_at_call 33; refine (HFA.out _ (HM.out.ext HB2.out)).mono ?_; rintro e wf ⟨he, hq⟩; subst he; have HBF : Hid (Ext w wf) := Ext.trans_ HB2.out hq; clear hq)
    | (go_at_call 13; refine (memOf_walk b o M S _ (HM.out.ext HBF.out) HF.out).mono ?_; rintro e w3 ⟨bx, Sx, rfl, hq1, hq2⟩; have HX := Lib.hid hq1; have HB3 : Hid (Ext w w3) := Ext.trans_ HBF.out hq2; clear hq1 hq2)
    | (go_at_call 20; refine (get_no bx 0 M Sx E p f HP0.out HP1.out _ (HX.out.mem HOK.out) (H.out.ext HB3.out).g3 HNE.out).mono ?_; rintro e w4 ⟨he, hq⟩; rw [HFC.out] at he; subst he; have HB4 : Hid (Ext w w4) := Ext.trans_ HB3.out hq; have HX4 : Hid (OMem w4 wf.heap.size bx 72 M Sx) := OM.ext HX.out hq; clear hq)
    | (go_at_call 22; refine (put_no bx 0 M Sx E p f v HP0.out HP1.out _ (HX4.out.mem HOK.out) (H.out.ext HB4.out).g3 HNE.out).mono ?_; rintro e w5 ⟨he, hq⟩; rw [HFC.out] at he; subst he; have HB5 : Hid (Ext w w5) := Ext.trans_ HB4.out hq; have HX5 : Hid (OMem w5 wf.heap.size bx 72 M Sx) := OM.ext HX4.out hq; clear hq))
  refine (coded_c (H.out.ext HB5.out) 5 HC1.out HC2.out).mono ?_
  rintro e w6 ⟨rfl, hq⟩
  have HB6 : Hid (Ext w w6) := Ext.trans_ HB5.out hq
  have HX6 : Hid (OMem w6 wf.heap.size bx 72 M Sx) := OM.ext HX5.out hq
  clear hq
  go_wp2_with fail
  refine (coded_c (H.out.ext HB6.out) 5 HC1.out HC2.out).mono ?_
  rintro e w7 ⟨rfl, hq⟩
  have HB7 : Hid (Ext w w7) := Ext.trans_ HB6.out hq
  have HX7 : Hid (OMem w7 wf.heap.size bx 72 M Sx) := OM.ext HX6.out hq
  clear hq
  go_wp2_with (first
    | (go_at_call 16; refine (memBack_walk bx 0 M Sx _ (HX7.out.mem HOK.out) HF.out).mono ?_; rintro e w8 ⟨B8, b8, S8, rfl, hq1, hq2, hq3⟩; have H8 := Lib.hid (hq1.mem HOK.out); have HB8 : Hid (Ext w w8) := Ext.trans_ HB7.out hq3; clear hq1 hq2 hq3)
    | (go_at_call 15; refine (sameMemory_yes b8 0 b o M S8 S _ H8.out (HM.out.ext HB8.out)).mono ?_; rintro e w9 ⟨rfl, hq⟩; have HB9 : Hid (Ext w w9) := Ext.trans_ HB8.out hq; clear hq))
  go_ret
  exact ⟨rfl, HB9.out⟩
set_option maxRecDepth 100000 in
set_option maxHeartbeats 8000000 in
theorem memFields_bound (b o : Nat) (M : Mem) (S : Sls) (hn : Near M) (w : World) (hM : RMem w b o M S) (E : Nat → Addr) (h : ErrEnv E w) (p f v : Int) (p0 : 0 ≤ p) (p1 : p ≤ 18446744073709551615) (v0 : 0 ≤ v) (v1 : v ≤ 18446744073709551615) (hc : chk M = 0) (hp : ptB (startsM M) p = true) (x : Ob) (hx : x ∈ objsAll M) (hpl : placeW p = (x.a : Int)) (hb : f < 0 ∨ (¬ f < 0 ∧ hSize x.w ≤ f)) :
    Calls Tryd.prog 8 #[.pointer (some ⟨b, o, none⟩), .int .u64 p, .int .i64 f, .int .u64 v] w fun e w' => e = .returned (.bool true) ∧ Ext w w' := by
  have HCK := Lib.hid hc
  have hg := (chk_zero hc).1
  have HFC : Hid (findC M p f = 2) := by
    have hxw : wat M.W (placeW p).toNat = x.w := by rw [hpl, Int.toNat_natCast]; exact (mem_in (good_parts hg).1 hx).2.1.symm
    unfold Hid findC; rw [if_neg (by omega), if_neg (by simp [hp]), hxw, if_pos (by omega)]
  have HNE : Hid (findC M p f ≠ 0) := by rw [Hid, HFC.out]; omega
  have HC1 : Hid ((1 : Int) ≤ 2) := by unfold Hid; omega
  have HC2 : Hid ((2 : Int) ≤ 7) := by unfold Hid; omega
  have HFA : Hid (∀ W, RMem W b o M S → Calls Tryd.prog 33 #[.pointer (some ⟨b, o, none⟩), .int .u64 p, .int .i64 f] W (F3 W (-1) 0 2)) := fun W hW => (fieldAt_in b o M S p f p0 p1 W hW hg hp x hx hpl).2 hb
  clear hc hg hp hpl hx hb
  have HP0 := Lib.hid p0
  have HP1 := Lib.hid p1
  have HF := Lib.hid hn.few
  have HOK := Lib.hid hM.ok
  have H := Lib.hid h
  have HM := Lib.hid hM
  have HN := Lib.hid hn
  have hltb := hM.lt
  clear h hM hn p0 p1
  go_enter Tryd.func8, Tryd.ntmps8
  go_wp2_with (first
    | (go_at_call 11; refine (fresh_any _ E H.out.g3).mono ?_; rintro e w1 ⟨rfl, hq⟩; have HB1 := Lib.hid hq; clear hq)
    | (go_at_call 12; refine (near_yes b o M S HN.out _ (HM.out.ext HB1.out)).mono ?_; rintro e w' ⟨rfl, hw9⟩; have hw9 := hw9.symm; subst hw9)
    | (go_at_call 18; refine (kCheck_any b o M S _ (HM.out.ext HB1.out)).mono ?_; rintro e w2 ⟨he, hq⟩; rw [HCK.out] at he; subst he; have HB2 : Hid (Ext w w2) := Ext.trans_ HB1.out hq; clear hq)
    | (go_at_call 33; refine (HFA.out _ (HM.out.ext HB2.out)).mono ?_; rintro e wf ⟨he, hq⟩; subst he; have HBF : Hid (Ext w wf) := Ext.trans_ HB2.out hq; clear hq)
    | (go_at_call 13; refine (memOf_walk b o M S _ (HM.out.ext HBF.out) HF.out).mono ?_; rintro e w3 ⟨bx, Sx, rfl, hq1, hq2⟩; have HX := Lib.hid hq1; have HB3 : Hid (Ext w w3) := Ext.trans_ HBF.out hq2; clear hq1 hq2)
    | (go_at_call 20; refine (get_no bx 0 M Sx E p f HP0.out HP1.out _ (HX.out.mem HOK.out) (H.out.ext HB3.out).g3 HNE.out).mono ?_; rintro e w4 ⟨he, hq⟩; rw [HFC.out] at he; subst he; have HB4 : Hid (Ext w w4) := Ext.trans_ HB3.out hq; have HX4 : Hid (OMem w4 wf.heap.size bx 72 M Sx) := OM.ext HX.out hq; clear hq)
    | (go_at_call 22; refine (put_no bx 0 M Sx E p f v HP0.out HP1.out _ (HX4.out.mem HOK.out) (H.out.ext HB4.out).g3 HNE.out).mono ?_; rintro e w5 ⟨he, hq⟩; rw [HFC.out] at he; subst he; have HB5 : Hid (Ext w w5) := Ext.trans_ HB4.out hq; have HX5 : Hid (OMem w5 wf.heap.size bx 72 M Sx) := OM.ext HX4.out hq; clear hq))
  refine (coded_c (H.out.ext HB5.out) 2 HC1.out HC2.out).mono ?_
  rintro e w6 ⟨rfl, hq⟩
  have HB6 : Hid (Ext w w6) := Ext.trans_ HB5.out hq
  have HX6 : Hid (OMem w6 wf.heap.size bx 72 M Sx) := OM.ext HX5.out hq
  clear hq
  go_wp2_with fail
  refine (coded_c (H.out.ext HB6.out) 2 HC1.out HC2.out).mono ?_
  rintro e w7 ⟨rfl, hq⟩
  have HB7 : Hid (Ext w w7) := Ext.trans_ HB6.out hq
  have HX7 : Hid (OMem w7 wf.heap.size bx 72 M Sx) := OM.ext HX6.out hq
  clear hq
  go_wp2_with (first
    | (go_at_call 16; refine (memBack_walk bx 0 M Sx _ (HX7.out.mem HOK.out) HF.out).mono ?_; rintro e w8 ⟨B8, b8, S8, rfl, hq1, hq2, hq3⟩; have H8 := Lib.hid (hq1.mem HOK.out); have HB8 : Hid (Ext w w8) := Ext.trans_ HB7.out hq3; clear hq1 hq2 hq3)
    | (go_at_call 15; refine (sameMemory_yes b8 0 b o M S8 S _ H8.out (HM.out.ext HB8.out)).mono ?_; rintro e w9 ⟨rfl, hq⟩; have HB9 : Hid (Ext w w9) := Ext.trans_ HB8.out hq; clear hq))
  go_ret
  exact ⟨rfl, HB9.out⟩
end Go.Proofs.YtecbbbaafcoliaaDoor
/- The law MemFields: its walk where a field is found; whatever it is given. -/
namespace Go.Proofs.YtecbbbaafcoliaaDoor
open Go.RowKit
set_option linter.unusedVariables false
set_option linter.unusedSimpArgs false

theorem rsl1 (w : World) (t : TypeId) (x : Int) : RSl (w.alloc (.cells #[.int .u64 x] t)) (some ⟨w.heap.size, 0, none⟩) (wcells [x]) := fun j u hu => ⟨_, 0, rfl, by
  rw [Nat.zero_add, cell_of_row _ w.heap.size j _ t (0, 0) (heap_alloc_new w _)]
  simpa [wcells] using hu⟩
set_option maxRecDepth 100000 in
set_option maxHeartbeats 8000000 in
theorem memFields_raw (b o : Nat) (M : Mem) (S : Sls) (hn : Near M) (w : World) (hM : RMem w b o M S) (E : Nat → Addr) (h : ErrEnv E w) (p f v : Int) (p0 : 0 ≤ p) (p1 : p ≤ 18446744073709551615) (v0 : 0 ≤ v) (v1 : v ≤ 18446744073709551615) (x : Ob) (k : Nat) (hfd : Found M p f x k) (hr : rawB (hKind x.w) = true) :
    Calls Tryd.prog 8 #[.pointer (some ⟨b, o, none⟩), .int .u64 p, .int .i64 f, .int .u64 v] w fun e w' => e = .returned (.bool true) ∧ Ext w w' := by
  have hsh : rawB (hKind x.w) = true ∨ (rawB (hKind x.w) = false ∧ fldB (startsM M) v = false) := Or.inl hr
  have hc := hfd.chk
  have HCK := Lib.hid hc
  have hg := (chk_zero hc).1
  have HGD := Lib.hid hg
  obtain ⟨hs, -⟩ := good_parts hg
  have hlen := len_small hs
  obtain ⟨at_, hat⟩ : ∃ a : Nat, a = x.a + 1 + k := ⟨_, rfl⟩
  have hfk := hfd.fld
  subst hfk
  have hati : at_ < M.W.length := by rw [hat]; exact hfd.into
  have hatz : (at_ : Int) < (M.W.length : Int) := by omega
  have hp : ptB (startsM M) p = true := by
    unfold ptB; rw [beq_iff_eq.2 hfd.kind, bne_iff_ne.2 hfd.nz, hfd.place, hfd.inst]; rfl
  have HFA : Hid (∀ W, RMem W b o M S → Calls Tryd.prog 33 #[.pointer (some ⟨b, o, none⟩), .int .u64 p, .int .i64 (k : Int)] W (F3 W (at_ : Int) (hKind x.w) 0)) := fun W hW => by
    have q1 := hfd.lt
    have q2 := hfd.size
    have := (fieldAt_in b o M S p (k : Int) p0 p1 W hW hg hp x hfd.mem hfd.place).1 (by omega) (by omega)
    rw [show (x.a : Int) + 1 + (k : Int) = (at_ : Int) by omega] at this
    exact this
  obtain ⟨u, hu⟩ : ∃ u, u = wat M.W at_ := ⟨_, rfl⟩
  have HGT : Hid (∀ bx Sx W, RMem W bx 0 M Sx → G3 E W → Calls Tryd.prog 20 #[.pointer (some ⟨bx, 0, none⟩), .int .u64 p, .int .i64 (k : Int)] W fun e w' => e = .returned (.tuple #[.int .u64 u, .nilIface]) ∧ Ext W w') := fun bx Sx W h1 h2 => by
    have := get_yes bx 0 M Sx E p (k : Int) p0 p1 W h1 h2 x k hfd
    rw [← hat, ← hu] at this
    exact this
  obtain ⟨wb, wo, hWa, c_c⟩ := hM.rW at_ _ (wcells_at M.W at_ hati)
  have c_W := hM.W
  rw [hWa] at c_W
  rw [show M.W.getD at_ 0 = u from hu.symm] at c_c
  have HWA := Lib.hid hWa
  have HFD := Lib.hid hfd
  have HAT := Lib.hid hat
  have HU := Lib.hid hu
  have HS := Lib.hid hs
  have hcapW := hM.capW
  have hbl := hM.lt
  have hwl := cell_lt c_c
  simp only at hwl
  have HPS : Hid (∀ bx Sx W, RMem W bx 0 M Sx → G3 E W → Calls Tryd.prog 22 #[.pointer (some ⟨bx, 0, none⟩), .int .u64 p, .int .i64 (k : Int), .int .u64 v] W fun e w' => e = .returned (errC E 3) ∧ Ext W w') := fun bx Sx W h1 h2 =>
    put_shape bx 0 M Sx E p (k : Int) v p0 p1 v0 v1 W h1 h2 x k hfd hsh
  have HP0 := Lib.hid p0
  have HP1 := Lib.hid p1
  have HF := Lib.hid hn.few
  have HOK := Lib.hid hM.ok
  have H := Lib.hid h
  have HM := Lib.hid hM
  have HN := Lib.hid hn
  clear h hM hn p0 p1
  have hr8 : decide (hKind x.w < 8) = true := hr
  clear hfd hp hg hs hc hat hu hWa hr hsh
  go_enter Tryd.func8, Tryd.ntmps8
  go_wp2_with (first
    | (go_at_call 11; refine (fresh_any _ E H.out.g3).mono ?_; rintro e w1 ⟨rfl, hq⟩; have HB1 := Lib.hid hq; clear hq)
    | (go_at_call 12; refine (near_yes b o M S HN.out _ (HM.out.ext HB1.out)).mono ?_; rintro e w' ⟨rfl, hw9⟩; have hw9 := hw9.symm; subst hw9)
    | (go_at_call 18; refine (kCheck_any b o M S _ (HM.out.ext HB1.out)).mono ?_; rintro e w2 ⟨he, hq⟩; rw [HCK.out] at he; subst he; have HB2 : Hid (Ext w w2) := Ext.trans_ HB1.out hq; clear hq)
    | (go_at_call 33; refine (HFA.out _ (HM.out.ext HB2.out)).mono ?_; rintro e wf ⟨he, hq⟩; subst he; have HBF : Hid (Ext w wf) := Ext.trans_ HB2.out hq; clear hq)
    | (go_at_call 13; refine (memOf_walk b o M S _ (HM.out.ext HBF.out) HF.out).mono ?_; rintro e w3 ⟨bx, Sx, rfl, hq1, hq2⟩; have HX := Lib.hid hq1; have HB3 : Hid (Ext w w3) := Ext.trans_ HBF.out hq2; clear hq1 hq2)
    | (go_at_call 20; refine (HGT.out bx Sx _ (HX.out.mem HOK.out) (H.out.ext HB3.out).g3).mono ?_; rintro e w4 ⟨he, hq⟩; subst he; have HB4 : Hid (Ext w w4) := Ext.trans_ HB3.out hq; have HX4 : Hid (OMem w4 wf.heap.size bx 72 M Sx) := OM.ext HX.out hq; clear hq)
    | (go_at_call 22; refine (HPS.out bx Sx _ (HX4.out.mem HOK.out) (H.out.ext HB4.out).g3).mono ?_; rintro e w5 ⟨he, hq⟩; subst he; have HB5 : Hid (Ext w w5) := Ext.trans_ HB4.out hq; have HX5 : Hid (OMem w5 wf.heap.size bx 72 M Sx) := OM.ext HX4.out hq; have d_W := HB5.out.cell_ c_W; have d_c := HB5.out.cell_ c_c; clear hq))
  refine (coded_c (H.out.ext HB5.out) 3 (by decide) (by decide)).mono ?_
  rintro e w7 ⟨rfl, hq⟩
  have HB7 : Hid (Ext w w7) := Ext.trans_ HB5.out hq
  have HX7 : Hid (OMem w7 wf.heap.size bx 72 M Sx) := OM.ext HX5.out hq
  clear hq
  go_wp2_with (first
    | (go_at_call 16; refine (memBack_walk bx 0 M Sx _ (HX7.out.mem HOK.out) HF.out).mono ?_; rintro e w8 ⟨B8, b8, S8, rfl, hq1, hq2, hq3⟩; have H8 := Lib.hid (hq1.mem HOK.out); have HB8 : Hid (Ext w w8) := Ext.trans_ HB7.out hq3; clear hq1 hq2 hq3)
    | (go_at_call 15; refine (sameMemory_yes b8 0 b o M S8 S _ H8.out (HM.out.ext HB8.out)).mono ?_; rintro e w9 ⟨rfl, hq⟩; have HB9 : Hid (Ext w w9) := Ext.trans_ HB8.out hq; clear hq))
  go_ret
  exact ⟨rfl, HB9.out⟩
set_option maxRecDepth 100000 in
set_option maxHeartbeats 8000000 in
theorem memFields_shape (b o : Nat) (M : Mem) (S : Sls) (hn : Near M) (w : World) (hM : RMem w b o M S) (E : Nat → Addr) (h : ErrEnv E w) (p f v : Int) (p0 : 0 ≤ p) (p1 : p ≤ 18446744073709551615) (v0 : 0 ≤ v) (v1 : v ≤ 18446744073709551615) (x : Ob) (k : Nat) (hfd : Found M p f x k) (hr : rawB (hKind x.w) = false) (hf : fldB (startsM M) v = false) :
    Calls Tryd.prog 8 #[.pointer (some ⟨b, o, none⟩), .int .u64 p, .int .i64 f, .int .u64 v] w fun e w' => e = .returned (.bool true) ∧ Ext w w' := by
  have hsh : rawB (hKind x.w) = true ∨ (rawB (hKind x.w) = false ∧ fldB (startsM M) v = false) := Or.inr ⟨hr, hf⟩
  have hc := hfd.chk
  have HCK := Lib.hid hc
  have hg := (chk_zero hc).1
  have HGD := Lib.hid hg
  obtain ⟨hs, -⟩ := good_parts hg
  have hlen := len_small hs
  obtain ⟨at_, hat⟩ : ∃ a : Nat, a = x.a + 1 + k := ⟨_, rfl⟩
  have hfk := hfd.fld
  subst hfk
  have hati : at_ < M.W.length := by rw [hat]; exact hfd.into
  have hatz : (at_ : Int) < (M.W.length : Int) := by omega
  have hp : ptB (startsM M) p = true := by
    unfold ptB; rw [beq_iff_eq.2 hfd.kind, bne_iff_ne.2 hfd.nz, hfd.place, hfd.inst]; rfl
  have HFA : Hid (∀ W, RMem W b o M S → Calls Tryd.prog 33 #[.pointer (some ⟨b, o, none⟩), .int .u64 p, .int .i64 (k : Int)] W (F3 W (at_ : Int) (hKind x.w) 0)) := fun W hW => by
    have q1 := hfd.lt
    have q2 := hfd.size
    have := (fieldAt_in b o M S p (k : Int) p0 p1 W hW hg hp x hfd.mem hfd.place).1 (by omega) (by omega)
    rw [show (x.a : Int) + 1 + (k : Int) = (at_ : Int) by omega] at this
    exact this
  obtain ⟨u, hu⟩ : ∃ u, u = wat M.W at_ := ⟨_, rfl⟩
  have HGT : Hid (∀ bx Sx W, RMem W bx 0 M Sx → G3 E W → Calls Tryd.prog 20 #[.pointer (some ⟨bx, 0, none⟩), .int .u64 p, .int .i64 (k : Int)] W fun e w' => e = .returned (.tuple #[.int .u64 u, .nilIface]) ∧ Ext W w') := fun bx Sx W h1 h2 => by
    have := get_yes bx 0 M Sx E p (k : Int) p0 p1 W h1 h2 x k hfd
    rw [← hat, ← hu] at this
    exact this
  obtain ⟨wb, wo, hWa, c_c⟩ := hM.rW at_ _ (wcells_at M.W at_ hati)
  have c_W := hM.W
  rw [hWa] at c_W
  rw [show M.W.getD at_ 0 = u from hu.symm] at c_c
  have HWA := Lib.hid hWa
  have HFD := Lib.hid hfd
  have HAT := Lib.hid hat
  have HU := Lib.hid hu
  have HS := Lib.hid hs
  have hcapW := hM.capW
  have hbl := hM.lt
  have hwl := cell_lt c_c
  simp only at hwl
  have HPS : Hid (∀ bx Sx W, RMem W bx 0 M Sx → G3 E W → Calls Tryd.prog 22 #[.pointer (some ⟨bx, 0, none⟩), .int .u64 p, .int .i64 (k : Int), .int .u64 v] W fun e w' => e = .returned (errC E 3) ∧ Ext W w') := fun bx Sx W h1 h2 =>
    put_shape bx 0 M Sx E p (k : Int) v p0 p1 v0 v1 W h1 h2 x k hfd hsh
  have HVB : Hid (∀ z ∈ [v], 0 ≤ z ∧ z ≤ 18446744073709551615) := fun z hz => by rw [List.mem_singleton.1 hz]; exact ⟨v0, v1⟩
  have HFO : Hid (fieldsB (startsM M) [v] = false) := by unfold Hid fieldsB; simp [hf]
  have HP0 := Lib.hid p0
  have HP1 := Lib.hid p1
  have HF := Lib.hid hn.few
  have HOK := Lib.hid hM.ok
  have H := Lib.hid h
  have HM := Lib.hid hM
  have HN := Lib.hid hn
  clear h hM hn p0 p1
  have hr8 : decide (hKind x.w < 8) = false := hr
  clear hfd hp hg hs hc hat hu hWa hr hsh hf
  go_enter Tryd.func8, Tryd.ntmps8
  go_wp2_with (first
    | (go_at_call 11; refine (fresh_any _ E H.out.g3).mono ?_; rintro e w1 ⟨rfl, hq⟩; have HB1 := Lib.hid hq; clear hq)
    | (go_at_call 12; refine (near_yes b o M S HN.out _ (HM.out.ext HB1.out)).mono ?_; rintro e w' ⟨rfl, hw9⟩; have hw9 := hw9.symm; subst hw9)
    | (go_at_call 18; refine (kCheck_any b o M S _ (HM.out.ext HB1.out)).mono ?_; rintro e w2 ⟨he, hq⟩; rw [HCK.out] at he; subst he; have HB2 : Hid (Ext w w2) := Ext.trans_ HB1.out hq; clear hq)
    | (go_at_call 33; refine (HFA.out _ (HM.out.ext HB2.out)).mono ?_; rintro e wf ⟨he, hq⟩; subst he; have HBF : Hid (Ext w wf) := Ext.trans_ HB2.out hq; clear hq)
    | (go_at_call 13; refine (memOf_walk b o M S _ (HM.out.ext HBF.out) HF.out).mono ?_; rintro e w3 ⟨bx, Sx, rfl, hq1, hq2⟩; have HX := Lib.hid hq1; have HB3 : Hid (Ext w w3) := Ext.trans_ HBF.out hq2; clear hq1 hq2)
    | (go_at_call 20; refine (HGT.out bx Sx _ (HX.out.mem HOK.out) (H.out.ext HB3.out).g3).mono ?_; rintro e w4 ⟨he, hq⟩; subst he; have HB4 : Hid (Ext w w4) := Ext.trans_ HB3.out hq; have HX4 : Hid (OMem w4 wf.heap.size bx 72 M Sx) := OM.ext HX.out hq; clear hq)
    | (go_at_call 22; refine (HPS.out bx Sx _ (HX4.out.mem HOK.out) (H.out.ext HB4.out).g3).mono ?_; rintro e w5 ⟨he, hq⟩; subst he; have HB5 : Hid (Ext w w5) := Ext.trans_ HB4.out hq; have HX5 : Hid (OMem w5 wf.heap.size bx 72 M Sx) := OM.ext HX4.out hq; have d_W := HB5.out.cell_ c_W; have d_c := HB5.out.cell_ c_c; clear hq)
    | (go_at_call 29; refine (kFieldsOK_any b o M S HGD.out (some ⟨w5.heap.size, 0, none⟩) 1 [v] (by simp) HVB.out _ (HM.out.ext (Ext.trans_ HB5.out ((Ext.refl w5).alloc_ _))) (rsl1 w5 _ v)).mono ?_; rintro e w6 ⟨he, hq⟩; rw [HFO.out] at he; subst he; have HE56 : Hid (Ext w5 w6) := Ext.trans_ ((Ext.refl w5).alloc_ _) hq; clear hq))
  have HB6 : Hid (Ext w w6) := Ext.trans_ HB5.out HE56.out
  have HX6 : Hid (OMem w6 wf.heap.size bx 72 M Sx) := OM.ext HX5.out HE56.out
  refine (coded_c (H.out.ext HB6.out) 3 (by decide) (by decide)).mono ?_
  rintro e w7 ⟨rfl, hq⟩
  have HB7 : Hid (Ext w w7) := Ext.trans_ HB6.out hq
  have HX7 : Hid (OMem w7 wf.heap.size bx 72 M Sx) := OM.ext HX6.out hq
  clear hq
  go_wp2_with (first
    | (go_at_call 16; refine (memBack_walk bx 0 M Sx _ (HX7.out.mem HOK.out) HF.out).mono ?_; rintro e w8 ⟨B8, b8, S8, rfl, hq1, hq2, hq3⟩; have H8 := Lib.hid (hq1.mem HOK.out); have HB8 : Hid (Ext w w8) := Ext.trans_ HB7.out hq3; clear hq1 hq2 hq3)
    | (go_at_call 15; refine (sameMemory_yes b8 0 b o M S8 S _ H8.out (HM.out.ext HB8.out)).mono ?_; rintro e w9 ⟨rfl, hq⟩; have HB9 : Hid (Ext w w9) := Ext.trans_ HB8.out hq; clear hq))
  go_ret
  exact ⟨rfl, HB9.out⟩
theorem storeM_few {M : Mem} (h : Few M) (j : Nat) (v : Int) : Few (storeM M j v) := by
  obtain ⟨-, -, -, -, -, -, hr, hk, hi⟩ := storeM_same M j v
  exact ⟨by rw [storeM_W, List.length_set]; exact h.W, by rw [hr]; exact h.R, by rw [hk]; exact h.K, by rw [hi]; exact h.I, by rw [(storeM_cards M j v).1]; exact h.C⟩
/-- The word put back: the memory but for its cards. -/
theorem unstore {M : Mem} (j : Nat) (v : Int) (hj : j < M.W.length) : setM (storeM M j v) j (wat M.W j) = withC M (storeM M j v).cards := by
  have e : (M.W.set j v).set j (wat M.W j) = M.W := by
    rw [List.set_set]
    unfold wat
    rw [List.getD_eq_getElem?_getD, List.getElem?_eq_getElem hj]
    exact List.set_getElem_self hj
  generalize hN : storeM M j v = N
  have h1 := storeM_eq M j v
  rw [hN] at h1
  rw [h1]
  unfold setM withC
  simp only
  rw [e]
def mixC (M : Mem) (D : List Bool) (k : Nat) : List Bool := M.cards.take k ++ D.drop k
theorem mixC_len {M : Mem} {D : List Bool} (h : D.length = M.cards.length) (k : Nat) (hk : k ≤ M.cards.length) : (mixC M D k).length = M.cards.length := by unfold mixC; simp; omega
theorem mixC_0 (M : Mem) (D : List Bool) : mixC M D 0 = D := by simp [mixC]
theorem mixC_all {M : Mem} {D : List Bool} (h : D.length = M.cards.length) : withC M (mixC M D M.cards.length) = M := by
  unfold mixC withC
  rw [List.take_length, List.drop_eq_nil_of_le (by omega), List.append_nil]
theorem mixC_at {M : Mem} {D : List Bool} (h : D.length = M.cards.length) (k : Nat) (hk : k < M.cards.length) : (mixC M D k).getD k false = D.getD k false := by
  unfold mixC
  rw [List.getD_eq_getElem?_getD, List.getD_eq_getElem?_getD, List.getElem?_append_right (by simp; omega), List.getElem?_drop]
  simp
  rw [show min k M.cards.length = k by omega]
  simp
theorem mixC_next {M : Mem} {D : List Bool} (h : D.length = M.cards.length) (k : Nat) (hk : k < M.cards.length) : mixC M D (k + 1) = (mixC M D k).set k (M.cards.getD k false) := by
  unfold mixC
  apply List.ext_getElem?
  intro i
  have e1 : (M.cards.take (k + 1)).length = k + 1 := by simp; omega
  have e2 : (M.cards.take k).length = k := by simp; omega
  rw [List.getElem?_set]
  simp only [List.getElem?_append, e1, e2, List.length_append, List.length_drop]
  by_cases h1 : i = k
  · subst h1
    rw [if_pos (by omega), if_pos rfl, if_pos (by omega), List.getElem?_take, if_pos (by omega), List.getD_eq_getElem?_getD, List.getElem?_eq_getElem hk]
    rfl
  · rw [if_neg (show ¬ k = i by omega)]
    by_cases h2 : i < k
    · rw [if_pos (by omega), if_pos h2, List.getElem?_take, List.getElem?_take, if_pos (by omega), if_pos h2]
    · rw [if_neg (by omega), if_neg h2, List.getElem?_drop, List.getElem?_drop]
      congr 1
      omega
set_option maxRecDepth 100000 in
set_option maxHeartbeats 8000000 in
theorem memFields_yes (b o : Nat) (M : Mem) (S : Sls) (hn : Near M) (w : World) (hM : RMem w b o M S) (E : Nat → Addr) (h : ErrEnv E w) (p f v : Int) (p0 : 0 ≤ p) (p1 : p ≤ 18446744073709551615) (v0 : 0 ≤ v) (v1 : v ≤ 18446744073709551615) (x : Ob) (k : Nat) (hfd : Found M p f x k) (hr : rawB (hKind x.w) = false) (hf : fldB (startsM M) v = true) :
    Calls Tryd.prog 8 #[.pointer (some ⟨b, o, none⟩), .int .u64 p, .int .i64 f, .int .u64 v] w fun e w' => e = .returned (.bool true) ∧ Ext w w' := by
  have hc := hfd.chk
  have HCK := Lib.hid hc
  have hg := (chk_zero hc).1
  have HGD := Lib.hid hg
  obtain ⟨hs, -⟩ := good_parts hg
  have hlen := len_small hs
  obtain ⟨at_, hat⟩ : ∃ a : Nat, a = x.a + 1 + k := ⟨_, rfl⟩
  have hfk := hfd.fld
  subst hfk
  have hati : at_ < M.W.length := by rw [hat]; exact hfd.into
  have hatz : (at_ : Int) < (M.W.length : Int) := by omega
  have hp : ptB (startsM M) p = true := by
    unfold ptB; rw [beq_iff_eq.2 hfd.kind, bne_iff_ne.2 hfd.nz, hfd.place, hfd.inst]; rfl
  have HFA : Hid (∀ W, RMem W b o M S → Calls Tryd.prog 33 #[.pointer (some ⟨b, o, none⟩), .int .u64 p, .int .i64 (k : Int)] W (F3 W (at_ : Int) (hKind x.w) 0)) := fun W hW => by
    have q1 := hfd.lt
    have q2 := hfd.size
    have := (fieldAt_in b o M S p (k : Int) p0 p1 W hW hg hp x hfd.mem hfd.place).1 (by omega) (by omega)
    rw [show (x.a : Int) + 1 + (k : Int) = (at_ : Int) by omega] at this
    exact this
  obtain ⟨u, hu⟩ : ∃ u, u = wat M.W at_ := ⟨_, rfl⟩
  have HGT : Hid (∀ bx Sx W, RMem W bx 0 M Sx → G3 E W → Calls Tryd.prog 20 #[.pointer (some ⟨bx, 0, none⟩), .int .u64 p, .int .i64 (k : Int)] W fun e w' => e = .returned (.tuple #[.int .u64 u, .nilIface]) ∧ Ext W w') := fun bx Sx W h1 h2 => by
    have := get_yes bx 0 M Sx E p (k : Int) p0 p1 W h1 h2 x k hfd
    rw [← hat, ← hu] at this
    exact this
  obtain ⟨wb, wo, hWa, c_c⟩ := hM.rW at_ _ (wcells_at M.W at_ hati)
  have c_W := hM.W
  rw [hWa] at c_W
  rw [show M.W.getD at_ 0 = u from hu.symm] at c_c
  have HWA := Lib.hid hWa
  have HFD := Lib.hid hfd
  have HAT := Lib.hid hat
  have HU := Lib.hid hu
  have HS := Lib.hid hs
  have hcapW := hM.capW
  have hbl := hM.lt
  have hwl := cell_lt c_c
  simp only at hwl
  have HPY : Hid (∀ B bx Sx W, OMem W B bx 72 M Sx → G3 E W → Calls Tryd.prog 22 #[.pointer (some ⟨bx, 0, none⟩), .int .u64 p, .int .i64 (k : Int), .int .u64 v] W (KeptPost W B bx (storeM M at_ v) Sx .nilIface)) := fun B bx Sx W h1 h2 => by
    have := put_yes B bx M Sx E p (k : Int) v p0 p1 v0 v1 W h1 hM.ok h2 x k hfd hr hf
    rw [← hat] at this
    exact this
  have hNC : chk (storeM M at_ v) = 0 := by rw [hat]; exact store_chk hM.ok hc hfd.mem k hfd.lt v hf
  have hNO : (storeM M at_ v).Ok := storeM_ok hM.ok at_ v v0 v1
  have hNF : Few (storeM M at_ v) := storeM_few hn.few at_ v
  have hNW : (storeM M at_ v).W = M.W.set at_ v := storeM_W M at_ v
  have hNU : setM (storeM M at_ v) at_ u = withC M (storeM M at_ v).cards := by rw [hu]; exact unstore at_ v hati
  have hND : More (storeM M at_ v).cards M := storeM_cards M at_ v
  have HVB : Hid (∀ z ∈ [v], 0 ≤ z ∧ z ≤ 18446744073709551615) := fun z hz => by rw [List.mem_singleton.1 hz]; exact ⟨v0, v1⟩
  have HFO : Hid (fieldsB (startsM M) [v] = true) := by unfold Hid fieldsB; simp [hf]
  generalize storeM M at_ v = N at *
  have HNC := Lib.hid hNC
  have HNO := Lib.hid hNO
  have HNF := Lib.hid hNF
  have HNW := Lib.hid hNW
  have HNU := Lib.hid hNU
  have HND := Lib.hid hND
  have c_C := hM.cards
  have hcapC := hM.capC
  have hcl : M.cards.length ≤ 9223372036854775807 := hM.ok.lenC
  have HP0 := Lib.hid p0
  have HP1 := Lib.hid p1
  have HF := Lib.hid hn.few
  have HOK := Lib.hid hM.ok
  have H := Lib.hid h
  have HM := Lib.hid hM
  have HN := Lib.hid hn
  clear h hM hn p0 p1
  have hr8 : decide (hKind x.w < 8) = false := hr
  clear hfd hp hg hs hc hat hu hWa hr hf hNC hNO hNF hNW hNU hND
  go_enter Tryd.func8, Tryd.ntmps8
  go_wp2_with (first
    | (go_at_call 11; refine (fresh_any _ E H.out.g3).mono ?_; rintro e w1 ⟨rfl, hq⟩; have HB1 := Lib.hid hq; clear hq)
    | (go_at_call 12; refine (near_yes b o M S HN.out _ (HM.out.ext HB1.out)).mono ?_; rintro e w' ⟨rfl, hw9⟩; have hw9 := hw9.symm; subst hw9)
    | (go_at_call 18; refine (kCheck_any b o M S _ (HM.out.ext HB1.out)).mono ?_; rintro e w2 ⟨he, hq⟩; rw [HCK.out] at he; subst he; have HB2 : Hid (Ext w w2) := Ext.trans_ HB1.out hq; clear hq)
    | (go_at_call 33; refine (HFA.out _ (HM.out.ext HB2.out)).mono ?_; rintro e wf ⟨he, hq⟩; subst he; have HBF : Hid (Ext w wf) := Ext.trans_ HB2.out hq; clear hq)
    | (go_at_call 13; refine (memOf_walk b o M S _ (HM.out.ext HBF.out) HF.out).mono ?_; rintro e w3 ⟨bx, Sx, rfl, hq1, hq2⟩; have HX := Lib.hid hq1; have HB3 : Hid (Ext w w3) := Ext.trans_ HBF.out hq2; clear hq1 hq2)
    | (go_at_call 20; refine (HGT.out bx Sx _ (HX.out.mem HOK.out) (H.out.ext HB3.out).g3).mono ?_; rintro e w4 ⟨he, hq⟩; subst he; have HB4 : Hid (Ext w w4) := Ext.trans_ HB3.out hq; have HX4 : Hid (OMem w4 wf.heap.size bx 72 M Sx) := OM.ext HX.out hq; clear hq)
    | (go_at_call 22; refine (HPY.out wf.heap.size bx Sx _ HX4.out (H.out.ext HB4.out).g3).mono ?_; rintro e w5 ⟨he, hq1, hq2⟩; subst he; have HX5 := Lib.hid hq1; have HB5 : Hid (Ext w w5) := Below.trans HB4.out (Below.mono (Keep.belowO hq2 HX4.out HX4.out.hbs) HBF.out.size); have d_W := HB5.out.cell_ c_W; have d_c := HB5.out.cell_ c_c; clear hq1 hq2)
    | (go_at_call 29; refine (kFieldsOK_any b o M S HGD.out (some ⟨w5.heap.size, 0, none⟩) 1 [v] (by simp) HVB.out _ (HM.out.ext (Ext.trans_ HB5.out ((Ext.refl w5).alloc_ _))) (rsl1 w5 _ v)).mono ?_; rintro e w6 ⟨he, hq⟩; rw [HFO.out] at he; subst he; have HE56 : Hid (Ext w5 w6) := Ext.trans_ ((Ext.refl w5).alloc_ _) hq; clear hq))
  have HB6 : Hid (Ext w w6) := Ext.trans_ HB5.out HE56.out
  have HX6 : Hid (OMem w6 wf.heap.size bx 72 N Sx) := OM.ext HX5.out HE56.out
  refine (memBack_walk bx 0 N Sx _ (HX6.out.mem HNO.out) HNF.out).mono ?_
  rintro e w8 ⟨B8, b8, S8, rfl, hq1, hq2, hq3⟩
  have H8 := Lib.hid hq1
  have HB8 : Hid (Ext w w8) := Ext.trans_ HB6.out hq3
  have hz8 : w.heap.size ≤ B8 := Nat.le_trans HB6.out.size hq2
  clear hq1 hq2 hq3
  go_wp2_with fail
  refine (kCheck_any b8 0 N S8 _ (H8.out.mem HNO.out)).mono ?_
  rintro e w9 ⟨he, hq⟩
  rw [HNC.out] at he
  subst he
  have H9 : Hid (OMem w9 B8 b8 71 N S8) := OM.ext H8.out hq
  have HB9 : Hid (Ext w w9) := Ext.trans_ HB8.out hq
  clear hq
  have hNl : N.W.length = M.W.length := by rw [HNW.out, List.length_set]
  obtain ⟨g, hg, hgB, hgl, hgf, hgc, -⟩ := own_block H9.out.fW (by omega)
  have c3 := (H9.out.mem HNO.out).W
  simp only [Nat.zero_add] at c3
  rw [hg, hNl] at c3
  have hcell : w9.cell? ⟨g, at_, none⟩ = some (.int .u64 v) := by
    have := (H9.out.mem HNO.out).rW
    rw [hg] at this
    have h2 := this.at_ (wcells_at N.W at_ (by omega))
    have h3 : N.W.getD at_ 0 = v := by have := wat_set_same M.W at_ v (by omega); rw [← HNW.out] at this; exact this
    rw [h3] at h2
    simpa using h2
  have hfg := hgf at_
  have hgb := H9.out.notW hg
  have e_W := HB9.out.cell_ c_W
  have e_c := HB9.out.cell_ c_c
  have hcap2 : M.W.length ≤ S8.W.2 := by omega
  have hwz : wb < w9.heap.size := cell_lt e_c
  have hgw : g ≠ wb := by omega
  have HG := Lib.hid hg
  have HNL := Lib.hid hNl
  clear hg hgf hgc hNl d_W d_c
  go_wp2
  go_region
  generalize hWA : (w9.setCell ⟨g, at_, none⟩ (Value.int .u64 u)).drew = WA
  have hOA : OMem WA B8 b8 71 (withC M (mixC M N.cards 0)) S8 := by
    rw [← hWA, mixC_0, ← HNU.out]
    exact OM.ext (OMem.setW H9.out HG.out at_ (by rw [HNL.out]; exact hati) u) (Ext.refl _).drew_
  have hEA : Ext w WA := by rw [← hWA]; exact Ext.drew_ (Ext.set_ HB9.out (Nat.le_trans hz8 hgB) _)
  have HOA := Lib.hid hOA
  have HEA := Lib.hid hEA
  clear hWA hOA hEA c3 hcell hfg e_W e_c
  go_wp2
  go_loopw [18] (fun i wr => ∃ j : Nat, j ≤ M.cards.length ∧ i = .int .i64 (j : Int) ∧ Hid (OMem wr B8 b8 71 (withC M (mixC M N.cards j)) S8) ∧ Hid (Ext w wr)) (fun i _ => M.cards.length - (intOf i).toNat)
  case atStart => exact ⟨0, Nat.zero_le _, rfl, HOA.out, HEA.out⟩
  case round =>
    obtain ⟨j, hj, rfl, hO, hE⟩ := hrel
    have e_C := hE.out.cell_ c_C
    by_cases hlt : j < M.cards.length
    · have hltz : (j : Int) < (M.cards.length : Int) := by omega
      have HML := Lib.hid (mixC_len HND.out.1 j hj)
      obtain ⟨g2, hg2, hgB2, hgl2, hgf2, hgc2, -⟩ := own_block hO.out.fC (by show 0 < (mixC M N.cards j).length; rw [HML.out]; omega)
      have c10 : wr.cell? ⟨b8, 10, none⟩ = some (.slice S8.C.1 M.cards.length S8.C.2) := by
        have := (hO.out.fld ⟨10, 4, 1, S8.C.1, (mixC M N.cards j).length, S8.C.2, bcells (mixC M N.cards j)⟩ (by simp [memFlds, withC])).1
        simp only [Fld.val, HML.out] at this
        exact this
      rw [hg2] at c10
      have hcell : wr.cell? ⟨g2, j, none⟩ = some (.bool (N.cards.getD j false)) := by
        have := (row_rsl hO.out.fC).1
        rw [hg2] at this
        have h2 := this.at_ (bcells_at (mixC M N.cards j) j (by rw [HML.out]; exact hlt))
        rw [mixC_at HND.out.1 j hlt] at h2
        simpa using h2
      have hfg := hgf2 j
      have hgb2 := hO.out.notC hg2
      obtain ⟨cb, co, hCa, hmc0⟩ := HM.out.rC j _ (bcells_at M.cards j hlt)
      have hcw := cell_lt hmc0
      simp only at hcw
      have hmc := hE.out.cell_ hmc0
      rw [hCa] at e_C
      have hcz := cell_lt hmc
      simp only at hcz
      have hgz2 : w.heap.size ≤ g2 := Nat.le_trans hz8 hgB2
      have hgc' : g2 ≠ cb := by omega
      clear hmc0
      have HG2 := Lib.hid hg2
      have HLT := Lib.hid hlt
      have hmore := HND.out.2 j
      have HNX := Lib.hid (mixC_next HND.out.1 j hlt)
      generalize M.cards.getD j false = mc at *
      generalize N.cards.getD j false = nc at *
      clear hg2 hgf2 hgc2 hCa
      have HREL : Hid (OMem (wr.setCell ⟨g2, j, none⟩ (.bool mc)) B8 b8 71 (withC M (mixC M N.cards (j + 1))) S8) := by
        rw [Hid, HNX.out]
        exact OMem.setC hO.out HG2.out j (by show j < (mixC M N.cards j).length; rw [HML.out]; exact HLT.out) mc
      cases mc with
      | true =>
        have hnc : nc = true := hmore rfl
        subst hnc
        clear hmore
        go_wp2
        go_region
        go_wp2
        go_roundw
        case rel => exact ⟨j + 1, by omega, by go_num, OM.ext HREL.out (Ext.refl _).drew_, Ext.drew_ (Ext.set_ hE.out hgz2 _)⟩
        case measure => simp [intOf]; omega
      | false =>
        clear hmore
        go_wp2
        go_region
        go_wp2
        go_roundw
        case rel => exact ⟨j + 1, by omega, by go_num, OM.ext HREL.out (Ext.refl _).drew_, Ext.drew_ (Ext.set_ hE.out hgz2 _)⟩
        case measure => simp [intOf]; omega
    · have hltz : ¬ (j : Int) < (M.cards.length : Int) := by omega
      obtain rfl : j = M.cards.length := by omega
      have hOM : OMem wr B8 b8 71 M S8 := by
        have := hO.out
        rw [mixC_all HND.out.1] at this
        exact this
      have HOM := Lib.hid hOM
      clear hOM hlt
      go_wp2_with (go_at_call 15; refine (sameMemory_yes b8 0 b o M S8 S _ (HOM.out.mem HOK.out) (HM.out.ext hE.out)).mono ?_; rintro e w11 ⟨rfl, hq⟩; have HB11 : Hid (Ext w w11) := Ext.trans_ hE.out hq; clear hq)
      go_ret
      exact ⟨rfl, HB11.out⟩
theorem memFields_any (b o : Nat) (M : Mem) (S : Sls) (p f v : Int) (w : World) (hM : RMem w b o M S) (E : Nat → Addr) (h : ErrEnv E w) (p0 : 0 ≤ p) (p1 : p ≤ 18446744073709551615) (v0 : 0 ≤ v) (v1 : v ≤ 18446744073709551615) :
    Calls Tryd.prog 8 #[.pointer (some ⟨b, o, none⟩), .int .u64 p, .int .i64 f, .int .u64 v] w fun e w' => e = .returned (.bool true) ∧ Ext w w' := by
  by_cases hn : Near M
  · by_cases hc : chk M = 0
    · by_cases hf : findC M p f = 0
      · obtain ⟨x, k, hfd⟩ := find_found hM.ok hf
        cases hr : rawB (hKind x.w) with
        | true => exact memFields_raw b o M S hn w hM E h p f v p0 p1 v0 v1 x k hfd hr
        | false =>
          cases hv : fldB (startsM M) v with
          | false => exact memFields_shape b o M S hn w hM E h p f v p0 p1 v0 v1 x k hfd hr hv
          | true => exact memFields_yes b o M S hn w hM E h p f v p0 p1 v0 v1 x k hfd hr hv
      · cases hp : ptB (startsM M) p with
        | false => exact memFields_pt b o M S hn w hM E h p f v p0 p1 v0 v1 hc hp
        | true =>
          obtain ⟨_, _, x, hx, hpl, _⟩ := pt_ob hp
          have hxw : wat M.W (placeW p).toNat = x.w := by rw [hpl, Int.toNat_natCast]; exact (mem_in (good_parts (chk_zero hc).1).1 hx).2.1.symm
          have hb : f < 0 ∨ (¬ f < 0 ∧ hSize x.w ≤ f) := by
            by_cases hb1 : f < 0
            · exact Or.inl hb1
            · by_cases hb2 : hSize x.w ≤ f
              · exact Or.inr ⟨hb1, hb2⟩
              · exact absurd (by unfold findC; rw [if_neg (by omega), if_neg (by simp [hp]), hxw, if_neg (by omega)]) hf
          exact memFields_bound b o M S hn w hM E h p f v p0 p1 v0 v1 hc hp x hx hpl hb
    · exact memFields_chk b o M S hn w hM E h p f v p0 p1 v0 v1 (by unfold chk at hc ⊢; split <;> (try split) <;> simp_all)
  · exact memFields_far b o M S hn w hM E h p f v
end Go.Proofs.YtecbbbaafcoliaaDoor
/- A memory among the arguments: what its reading tells of the world. -/
namespace Go.Proofs.YtecbbbaafcoliaaDoor
open Go.ChangeShapes Go.WideShapes Go.RowKit Go.Deep
set_option linter.unusedVariables false
set_option linter.unusedSimpArgs false

section
variable {H : Type} {enc : TypeId × Value → H} {w : World} {base : Nat} {spare : Nat → Bool} {held : Bool}

theorem rsl_of (a : Addr) (cs : List Value) (h : ∀ i v, cs[i]? = some v → w.cell? (a.add i) = some v) : RSl w (some a) cs := fun j u hu => by
  obtain ⟨b, off, spot⟩ := a
  obtain ⟨hj, _⟩ := List.getElem?_eq_some_iff.1 hu
  have h0 := h 0 (cs[0]'(by omega)) (by simp)
  have hs : spot = none := by simpa [Addr.add] using World.cell?_spot h0
  subst hs
  have hj0 := h j u hu
  refine ⟨b, off, rfl, ?_⟩
  by_cases e : j = 0
  · subst e; simpa [Addr.add] using hj0
  · simpa [Addr.add, e] using hj0
theorem read_u64s {fuel : Nat} {v : Value} {x : DataW H × List MemPlace} (h : DataW.trod enc Tryd.prog w base spare held fuel 35 [v] = some x) :
    ∃ a c l, v = .slice a l.length c ∧ RSl w a (wcells l) ∧ l.length ≤ c ∧ (a = none → c = 0) ∧ c ≤ 9223372036854775807 ∧ ∀ z ∈ l, 0 ≤ z ∧ z ≤ 18446744073709551615 := by
  rcases open_ints (e := 30) (k := .u64) (by kernel_rfl) (by kernel_rfl) (by kernel_rfl) h with ⟨hcs, _⟩ | ⟨a, len, cap, zs, hcs, _, hl, hm, hz, _, hcell, hwf⟩
  · obtain rfl := List.singleton_inj.1 hcs
    exact ⟨none, 0, [], rfl, RSl.nil _ _, Nat.le_refl _, fun _ => rfl, by omega, by simp⟩
  · obtain rfl := List.singleton_inj.1 hcs
    have hle : len ≤ zs.length := by rw [hz]; split <;> omega
    have hln : (zs.take len).length = len := by simp; omega
    refine ⟨some a, cap, zs.take len, by rw [hln], rsl_of a _ fun i v hi => ?_, by rw [hln]; exact hl, (fun e => by cases e), by unfold maxLen at hm; omega, fun z hz' => ?_⟩
    · obtain ⟨hi', hv⟩ := List.getElem?_eq_some_iff.1 hi
      simp only [wcells, List.length_map, hln] at hi'
      rw [hcell i (by omega), ← hv]
      simp [wcells, List.getD_eq_getElem?_getD, show i < zs.length by omega]
    · exact wf_u64 (hwf z (List.mem_of_mem_take hz'))
theorem read_bools {fuel : Nat} {v : Value} {x : DataW H × List MemPlace} (h : DataW.trod enc Tryd.prog w base spare held fuel 37 [v] = some x) :
    ∃ a c l, v = .slice a l.length c ∧ RSl w a (bcells l) ∧ l.length ≤ c ∧ (a = none → c = 0) ∧ c ≤ 9223372036854775807 := by
  rcases open_slice1 (e := 4) (by kernel_rfl) (by kernel_rfl) h with ⟨hcs, _⟩ | ⟨a, len, cap, m, n, V, D, Pl, hcs, _, hl, hm, hmm, _, hx⟩
  · obtain rfl := List.singleton_inj.1 hcs
    exact ⟨none, 0, [], rfl, RSl.nil _ _, Nat.le_refl _, fun _ => rfl, by omega⟩
  · obtain rfl := List.singleton_inj.1 hcs
    have hle : len ≤ m := by rw [hmm]; split <;> omega
    have hb : ∀ i, i < m → ∃ q : Bool, V i = .bool q := fun i hi => by
      obtain ⟨q, hq, _⟩ := DataW.trod_bool (by kernel_rfl) (hx i hi).2
      exact ⟨q, List.singleton_inj.1 hq⟩
    obtain ⟨B, hB⟩ := choose_lt (α := Bool) (p := fun i q => V i = .bool q) hb
    have hln : ((List.range len).map B).length = len := by simp
    refine ⟨some a, cap, (List.range len).map B, by rw [hln], rsl_of a _ fun i v hi => ?_, by rw [hln]; exact hl, (fun e => by cases e), by unfold maxLen at hm; omega⟩
    obtain ⟨hi', hv⟩ := List.getElem?_eq_some_iff.1 hi
    simp only [bcells, List.length_map, List.length_range] at hi'
    rw [(hx i (by omega)).1, hB i (by omega), ← hv]
    simp [bcells]
theorem rsl_ids (a : Addr) (l : List (Int × Int)) (h : ∀ (i : Nat) (hi : i < l.length), w.cell? (a.add (i * 2)) = some (.int .u64 l[i].1) ∧ w.cell? (a.add (i * 2 + 1)) = some (.int .i64 l[i].2)) : RSl w (some a) (icells l) :=
  rsl_of a _ fun i v hv => by
    obtain ⟨hi, _⟩ := List.getElem?_eq_some_iff.1 hv
    rw [icells_len] at hi
    obtain ⟨h1, h2⟩ := icells_at l (i / 2) (by omega)
    obtain ⟨h3, h4⟩ := h (i / 2) (by omega)
    rcases Nat.mod_two_eq_zero_or_one i with e | e
    · have e2 : i / 2 * 2 = i := by omega
      rw [e2] at h1 h3
      rw [hv] at h1; rw [h3, h1]
    · have e2 : i / 2 * 2 + 1 = i := by omega
      rw [e2] at h2 h4
      rw [hv] at h2; rw [h4, h2]
theorem read_ids {fuel : Nat} {v : Value} {x : DataW H × List MemPlace} (h : DataW.trod enc Tryd.prog w base spare held fuel 49 [v] = some x) :
    ∃ a c l, v = .slice a l.length c ∧ RSl w a (icells l) ∧ l.length ≤ c ∧ (a = none → c = 0) ∧ c ≤ 9223372036854775807 ∧ ∀ z ∈ l, (0 ≤ z.1 ∧ z.1 ≤ 18446744073709551615) ∧ (-9223372036854775808 ≤ z.2 ∧ z.2 ≤ 9223372036854775807) := by
  rcases open_slice_pairs (e := 71) (by kernel_rfl) (Tryd.underlying71) (by kernel_rfl) rfl rfl (by kernel_rfl) (by kernel_rfl) h with ⟨hcs, _⟩ | ⟨a, len, cap, m, n, V0, V1, D0, D1, P0, P1, hcs, _, hl, hm, hmm, _, hx⟩
  · obtain rfl := List.singleton_inj.1 hcs
    exact ⟨none, 0, [], rfl, RSl.nil _ _, Nat.le_refl _, fun _ => rfl, by omega, by simp⟩
  · obtain rfl := List.singleton_inj.1 hcs
    have hle : len ≤ m := by rw [hmm]; split <;> omega
    have hb : ∀ i, i < m → ∃ q : Int × Int, (V0 i = .int .u64 q.1 ∧ V1 i = .int .i64 q.2) ∧ (0 ≤ q.1 ∧ q.1 ≤ 18446744073709551615) ∧ (-9223372036854775808 ≤ q.2 ∧ q.2 ≤ 9223372036854775807) := fun i hi => by
      obtain ⟨_, _, h3, h4⟩ := hx i hi
      obtain ⟨q0, e0, _, w0⟩ := DataW.trod_int (k := .u64) (by kernel_rfl) h3
      obtain ⟨q1, e1, _, w1⟩ := DataW.trod_int (k := .i64) (by kernel_rfl) h4
      exact ⟨(q0, q1), ⟨List.singleton_inj.1 e0, List.singleton_inj.1 e1⟩, wf_u64 w0, wf_i64 w1⟩
    obtain ⟨B, hB⟩ := choose_lt (p := fun i (q : Int × Int) => (V0 i = .int .u64 q.1 ∧ V1 i = .int .i64 q.2) ∧ (0 ≤ q.1 ∧ q.1 ≤ 18446744073709551615) ∧ (-9223372036854775808 ≤ q.2 ∧ q.2 ≤ 9223372036854775807)) hb
    have hln : ((List.range len).map B).length = len := by simp
    refine ⟨some a, cap, (List.range len).map B, by rw [hln], rsl_ids a _ fun i hi => ?_, by rw [hln]; exact hl, (fun e => by cases e), by unfold maxLen at hm; omega, fun z hz => ?_⟩
    · simp only [List.length_map, List.length_range] at hi
      obtain ⟨g1, g2, _, _⟩ := hx i (by omega)
      obtain ⟨⟨g3, g4⟩, _⟩ := hB i (by omega)
      rw [g1, g2, g3, g4]
      simp
    · obtain ⟨i, hi, rfl⟩ := List.mem_map.1 hz
      exact (hB i (by have := List.mem_range.1 hi; omega)).2
/-- THE ARGUMENT: nil, or a memory that lies there. -/
theorem read_mem {fuel : Nat} {cs : List Value} {x : DataW H × List MemPlace} (h : DataW.trod enc Tryd.prog w base spare held fuel 22 cs = some x) :
    cs = [.pointer none] ∨ ∃ b o M S, cs = [.pointer (some ⟨b, o, none⟩)] ∧ RMem w b o M S := by
  rcases open_ptr_fields (tp := 22) (ts := 51) (by kernel_rfl) (Tryd.underlying51) (hone_of (by kernel_rfl)) (by kernel_rfl) (by decide) h with ⟨h0, _⟩ | ⟨b, o, n, V, Y, rfl, hb, rfl, hf⟩
  · exact Or.inl h0
  right
  obtain ⟨k0, t0⟩ := hf 0 _ rfl
  obtain ⟨k1, t1⟩ := hf 1 _ rfl
  obtain ⟨k2, t2⟩ := hf 2 _ rfl
  obtain ⟨k3, t3⟩ := hf 3 _ rfl
  obtain ⟨k4, t4⟩ := hf 4 _ rfl
  obtain ⟨k5, t5⟩ := hf 5 _ rfl
  obtain ⟨k6, t6⟩ := hf 6 _ rfl
  obtain ⟨k7, t7⟩ := hf 7 _ rfl
  obtain ⟨k8, t8⟩ := hf 8 _ rfl
  obtain ⟨k9, t9⟩ := hf 9 _ rfl
  obtain ⟨k10, t10⟩ := hf 10 _ rfl
  obtain ⟨half, e0, _, w0⟩ := DataW.trod_int (k := .i64) (by kernel_rfl) t0
  obtain ⟨old, e1, _, w1⟩ := DataW.trod_int (k := .i64) (by kernel_rfl) t1
  obtain ⟨card, e2, _, w2⟩ := DataW.trod_int (k := .i64) (by kernel_rfl) t2
  obtain ⟨a3, c3, W, e3, r3, l3, n3, m3, b3⟩ := read_u64s t3
  obtain ⟨used, e4, _, w4⟩ := DataW.trod_int (k := .i64) (by kernel_rfl) t4
  obtain ⟨top, e5, _, w5⟩ := DataW.trod_int (k := .i64) (by kernel_rfl) t5
  obtain ⟨oldTop, e6, _, w6⟩ := DataW.trod_int (k := .i64) (by kernel_rfl) t6
  obtain ⟨a7, c7, R, e7, r7, l7, n7, m7, b7⟩ := read_u64s t7
  obtain ⟨a8, c8, K, e8, r8, l8, n8, m8, b8⟩ := read_u64s t8
  obtain ⟨a9, c9, I, e9, r9, l9, n9, m9, b9⟩ := read_ids t9
  obtain ⟨a10, c10, C, e10, r10, l10, n10, m10⟩ := read_bools t10
  have e0 := List.singleton_inj.1 e0
  have e1 := List.singleton_inj.1 e1
  have e2 := List.singleton_inj.1 e2
  have e4 := List.singleton_inj.1 e4
  have e5 := List.singleton_inj.1 e5
  have e6 := List.singleton_inj.1 e6
  rw [e0] at k0; rw [e1] at k1; rw [e2] at k2; rw [e3] at k3; rw [e4] at k4; rw [e5] at k5; rw [e6] at k6; rw [e7] at k7; rw [e8] at k8; rw [e9] at k9; rw [e10] at k10
  exact ⟨b, o, ⟨half, old, card, W, used, top, oldTop, R, K, I, C⟩, ⟨(a3, c3), (a7, c7), (a8, c8), (a9, c9), (a10, c10)⟩, rfl,
    ⟨k0, k1, k2, k3, k4, k5, k6, k7, k8, k9, k10, r3, r7, r8, r9, r10, l3, l7, l8, l9, l10, n3, n7, n8, n9, n10,
      ⟨wf_i64 w0, wf_i64 w1, wf_i64 w2, wf_i64 w4, wf_i64 w5, wf_i64 w6, b3, b7, b8, b9, Nat.le_trans l3 m3, Nat.le_trans l7 m7, Nat.le_trans l8 m8, Nat.le_trans l9 m9, Nat.le_trans l10 m10⟩⟩⟩
end
end Go.Proofs.YtecbbbaafcoliaaDoor
