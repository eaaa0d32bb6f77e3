/- The walk of Memory.Each, whatever is called on the objects. -/
import Derived.Test.YtecbbbaafcoliaaDoorJFi02
import Derived.Shelf.Abstract
import Derived.Deep.RegionHeld3
namespace Go.Proofs.YtecbbbaafcoliaaDoor
open Go.RowKit
set_option linter.unusedVariables false
set_option linter.unusedSimpArgs false

/-- A header as a value. -/
def headV (a : Int) : Value := .agg #[.int .i64 (hKind a), .int .i64 (hAge a), .int .i64 (hMark a), .int .i64 (hSize a)]
/-- What Each leaves. -/
def EachPost (L : Nat → Prop) (w : World) (I : List Ob → World → Prop) (see : Ob → Bool) (v0 : List Ob) (p : List Ob × Bool) (e : Ending) (w' : World) : Prop :=
  ∃ v, e = .returned (.bool (p.2 && p.1.all see)) ∧ I (v0 ++ v) w' ∧ ((p.2 && p.1.all see) = true → v = p.1) ∧ Keep L w w'
theorem wcells_at (l : List Int) (j : Nat) (h : j < l.length) : (wcells l)[j]? = some (.int .u64 (l.getD j 0)) := by
  simp [wcells, List.getD_eq_getElem?_getD, h]
theorem wat_in {M : Mem} (h : M.Ok) (j : Nat) : 0 ≤ wat M.W j ∧ wat M.W j ≤ 18446744073709551615 := by
  unfold wat
  rw [List.getD_eq_getElem?_getD]
  rcases Nat.lt_or_ge j M.W.length with g | g
  · rw [List.getElem?_eq_getElem g]; exact h.W _ (List.getElem_mem g)
  · rw [List.getElem?_eq_none g]; simp

set_option maxRecDepth 100000 in
set_option maxHeartbeats 2000000 in
theorem each_walk (w0 : World) (b o : Nat) (M : Mem) (S : Sls) (hM : RMem w0 b o M S) (gb gs : Addr) (hG : GBound w0 gb) (hS : GShape w0 gs)
    (L : Nat → Prop) (g : Nat) (lb : Array Value) (eg : ∀ args w, (callFunc g args).run Tryd.prog w = .ok (.enter g args) w) (see : Ob → Bool) (I : List Ob → World → Prop)
    (w : World) (hE : Ext w0 w) (hL : ∀ k, L k → w0.heap.size ≤ k ∧ k < w.heap.size) (hX : ∀ v w w', I v w → Ext w w' → I v w') (a to : Nat) (hto : to ≤ M.W.length) (hlen : M.W.length ≤ 196608)
    (hC : ∀ v x w', I v w' → Keep L w w' → ObIn M.W a to x → Calls Tryd.prog g (#[.int .i64 (x.a : Int), headV x.w] ++ lb) w' fun e w'' => e = .returned (.bool (see x)) ∧ I (v ++ [x]) w'' ∧ Keep L w' w'')
    (hat : a ≤ to) (v0 : List Ob) (hI : I v0 w) :
    Calls Tryd.prog 65 #[.pointer (some ⟨b, o, none⟩), .int .i64 (a : Int), .int .i64 (to : Int), .func (.func g) #[] lb] w (EachPost L w I see v0 (part M.W a to)) := by
  have HX := Lib.hid hX
  have HC := Lib.hid hC
  have HL := Lib.hid hL
  have HE := Lib.hid hE
  have HM := Lib.hid hM
  have HG := Lib.hid hG
  have HS := Lib.hid hS
  have HI : Hid (I v0 w) := hI
  clear hX hM hC hI hL hE hG hS
  go_enter Tryd.func65, Tryd.ntmps65
  go_wp2
  go_loopw [1] (fun i wr => ∃ (k : Nat) (v : List Ob), a ≤ k ∧ k ≤ to ∧ i = .int .i64 (k : Int) ∧ Hid (I (v0 ++ v) wr) ∧ Hid (part M.W a to = (v ++ (part M.W k to).1, (part M.W k to).2)) ∧ Hid (v.all see = true) ∧ Hid (Keep L w wr))
    (fun i _ => to - (intOf i).toNat)
  case atStart => exact ⟨a, [], Nat.le_refl _, hat, rfl, by rw [List.append_nil]; exact HI, rfl, rfl, Keep.refl _ _⟩
  case round =>
    obtain ⟨k, v, hk1, hk2, rfl, hI, hP, hA, hK⟩ := hrel
    by_cases hlt : k < to
    · have hkW : k < M.W.length := by omega
      have hEr : Ext w0 wr := Ext.keep HE.out hK.out fun i hi => (HL.out i hi).1
      have hMr : RMem wr b o M S := HM.out.ext hEr
      have c_W := hMr.W
      obtain ⟨wb, wo, hWa, hc⟩ := hMr.rW k _ (wcells_at M.W k hkW)
      rw [hWa] at c_W
      have hcapW := hMr.capW
      have hgb : GBound wr gb := hEr.cell_ HG.out
      have hgs : GShape wr gs := hEr.cell_ HS.out
      obtain ⟨hq0, hq1⟩ := wat_in HM.out.ok k
      change wr.cell? ⟨wb, wo + k, none⟩ = some (.int .u64 (wat M.W k)) at hc
      have HER := Lib.hid hEr
      clear hMr hWa hEr
      have hsz : hSize (wat M.W k) ≤ 281474976710655 ∧ 0 ≤ hSize (wat M.W k) := by unfold hSize; omega
      obtain ⟨hsz1, hsz0⟩ := hsz
      cases hd : isHd (wat M.W k) with
      | false =>
        have HB := Lib.hid (part_bad M.W k to hlt (by rw [hd]; rfl))
        go_wp2_with (go_at_call 67; refine (toHead_no _ hq0 hq1 hd _ gb gs hgb hgs).mono ?_; rintro e w1 ⟨rfl, hx⟩)
        go_ret
        refine ⟨v, ?_, ?_, fun h => ?_, ?_⟩
        · rw [hP.out, HB.out]; rfl
        · refine HX.out _ _ _ hI.out ?_
          repeat (first | exact hx | exact Ext.refl _ | (refine Ext.set_ ?_ (by simp; omega) _) | (refine Ext.alloc_ ?_ _) | (refine Ext.drew_ ?_) | (refine Ext.drewN_ ?_ _))
        · rw [hP.out, HB.out] at h; cases h
        · refine hK.out.ext_ ?_
          repeat (first | exact hx | exact Ext.refl _ | (refine Ext.set_ ?_ (by simp; omega) _) | (refine Ext.alloc_ ?_ _) | (refine Ext.drew_ ?_) | (refine Ext.drewN_ ?_ _))
      | true =>
        by_cases hfit : (k : Int) + 1 + hSize (wat M.W k) ≤ (to : Int)
        · have HIN : Hid (ObIn M.W a to ⟨k, wat M.W k⟩) := ⟨rfl, hd, hk1, by show k + 1 + (hSize (wat M.W k)).toNat ≤ to; omega⟩
          have HB := Lib.hid (part_next M.W k to hd (by omega))
          cases hsee : see ⟨k, wat M.W k⟩ with
          | false =>
            have HSEE := Lib.hid hsee
            go_wp2_with (first
              | (go_at_call 67; refine (toHead_yes _ hq0 hq1 hd _).mono ?_; rintro e w1 ⟨rfl, hx⟩; have hxs := hx.size))
            refine (HC.out (v0 ++ v) ⟨k, wat M.W k⟩ _ ?_ ?_ HIN.out).mono ?_
            · refine HX.out _ _ _ hI.out ?_
              repeat (first | exact hx | exact Ext.refl _ | (refine Ext.set_ ?_ (by simp; omega) _) | (refine Ext.alloc_ ?_ _) | (refine Ext.drew_ ?_) | (refine Ext.drewN_ ?_ _))
            · refine hK.out.ext_ ?_
              repeat (first | exact hx | exact Ext.refl _ | (refine Ext.set_ ?_ (by simp; omega) _) | (refine Ext.alloc_ ?_ _) | (refine Ext.drew_ ?_) | (refine Ext.drewN_ ?_ _))
            rintro e w2 ⟨he, hI2, hK2⟩
            rw [hsee] at he
            subst he
            have HK2 := Lib.hid hK2
            clear hK2 hsee
            go_wp2
            go_ret
            refine ⟨v ++ [⟨k, wat M.W k⟩], ?_, ?_, fun h => ?_, ?_⟩
            · rw [hP.out, HB.out]; simp [HSEE.out]
            · rw [← List.append_assoc]; exact hI2
            · rw [hP.out, HB.out] at h; simp [HSEE.out] at h
            · refine Keep.trans (hK.out.ext_ ?_) HK2.out
              repeat (first | exact hx | exact Ext.refl _ | (refine Ext.set_ ?_ (by simp; omega) _) | (refine Ext.alloc_ ?_ _) | (refine Ext.drew_ ?_) | (refine Ext.drewN_ ?_ _))
          | true =>
            have HSEE := Lib.hid hsee
            go_wp2_with (first
              | (go_at_call 67; refine (toHead_yes _ hq0 hq1 hd _).mono ?_; rintro e w1 ⟨rfl, hx⟩; have hxs := hx.size))
            refine (HC.out (v0 ++ v) ⟨k, wat M.W k⟩ _ ?_ ?_ HIN.out).mono ?_
            · refine HX.out _ _ _ hI.out ?_
              repeat (first | exact hx | exact Ext.refl _ | (refine Ext.set_ ?_ (by simp; omega) _) | (refine Ext.alloc_ ?_ _) | (refine Ext.drew_ ?_) | (refine Ext.drewN_ ?_ _))
            · refine hK.out.ext_ ?_
              repeat (first | exact hx | exact Ext.refl _ | (refine Ext.set_ ?_ (by simp; omega) _) | (refine Ext.alloc_ ?_ _) | (refine Ext.drew_ ?_) | (refine Ext.drewN_ ?_ _))
            rintro e w2 ⟨he, hI2, hK2⟩
            rw [hsee] at he
            subst he
            have hq3 : w2.cell? ⟨w1.heap.size, 3, none⟩ = some (.int .i64 (hSize (wat M.W k))) := hK2.cell (fun h => by have h1 := (HL.out _ h).2; have h2 := hK.out.size; simp at h1; omega) (by simp [go_sem])
            have HK2 := Lib.hid hK2
            have HI2 := Lib.hid hI2
            clear hK2 hsee hI2
            go_wp2
            go_roundw
            case rel =>
              refine ⟨k + 1 + (hSize (wat M.W k)).toNat, v ++ [⟨k, wat M.W k⟩], by omega, by omega, ?_, ?_, ?_, ?_, ?_⟩
              · go_num
              · rw [← List.append_assoc]; exact HI2.out
              · show part M.W a to = _
                rw [hP.out, HB.out]; simp
              · show (v ++ [_]).all see = true
                simp [hA.out, HSEE.out]
              · refine Keep.trans (hK.out.ext_ ?_) HK2.out
                repeat (first | exact hx | exact Ext.refl _ | (refine Ext.set_ ?_ (by simp; omega) _) | (refine Ext.alloc_ ?_ _) | (refine Ext.drew_ ?_) | (refine Ext.drewN_ ?_ _))
            case measure => simp [intOf]; omega
        · have HB := Lib.hid (part_bad M.W k to hlt (by rw [hd]; simp; omega))
          go_wp2_with (go_at_call 67; refine (toHead_yes _ hq0 hq1 hd _).mono ?_; rintro e w1 ⟨rfl, hx⟩; have hxs := hx.size)
          go_ret
          refine ⟨v, ?_, ?_, fun h => ?_, ?_⟩
          · rw [hP.out, HB.out]; rfl
          · refine HX.out _ _ _ hI.out ?_
            repeat (first | exact hx | exact Ext.refl _ | (refine Ext.set_ ?_ (by simp; omega) _) | (refine Ext.alloc_ ?_ _) | (refine Ext.drew_ ?_) | (refine Ext.drewN_ ?_ _))
          · rw [hP.out, HB.out] at h; cases h
          · refine hK.out.ext_ ?_
            repeat (first | exact hx | exact Ext.refl _ | (refine Ext.set_ ?_ (by simp; omega) _) | (refine Ext.alloc_ ?_ _) | (refine Ext.drew_ ?_) | (refine Ext.drewN_ ?_ _))
    · have HD := Lib.hid (part_done M.W k to (by omega))
      go_wp2
      go_ret
      refine ⟨v, ?_, hI.out, fun _ => ?_, hK.out⟩
      · rw [hP.out, HD.out]; simp [hA.out]
      · rw [hP.out, HD.out]; simp
end Go.Proofs.YtecbbbaafcoliaaDoor
/- The walks of slices.IndexFunc and slices.ContainsFunc at words, whatever is asked of them. -/
namespace Go.Proofs.YtecbbbaafcoliaaDoor
open Go.RowKit
set_option linter.unusedVariables false
set_option linter.unusedSimpArgs false

/-- What a function value answers of a word, wherever all that lay in w lies. -/
def Says (w : World) (g : Nat) (lb : Array Value) (p : Int → Bool) : Prop :=
  ∀ (W : World) (x : Int), Ext w W → 0 ≤ x → x ≤ 18446744073709551615 → Calls Tryd.prog g (#[.int .u64 x] ++ lb) W fun e w' => e = .returned (.bool (p x)) ∧ Ext w w'
def IdxPost (w : World) (p : Int → Bool) (zs : List Int) (e : Ending) (w' : World) : Prop :=
  ∃ n : Int, e = .returned (.int .i64 n) ∧ decide (0 ≤ n) = zs.any p ∧ Ext w w'

set_option maxRecDepth 100000 in
set_option maxHeartbeats 2000000 in
theorem indexF_walk (p : Int → Bool) (g : Nat) (lb : Array Value) (eg : ∀ args w, (callFunc g args).run Tryd.prog w = .ok (.enter g args) w) (a : Option Addr) (c : Nat) (zs : List Int) (w : World)
    (hz : zs.length ≤ 9223372036854775807) (hR : RSl w a (wcells zs)) (hb : ∀ x ∈ zs, 0 ≤ x ∧ x ≤ 18446744073709551615) (hp : Says w g lb p) :
    Calls Tryd.prog 85 #[.slice a zs.length c, .func (.func g) #[] lb] w (IdxPost w p zs) := by
  have HP := Lib.hid hp
  have HR := Lib.hid hR
  have HB := Lib.hid hb
  clear hp hR hb
  go_enter Tryd.func85, Tryd.ntmps85
  go_wp2
  go_loopw [5, 8] (fun _ i wr => ∃ k : Nat, k ≤ zs.length ∧ i = .int .i64 (k : Int) ∧ Hid (Ext w wr) ∧ Hid (∀ j, j < k → p (zs.getD j 0) = false))
    (fun _ i _ => zs.length - (intOf i).toNat)
  case atStart => exact ⟨0, Nat.zero_le _, rfl, Ext.refl w, fun j hj => absurd hj (Nat.not_lt_zero _)⟩
  case round =>
    obtain ⟨k, hk, rfl, hE, hA⟩ := hrel
    by_cases hlt : k < zs.length
    · obtain ⟨b, off, rfl, hc⟩ := HR.out k _ (wcells_at zs k hlt)
      replace hc := hE.out.cell_ hc
      have hin : 0 ≤ zs.getD k 0 ∧ zs.getD k 0 ≤ 18446744073709551615 := by
        rw [List.getD_eq_getElem?_getD, List.getElem?_eq_getElem hlt]
        exact HB.out _ (List.getElem_mem hlt)
      have hcall := HP.out wr (zs.getD k 0) hE.out hin.1 hin.2
      have hltz : (k : Int) < (zs.length : Int) := by omega
      generalize hy : zs.getD k 0 = y at hc hcall hin
      have HY := Lib.hid hy
      clear hy
      cases hq : p y with
      | true =>
        have HQ := Lib.hid hq
        rw [hq] at hcall
        clear hq
        go_wp2
        refine hcall.mono ?_
        rintro e w' ⟨rfl, hb'⟩
        have HB' := Lib.hid hb'
        clear hb'
        go_wp2
        go_ret
        refine ⟨_, rfl, ?_, HB'.out⟩
        have : zs.any p = true := List.any_eq_true.2 ⟨zs[k], List.getElem_mem hlt, by
          have := HY.out; rw [List.getD_eq_getElem?_getD, List.getElem?_eq_getElem hlt] at this
          simp at this; rw [this]; exact HQ.out⟩
        rw [this]; simp
      | false =>
        have HQ := Lib.hid hq
        rw [hq] at hcall
        clear hq
        go_wp2
        refine hcall.mono ?_
        rintro e w' ⟨rfl, hb'⟩
        have HB' := Lib.hid hb'
        clear hb'
        go_wp2
        go_roundw
        case rel => exact ⟨k + 1, by omega, by go_num, HB'.out, fun j hj => by
          by_cases e : j = k
          · subst e; rw [HY.out]; exact HQ.out
          · exact hA.out j (by omega)⟩
        case measure => simp [intOf]; omega
    · have hltz : ¬ (k : Int) < (zs.length : Int) := by omega
      go_wp2
      go_ret
      refine ⟨_, rfl, ?_, hE.out⟩
      have : zs.any p = false := by
        rw [List.any_eq_false]
        intro x hx
        obtain ⟨j, hj, rfl⟩ := List.mem_iff_getElem.1 hx
        have := hA.out j (by omega)
        rw [List.getD_eq_getElem?_getD, List.getElem?_eq_getElem hj] at this
        simpa using this
      rw [this]; rfl
theorem containsF_walk (p : Int → Bool) (g : Nat) (lb : Array Value) (eg : ∀ args w, (callFunc g args).run Tryd.prog w = .ok (.enter g args) w) (a : Option Addr) (c : Nat) (zs : List Int) (w : World)
    (hz : zs.length ≤ 9223372036854775807) (hR : RSl w a (wcells zs)) (hb : ∀ x ∈ zs, 0 ≤ x ∧ x ≤ 18446744073709551615) (hp : Says w g lb p) :
    Calls Tryd.prog 41 #[.slice a zs.length c, .func (.func g) #[] lb] w fun e w' => e = .returned (.bool (zs.any p)) ∧ Ext w w' := by
  go_enter Tryd.func41, Tryd.ntmps41
  go_wp2_with (go_at_call 85; refine (indexF_walk p g lb eg a c zs _ hz hR hb hp).mono ?_; rintro e w' ⟨n, rfl, hn, hq⟩)
  go_ret
  exact ⟨rfl, hq⟩
end Go.Proofs.YtecbbbaafcoliaaDoor
/- The walks of Memory.Check's closures: what is asked of a header, of a word, of words. -/
namespace Go.Proofs.YtecbbbaafcoliaaDoor
open Go.RowKit
set_option linter.unusedVariables false
set_option linter.unusedSimpArgs false

/-- What is asked of an object's header. -/
def okHd (M : Mem) (x : Ob) : Bool := (hMark x.w == 0) && ((hAge x.w == 0) || !oldB M (x.a : Int))

theorem c1_enters (args : Array Value) (w : World) : (callFunc 55 args).run Tryd.prog w = .ok (.enter 55 args) w :=
  enters_of Tryd.func55 (by kernel_rfl) rfl args w
theorem c31_enters (args : Array Value) (w : World) : (callFunc 59 args).run Tryd.prog w = .ok (.enter 59 args) w :=
  enters_of Tryd.func59 (by kernel_rfl) rfl args w

theorem c2_any (a : Int) (h0 : 0 ≤ a) (h1 : a ≤ 18446744073709551615) (bm b3 : Nat) (st : List Int) (w : World) (hm : SMap w bm .i64 st) (h3 : w.cell? ⟨b3, 0, none⟩ = some (.map (some bm))) :
    Calls Tryd.prog 57 #[.int .u64 a, .pointer (some ⟨b3, 0, none⟩)] w fun e w' => e = .returned (.bool (fldB st a)) ∧ w' = w := by
  go_enter Tryd.func57, Tryd.ntmps57
  go_wp2_with (go_at_call 43; refine (field_any a h0 h1 bm st _ hm).mono ?_; rintro e w' ⟨rfl, rfl⟩)
  go_ret
  exact ⟨rfl, rfl⟩
theorem c31_any (a : Int) (h0 : 0 ≤ a) (h1 : a ≤ 18446744073709551615) (bm b3 b4 : Nat) (st : List Int) (w : World) (hm : SMap w bm .i64 st) (h3 : w.cell? ⟨b3, 0, none⟩ = some (.map (some bm)))
    (h4 : w.cell? ⟨b4, 0, none⟩ = some (.func (.func 57) #[] #[.pointer (some ⟨b3, 0, none⟩)])) :
    Calls Tryd.prog 59 #[.int .u64 a, .pointer (some ⟨b4, 0, none⟩)] w fun e w' => e = .returned (.bool (!fldB st a)) ∧ w' = w := by
  go_enter Tryd.func59, Tryd.ntmps59
  go_wp2_with (go_at_call 57; refine (c2_any a h0 h1 bm b3 st _ hm h3).mono ?_; rintro e w' ⟨rfl, rfl⟩)
  go_ret
  exact ⟨rfl, rfl⟩
/-- Are words fields? -/
def fieldsB (st : List Int) (zs : List Int) : Bool := zs.all (fldB st)
theorem fieldsB_any (st : List Int) (zs : List Int) : (!(zs.any fun x => !fldB st x)) = fieldsB st zs := by
  unfold fieldsB
  induction zs with
  | nil => rfl
  | cons z zs ih => simp only [List.any_cons, List.all_cons, ← ih]; cases fldB st z <;> simp
theorem c3_any (a : Option Addr) (c : Nat) (zs : List Int) (hz : zs.length ≤ 9223372036854775807) (hb : ∀ x ∈ zs, 0 ≤ x ∧ x ≤ 18446744073709551615) (bm b3 b4 : Nat) (st : List Int) (w : World)
    (hR : RSl w a (wcells zs)) (hm : SMap w bm .i64 st) (h3 : w.cell? ⟨b3, 0, none⟩ = some (.map (some bm)))
    (h4 : w.cell? ⟨b4, 0, none⟩ = some (.func (.func 57) #[] #[.pointer (some ⟨b3, 0, none⟩)])) :
    Calls Tryd.prog 58 #[.slice a zs.length c, .pointer (some ⟨b4, 0, none⟩)] w fun e w' => e = .returned (.bool (fieldsB st zs)) ∧ Ext w w' := by
  have hp : Says w 59 #[.pointer (some ⟨b4, 0, none⟩)] (fun x => !fldB st x) := fun W x hE q0 q1 =>
    (c31_any x q0 q1 bm b3 b4 st W (hm.ext hE) (hE.cell_ h3) (hE.cell_ h4)).mono fun e w' ⟨he, hw⟩ => ⟨he, by rw [hw]; exact hE⟩
  have HP := Lib.hid hp
  have HB := Lib.hid hb
  have HR := Lib.hid hR
  rw [← fieldsB_any]
  clear hp hm h3 h4 hb hR
  go_enter Tryd.func58, Tryd.ntmps58
  go_wp2_with (go_at_call 41; refine (containsF_walk _ _ _ c31_enters a c zs _ hz HR.out HB.out HP.out).mono ?_; rintro e w' ⟨rfl, hq⟩)
  go_ret
  exact ⟨rfl, hq⟩
theorem c1_any (x : Ob) (b o bm b3 b1 : Nat) (M : Mem) (S : Sls) (hs : Shp M) (st : List Int) (w0 w : World) (hE : Ext w0 w) (hM : RMem w0 b o M S) (hm : SMap w bm .i64 st) (hbm : w0.heap.size ≤ bm)
    (hne3 : b3 ≠ bm) (hne1 : b1 ≠ bm) (h3 : w.cell? ⟨b3, 0, none⟩ = some (.map (some bm))) (h1 : w.cell? ⟨b1, 0, none⟩ = some (.pointer (some ⟨b, o, none⟩))) :
    Calls Tryd.prog 55 #[.int .i64 (x.a : Int), headV x.w, .pointer (some ⟨b3, 0, none⟩), .pointer (some ⟨b1, 0, none⟩)] w fun e w' =>
      e = .returned (.bool (okHd M x)) ∧ SMap w' bm .i64 (st ++ [(x.a : Int)]) ∧ Keep (· = bm) w w' := by
  have hlt3 := cell_lt h3
  have hlt1 := cell_lt h1
  have hltm := hm.lt
  simp only at hlt3 hlt1
  obtain ⟨w1, hrun, hm2, hbut⟩ := smap_put (hm.ext ((Ext.refl w).alloc_ (.cells #[.int .i64 (hKind x.w), .int .i64 (hAge x.w), .int .i64 (hMark x.w), .int .i64 (hSize x.w)] 88))) (x.a : Int)
  have hk1 := Keep.of_but hbut
  have q1 : w1.cell? ⟨w.heap.size, 1, none⟩ = some (.int .i64 (hAge x.w)) := hk1.cell (by simp; omega) (by simp [go_sem])
  have q2 : w1.cell? ⟨w.heap.size, 2, none⟩ = some (.int .i64 (hMark x.w)) := hk1.cell (by simp; omega) (by simp [go_sem])
  have q3 : w1.cell? ⟨b1, 0, none⟩ = some (.pointer (some ⟨b, o, none⟩)) := hk1.cell hne1 (((Ext.refl w).alloc_ _).cell_ h1)
  have hkk : Keep (· = bm) w w1 := ((Keep.refl _ w).alloc_ _).trans hk1
  have hM1 : RMem w1 b o M S := hM.ext (Ext.keep hE hkk fun i hi => by omega)
  have HM2 := Lib.hid hm2
  have HK := Lib.hid hkk
  have HM1 := Lib.hid hM1
  clear hm hm2 hbut hk1 hkk hM1 hM hE
  unfold headV
  cases m0 : (hMark x.w == 0) with
  | false =>
    have e : okHd M x = false := by simp [okHd, m0]
    rw [e]
    go_enter Tryd.func55, Tryd.ntmps55
    go_wp2
    go_ret
    exact ⟨rfl, HM2.out, HK.out⟩
  | true =>
    cases a0 : (hAge x.w == 0) with
    | true =>
      have e : okHd M x = true := by simp [okHd, m0, a0]
      rw [e]
      go_enter Tryd.func55, Tryd.ntmps55
      go_wp2
      go_ret
      exact ⟨rfl, HM2.out, HK.out⟩
    | false =>
      have e : okHd M x = !oldB M (x.a : Int) := by simp [okHd, m0, a0]
      rw [e]
      go_enter Tryd.func55, Tryd.ntmps55
      go_wp2_with (go_at_call 56; refine (inOld_any _ _ b o M S HM1.out hs).mono ?_; rintro e w' ⟨rfl, rfl⟩)
      go_ret
      exact ⟨rfl, HM2.out, HK.out⟩
end Go.Proofs.YtecbbbaafcoliaaDoor
/- Is a memory right? Plainly. -/
namespace Go.Proofs.YtecbbbaafcoliaaDoor
set_option linter.unusedVariables false
set_option linter.unusedSimpArgs false

/-- The two parts. -/
def partN (M : Mem) : List Ob × Bool := part M.W M.base (M.base + M.top.toNat)
def partO (M : Mem) : List Ob × Bool := part M.W (2 * M.half).toNat ((2 * M.half).toNat + M.oldTop.toNat)
def objsAll (M : Mem) : List Ob := (partN M).1 ++ (partO M).1
/-- Do the parts hold objects, each of which is as it is asked? -/
def objsB (M : Mem) (see : Ob → Bool) : Bool := ((partN M).2 && (partN M).1.all see) && ((partO M).2 && (partO M).1.all see)
def startsM (M : Mem) : List Int := (objsAll M).map fun o => (o.a : Int)
/-- An object of a memory. -/
def ObM (M : Mem) (x : Ob) : Prop := ObIn M.W M.base (M.base + M.top.toNat) x ∨ ObIn M.W (2 * M.half).toNat ((2 * M.half).toNat + M.oldTop.toNat) x
theorem obM_of {M : Mem} {x : Ob} (h : x ∈ objsAll M) : ObM M x := by
  unfold objsAll at h
  rcases List.mem_append.1 h with h | h
  · exact Or.inl (part_in h)
  · exact Or.inr (part_in h)
/-- An object's fields. -/
def flds (M : Mem) (x : Ob) : List Int := (List.range x.n).map fun i => wat M.W (x.a + 1 + i)
def okFld (M : Mem) (st : List Int) (x : Ob) : Bool := rawB (hKind x.w) || fieldsB st (flds M x)
/-- Is the card of an object's field marked, if it must be? -/
def crd (M : Mem) (x : Ob) (i : Nat) : Bool := !((oldB M (x.a : Int) && youngB M (wat M.W (x.a + 1 + i))) && !cardB M ((x.a : Int) + 1 + i))
def cardsK (M : Mem) (x : Ob) (k : Nat) : Bool := (List.range k).all (crd M x)
def cardsO (M : Mem) (x : Ob) : Bool := rawB (hKind x.w) || cardsK M x x.n
theorem cardsK_succ (M : Mem) (x : Ob) (k : Nat) : cardsK M x (k + 1) = (cardsK M x k && crd M x k) := by
  simp [cardsK, List.range_succ]
/-- Numbers. -/
def idOK (st : List Int) (pre : List (Int × Int)) (x : Int × Int) : Bool :=
  !(((((kindW x.1 != 0) || (x.1 == 0)) || !fldB st x.1) || decide (x.2 < 1)) || inSt (pre.map (·.1)) x.1) && !inSt (pre.map (·.2)) x.2
def idsB (st : List Int) : List (Int × Int) → List (Int × Int) → Bool
  | _, [] => true
  | pre, x :: l => idOK st pre x && idsB st (pre ++ [x]) l
/-- THE CHECK. -/
def goodB (M : Mem) : Bool :=
  shapeB M && objsB M (okHd M) && fieldsB (startsM M) M.roots && fieldsB (startsM M) M.weak && (objsAll M).all (okFld M (startsM M)) && idsB (startsM M) [] M.ids
def cardsM (M : Mem) : Bool := (objsAll M).all (cardsO M)
def chk (M : Mem) : Int := if goodB M then (if cardsM M then 0 else 5) else 3
theorem objsB_all {M : Mem} {p q : Ob → Bool} (h : objsB M p = true) : objsB M q = (objsAll M).all q := by
  simp only [objsB, Bool.and_eq_true] at h
  obtain ⟨⟨h1, _⟩, h2, _⟩ := h
  simp [objsB, objsAll, h1, h2, List.all_append]
end Go.Proofs.YtecbbbaafcoliaaDoor
/- The walk of Memory.objects, whatever is called on the objects. -/
namespace Go.Proofs.YtecbbbaafcoliaaDoor
open Go.RowKit
set_option linter.unusedVariables false
set_option linter.unusedSimpArgs false

def ObjsPost (L : Nat → Prop) (w : World) (I : List Ob → World → Prop) (see : Ob → Bool) (M : Mem) (e : Ending) (w' : World) : Prop :=
  ∃ v, e = .returned (.bool (objsB M see)) ∧ I v w' ∧ (objsB M see = true → v = objsAll M) ∧ Keep L w w'

set_option maxRecDepth 100000 in
set_option maxHeartbeats 4000000 in
theorem objects_walk (w0 : World) (b o : Nat) (M : Mem) (S : Sls) (hs : Shp M) (hM : RMem w0 b o M S) (gb gs : Addr) (hG : GBound w0 gb) (hS : GShape w0 gs)
    (L : Nat → Prop) (g : Nat) (lb : Array Value) (eg : ∀ args w, (callFunc g args).run Tryd.prog w = .ok (.enter g args) w) (see : Ob → Bool) (I : List Ob → World → Prop)
    (w : World) (hE : Ext w0 w) (hL : ∀ k, L k → w0.heap.size ≤ k ∧ k < w.heap.size) (hX : ∀ v w w', I v w → Ext w w' → I v w')
    (hC : ∀ v x w', I v w' → Keep L w w' → ObM M x → Calls Tryd.prog g (#[.int .i64 (x.a : Int), headV x.w] ++ lb) w' fun e w'' => e = .returned (.bool (see x)) ∧ I (v ++ [x]) w'' ∧ Keep L w' w'')
    (hI : I [] w) :
    Calls Tryd.prog 54 #[.pointer (some ⟨b, o, none⟩), .func (.func g) #[] lb] w (ObjsPost L w I see M) := by
  obtain ⟨hb, b0, b1⟩ := hs.base
  have s1 := hs.h1
  have s2 := hs.h2
  have s3 := hs.t1
  have s4 := hs.t2
  have s5 := hs.p1
  have s6 := hs.p2
  have s7 := hs.o2
  have s8 := hs.w
  have hM1 := hM.ext hE
  have c1 := hM1.half
  have c2 := hM1.top
  have c3 := hM1.oldTop
  obtain ⟨t, ht⟩ : ∃ t : Nat, M.top = t := ⟨M.top.toNat, by omega⟩
  obtain ⟨p, hp⟩ : ∃ p : Nat, M.oldTop = p := ⟨M.oldTop.toNat, by omega⟩
  obtain ⟨h, hh⟩ : ∃ h : Nat, M.half = h := ⟨M.half.toNat, by omega⟩
  obtain ⟨N1, hN1⟩ : ∃ N1 : Nat, N1 = M.base + t := ⟨_, rfl⟩
  obtain ⟨N2, hN2⟩ : ∃ N2 : Nat, N2 = 2 * h := ⟨_, rfl⟩
  obtain ⟨N3, hN3⟩ : ∃ N3 : Nat, N3 = 2 * h + p := ⟨_, rfl⟩
  have eN : partN M = part M.W M.base N1 := by unfold partN; rw [ht, hN1]; rfl
  have eO : partO M = part M.W N2 N3 := by unfold partO; rw [hp, hh, hN2, hN3]; rfl
  have x1 : Hid (N1 = M.base + M.top.toNat) := by unfold Hid; rw [hN1, ht]; rfl
  have x2 : Hid (N2 = (2 * M.half).toNat) := by unfold Hid; rw [hN2, hh]; rfl
  have x3 : Hid (N3 = (2 * M.half).toNat + M.oldTop.toNat) := by unfold Hid; rw [hN3, hh, hp]; rfl
  have E1 : Hid (M.half = (h : Int)) := hh
  have E2 : Hid (M.top = (t : Int)) := ht
  have E3 : Hid (M.oldTop = (p : Int)) := hp
  rw [hh] at c1
  rw [ht] at c2
  rw [hp] at c3
  have w1 : IntKind.i64.wrap ((M.base : Int) + (t : Int)) = (N1 : Int) := by rw [IntWalk.i64_in _ (by omega)]; omega
  have w2 : IntKind.i64.wrap (2 * (h : Int)) = (N2 : Int) := by rw [IntWalk.i64_in _ (by omega)]; omega
  have w3 : IntKind.i64.wrap ((N2 : Int) + (p : Int)) = (N3 : Int) := by rw [IntWalk.i64_in _ (by omega)]; omega
  have HM := Lib.hid hM
  have HG := Lib.hid hG
  have HS := Lib.hid hS
  have HE := Lib.hid hE
  have HL := Lib.hid hL
  have HX := Lib.hid hX
  have HC := Lib.hid hC
  have HI : Hid (I [] w) := hI
  have HSH := Lib.hid hs
  have HN := Lib.hid eN
  have HO := Lib.hid eO
  have k1 : M.base ≤ N1 ∧ N1 ≤ M.W.length := by omega
  have k2 : N2 ≤ N3 ∧ N3 ≤ M.W.length := by omega
  have k3 : M.W.length ≤ 196608 := by omega
  obtain ⟨k4, k5⟩ := k1
  obtain ⟨k6, k7⟩ := k2
  clear hM hG hS hE hL hX hC hI hM1 hs eN eO s8 hb ht hp hh hN1 hN2 hN3 b0 b1 s1 s2 s3 s4 s5 s6 s7
  go_enter Tryd.func54, Tryd.ntmps54
  go_wp2
  cases h1 : ((part M.W M.base N1).2 && (part M.W M.base N1).1.all see) with
  | false =>
    have H1 := Lib.hid h1
    clear h1
    refine wp_region_held_drew (S := fun w' => w'.cell? ⟨b, o, none⟩ = some (.int .i64 (h : Int)) ∧ w'.cell? ⟨b, o + 5, none⟩ = some (.int .i64 (t : Int)) ∧ w'.cell? ⟨b, o + 6, none⟩ = some (.int .i64 (p : Int))) (by kernel_rfl) ?_ (fun hHeld => ?_)
    · go_keep
    refine wpAnyH_take (i := 0) (oi := ⟨some 5, _, _, _, _, _⟩) (v := ?_) rfl (by kernel_rfl) (by kernel_rfl) (by kernel_rfl) (fun _ _ _ h => h) (Or.inl ⟨by rfl, ?_⟩) (by assumption) ?_
    rotate_left
    · (intro w hSw; (try dsimp only at hSw); go_simp; try with_reducible rfl)
    try simp only [Act.put, List.setIfInBounds_toArray, List.set_cons_zero, List.set_cons_succ]
    refine wpAnyH_take (i := 1) (oi := ⟨some 6, _, _, _, _, _⟩) (v := ?_) rfl (by kernel_rfl) (by kernel_rfl) (by kernel_rfl) (fun _ _ _ h => h) (Or.inl ⟨by rfl, ?_⟩) (by assumption) ?_
    rotate_left
    · (intro w hSw; (try dsimp only at hSw); go_simp; try with_reducible rfl)
    try simp only [Act.put, List.setIfInBounds_toArray, List.set_cons_zero, List.set_cons_succ]
    refine wpAnyH_take (i := 3) (oi := ⟨some 8, _, _, _, _, _⟩) (v := ?_) rfl (by kernel_rfl) (by kernel_rfl) (by kernel_rfl) (fun _ _ _ h => h) (Or.inl ⟨by rfl, ?_⟩) (by assumption) ?_
    rotate_left
    · (intro w hSw; (try dsimp only at hSw); go_simp; try with_reducible rfl)
    try simp only [Act.put, List.setIfInBounds_toArray, List.set_cons_zero, List.set_cons_succ]
    refine wpAnyH_take (i := 5) (oi := ⟨some 10, _, _, _, _, _⟩) (v := ?_) rfl (by kernel_rfl) (by kernel_rfl) (by kernel_rfl) (fun _ _ _ h => h) (Or.inl ⟨by rfl, ?_⟩) (by assumption) ?_
    rotate_left
    · (intro w hSw; (try dsimp only at hSw); go_simp; try with_reducible rfl)
    try simp only [Act.put, List.setIfInBounds_toArray, List.set_cons_zero, List.set_cons_succ]
    refine wpAnyH_take (i := 6) (oi := ⟨some 11, _, _, _, _, _⟩) (v := ?_) rfl (by kernel_rfl) (by kernel_rfl) (by kernel_rfl) (fun _ _ _ h => h) (Or.inl ⟨by rfl, ?_⟩) (by assumption) ?_
    rotate_left
    · (intro w hSw; (try dsimp only at hSw); go_simp; try with_reducible rfl)
    try simp only [Act.put, List.setIfInBounds_toArray, List.set_cons_zero, List.set_cons_succ]
    refine wpAnyH_take (i := 7) (oi := ⟨some 12, _, _, _, _, _⟩) (v := ?_) rfl (by kernel_rfl) (by kernel_rfl) (by kernel_rfl) (fun _ _ _ h => h) (Or.inl ⟨by rfl, ?_⟩) (by assumption) ?_
    rotate_left
    · (intro w hSw; (try dsimp only at hSw); go_simp; try with_reducible rfl)
    try simp only [Act.put, List.setIfInBounds_toArray, List.set_cons_zero, List.set_cons_succ]
    refine wpAnyH_take (i := 8) (oi := ⟨some 13, _, _, _, _, _⟩) (v := ?_) rfl (by kernel_rfl) (by kernel_rfl) (by kernel_rfl) (fun _ _ _ h => h) (Or.inl ⟨by rfl, ?_⟩) (by assumption) ?_
    rotate_left
    · (intro w hSw; (try dsimp only at hSw); go_simp; try with_reducible rfl)
    try simp only [Act.put, List.setIfInBounds_toArray, List.set_cons_zero, List.set_cons_succ]
    refine wpAnyH_take (i := 10) (oi := ⟨some 15, _, _, _, _, _⟩) (v := ?_) rfl (by kernel_rfl) (by kernel_rfl) (by kernel_rfl) (fun _ _ _ h => h) (Or.inl ⟨by rfl, ?_⟩) (by assumption) ?_
    rotate_left
    · (intro w hSw; (try dsimp only at hSw); go_simp; try with_reducible rfl)
    try simp only [Act.put, List.setIfInBounds_toArray, List.set_cons_zero, List.set_cons_succ]
    refine wpAnyH_ready (rs := [2]) (by kernel_rfl) (by simp) ?_
    refine AllReadyH.cons (o := ⟨some 7, _, _, _, _, _⟩) rfl (fun K hK => ?_) AllReadyH.nil
    go_simp
    refine (base_any _ b o M S ?_ HSH.out).mono ?_
    · refine HM.out.ext ?_
      repeat (first | exact HE.out | exact Ext.refl _ | (refine Ext.drew_ ?_) | (refine Ext.drewN_ ?_ _))
    rintro e w' ⟨rfl, n, rfl⟩
    refine hK.out _ _ ?_ (fun hHeld => ?_)
    · (try dsimp only); go_keep
    clear hK K
    try simp only [Act.put, List.setIfInBounds_toArray, List.set_cons_zero, List.set_cons_succ]
    refine wpAnyH_ready (rs := [4]) (by kernel_rfl) (by simp) ?_
    refine AllReadyH.cons (o := ⟨some 9, _, _, _, _, _⟩) rfl (fun K hK => ?_) AllReadyH.nil
    go_simp
    refine (base_any _ b o M S ?_ HSH.out).mono ?_
    · refine HM.out.ext ?_
      repeat (first | exact HE.out | exact Ext.refl _ | (refine Ext.drew_ ?_) | (refine Ext.drewN_ ?_ _))
    rintro e w' ⟨rfl, n, rfl⟩
    refine hK.out _ _ ?_ (fun hHeld => ?_)
    · (try dsimp only); go_keep
    clear hK K
    try simp only [Act.put, List.setIfInBounds_toArray, List.set_cons_zero, List.set_cons_succ]
    refine wpAnyH_take (i := 9) (oi := ⟨some 14, _, _, _, _, _⟩) (v := ?_) rfl (by kernel_rfl) (by kernel_rfl) (by kernel_rfl) (fun _ _ _ h => h) (Or.inl ⟨by rfl, ?_⟩) (by assumption) ?_
    rotate_left
    · (intro w hSw; (try dsimp only at hSw); go_simp; try with_reducible rfl)
    try simp only [Act.put, List.setIfInBounds_toArray, List.set_cons_zero, List.set_cons_succ]
    refine wpAnyH_ready (rs := [11]) (by kernel_rfl) (by simp) ?_
    refine AllReadyH.cons (o := ⟨some 16, _, _, _, _, _⟩) rfl (fun K hK => ?_) AllReadyH.nil
    go_simp
    refine (each_walk w0 b o M S HM.out gb gs HG.out HS.out L g lb eg see I _ ?_ ?_ HX.out M.base N1 (by omega) k3 ?_ (by omega) [] ?_).mono ?_
    · repeat (first | exact HE.out | exact Ext.refl _ | (refine Ext.drew_ ?_) | (refine Ext.drewN_ ?_ _))
    · exact fun k hk => ⟨(HL.out k hk).1, by have h2 := (HL.out k hk).2; simpa using h2⟩
    · exact fun v x w' hI hK hx => HC.out v x w' hI (Keep.trans (by repeat (first | exact Keep.refl _ _ | (refine Keep.drew_ ?_) | (refine Keep.drewN_ ?_ _))) hK) (Or.inl (x1.out ▸ hx))
    · refine HX.out _ _ _ HI.out ?_
      repeat (first | exact HE.out | exact Ext.refl _ | (refine Ext.drew_ ?_) | (refine Ext.drewN_ ?_ _))
    rintro e w1 ⟨v1, he, hI1, hv1, hK1⟩
    rw [H1.out] at he
    subst he
    have HK1 : Hid (Keep L w w1) := Keep.trans (by repeat (first | exact Keep.refl _ _ | (refine Keep.drew_ ?_) | (refine Keep.drewN_ ?_ _))) hK1
    have hE1 := Ext.keep HE.out HK1.out (fun i hi => (HL.out i hi).1)
    have HE1 := Lib.hid hE1
    have hMM := HM.out.ext hE1
    have d1 := hMM.half
    have d2 := hMM.top
    have d3 := hMM.oldTop
    rw [E1.out] at d1
    rw [E2.out] at d2
    rw [E3.out] at d3
    clear hMM hE1
    have HI1 := Lib.hid hI1
    have HV1 := Lib.hid hv1
    clear hI1 hv1 hK1
    refine hK.out _ _ ?_ (fun hHeld => ?_)
    · (try dsimp only); exact ⟨d1, d2, d3⟩
    clear hK K
    try simp only [Act.put, List.setIfInBounds_toArray, List.set_cons_zero, List.set_cons_succ]
    refine wpAnyH_take (i := 12) (oi := ⟨some 17, _, _, _, _, _⟩) (v := ?_) rfl (by kernel_rfl) (by kernel_rfl) (by kernel_rfl) (fun _ _ _ h => h) (Or.inl ⟨by rfl, ?_⟩) (by assumption) ?_
    rotate_left
    · (intro w hSw; (try dsimp only at hSw); go_simp; try with_reducible rfl)
    try simp only [Act.put, List.setIfInBounds_toArray, List.set_cons_zero, List.set_cons_succ]
    refine wpAnyH_take (i := 13) (oi := ⟨some 18, _, _, _, _, _⟩) (v := undef) rfl (by kernel_rfl) (by kernel_rfl) (by kernel_rfl) (fun _ _ _ h => h) (Or.inr ⟨by rfl, rfl⟩) (by assumption) ?_
    try simp only [Act.put, List.setIfInBounds_toArray, List.set_cons_zero, List.set_cons_succ]
    refine wpAnyH_take (i := 14) (oi := ⟨some 19, _, _, _, _, _⟩) (v := undef) rfl (by kernel_rfl) (by kernel_rfl) (by kernel_rfl) (fun _ _ _ h => h) (Or.inr ⟨by rfl, rfl⟩) (by assumption) ?_
    try simp only [Act.put, List.setIfInBounds_toArray, List.set_cons_zero, List.set_cons_succ]
    refine wpAnyH_take (i := 15) (oi := ⟨some 20, _, _, _, _, _⟩) (v := undef) rfl (by kernel_rfl) (by kernel_rfl) (by kernel_rfl) (fun _ _ _ h => h) (Or.inr ⟨by rfl, rfl⟩) (by assumption) ?_
    try simp only [Act.put, List.setIfInBounds_toArray, List.set_cons_zero, List.set_cons_succ]
    refine wpAnyH_take (i := 16) (oi := ⟨some 21, _, _, _, _, _⟩) (v := undef) rfl (by kernel_rfl) (by kernel_rfl) (by kernel_rfl) (fun _ _ _ h => h) (Or.inr ⟨by rfl, rfl⟩) (by assumption) ?_
    try simp only [Act.put, List.setIfInBounds_toArray, List.set_cons_zero, List.set_cons_succ]
    refine wpAnyH_take (i := 17) (oi := ⟨some 22, _, _, _, _, _⟩) (v := undef) rfl (by kernel_rfl) (by kernel_rfl) (by kernel_rfl) (fun _ _ _ h => h) (Or.inr ⟨by rfl, rfl⟩) (by assumption) ?_
    try simp only [Act.put, List.setIfInBounds_toArray, List.set_cons_zero, List.set_cons_succ]
    refine wpAnyH_take (i := 18) (oi := ⟨some 23, _, _, _, _, _⟩) (v := undef) rfl (by kernel_rfl) (by kernel_rfl) (by kernel_rfl) (fun _ _ _ h => h) (Or.inr ⟨by rfl, rfl⟩) (by assumption) ?_
    try simp only [Act.put, List.setIfInBounds_toArray, List.set_cons_zero, List.set_cons_succ]
    refine wpAnyH_take (i := 19) (oi := ⟨some 24, _, _, _, _, _⟩) (v := undef) rfl (by kernel_rfl) (by kernel_rfl) (by kernel_rfl) (fun _ _ _ h => h) (Or.inr ⟨by rfl, rfl⟩) (by assumption) ?_
    try simp only [Act.put, List.setIfInBounds_toArray, List.set_cons_zero, List.set_cons_succ]
    refine wpAnyH_take (i := 20) (oi := ⟨some 25, _, _, _, _, _⟩) (v := undef) rfl (by kernel_rfl) (by kernel_rfl) (by kernel_rfl) (fun _ _ _ h => h) (Or.inr ⟨by rfl, rfl⟩) (by assumption) ?_
    try simp only [Act.put, List.setIfInBounds_toArray, List.set_cons_zero, List.set_cons_succ]
    refine wpAnyH_take (i := 21) (oi := ⟨some 26, _, _, _, _, _⟩) (v := undef) rfl (by kernel_rfl) (by kernel_rfl) (by kernel_rfl) (fun _ _ _ h => h) (Or.inr ⟨by rfl, rfl⟩) (by assumption) ?_
    try simp only [Act.put, List.setIfInBounds_toArray, List.set_cons_zero, List.set_cons_succ]
    refine wpAnyH_take (i := 22) (oi := ⟨some 27, _, _, _, _, _⟩) (v := undef) rfl (by kernel_rfl) (by kernel_rfl) (by kernel_rfl) (fun _ _ _ h => h) (Or.inr ⟨by rfl, rfl⟩) (by assumption) ?_
    try simp only [Act.put, List.setIfInBounds_toArray, List.set_cons_zero, List.set_cons_succ]
    refine wpAnyH_take (i := 23) (oi := ⟨some 28, _, _, _, _, _⟩) (v := undef) rfl (by kernel_rfl) (by kernel_rfl) (by kernel_rfl) (fun _ _ _ h => h) (Or.inr ⟨by rfl, rfl⟩) (by assumption) ?_
    try simp only [Act.put, List.setIfInBounds_toArray, List.set_cons_zero, List.set_cons_succ]
    refine wpAnyH_take (i := 24) (oi := ⟨some 29, _, _, _, _, _⟩) (v := undef) rfl (by kernel_rfl) (by kernel_rfl) (by kernel_rfl) (fun _ _ _ h => h) (Or.inr ⟨by rfl, rfl⟩) (by assumption) ?_
    try simp only [Act.put, List.setIfInBounds_toArray, List.set_cons_zero, List.set_cons_succ]
    refine wpAnyH_take (i := 25) (oi := ⟨some 30, _, _, _, _, _⟩) (v := undef) rfl (by kernel_rfl) (by kernel_rfl) (by kernel_rfl) (fun _ _ _ h => h) (Or.inr ⟨by rfl, rfl⟩) (by assumption) ?_
    try simp only [Act.put, List.setIfInBounds_toArray, List.set_cons_zero, List.set_cons_succ]
    refine wpAnyH_take (i := 26) (oi := ⟨some 31, _, _, _, _, _⟩) (v := undef) rfl (by kernel_rfl) (by kernel_rfl) (by kernel_rfl) (fun _ _ _ h => h) (Or.inr ⟨by rfl, rfl⟩) (by assumption) ?_
    try simp only [Act.put, List.setIfInBounds_toArray, List.set_cons_zero, List.set_cons_succ]
    refine wpAnyH_take (i := 27) (oi := ⟨some 32, _, _, _, _, _⟩) (v := undef) rfl (by kernel_rfl) (by kernel_rfl) (by kernel_rfl) (fun _ _ _ h => h) (Or.inr ⟨by rfl, rfl⟩) (by assumption) ?_
    try simp only [Act.put, List.setIfInBounds_toArray, List.set_cons_zero, List.set_cons_succ]
    refine wpAnyH_take (i := 28) (oi := ⟨some 33, _, _, _, _, _⟩) (v := undef) rfl (by kernel_rfl) (by kernel_rfl) (by kernel_rfl) (fun _ _ _ h => h) (Or.inr ⟨by rfl, rfl⟩) (by assumption) ?_
    try simp only [Act.put, List.setIfInBounds_toArray, List.set_cons_zero, List.set_cons_succ]
    refine wpAnyH_take (i := 29) (oi := ⟨some 34, _, _, _, _, _⟩) (v := undef) rfl (by kernel_rfl) (by kernel_rfl) (by kernel_rfl) (fun _ _ _ h => h) (Or.inr ⟨by rfl, rfl⟩) (by assumption) ?_
    try simp only [Act.put, List.setIfInBounds_toArray, List.set_cons_zero, List.set_cons_succ]
    refine wpAnyH_take (i := 30) (oi := ⟨some 35, _, _, _, _, _⟩) (v := undef) rfl (by kernel_rfl) (by kernel_rfl) (by kernel_rfl) (fun _ _ _ h => h) (Or.inr ⟨by rfl, rfl⟩) (by assumption) ?_
    try simp only [Act.put, List.setIfInBounds_toArray, List.set_cons_zero, List.set_cons_succ]
    refine wpAnyH_take (i := 31) (oi := ⟨some 36, _, _, _, _, _⟩) (v := ?_) rfl (by kernel_rfl) (by kernel_rfl) (by kernel_rfl) (fun _ _ _ h => h) (Or.inl ⟨by rfl, ?_⟩) (by assumption) ?_
    rotate_left
    · (intro w hSw; (try dsimp only at hSw); go_simp; try with_reducible rfl)
    try simp only [Act.put, List.setIfInBounds_toArray, List.set_cons_zero, List.set_cons_succ]
    refine wpAnyH_take (i := 32) (oi := ⟨some 4, _, _, _, _, _⟩) (v := ?_) rfl (by kernel_rfl) (by kernel_rfl) (by kernel_rfl) (fun _ _ _ h => h) (Or.inl ⟨by rfl, ?_⟩) (by assumption) ?_
    rotate_left
    · (intro w hSw; (try dsimp only at hSw); go_simp; try with_reducible rfl)
    try simp only [Act.put, List.setIfInBounds_toArray, List.set_cons_zero, List.set_cons_succ]
    refine wpAnyH_done (by kernel_rfl) ?_ _
    go_wp2
    go_ret
    refine ⟨v1, ?_, HI1.out, fun e => ?_, HK1.out⟩
    · unfold objsB; rw [HN.out, H1.out]; rfl
    · unfold objsB at e; rw [HN.out, H1.out] at e; cases e
  | true =>
    have H1 := Lib.hid h1
    clear h1
    refine wp_region_held_drew (S := fun w' => w'.cell? ⟨b, o, none⟩ = some (.int .i64 (h : Int)) ∧ w'.cell? ⟨b, o + 5, none⟩ = some (.int .i64 (t : Int)) ∧ w'.cell? ⟨b, o + 6, none⟩ = some (.int .i64 (p : Int))) (by kernel_rfl) ?_ (fun hHeld => ?_)
    · go_keep
    refine wpAnyH_take (i := 0) (oi := ⟨some 5, _, _, _, _, _⟩) (v := ?_) rfl (by kernel_rfl) (by kernel_rfl) (by kernel_rfl) (fun _ _ _ h => h) (Or.inl ⟨by rfl, ?_⟩) (by assumption) ?_
    rotate_left
    · (intro w hSw; (try dsimp only at hSw); go_simp; try with_reducible rfl)
    try simp only [Act.put, List.setIfInBounds_toArray, List.set_cons_zero, List.set_cons_succ]
    refine wpAnyH_take (i := 1) (oi := ⟨some 6, _, _, _, _, _⟩) (v := ?_) rfl (by kernel_rfl) (by kernel_rfl) (by kernel_rfl) (fun _ _ _ h => h) (Or.inl ⟨by rfl, ?_⟩) (by assumption) ?_
    rotate_left
    · (intro w hSw; (try dsimp only at hSw); go_simp; try with_reducible rfl)
    try simp only [Act.put, List.setIfInBounds_toArray, List.set_cons_zero, List.set_cons_succ]
    refine wpAnyH_take (i := 3) (oi := ⟨some 8, _, _, _, _, _⟩) (v := ?_) rfl (by kernel_rfl) (by kernel_rfl) (by kernel_rfl) (fun _ _ _ h => h) (Or.inl ⟨by rfl, ?_⟩) (by assumption) ?_
    rotate_left
    · (intro w hSw; (try dsimp only at hSw); go_simp; try with_reducible rfl)
    try simp only [Act.put, List.setIfInBounds_toArray, List.set_cons_zero, List.set_cons_succ]
    refine wpAnyH_take (i := 5) (oi := ⟨some 10, _, _, _, _, _⟩) (v := ?_) rfl (by kernel_rfl) (by kernel_rfl) (by kernel_rfl) (fun _ _ _ h => h) (Or.inl ⟨by rfl, ?_⟩) (by assumption) ?_
    rotate_left
    · (intro w hSw; (try dsimp only at hSw); go_simp; try with_reducible rfl)
    try simp only [Act.put, List.setIfInBounds_toArray, List.set_cons_zero, List.set_cons_succ]
    refine wpAnyH_take (i := 6) (oi := ⟨some 11, _, _, _, _, _⟩) (v := ?_) rfl (by kernel_rfl) (by kernel_rfl) (by kernel_rfl) (fun _ _ _ h => h) (Or.inl ⟨by rfl, ?_⟩) (by assumption) ?_
    rotate_left
    · (intro w hSw; (try dsimp only at hSw); go_simp; try with_reducible rfl)
    try simp only [Act.put, List.setIfInBounds_toArray, List.set_cons_zero, List.set_cons_succ]
    refine wpAnyH_take (i := 7) (oi := ⟨some 12, _, _, _, _, _⟩) (v := ?_) rfl (by kernel_rfl) (by kernel_rfl) (by kernel_rfl) (fun _ _ _ h => h) (Or.inl ⟨by rfl, ?_⟩) (by assumption) ?_
    rotate_left
    · (intro w hSw; (try dsimp only at hSw); go_simp; try with_reducible rfl)
    try simp only [Act.put, List.setIfInBounds_toArray, List.set_cons_zero, List.set_cons_succ]
    refine wpAnyH_take (i := 8) (oi := ⟨some 13, _, _, _, _, _⟩) (v := ?_) rfl (by kernel_rfl) (by kernel_rfl) (by kernel_rfl) (fun _ _ _ h => h) (Or.inl ⟨by rfl, ?_⟩) (by assumption) ?_
    rotate_left
    · (intro w hSw; (try dsimp only at hSw); go_simp; try with_reducible rfl)
    try simp only [Act.put, List.setIfInBounds_toArray, List.set_cons_zero, List.set_cons_succ]
    refine wpAnyH_take (i := 10) (oi := ⟨some 15, _, _, _, _, _⟩) (v := ?_) rfl (by kernel_rfl) (by kernel_rfl) (by kernel_rfl) (fun _ _ _ h => h) (Or.inl ⟨by rfl, ?_⟩) (by assumption) ?_
    rotate_left
    · (intro w hSw; (try dsimp only at hSw); go_simp; try with_reducible rfl)
    try simp only [Act.put, List.setIfInBounds_toArray, List.set_cons_zero, List.set_cons_succ]
    refine wpAnyH_ready (rs := [2]) (by kernel_rfl) (by simp) ?_
    refine AllReadyH.cons (o := ⟨some 7, _, _, _, _, _⟩) rfl (fun K hK => ?_) AllReadyH.nil
    go_simp
    refine (base_any _ b o M S ?_ HSH.out).mono ?_
    · refine HM.out.ext ?_
      repeat (first | exact HE.out | exact Ext.refl _ | (refine Ext.drew_ ?_) | (refine Ext.drewN_ ?_ _))
    rintro e w' ⟨rfl, n, rfl⟩
    refine hK.out _ _ ?_ (fun hHeld => ?_)
    · (try dsimp only); go_keep
    clear hK K
    try simp only [Act.put, List.setIfInBounds_toArray, List.set_cons_zero, List.set_cons_succ]
    refine wpAnyH_ready (rs := [4]) (by kernel_rfl) (by simp) ?_
    refine AllReadyH.cons (o := ⟨some 9, _, _, _, _, _⟩) rfl (fun K hK => ?_) AllReadyH.nil
    go_simp
    refine (base_any _ b o M S ?_ HSH.out).mono ?_
    · refine HM.out.ext ?_
      repeat (first | exact HE.out | exact Ext.refl _ | (refine Ext.drew_ ?_) | (refine Ext.drewN_ ?_ _))
    rintro e w' ⟨rfl, n, rfl⟩
    refine hK.out _ _ ?_ (fun hHeld => ?_)
    · (try dsimp only); go_keep
    clear hK K
    try simp only [Act.put, List.setIfInBounds_toArray, List.set_cons_zero, List.set_cons_succ]
    refine wpAnyH_take (i := 9) (oi := ⟨some 14, _, _, _, _, _⟩) (v := ?_) rfl (by kernel_rfl) (by kernel_rfl) (by kernel_rfl) (fun _ _ _ h => h) (Or.inl ⟨by rfl, ?_⟩) (by assumption) ?_
    rotate_left
    · (intro w hSw; (try dsimp only at hSw); go_simp; try with_reducible rfl)
    try simp only [Act.put, List.setIfInBounds_toArray, List.set_cons_zero, List.set_cons_succ]
    refine wpAnyH_ready (rs := [11]) (by kernel_rfl) (by simp) ?_
    refine AllReadyH.cons (o := ⟨some 16, _, _, _, _, _⟩) rfl (fun K hK => ?_) AllReadyH.nil
    go_simp
    refine (each_walk w0 b o M S HM.out gb gs HG.out HS.out L g lb eg see I _ ?_ ?_ HX.out M.base N1 (by omega) k3 ?_ (by omega) [] ?_).mono ?_
    · repeat (first | exact HE.out | exact Ext.refl _ | (refine Ext.drew_ ?_) | (refine Ext.drewN_ ?_ _))
    · exact fun k hk => ⟨(HL.out k hk).1, by have h2 := (HL.out k hk).2; simpa using h2⟩
    · exact fun v x w' hI hK hx => HC.out v x w' hI (Keep.trans (by repeat (first | exact Keep.refl _ _ | (refine Keep.drew_ ?_) | (refine Keep.drewN_ ?_ _))) hK) (Or.inl (x1.out ▸ hx))
    · refine HX.out _ _ _ HI.out ?_
      repeat (first | exact HE.out | exact Ext.refl _ | (refine Ext.drew_ ?_) | (refine Ext.drewN_ ?_ _))
    rintro e w1 ⟨v1, he, hI1, hv1, hK1⟩
    rw [H1.out] at he
    subst he
    have HK1 : Hid (Keep L w w1) := Keep.trans (by repeat (first | exact Keep.refl _ _ | (refine Keep.drew_ ?_) | (refine Keep.drewN_ ?_ _))) hK1
    have hE1 := Ext.keep HE.out HK1.out (fun i hi => (HL.out i hi).1)
    have HE1 := Lib.hid hE1
    have hMM := HM.out.ext hE1
    have d1 := hMM.half
    have d2 := hMM.top
    have d3 := hMM.oldTop
    rw [E1.out] at d1
    rw [E2.out] at d2
    rw [E3.out] at d3
    clear hMM hE1
    have HI1 := Lib.hid hI1
    have HV1 := Lib.hid hv1
    clear hI1 hv1 hK1
    refine hK.out _ _ ?_ (fun hHeld => ?_)
    · (try dsimp only); exact ⟨d1, d2, d3⟩
    clear hK K
    try simp only [Act.put, List.setIfInBounds_toArray, List.set_cons_zero, List.set_cons_succ]
    refine wpAnyH_take (i := 12) (oi := ⟨some 17, _, _, _, _, _⟩) (v := ?_) rfl (by kernel_rfl) (by kernel_rfl) (by kernel_rfl) (fun _ _ _ h => h) (Or.inl ⟨by rfl, ?_⟩) (by assumption) ?_
    rotate_left
    · (intro w hSw; (try dsimp only at hSw); go_simp; try with_reducible rfl)
    try simp only [Act.put, List.setIfInBounds_toArray, List.set_cons_zero, List.set_cons_succ]
    refine wpAnyH_take (i := 13) (oi := ⟨some 18, _, _, _, _, _⟩) (v := ?_) rfl (by kernel_rfl) (by kernel_rfl) (by kernel_rfl) (fun _ _ _ h => h) (Or.inl ⟨by rfl, ?_⟩) (by assumption) ?_
    rotate_left
    · (intro w hSw; (try dsimp only at hSw); go_simp; try with_reducible rfl)
    try simp only [Act.put, List.setIfInBounds_toArray, List.set_cons_zero, List.set_cons_succ]
    refine wpAnyH_take (i := 14) (oi := ⟨some 19, _, _, _, _, _⟩) (v := ?_) rfl (by kernel_rfl) (by kernel_rfl) (by kernel_rfl) (fun _ _ _ h => h) (Or.inl ⟨by rfl, ?_⟩) (by assumption) ?_
    rotate_left
    · (intro w hSw; (try dsimp only at hSw); go_simp; try with_reducible rfl)
    try simp only [Act.put, List.setIfInBounds_toArray, List.set_cons_zero, List.set_cons_succ]
    refine wpAnyH_take (i := 15) (oi := ⟨some 20, _, _, _, _, _⟩) (v := ?_) rfl (by kernel_rfl) (by kernel_rfl) (by kernel_rfl) (fun _ _ _ h => h) (Or.inl ⟨by rfl, ?_⟩) (by assumption) ?_
    rotate_left
    · (intro w hSw; (try dsimp only at hSw); go_simp; try with_reducible rfl)
    try simp only [Act.put, List.setIfInBounds_toArray, List.set_cons_zero, List.set_cons_succ]
    refine wpAnyH_take (i := 16) (oi := ⟨some 21, _, _, _, _, _⟩) (v := ?_) rfl (by kernel_rfl) (by kernel_rfl) (by kernel_rfl) (fun _ _ _ h => h) (Or.inl ⟨by rfl, ?_⟩) (by assumption) ?_
    rotate_left
    · (intro w hSw; (try dsimp only at hSw); go_simp; try with_reducible rfl)
    try simp only [Act.put, List.setIfInBounds_toArray, List.set_cons_zero, List.set_cons_succ]
    refine wpAnyH_take (i := 17) (oi := ⟨some 22, _, _, _, _, _⟩) (v := ?_) rfl (by kernel_rfl) (by kernel_rfl) (by kernel_rfl) (fun _ _ _ h => h) (Or.inl ⟨by rfl, ?_⟩) (by assumption) ?_
    rotate_left
    · (intro w hSw; (try dsimp only at hSw); go_simp; try with_reducible rfl)
    try simp only [Act.put, List.setIfInBounds_toArray, List.set_cons_zero, List.set_cons_succ]
    refine wpAnyH_take (i := 18) (oi := ⟨some 23, _, _, _, _, _⟩) (v := ?_) rfl (by kernel_rfl) (by kernel_rfl) (by kernel_rfl) (fun _ _ _ h => h) (Or.inl ⟨by rfl, ?_⟩) (by assumption) ?_
    rotate_left
    · (intro w hSw; (try dsimp only at hSw); go_simp; try with_reducible rfl)
    try simp only [Act.put, List.setIfInBounds_toArray, List.set_cons_zero, List.set_cons_succ]
    refine wpAnyH_take (i := 19) (oi := ⟨some 24, _, _, _, _, _⟩) (v := ?_) rfl (by kernel_rfl) (by kernel_rfl) (by kernel_rfl) (fun _ _ _ h => h) (Or.inl ⟨by rfl, ?_⟩) (by assumption) ?_
    rotate_left
    · (intro w hSw; (try dsimp only at hSw); go_simp; try with_reducible rfl)
    try simp only [Act.put, List.setIfInBounds_toArray, List.set_cons_zero, List.set_cons_succ]
    refine wpAnyH_take (i := 20) (oi := ⟨some 25, _, _, _, _, _⟩) (v := ?_) rfl (by kernel_rfl) (by kernel_rfl) (by kernel_rfl) (fun _ _ _ h => h) (Or.inl ⟨by rfl, ?_⟩) (by assumption) ?_
    rotate_left
    · (intro w hSw; (try dsimp only at hSw); go_simp; try with_reducible rfl)
    try simp only [Act.put, List.setIfInBounds_toArray, List.set_cons_zero, List.set_cons_succ]
    refine wpAnyH_take (i := 21) (oi := ⟨some 26, _, _, _, _, _⟩) (v := ?_) rfl (by kernel_rfl) (by kernel_rfl) (by kernel_rfl) (fun _ _ _ h => h) (Or.inl ⟨by rfl, ?_⟩) (by assumption) ?_
    rotate_left
    · (intro w hSw; (try dsimp only at hSw); go_simp; try with_reducible rfl)
    try simp only [Act.put, List.setIfInBounds_toArray, List.set_cons_zero, List.set_cons_succ]
    refine wpAnyH_take (i := 22) (oi := ⟨some 27, _, _, _, _, _⟩) (v := ?_) rfl (by kernel_rfl) (by kernel_rfl) (by kernel_rfl) (fun _ _ _ h => h) (Or.inl ⟨by rfl, ?_⟩) (by assumption) ?_
    rotate_left
    · (intro w hSw; (try dsimp only at hSw); go_simp; try with_reducible rfl)
    try simp only [Act.put, List.setIfInBounds_toArray, List.set_cons_zero, List.set_cons_succ]
    refine wpAnyH_take (i := 23) (oi := ⟨some 28, _, _, _, _, _⟩) (v := ?_) rfl (by kernel_rfl) (by kernel_rfl) (by kernel_rfl) (fun _ _ _ h => h) (Or.inl ⟨by rfl, ?_⟩) (by assumption) ?_
    rotate_left
    · (intro w hSw; (try dsimp only at hSw); go_simp; try with_reducible rfl)
    try simp only [Act.put, List.setIfInBounds_toArray, List.set_cons_zero, List.set_cons_succ]
    refine wpAnyH_take (i := 24) (oi := ⟨some 29, _, _, _, _, _⟩) (v := ?_) rfl (by kernel_rfl) (by kernel_rfl) (by kernel_rfl) (fun _ _ _ h => h) (Or.inl ⟨by rfl, ?_⟩) (by assumption) ?_
    rotate_left
    · (intro w hSw; (try dsimp only at hSw); go_simp; try with_reducible rfl)
    try simp only [Act.put, List.setIfInBounds_toArray, List.set_cons_zero, List.set_cons_succ]
    refine wpAnyH_take (i := 25) (oi := ⟨some 30, _, _, _, _, _⟩) (v := ?_) rfl (by kernel_rfl) (by kernel_rfl) (by kernel_rfl) (fun _ _ _ h => h) (Or.inl ⟨by rfl, ?_⟩) (by assumption) ?_
    rotate_left
    · (intro w hSw; (try dsimp only at hSw); go_simp; try with_reducible rfl)
    try simp only [Act.put, List.setIfInBounds_toArray, List.set_cons_zero, List.set_cons_succ]
    refine wpAnyH_take (i := 26) (oi := ⟨some 31, _, _, _, _, _⟩) (v := ?_) rfl (by kernel_rfl) (by kernel_rfl) (by kernel_rfl) (fun _ _ _ h => h) (Or.inl ⟨by rfl, ?_⟩) (by assumption) ?_
    rotate_left
    · (intro w hSw; (try dsimp only at hSw); go_simp; try with_reducible rfl)
    try simp only [Act.put, List.setIfInBounds_toArray, List.set_cons_zero, List.set_cons_succ]
    refine wpAnyH_take (i := 27) (oi := ⟨some 32, _, _, _, _, _⟩) (v := ?_) rfl (by kernel_rfl) (by kernel_rfl) (by kernel_rfl) (fun _ _ _ h => h) (Or.inl ⟨by rfl, ?_⟩) (by assumption) ?_
    rotate_left
    · (intro w hSw; (try dsimp only at hSw); go_simp; try with_reducible rfl)
    try simp only [Act.put, List.setIfInBounds_toArray, List.set_cons_zero, List.set_cons_succ]
    refine wpAnyH_take (i := 28) (oi := ⟨some 33, _, _, _, _, _⟩) (v := ?_) rfl (by kernel_rfl) (by kernel_rfl) (by kernel_rfl) (fun _ _ _ h => h) (Or.inl ⟨by rfl, ?_⟩) (by assumption) ?_
    rotate_left
    · (intro w hSw; (try dsimp only at hSw); go_simp; try with_reducible rfl)
    try simp only [Act.put, List.setIfInBounds_toArray, List.set_cons_zero, List.set_cons_succ]
    refine wpAnyH_take (i := 29) (oi := ⟨some 34, _, _, _, _, _⟩) (v := ?_) rfl (by kernel_rfl) (by kernel_rfl) (by kernel_rfl) (fun _ _ _ h => h) (Or.inl ⟨by rfl, ?_⟩) (by assumption) ?_
    rotate_left
    · (intro w hSw; (try dsimp only at hSw); go_simp; try with_reducible rfl)
    try simp only [Act.put, List.setIfInBounds_toArray, List.set_cons_zero, List.set_cons_succ]
    refine wpAnyH_ready (rs := [30]) (by kernel_rfl) (by simp) ?_
    refine AllReadyH.cons (o := ⟨some 35, _, _, _, _, _⟩) rfl (fun K hK => ?_) AllReadyH.nil
    go_simp
    refine (each_walk w0 b o M S HM.out gb gs HG.out HS.out L g lb eg see I _ ?_ ?_ HX.out N2 N3 (by omega) k3 ?_ (by omega) v1 ?_).mono ?_
    · repeat (first | exact HE1.out | exact Ext.refl _ | (refine Ext.drew_ ?_) | (refine Ext.drewN_ ?_ _))
    · exact fun k hk => ⟨(HL.out k hk).1, by have h2 := (HL.out k hk).2; have h3 := HK1.out.size; simp; omega⟩
    · exact fun v x w' hI hK hx => HC.out v x w' hI (Keep.trans HK1.out (Keep.trans (by repeat (first | exact Keep.refl _ _ | (refine Keep.drew_ ?_) | (refine Keep.drewN_ ?_ _))) hK)) (Or.inr (x3.out ▸ x2.out ▸ hx))
    · refine HX.out _ _ _ HI1.out ?_
      repeat (first | exact HE1.out | exact Ext.refl _ | (refine Ext.drew_ ?_) | (refine Ext.drewN_ ?_ _))
    rintro e w2 ⟨v2, he, hI2, hv2, hK2⟩
    subst he
    have HK2 : Hid (Keep L w w2) := Keep.trans HK1.out (Keep.trans (by repeat (first | exact Keep.refl _ _ | (refine Keep.drew_ ?_) | (refine Keep.drewN_ ?_ _))) hK2)
    have hMM := HM.out.ext (Ext.keep HE.out HK2.out (fun i hi => (HL.out i hi).1))
    have d4 := hMM.half
    have d5 := hMM.top
    have d6 := hMM.oldTop
    rw [E1.out] at d4
    rw [E2.out] at d5
    rw [E3.out] at d6
    clear hMM
    have HI2 := Lib.hid hI2
    have HV2 := Lib.hid hv2
    clear hI2 hv2 hK2
    refine hK.out _ _ ?_ (fun hHeld => ?_)
    · (try dsimp only); exact ⟨d4, d5, d6⟩
    clear hK K
    try simp only [Act.put, List.setIfInBounds_toArray, List.set_cons_zero, List.set_cons_succ]
    refine wpAnyH_take (i := 31) (oi := ⟨some 36, _, _, _, _, _⟩) (v := ?_) rfl (by kernel_rfl) (by kernel_rfl) (by kernel_rfl) (fun _ _ _ h => h) (Or.inl ⟨by rfl, ?_⟩) (by assumption) ?_
    rotate_left
    · (intro w hSw; (try dsimp only at hSw); go_simp; try with_reducible rfl)
    try simp only [Act.put, List.setIfInBounds_toArray, List.set_cons_zero, List.set_cons_succ]
    refine wpAnyH_take (i := 32) (oi := ⟨some 4, _, _, _, _, _⟩) (v := ?_) rfl (by kernel_rfl) (by kernel_rfl) (by kernel_rfl) (fun _ _ _ h => h) (Or.inl ⟨by rfl, ?_⟩) (by assumption) ?_
    rotate_left
    · (intro w hSw; (try dsimp only at hSw); go_simp; try with_reducible rfl)
    try simp only [Act.put, List.setIfInBounds_toArray, List.set_cons_zero, List.set_cons_succ]
    refine wpAnyH_done (by kernel_rfl) ?_ _
    go_wp2
    go_ret
    refine ⟨v1 ++ v2, ?_, HI2.out, fun e => ?_, HK2.out⟩
    · unfold objsB; rw [HN.out, HO.out, H1.out]; simp
    · unfold objsB at e
      rw [HN.out, HO.out, H1.out, Bool.true_and] at e
      unfold objsAll
      rw [HN.out, HO.out, HV1.out H1.out, HV2.out e]
end Go.Proofs.YtecbbbaafcoliaaDoor
/- The walk of Memory.Check's closure that asks an object's fields. -/
namespace Go.Proofs.YtecbbbaafcoliaaDoor
open Go.RowKit
set_option linter.unusedVariables false
set_option linter.unusedSimpArgs false

theorem c4_enters (args : Array Value) (w : World) : (callFunc 60 args).run Tryd.prog w = .ok (.enter 60 args) w :=
  enters_of Tryd.func60 (by kernel_rfl) rfl args w
theorem undU64 : Tryd.prog.underlying 35 = some (.slice 30) := by kernel_rfl
theorem sizeU64 (w : World) : (sizeOf 30).run Tryd.prog w = .ok 1 w := by kernel_rfl
theorem flds_cells (M : Mem) (x : Ob) (h : x.a + 1 + x.n ≤ M.W.length) : ((wcells M.W).drop (x.a + 1)).take (x.a + 1 + x.n - (x.a + 1)) = wcells (flds M x) := by
  rw [show x.a + 1 + x.n - (x.a + 1) = x.n by omega]
  apply List.ext_getElem?
  intro i
  by_cases hi : i < x.n
  · simp [wcells, flds, hi, wat, List.getD_eq_getElem?_getD, show x.a + 1 + i < M.W.length by omega]
  · simp [wcells, flds, hi]; omega
theorem flds_at (M : Mem) (x : Ob) (k : Nat) (h : k < x.n) : (flds M x).getD k 0 = wat M.W (x.a + 1 + k) := by simp [flds, List.getD_eq_getElem?_getD, h]
theorem flds_in {M : Mem} (h : M.Ok) (x : Ob) (z : Int) (hz : z ∈ flds M x) : 0 ≤ z ∧ z ≤ 18446744073709551615 := by
  obtain ⟨i, _, rfl⟩ := List.mem_map.1 hz
  exact wat_in h _
theorem flds_len (M : Mem) (x : Ob) : (flds M x).length = x.n := by simp [flds]
def C4One (b6 : Nat) (w : World) (M : Mem) (st : List Int) (x : Ob) (c : Bool) (e : Ending) (w' : World) : Prop :=
  e = .returned (.bool (okFld M st x)) ∧ w'.cell? ⟨b6, 0, none⟩ = some (.bool (c && cardsO M x)) ∧ w'.frozen? ⟨b6, 0, none⟩ = false ∧ Keep (· = b6) w w'
set_option maxRecDepth 100000 in
set_option maxHeartbeats 4000000 in
theorem c4_any (x : Ob) (b o b1 b3 b4 b5 b6 bm : Nat) (M : Mem) (S : Sls) (hs : Shp M) (st : List Int) (w0 w : World) (hE : Ext w0 w) (hM : RMem w0 b o M S) (hx : ObM M x) (c : Bool) (hm : SMap w bm .i64 st)
    (hb6 : w0.heap.size ≤ b6) (n1 : b1 ≠ b6) (n3 : b3 ≠ b6) (n4 : b4 ≠ b6) (n5 : b5 ≠ b6) (nm : bm ≠ b6)
    (h1 : w.cell? ⟨b1, 0, none⟩ = some (.pointer (some ⟨b, o, none⟩))) (h3 : w.cell? ⟨b3, 0, none⟩ = some (.map (some bm)))
    (h4 : w.cell? ⟨b4, 0, none⟩ = some (.func (.func 57) #[] #[.pointer (some ⟨b3, 0, none⟩)]))
    (h5 : w.cell? ⟨b5, 0, none⟩ = some (.func (.func 58) #[] #[.pointer (some ⟨b4, 0, none⟩)]))
    (h6 : w.cell? ⟨b6, 0, none⟩ = some (.bool c)) (f6 : w.frozen? ⟨b6, 0, none⟩ = false) :
    Calls Tryd.prog 60 #[.int .i64 (x.a : Int), headV x.w, .pointer (some ⟨b1, 0, none⟩), .pointer (some ⟨b6, 0, none⟩), .pointer (some ⟨b5, 0, none⟩)] w (C4One b6 w M st x c) := by
  have hx1 : ObIn M.W 0 M.W.length x := by
    have h1 := hs.h1; have h2 := hs.t2; have h3 := hs.p2; have h4 := hs.w; have h5 := hs.base; have h6 := hs.o2; have h7 := hs.t1; have h8 := hs.p1
    rcases hx with hx | hx
    · exact ⟨hx.w, hx.hd, Nat.zero_le _, by have := hx.to; omega⟩
    · exact ⟨hx.w, hx.hd, Nat.zero_le _, by have := hx.to; omega⟩
  have hold : oldB M (x.a : Int) = true → (x.a : Int) + 1 + x.n ≤ 2 * M.half + M.old := fun ho => by
    have h1 := hs.h1; have h2 := hs.t2; have h3 := hs.p2; have h4 := hs.w; have h5 := hs.base; have h6 := hs.o2; have h7 := hs.t1; have h8 := hs.p1
    have h9 := hx1.to
    omega
  have hn : (x.n : Int) = hSize x.w := by
    have := hx1.w ▸ (wat_in hM.ok x.a).1
    unfold Ob.n hSize; omega
  have hto := hx1.to
  have HX := Lib.hid hx1
  clear hx hx1
  have hlen : M.W.length ≤ 196608 := by have h1 := hs.h2; have h2 := hs.o2; have h3 := hs.w; omega
  have hMw : RMem w b o M S := hM.ext hE
  have c_W := hMw.W
  have hcap := hMw.capW
  have hlt6 := cell_lt h6
  have hlt1 := cell_lt h1
  have hlt5 := cell_lt h5
  have hltb := hMw.lt
  simp only at hlt6 hlt1 hlt5
  obtain ⟨wb, wo, hWa, -⟩ := hMw.rW 0 _ (wcells_at M.W 0 (by omega))
  rw [hWa] at c_W
  have HWA := Lib.hid hWa
  have HM := Lib.hid hM
  have HE := Lib.hid hE
  have HMW := Lib.hid hMw
  have HSM := Lib.hid hm
  have HSH := Lib.hid hs
  have HOLD := Lib.hid hold
  have H3 := Lib.hid h3
  have H4 := Lib.hid h4
  have H6 := Lib.hid h6
  have F6 := Lib.hid f6
  clear hM hE hMw hm hs hold hWa h3 h4
  have HN := Lib.hid hn
  have hn0 : 0 ≤ hSize x.w := by omega
  have hn1 : (x.a : Int) + 1 + hSize x.w ≤ (M.W.length : Int) := by omega
  clear hn
  unfold headV
  cases hr : rawB (hKind x.w) with
  | true =>
    go_enter Tryd.func60, Tryd.ntmps60
    go_wp2_with (go_at_call 40; refine (raw_any _ _).mono ?_; rintro e w' ⟨rfl, rfl⟩)
    go_ret
    refine ⟨by unfold okFld; rw [hr]; rfl, ?_, ?_, ?_⟩
    · rw [((Ext.refl w).alloc_ _).cell_ H6.out]; unfold cardsO; rw [hr]; simp
    · rw [((Ext.refl w).alloc_ _).three.2.1 _ _ hlt6]; exact F6.out
    · exact (Keep.refl _ w).alloc_ _
  | false =>
    obtain ⟨A, C, hsl, hAC, hAn, hRA⟩ := run_part (P := Tryd.prog) undU64 sizeU64 wb wo M.W.length S.W.2 (x.a + 1) (x.a + 1 + x.n) ((x.a : Int) + 1) ((x.a : Int) + 1 + hSize x.w) (by omega) (by have := HN.out; omega) (by omega) (by omega)
    have HRA : Hid (∀ wr, RMem wr b o M S → RSl wr A (wcells (flds M x))) := fun wr hr => by
      have := hRA wr _ (HWA.out ▸ hr.rW)
      rw [flds_cells M x hto] at this
      exact this
    rw [show x.a + 1 + x.n - (x.a + 1) = x.n by omega] at hsl hAC
    clear hRA
    have e1 : IntKind.i64.wrap ((x.a : Int) + 1) = (x.a : Int) + 1 := IntWalk.i64_in _ (by omega)
    have e2 : IntKind.i64.wrap ((x.a : Int) + 1 + hSize x.w) = (x.a : Int) + 1 + hSize x.w := IntWalk.i64_in _ (by omega)
    have hc1 : (x.a : Int) + 1 + hSize x.w ≤ (S.W.2 : Int) := by omega
    have hc2 : (0 : Int) ≤ (x.a : Int) + 1 := by omega
    have hc3 : (x.a : Int) + 1 ≤ (x.a : Int) + 1 + hSize x.w := by omega
    go_enter Tryd.func60, Tryd.ntmps60
    go_wp2_with (go_at_call 40; refine (raw_any _ _).mono ?_; rintro e w' ⟨rfl, rfl⟩)
    go_quiet (fail)
    go_wp2
    go_loopw [28] (fun i wr => ∃ k : Nat, k ≤ x.n ∧ i = .int .i64 (k : Int) ∧ wr.cell? ⟨b6, 0, none⟩ = some (.bool (c && cardsK M x k)) ∧ wr.frozen? ⟨b6, 0, none⟩ = false ∧ Hid (Keep (· = b6) w wr))
      (fun i _ => x.n - (intOf i).toNat)
    case atStart =>
      refine ⟨0, Nat.zero_le _, rfl, ?_, ?_, ((Keep.refl _ w).alloc_ _).drewN_ _⟩
      · have := ((Ext.refl w).alloc_ (Obj.cells #[Value.int IntKind.i64 (hKind x.w), Value.int IntKind.i64 (hAge x.w), Value.int IntKind.i64 (hMark x.w), Value.int IntKind.i64 (hSize x.w)] 88)).cell_ H6.out
        simpa [cardsK] using this
      · have := ((Ext.refl w).alloc_ (Obj.cells #[Value.int IntKind.i64 (hKind x.w), Value.int IntKind.i64 (hAge x.w), Value.int IntKind.i64 (hMark x.w), Value.int IntKind.i64 (hSize x.w)] 88)).three.2.1 _ 0 hlt6
        rw [F6.out] at this
        simpa using this
    case round =>
      obtain ⟨k, hk, rfl, h6r, f6r, hK⟩ := hrel
      have hMR : RMem wr b o M S := HM.out.ext (Ext.keep HE.out hK.out fun i hi => by subst hi; exact hb6)
      have HMR := Lib.hid hMR
      have h1r := hK.out.cell n1 h1
      have h5r := hK.out.cell n5 h5
      have hRF := HRA.out wr hMR
      clear h1 h5 hMR
      by_cases hlt : k < x.n
      · obtain ⟨ab, ao, hA, hcell⟩ := hRF k _ (wcells_at (flds M x) k (by rw [flds_len]; exact hlt))
        rw [flds_at M x k hlt] at hcell
        clear hRF
        subst hA
        have hin := wat_in HM.out.ok (x.a + 1 + k)
        cases ho : oldB M (x.a : Int) with
        | false =>
          have HCRD : Hid (crd M x k = true) := by simp [Hid, crd, ho]
          have hg1 : True := trivial
          have hg2 : True := trivial
          go_wp2_with (first
            | (go_at_call 56; refine (inOld_any _ _ b o M S HMR.out HSH.out).mono ?_; rintro e w' ⟨rfl, rfl⟩))
          go_roundw
          case rel =>
            refine ⟨k + 1, by omega, by go_num, ?_, f6r, hK⟩
            rw [cardsK_succ, HCRD.out, Bool.and_true]; exact h6r
          case measure => simp [intOf]; omega
        | true =>
          have hg1 : 2 * M.half ≤ (x.a : Int) + 1 + k := by have := of_decide_eq_true ho; omega
          have hg2 : (x.a : Int) + 1 + k < 2 * M.half + M.old := by have := HOLD.out ho; omega
          cases hy : youngB M (wat M.W (x.a + 1 + k)) with
          | false =>
            have HCRD : Hid (crd M x k = true) := by simp [Hid, crd, hy]
            go_wp2_with (first
              | (go_at_call 56; refine (inOld_any _ _ b o M S HMR.out HSH.out).mono ?_; rintro e w' ⟨rfl, rfl⟩)
              | (go_at_call 61; refine (young_any _ hin.1 hin.2 _ b o M S HMR.out HSH.out).mono ?_; rintro e w' ⟨rfl, rfl⟩))
            go_roundw
            case rel =>
              refine ⟨k + 1, by omega, by go_num, ?_, f6r, hK⟩
              rw [cardsK_succ, HCRD.out, Bool.and_true]; exact h6r
            case measure => simp [intOf]; omega
          | true =>
            cases hq : cardB M ((x.a : Int) + 1 + k) with
            | true =>
              have HCRD : Hid (crd M x k = true) := by simp [Hid, crd, hq]
              go_wp2_with (first
                | (go_at_call 56; refine (inOld_any _ _ b o M S HMR.out HSH.out).mono ?_; rintro e w' ⟨rfl, rfl⟩)
                | (go_at_call 61; refine (young_any _ hin.1 hin.2 _ b o M S HMR.out HSH.out).mono ?_; rintro e w' ⟨rfl, rfl⟩)
                | (go_at_call 62; refine (marked_any _ _ b o M S HMR.out HSH.out hg1 hg2).mono ?_; rintro e w' ⟨rfl, n, rfl⟩))
              go_roundw
              case rel =>
                refine ⟨k + 1, by omega, by go_num, ?_, by simpa using f6r, hK.out.drewN_ _⟩
                rw [cardsK_succ, HCRD.out, Bool.and_true]; simpa using h6r
              case measure => simp [intOf]; omega
            | false =>
              have HCRD : Hid (crd M x k = false) := by simp [Hid, crd, ho, hy, hq]
              go_wp2_with (first
                | (go_at_call 56; refine (inOld_any _ _ b o M S HMR.out HSH.out).mono ?_; rintro e w' ⟨rfl, rfl⟩)
                | (go_at_call 61; refine (young_any _ hin.1 hin.2 _ b o M S HMR.out HSH.out).mono ?_; rintro e w' ⟨rfl, rfl⟩)
                | (go_at_call 62; refine (marked_any _ _ b o M S HMR.out HSH.out hg1 hg2).mono ?_; rintro e w' ⟨rfl, n, rfl⟩))
              go_roundw
              case rel =>
                refine ⟨k + 1, by omega, by go_num, ?_, ?_, ?_⟩
                · rw [cardsK_succ, HCRD.out, Bool.and_false, Bool.and_false]; simp [h6r, go_sem]
                · simp [f6r, go_sem]
                · exact (hK.out.drewN_ _).set_ (Or.inl rfl) _
              case measure => simp [intOf]; omega
      · have hkn : k = x.n := by omega
        subst hkn
        have hc3 := c3_any A C (flds M x) (by rw [flds_len]; omega) (fun z hz => flds_in HM.out.ok x z hz) bm b3 b4 st wr hRF (HSM.out.keep hK.out nm) (hK.out.cell n3 H3.out) (hK.out.cell n4 H4.out)
        rw [flds_len] at hc3
        clear hRF
        go_wp2_with (go_at_call 58; refine hc3.mono ?_; rintro e w' ⟨rfl, hq⟩)
        go_ret
        refine ⟨by unfold okFld; rw [hr]; rfl, ?_, ?_, hK.out.ext_ hq⟩
        · rw [hq.cell_ h6r]; unfold cardsO; rw [hr]; rfl
        · rw [hq.three.2.1 _ _ (cell_lt h6r)]; exact f6r
end Go.Proofs.YtecbbbaafcoliaaDoor
