/- The walk of Memory.Each, whatever is called on the objects. -/
import Derived.Test.YtpbfhkkecbnieaaDoorMemB
namespace Go.Proofs.YtpbfhkkecbnieaaDoor
open Go.RowKit
set_option linter.unusedVariables false
set_option linter.unusedSimpArgs false

/-- A header as a value. -/
def headV (a : Int) : Value := .agg #[.int .i64 (hKind a), .int .i64 (hAge a), .int .i64 (hMark a), .int .i64 (hSize a)]
/-- What Each leaves. -/
def EachPost (L : Nat → Prop) (w : World) (I : List Ob → World → Prop) (see : Ob → Bool) (v0 : List Ob) (p : List Ob × Bool) (e : Ending) (w' : World) : Prop :=
  ∃ v, e = .returned (.bool (p.2 && p.1.all see)) ∧ I (v0 ++ v) w' ∧ ((p.2 && p.1.all see) = true → v = p.1) ∧ Keep L w w'
theorem wcells_at (l : List Int) (j : Nat) (h : j < l.length) : (wcells l)[j]? = some (.int .u64 (l.getD j 0)) := by
  simp [wcells, List.getD_eq_getElem?_getD, h]
theorem wat_in {M : Mem} (h : M.Ok) (j : Nat) : 0 ≤ wat M.W j ∧ wat M.W j ≤ 18446744073709551615 := by
  unfold wat
  rw [List.getD_eq_getElem?_getD]
  rcases Nat.lt_or_ge j M.W.length with g | g
  · rw [List.getElem?_eq_getElem g]; exact h.W _ (List.getElem_mem g)
  · rw [List.getElem?_eq_none g]; simp

set_option maxRecDepth 100000 in
set_option maxHeartbeats 2000000 in
theorem each_walk (w0 : World) (b o : Nat) (M : Mem) (S : Sls) (hM : RMem w0 b o M S) (gb gs : Addr) (hG : GBound w0 gb) (hS : GShape w0 gs)
    (L : Nat → Prop) (g : Nat) (lb : Array Value) (eg : ∀ args w, (callFunc g args).run Tryd.prog w = .ok (.enter g args) w) (see : Ob → Bool) (I : List Ob → World → Prop)
    (w : World) (hE : Ext w0 w) (hL : ∀ k, L k → w0.heap.size ≤ k ∧ k < w.heap.size) (hX : ∀ v w w', I v w → Ext w w' → I v w') (a to : Nat) (hto : to ≤ M.W.length) (hlen : M.W.length ≤ 196608)
    (hC : ∀ v x w', I v w' → Keep L w w' → ObIn M.W a to x → Calls Tryd.prog g (#[.int .i64 (x.a : Int), headV x.w] ++ lb) w' fun e w'' => e = .returned (.bool (see x)) ∧ I (v ++ [x]) w'' ∧ Keep L w' w'')
    (hat : a ≤ to) (v0 : List Ob) (hI : I v0 w) :
    Calls Tryd.prog 107 #[.pointer (some ⟨b, o, none⟩), .int .i64 (a : Int), .int .i64 (to : Int), .func (.func g) #[] lb] w (EachPost L w I see v0 (part M.W a to)) := by
  have HX := Lib.hid hX
  have HC := Lib.hid hC
  have HL := Lib.hid hL
  have HE := Lib.hid hE
  have HM := Lib.hid hM
  have HG := Lib.hid hG
  have HS := Lib.hid hS
  have HI : Hid (I v0 w) := hI
  clear hX hM hC hI hL hE hG hS
  go_enter Tryd.func107, Tryd.ntmps107
  go_wp2
  go_loopw [1] (fun i wr => ∃ (k : Nat) (v : List Ob), a ≤ k ∧ k ≤ to ∧ i = .int .i64 (k : Int) ∧ Hid (I (v0 ++ v) wr) ∧ Hid (part M.W a to = (v ++ (part M.W k to).1, (part M.W k to).2)) ∧ Hid (v.all see = true) ∧ Hid (Keep L w wr))
    (fun i _ => to - (intOf i).toNat)
  case atStart => exact ⟨a, [], Nat.le_refl _, hat, rfl, by rw [List.append_nil]; exact HI, rfl, rfl, Keep.refl _ _⟩
  case round =>
    obtain ⟨k, v, hk1, hk2, rfl, hI, hP, hA, hK⟩ := hrel
    by_cases hlt : k < to
    · have hkW : k < M.W.length := by omega
      have hEr : Ext w0 wr := Ext.keep HE.out hK.out fun i hi => (HL.out i hi).1
      have hMr : RMem wr b o M S := HM.out.ext hEr
      have c_W := hMr.W
      obtain ⟨wb, wo, hWa, hc⟩ := hMr.rW k _ (wcells_at M.W k hkW)
      rw [hWa] at c_W
      have hcapW := hMr.capW
      have hgb : GBound wr gb := hEr.cell_ HG.out
      have hgs : GShape wr gs := hEr.cell_ HS.out
      obtain ⟨hq0, hq1⟩ := wat_in HM.out.ok k
      change wr.cell? ⟨wb, wo + k, none⟩ = some (.int .u64 (wat M.W k)) at hc
      have HER := Lib.hid hEr
      clear hMr hWa hEr
      have hsz : hSize (wat M.W k) ≤ 281474976710655 ∧ 0 ≤ hSize (wat M.W k) := by unfold hSize; omega
      obtain ⟨hsz1, hsz0⟩ := hsz
      cases hd : isHd (wat M.W k) with
      | false =>
        have HB := Lib.hid (part_bad M.W k to hlt (by rw [hd]; rfl))
        go_wp2_with (go_at_call 26; refine (toHead_no _ hq0 hq1 hd _ gb gs hgb hgs).mono ?_; rintro e w1 ⟨rfl, hx⟩)
        go_ret
        refine ⟨v, ?_, ?_, fun h => ?_, ?_⟩
        · rw [hP.out, HB.out]; rfl
        · refine HX.out _ _ _ hI.out ?_
          repeat (first | exact hx | exact Ext.refl _ | (refine Ext.set_ ?_ (by simp; omega) _) | (refine Ext.alloc_ ?_ _) | (refine Ext.drew_ ?_) | (refine Ext.drewN_ ?_ _))
        · rw [hP.out, HB.out] at h; cases h
        · refine hK.out.ext_ ?_
          repeat (first | exact hx | exact Ext.refl _ | (refine Ext.set_ ?_ (by simp; omega) _) | (refine Ext.alloc_ ?_ _) | (refine Ext.drew_ ?_) | (refine Ext.drewN_ ?_ _))
      | true =>
        by_cases hfit : (k : Int) + 1 + hSize (wat M.W k) ≤ (to : Int)
        · have HIN : Hid (ObIn M.W a to ⟨k, wat M.W k⟩) := ⟨rfl, hd, hk1, by show k + 1 + (hSize (wat M.W k)).toNat ≤ to; omega⟩
          have HB := Lib.hid (part_next M.W k to hd (by omega))
          cases hsee : see ⟨k, wat M.W k⟩ with
          | false =>
            have HSEE := Lib.hid hsee
            go_wp2_with (first
              | (go_at_call 26; refine (toHead_yes _ hq0 hq1 hd _).mono ?_; rintro e w1 ⟨rfl, hx⟩; have hxs := hx.size))
            refine (HC.out (v0 ++ v) ⟨k, wat M.W k⟩ _ ?_ ?_ HIN.out).mono ?_
            · refine HX.out _ _ _ hI.out ?_
              repeat (first | exact hx | exact Ext.refl _ | (refine Ext.set_ ?_ (by simp; omega) _) | (refine Ext.alloc_ ?_ _) | (refine Ext.drew_ ?_) | (refine Ext.drewN_ ?_ _))
            · refine hK.out.ext_ ?_
              repeat (first | exact hx | exact Ext.refl _ | (refine Ext.set_ ?_ (by simp; omega) _) | (refine Ext.alloc_ ?_ _) | (refine Ext.drew_ ?_) | (refine Ext.drewN_ ?_ _))
            rintro e w2 ⟨he, hI2, hK2⟩
            rw [hsee] at he
            subst he
            have HK2 := Lib.hid hK2
            clear hK2 hsee
            go_wp2
            go_ret
            refine ⟨v ++ [⟨k, wat M.W k⟩], ?_, ?_, fun h => ?_, ?_⟩
            · rw [hP.out, HB.out]; simp [HSEE.out]
            · rw [← List.append_assoc]; exact hI2
            · rw [hP.out, HB.out] at h; simp [HSEE.out] at h
            · refine Keep.trans (hK.out.ext_ ?_) HK2.out
              repeat (first | exact hx | exact Ext.refl _ | (refine Ext.set_ ?_ (by simp; omega) _) | (refine Ext.alloc_ ?_ _) | (refine Ext.drew_ ?_) | (refine Ext.drewN_ ?_ _))
          | true =>
            have HSEE := Lib.hid hsee
            go_wp2_with (first
              | (go_at_call 26; refine (toHead_yes _ hq0 hq1 hd _).mono ?_; rintro e w1 ⟨rfl, hx⟩; have hxs := hx.size))
            refine (HC.out (v0 ++ v) ⟨k, wat M.W k⟩ _ ?_ ?_ HIN.out).mono ?_
            · refine HX.out _ _ _ hI.out ?_
              repeat (first | exact hx | exact Ext.refl _ | (refine Ext.set_ ?_ (by simp; omega) _) | (refine Ext.alloc_ ?_ _) | (refine Ext.drew_ ?_) | (refine Ext.drewN_ ?_ _))
            · refine hK.out.ext_ ?_
              repeat (first | exact hx | exact Ext.refl _ | (refine Ext.set_ ?_ (by simp; omega) _) | (refine Ext.alloc_ ?_ _) | (refine Ext.drew_ ?_) | (refine Ext.drewN_ ?_ _))
            rintro e w2 ⟨he, hI2, hK2⟩
            rw [hsee] at he
            subst he
            have hq3 : w2.cell? ⟨w1.heap.size, 3, none⟩ = some (.int .i64 (hSize (wat M.W k))) := hK2.cell (fun h => by have h1 := (HL.out _ h).2; have h2 := hK.out.size; simp at h1; omega) (by simp [go_sem])
            have HK2 := Lib.hid hK2
            have HI2 := Lib.hid hI2
            clear hK2 hsee hI2
            go_wp2
            go_roundw
            case rel =>
              refine ⟨k + 1 + (hSize (wat M.W k)).toNat, v ++ [⟨k, wat M.W k⟩], by omega, by omega, ?_, ?_, ?_, ?_, ?_⟩
              · go_num
              · rw [← List.append_assoc]; exact HI2.out
              · show part M.W a to = _
                rw [hP.out, HB.out]; simp
              · show (v ++ [_]).all see = true
                simp [hA.out, HSEE.out]
              · refine Keep.trans (hK.out.ext_ ?_) HK2.out
                repeat (first | exact hx | exact Ext.refl _ | (refine Ext.set_ ?_ (by simp; omega) _) | (refine Ext.alloc_ ?_ _) | (refine Ext.drew_ ?_) | (refine Ext.drewN_ ?_ _))
            case measure => simp [intOf]; omega
        · have HB := Lib.hid (part_bad M.W k to hlt (by rw [hd]; simp; omega))
          go_wp2_with (go_at_call 26; refine (toHead_yes _ hq0 hq1 hd _).mono ?_; rintro e w1 ⟨rfl, hx⟩; have hxs := hx.size)
          go_ret
          refine ⟨v, ?_, ?_, fun h => ?_, ?_⟩
          · rw [hP.out, HB.out]; rfl
          · refine HX.out _ _ _ hI.out ?_
            repeat (first | exact hx | exact Ext.refl _ | (refine Ext.set_ ?_ (by simp; omega) _) | (refine Ext.alloc_ ?_ _) | (refine Ext.drew_ ?_) | (refine Ext.drewN_ ?_ _))
          · rw [hP.out, HB.out] at h; cases h
          · refine hK.out.ext_ ?_
            repeat (first | exact hx | exact Ext.refl _ | (refine Ext.set_ ?_ (by simp; omega) _) | (refine Ext.alloc_ ?_ _) | (refine Ext.drew_ ?_) | (refine Ext.drewN_ ?_ _))
    · have HD := Lib.hid (part_done M.W k to (by omega))
      go_wp2
      go_ret
      refine ⟨v, ?_, hI.out, fun _ => ?_, hK.out⟩
      · rw [hP.out, HD.out]; simp [hA.out]
      · rw [hP.out, HD.out]; simp
end Go.Proofs.YtpbfhkkecbnieaaDoor
