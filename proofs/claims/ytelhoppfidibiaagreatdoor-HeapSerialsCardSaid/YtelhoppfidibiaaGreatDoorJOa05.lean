/- The walk of mem.field. -/
import Derived.Test.YtelhoppfidibiaaGreatDoorJOa04
import Derived.Shelf.Abstract
namespace Go.Proofs.YtelhoppfidibiaaGreatDoor
open Go.RowKit
set_option linter.unusedVariables false
set_option linter.unusedSimpArgs false

theorem undStarts : Tryz.prog.underlying 198 = some (.map 3 4) := by kernel_rfl
theorem undInt : Tryz.prog.underlying 3 = some (.int .i64) := by kernel_rfl
theorem zeroBool (w : World) : (zeroValue 4).run Tryz.prog w = .ok (.bool false) w := by kernel_rfl
/-- A look-up among addresses. -/
theorem smap_look {w : World} {bm : Nat} {st : List Int} (h : SMap w bm .i64 st) (a : Int) :
    (Instr.lookup 198 (.map (some bm)) (.int .i64 a) false).run Tryz.prog w = .ok (.bool (inSt st a)) w := by
  obtain ⟨es, hm, hg⟩ := h
  rw [run_lookup_mapi undStarts undInt (zeroBool w) hm a false, hg a]
  unfold inSt
  cases st.contains a <;> rfl
/-- A store among addresses. -/
theorem smap_put {w : World} {bm : Nat} {st : List Int} (h : SMap w bm .i64 st) (a : Int) :
    ∃ w', (Instr.mapUpdate 198 (.map (some bm)) (.int .i64 a) (.bool true)).run Tryz.prog w = .ok () w' ∧ SMap w' bm .i64 (st ++ [a]) ∧ But bm w w' := by
  obtain ⟨es, hm, hg⟩ := h
  obtain ⟨w', h1, h2, h3⟩ := run_update_mapi (P := Tryz.prog) undStarts undInt hm a (.bool true)
  exact ⟨w', h1, SMap.put a hg h2, h3⟩

theorem field_any (a : Int) (h0 : 0 ≤ a) (h1 : a ≤ 18446744073709551615) (bm : Nat) (st : List Int) (w : World) (hm : SMap w bm .i64 st) :
    Calls Tryz.prog 138 #[.int .u64 a, .map (some bm)] w fun e w' => e = .returned (.bool (fldB st a)) ∧ w' = w := by
  have hr : 0 ≤ kindW a ∧ kindW a ≤ 3 := by unfold kindW; omega
  have hlk := smap_look hm (placeW a)
  clear hm
  by_cases hk0 : kindW a = 0
  · have k1 : (kindW a == 0) = true := by simpa using hk0
    by_cases hz : a = 0
    · have k2 : (a == 0) = true := by simpa using hz
      have e : fldB st a = true := by simp [fldB, hk0, k2]
      rw [e]
      clear hk0 hz hlk
      go_enter Tryz.func138, Tryz.ntmps138
      go_wp2_with (first
        | (go_at_call 103; refine (kind_any _ h0 h1 _).mono ?_; rintro e w' ⟨rfl, rfl⟩))
      go_ret
      exact ⟨rfl, rfl⟩
    · have k2 : (a == 0) = false := by simpa using hz
      have e : fldB st a = inSt st (placeW a) := by simp [fldB, hk0, k2]
      rw [e]
      clear hk0 hz
      go_enter Tryz.func138, Tryz.ntmps138
      go_wp2_with (first
        | (go_at_call 103; refine (kind_any _ h0 h1 _).mono ?_; rintro e w' ⟨rfl, rfl⟩)
        | (go_at_call 104; refine (place_any _ h0 h1 _).mono ?_; rintro e w' ⟨rfl, rfl⟩))
      go_ret
      exact ⟨rfl, rfl⟩
  · have k1 : (kindW a == 0) = false := by simpa using hk0
    by_cases hk2 : kindW a = 2
    · have k2 : (kindW a == 2) = true := by simpa using hk2
      have e : fldB st a = decide (a / 4 ≤ 2) := by simp [fldB, hk2]
      rw [e]
      clear hk0 hk2 hlk
      go_enter Tryz.func138, Tryz.ntmps138
      go_wp2_with (first
        | (go_at_call 103; refine (kind_any _ h0 h1 _).mono ?_; rintro e w' ⟨rfl, rfl⟩))
      go_ret
      exact ⟨rfl, rfl⟩
    · have k2 : (kindW a == 2) = false := by simpa using hk2
      by_cases hk3 : kindW a = 1
      · have k3 : (kindW a == 1) = true := by simpa using hk3
        have e : fldB st a = true := by simp [fldB, hk3]
        rw [e]
        clear hk0 hk2 hk3 hlk
        go_enter Tryz.func138, Tryz.ntmps138
        go_wp2_with (first
          | (go_at_call 103; refine (kind_any _ h0 h1 _).mono ?_; rintro e w' ⟨rfl, rfl⟩))
        go_ret
        exact ⟨rfl, rfl⟩
      · have k3 : (kindW a == 1) = false := by simpa using hk3
        have e : fldB st a = false := by simp [fldB, hk0, hk2, hk3]
        rw [e]
        clear hk0 hk2 hk3 hlk
        go_enter Tryz.func138, Tryz.ntmps138
        go_wp2_with (first
          | (go_at_call 103; refine (kind_any _ h0 h1 _).mono ?_; rintro e w' ⟨rfl, rfl⟩))
        go_ret
        exact ⟨rfl, rfl⟩
/-- A header as a value. -/
def headV (a : Int) : Value := .agg #[.int .i64 (hKind a), .int .i64 (hAge a), .int .i64 (hMark a), .int .i64 (hSize a)]
/-- What Each leaves. -/
def EachPost (L : Nat → Prop) (w : World) (I : List Ob → World → Prop) (see : Ob → Bool) (v0 : List Ob) (p : List Ob × Bool) (e : Ending) (w' : World) : Prop :=
  ∃ v, e = .returned (.bool (p.2 && p.1.all see)) ∧ I (v0 ++ v) w' ∧ ((p.2 && p.1.all see) = true → v = p.1) ∧ Keep L w w'
theorem wcells_at (l : List Int) (j : Nat) (h : j < l.length) : (wcells l)[j]? = some (.int .u64 (l.getD j 0)) := by
  simp [wcells, List.getD_eq_getElem?_getD, h]
theorem wat_in {M : Mem} (h : M.Ok) (j : Nat) : 0 ≤ wat M.W j ∧ wat M.W j ≤ 18446744073709551615 := by
  unfold wat
  rw [List.getD_eq_getElem?_getD]
  rcases Nat.lt_or_ge j M.W.length with g | g
  · rw [List.getElem?_eq_getElem g]; exact h.W _ (List.getElem_mem g)
  · rw [List.getElem?_eq_none g]; simp

set_option maxRecDepth 100000 in
set_option maxHeartbeats 2000000 in
theorem each_walk (w0 : World) (b o : Nat) (M : Mem) (S : Sls) (hM : RMem w0 b o M S) (gb gs : Addr) (hG : GBound w0 gb) (hS : GShape w0 gs)
    (L : Nat → Prop) (g : Nat) (lb : Array Value) (eg : ∀ args w, (callFunc g args).run Tryz.prog w = .ok (.enter g args) w) (see : Ob → Bool) (I : List Ob → World → Prop)
    (w : World) (hE : Ext w0 w) (hL : ∀ k, L k → w0.heap.size ≤ k ∧ k < w.heap.size) (hX : ∀ v w w', I v w → Ext w w' → I v w') (a to : Nat) (hto : to ≤ M.W.length) (hlen : M.W.length ≤ 196608)
    (hC : ∀ v x w', I v w' → Keep L w w' → ObIn M.W a to x → Calls Tryz.prog g (#[.int .i64 (x.a : Int), headV x.w] ++ lb) w' fun e w'' => e = .returned (.bool (see x)) ∧ I (v ++ [x]) w'' ∧ Keep L w' w'')
    (hat : a ≤ to) (v0 : List Ob) (hI : I v0 w) :
    Calls Tryz.prog 92 #[.pointer (some ⟨b, o, none⟩), .int .i64 (a : Int), .int .i64 (to : Int), .func (.func g) #[] lb] w (EachPost L w I see v0 (part M.W a to)) := by
  have HX := Lib.hid hX
  have HC := Lib.hid hC
  have HL := Lib.hid hL
  have HE := Lib.hid hE
  have HM := Lib.hid hM
  have HG := Lib.hid hG
  have HS := Lib.hid hS
  have HI : Hid (I v0 w) := hI
  clear hX hM hC hI hL hE hG hS
  go_enter Tryz.func92, Tryz.ntmps92
  go_wp2
  go_loopw [1] (fun i wr => ∃ (k : Nat) (v : List Ob), a ≤ k ∧ k ≤ to ∧ i = .int .i64 (k : Int) ∧ Hid (I (v0 ++ v) wr) ∧ Hid (part M.W a to = (v ++ (part M.W k to).1, (part M.W k to).2)) ∧ Hid (v.all see = true) ∧ Hid (Keep L w wr))
    (fun i _ => to - (intOf i).toNat)
  case atStart => exact ⟨a, [], Nat.le_refl _, hat, rfl, by rw [List.append_nil]; exact HI, rfl, rfl, Keep.refl _ _⟩
  case round =>
    obtain ⟨k, v, hk1, hk2, rfl, hI, hP, hA, hK⟩ := hrel
    by_cases hlt : k < to
    · have hkW : k < M.W.length := by omega
      have hEr : Ext w0 wr := Ext.keep HE.out hK.out fun i hi => (HL.out i hi).1
      have hMr : RMem wr b o M S := HM.out.ext hEr
      have c_W := hMr.W
      obtain ⟨wb, wo, hWa, hc⟩ := hMr.rW k _ (wcells_at M.W k hkW)
      rw [hWa] at c_W
      have hcapW := hMr.capW
      have hgb : GBound wr gb := hEr.cell_ HG.out
      have hgs : GShape wr gs := hEr.cell_ HS.out
      obtain ⟨hq0, hq1⟩ := wat_in HM.out.ok k
      change wr.cell? ⟨wb, wo + k, none⟩ = some (.int .u64 (wat M.W k)) at hc
      have HER := Lib.hid hEr
      clear hMr hWa hEr
      have hsz : hSize (wat M.W k) ≤ 281474976710655 ∧ 0 ≤ hSize (wat M.W k) := by unfold hSize; omega
      obtain ⟨hsz1, hsz0⟩ := hsz
      cases hd : isHd (wat M.W k) with
      | false =>
        have HB := Lib.hid (part_bad M.W k to hlt (by rw [hd]; rfl))
        go_wp2_with (go_at_call 56; refine (toHead_no _ hq0 hq1 hd _ gb gs hgb hgs).mono ?_; rintro e w1 ⟨rfl, hx⟩)
        go_ret
        refine ⟨v, ?_, ?_, fun h => ?_, ?_⟩
        · rw [hP.out, HB.out]; rfl
        · refine HX.out _ _ _ hI.out ?_
          repeat (first | exact hx | exact Ext.refl _ | (refine Ext.set_ ?_ (by simp; omega) _) | (refine Ext.alloc_ ?_ _) | (refine Ext.drew_ ?_) | (refine Ext.drewN_ ?_ _))
        · rw [hP.out, HB.out] at h; cases h
        · refine hK.out.ext_ ?_
          repeat (first | exact hx | exact Ext.refl _ | (refine Ext.set_ ?_ (by simp; omega) _) | (refine Ext.alloc_ ?_ _) | (refine Ext.drew_ ?_) | (refine Ext.drewN_ ?_ _))
      | true =>
        by_cases hfit : (k : Int) + 1 + hSize (wat M.W k) ≤ (to : Int)
        · have HIN : Hid (ObIn M.W a to ⟨k, wat M.W k⟩) := ⟨rfl, hd, hk1, by show k + 1 + (hSize (wat M.W k)).toNat ≤ to; omega⟩
          have HB := Lib.hid (part_next M.W k to hd (by omega))
          cases hsee : see ⟨k, wat M.W k⟩ with
          | false =>
            have HSEE := Lib.hid hsee
            go_wp2_with (first
              | (go_at_call 56; refine (toHead_yes _ hq0 hq1 hd _).mono ?_; rintro e w1 ⟨rfl, hx⟩; have hxs := hx.size))
            refine (HC.out (v0 ++ v) ⟨k, wat M.W k⟩ _ ?_ ?_ HIN.out).mono ?_
            · refine HX.out _ _ _ hI.out ?_
              repeat (first | exact hx | exact Ext.refl _ | (refine Ext.set_ ?_ (by simp; omega) _) | (refine Ext.alloc_ ?_ _) | (refine Ext.drew_ ?_) | (refine Ext.drewN_ ?_ _))
            · refine hK.out.ext_ ?_
              repeat (first | exact hx | exact Ext.refl _ | (refine Ext.set_ ?_ (by simp; omega) _) | (refine Ext.alloc_ ?_ _) | (refine Ext.drew_ ?_) | (refine Ext.drewN_ ?_ _))
            rintro e w2 ⟨he, hI2, hK2⟩
            rw [hsee] at he
            subst he
            have HK2 := Lib.hid hK2
            clear hK2 hsee
            go_wp2
            go_ret
            refine ⟨v ++ [⟨k, wat M.W k⟩], ?_, ?_, fun h => ?_, ?_⟩
            · rw [hP.out, HB.out]; simp [HSEE.out]
            · rw [← List.append_assoc]; exact hI2
            · rw [hP.out, HB.out] at h; simp [HSEE.out] at h
            · refine Keep.trans (hK.out.ext_ ?_) HK2.out
              repeat (first | exact hx | exact Ext.refl _ | (refine Ext.set_ ?_ (by simp; omega) _) | (refine Ext.alloc_ ?_ _) | (refine Ext.drew_ ?_) | (refine Ext.drewN_ ?_ _))
          | true =>
            have HSEE := Lib.hid hsee
            go_wp2_with (first
              | (go_at_call 56; refine (toHead_yes _ hq0 hq1 hd _).mono ?_; rintro e w1 ⟨rfl, hx⟩; have hxs := hx.size))
            refine (HC.out (v0 ++ v) ⟨k, wat M.W k⟩ _ ?_ ?_ HIN.out).mono ?_
            · refine HX.out _ _ _ hI.out ?_
              repeat (first | exact hx | exact Ext.refl _ | (refine Ext.set_ ?_ (by simp; omega) _) | (refine Ext.alloc_ ?_ _) | (refine Ext.drew_ ?_) | (refine Ext.drewN_ ?_ _))
            · refine hK.out.ext_ ?_
              repeat (first | exact hx | exact Ext.refl _ | (refine Ext.set_ ?_ (by simp; omega) _) | (refine Ext.alloc_ ?_ _) | (refine Ext.drew_ ?_) | (refine Ext.drewN_ ?_ _))
            rintro e w2 ⟨he, hI2, hK2⟩
            rw [hsee] at he
            subst he
            have hq3 : w2.cell? ⟨w1.heap.size, 3, none⟩ = some (.int .i64 (hSize (wat M.W k))) := hK2.cell (fun h => by have h1 := (HL.out _ h).2; have h2 := hK.out.size; simp at h1; omega) (by simp [go_sem])
            have HK2 := Lib.hid hK2
            have HI2 := Lib.hid hI2
            clear hK2 hsee hI2
            go_wp2
            go_roundw
            case rel =>
              refine ⟨k + 1 + (hSize (wat M.W k)).toNat, v ++ [⟨k, wat M.W k⟩], by omega, by omega, ?_, ?_, ?_, ?_, ?_⟩
              · go_num
              · rw [← List.append_assoc]; exact HI2.out
              · show part M.W a to = _
                rw [hP.out, HB.out]; simp
              · show (v ++ [_]).all see = true
                simp [hA.out, HSEE.out]
              · refine Keep.trans (hK.out.ext_ ?_) HK2.out
                repeat (first | exact hx | exact Ext.refl _ | (refine Ext.set_ ?_ (by simp; omega) _) | (refine Ext.alloc_ ?_ _) | (refine Ext.drew_ ?_) | (refine Ext.drewN_ ?_ _))
            case measure => simp [intOf]; omega
        · have HB := Lib.hid (part_bad M.W k to hlt (by rw [hd]; simp; omega))
          go_wp2_with (go_at_call 56; refine (toHead_yes _ hq0 hq1 hd _).mono ?_; rintro e w1 ⟨rfl, hx⟩; have hxs := hx.size)
          go_ret
          refine ⟨v, ?_, ?_, fun h => ?_, ?_⟩
          · rw [hP.out, HB.out]; rfl
          · refine HX.out _ _ _ hI.out ?_
            repeat (first | exact hx | exact Ext.refl _ | (refine Ext.set_ ?_ (by simp; omega) _) | (refine Ext.alloc_ ?_ _) | (refine Ext.drew_ ?_) | (refine Ext.drewN_ ?_ _))
          · rw [hP.out, HB.out] at h; cases h
          · refine hK.out.ext_ ?_
            repeat (first | exact hx | exact Ext.refl _ | (refine Ext.set_ ?_ (by simp; omega) _) | (refine Ext.alloc_ ?_ _) | (refine Ext.drew_ ?_) | (refine Ext.drewN_ ?_ _))
    · have HD := Lib.hid (part_done M.W k to (by omega))
      go_wp2
      go_ret
      refine ⟨v, ?_, hI.out, fun _ => ?_, hK.out⟩
      · rw [hP.out, HD.out]; simp [hA.out]
      · rw [hP.out, HD.out]; simp
/-- What a function value answers of a word, wherever all that lay in w lies. -/
def Says (w : World) (g : Nat) (lb : Array Value) (p : Int → Bool) : Prop :=
  ∀ (W : World) (x : Int), Ext w W → 0 ≤ x → x ≤ 18446744073709551615 → Calls Tryz.prog g (#[.int .u64 x] ++ lb) W fun e w' => e = .returned (.bool (p x)) ∧ Ext w w'
def IdxPost (w : World) (p : Int → Bool) (zs : List Int) (e : Ending) (w' : World) : Prop :=
  ∃ n : Int, e = .returned (.int .i64 n) ∧ decide (0 ≤ n) = zs.any p ∧ Ext w w'

set_option maxRecDepth 100000 in
set_option maxHeartbeats 2000000 in
theorem indexF_walk (p : Int → Bool) (g : Nat) (lb : Array Value) (eg : ∀ args w, (callFunc g args).run Tryz.prog w = .ok (.enter g args) w) (a : Option Addr) (c : Nat) (zs : List Int) (w : World)
    (hz : zs.length ≤ 9223372036854775807) (hR : RSl w a (wcells zs)) (hb : ∀ x ∈ zs, 0 ≤ x ∧ x ≤ 18446744073709551615) (hp : Says w g lb p) :
    Calls Tryz.prog 160 #[.slice a zs.length c, .func (.func g) #[] lb] w (IdxPost w p zs) := by
  have HP := Lib.hid hp
  have HR := Lib.hid hR
  have HB := Lib.hid hb
  clear hp hR hb
  go_enter Tryz.func160, Tryz.ntmps160
  go_wp2
  go_loopw [5, 8] (fun _ i wr => ∃ k : Nat, k ≤ zs.length ∧ i = .int .i64 (k : Int) ∧ Hid (Ext w wr) ∧ Hid (∀ j, j < k → p (zs.getD j 0) = false))
    (fun _ i _ => zs.length - (intOf i).toNat)
  case atStart => exact ⟨0, Nat.zero_le _, rfl, Ext.refl w, fun j hj => absurd hj (Nat.not_lt_zero _)⟩
  case round =>
    obtain ⟨k, hk, rfl, hE, hA⟩ := hrel
    by_cases hlt : k < zs.length
    · obtain ⟨b, off, rfl, hc⟩ := HR.out k _ (wcells_at zs k hlt)
      replace hc := hE.out.cell_ hc
      have hin : 0 ≤ zs.getD k 0 ∧ zs.getD k 0 ≤ 18446744073709551615 := by
        rw [List.getD_eq_getElem?_getD, List.getElem?_eq_getElem hlt]
        exact HB.out _ (List.getElem_mem hlt)
      have hcall := HP.out wr (zs.getD k 0) hE.out hin.1 hin.2
      have hltz : (k : Int) < (zs.length : Int) := by omega
      generalize hy : zs.getD k 0 = y at hc hcall hin
      have HY := Lib.hid hy
      clear hy
      cases hq : p y with
      | true =>
        have HQ := Lib.hid hq
        rw [hq] at hcall
        clear hq
        go_wp2
        refine hcall.mono ?_
        rintro e w' ⟨rfl, hb'⟩
        have HB' := Lib.hid hb'
        clear hb'
        go_wp2
        go_ret
        refine ⟨_, rfl, ?_, HB'.out⟩
        have : zs.any p = true := List.any_eq_true.2 ⟨zs[k], List.getElem_mem hlt, by
          have := HY.out; rw [List.getD_eq_getElem?_getD, List.getElem?_eq_getElem hlt] at this
          simp at this; rw [this]; exact HQ.out⟩
        rw [this]; simp
      | false =>
        have HQ := Lib.hid hq
        rw [hq] at hcall
        clear hq
        go_wp2
        refine hcall.mono ?_
        rintro e w' ⟨rfl, hb'⟩
        have HB' := Lib.hid hb'
        clear hb'
        go_wp2
        go_roundw
        case rel => exact ⟨k + 1, by omega, by go_num, HB'.out, fun j hj => by
          by_cases e : j = k
          · subst e; rw [HY.out]; exact HQ.out
          · exact hA.out j (by omega)⟩
        case measure => simp [intOf]; omega
    · have hltz : ¬ (k : Int) < (zs.length : Int) := by omega
      go_wp2
      go_ret
      refine ⟨_, rfl, ?_, hE.out⟩
      have : zs.any p = false := by
        rw [List.any_eq_false]
        intro x hx
        obtain ⟨j, hj, rfl⟩ := List.mem_iff_getElem.1 hx
        have := hA.out j (by omega)
        rw [List.getD_eq_getElem?_getD, List.getElem?_eq_getElem hj] at this
        simpa using this
      rw [this]; rfl
theorem containsF_walk (p : Int → Bool) (g : Nat) (lb : Array Value) (eg : ∀ args w, (callFunc g args).run Tryz.prog w = .ok (.enter g args) w) (a : Option Addr) (c : Nat) (zs : List Int) (w : World)
    (hz : zs.length ≤ 9223372036854775807) (hR : RSl w a (wcells zs)) (hb : ∀ x ∈ zs, 0 ≤ x ∧ x ≤ 18446744073709551615) (hp : Says w g lb p) :
    Calls Tryz.prog 140 #[.slice a zs.length c, .func (.func g) #[] lb] w fun e w' => e = .returned (.bool (zs.any p)) ∧ Ext w w' := by
  go_enter Tryz.func140, Tryz.ntmps140
  go_wp2_with (go_at_call 160; refine (indexF_walk p g lb eg a c zs _ hz hR hb hp).mono ?_; rintro e w' ⟨n, rfl, hn, hq⟩)
  go_ret
  exact ⟨rfl, hq⟩
/-- What is asked of an object's header. -/
def okHd (M : Mem) (x : Ob) : Bool := (hMark x.w == 0) && ((hAge x.w == 0) || !oldB M (x.a : Int))

theorem c1_enters (args : Array Value) (w : World) : (callFunc 136 args).run Tryz.prog w = .ok (.enter 136 args) w :=
  enters_of Tryz.func136 (by kernel_rfl) rfl args w
theorem c31_enters (args : Array Value) (w : World) : (callFunc 141 args).run Tryz.prog w = .ok (.enter 141 args) w :=
  enters_of Tryz.func141 (by kernel_rfl) rfl args w

theorem c2_any (a : Int) (h0 : 0 ≤ a) (h1 : a ≤ 18446744073709551615) (bm b3 : Nat) (st : List Int) (w : World) (hm : SMap w bm .i64 st) (h3 : w.cell? ⟨b3, 0, none⟩ = some (.map (some bm))) :
    Calls Tryz.prog 137 #[.int .u64 a, .pointer (some ⟨b3, 0, none⟩)] w fun e w' => e = .returned (.bool (fldB st a)) ∧ w' = w := by
  go_enter Tryz.func137, Tryz.ntmps137
  go_wp2_with (go_at_call 138; refine (field_any a h0 h1 bm st _ hm).mono ?_; rintro e w' ⟨rfl, rfl⟩)
  go_ret
  exact ⟨rfl, rfl⟩
theorem c31_any (a : Int) (h0 : 0 ≤ a) (h1 : a ≤ 18446744073709551615) (bm b3 b4 : Nat) (st : List Int) (w : World) (hm : SMap w bm .i64 st) (h3 : w.cell? ⟨b3, 0, none⟩ = some (.map (some bm)))
    (h4 : w.cell? ⟨b4, 0, none⟩ = some (.func (.func 137) #[] #[.pointer (some ⟨b3, 0, none⟩)])) :
    Calls Tryz.prog 141 #[.int .u64 a, .pointer (some ⟨b4, 0, none⟩)] w fun e w' => e = .returned (.bool (!fldB st a)) ∧ w' = w := by
  go_enter Tryz.func141, Tryz.ntmps141
  go_wp2_with (go_at_call 137; refine (c2_any a h0 h1 bm b3 st _ hm h3).mono ?_; rintro e w' ⟨rfl, rfl⟩)
  go_ret
  exact ⟨rfl, rfl⟩
/-- Are words fields? -/
def fieldsB (st : List Int) (zs : List Int) : Bool := zs.all (fldB st)
theorem fieldsB_any (st : List Int) (zs : List Int) : (!(zs.any fun x => !fldB st x)) = fieldsB st zs := by
  unfold fieldsB
  induction zs with
  | nil => rfl
  | cons z zs ih => simp only [List.any_cons, List.all_cons, ← ih]; cases fldB st z <;> simp
theorem c3_any (a : Option Addr) (c : Nat) (zs : List Int) (hz : zs.length ≤ 9223372036854775807) (hb : ∀ x ∈ zs, 0 ≤ x ∧ x ≤ 18446744073709551615) (bm b3 b4 : Nat) (st : List Int) (w : World)
    (hR : RSl w a (wcells zs)) (hm : SMap w bm .i64 st) (h3 : w.cell? ⟨b3, 0, none⟩ = some (.map (some bm)))
    (h4 : w.cell? ⟨b4, 0, none⟩ = some (.func (.func 137) #[] #[.pointer (some ⟨b3, 0, none⟩)])) :
    Calls Tryz.prog 139 #[.slice a zs.length c, .pointer (some ⟨b4, 0, none⟩)] w fun e w' => e = .returned (.bool (fieldsB st zs)) ∧ Ext w w' := by
  have hp : Says w 141 #[.pointer (some ⟨b4, 0, none⟩)] (fun x => !fldB st x) := fun W x hE q0 q1 =>
    (c31_any x q0 q1 bm b3 b4 st W (hm.ext hE) (hE.cell_ h3) (hE.cell_ h4)).mono fun e w' ⟨he, hw⟩ => ⟨he, by rw [hw]; exact hE⟩
  have HP := Lib.hid hp
  have HB := Lib.hid hb
  have HR := Lib.hid hR
  rw [← fieldsB_any]
  clear hp hm h3 h4 hb hR
  go_enter Tryz.func139, Tryz.ntmps139
  go_wp2_with (go_at_call 140; refine (containsF_walk _ _ _ c31_enters a c zs _ hz HR.out HB.out HP.out).mono ?_; rintro e w' ⟨rfl, hq⟩)
  go_ret
  exact ⟨rfl, hq⟩
theorem c1_any (x : Ob) (b o bm b3 b1 : Nat) (M : Mem) (S : Sls) (hs : Shp M) (st : List Int) (w0 w : World) (hE : Ext w0 w) (hM : RMem w0 b o M S) (hm : SMap w bm .i64 st) (hbm : w0.heap.size ≤ bm)
    (hne3 : b3 ≠ bm) (hne1 : b1 ≠ bm) (h3 : w.cell? ⟨b3, 0, none⟩ = some (.map (some bm))) (h1 : w.cell? ⟨b1, 0, none⟩ = some (.pointer (some ⟨b, o, none⟩))) :
    Calls Tryz.prog 136 #[.int .i64 (x.a : Int), headV x.w, .pointer (some ⟨b3, 0, none⟩), .pointer (some ⟨b1, 0, none⟩)] w fun e w' =>
      e = .returned (.bool (okHd M x)) ∧ SMap w' bm .i64 (st ++ [(x.a : Int)]) ∧ Keep (· = bm) w w' := by
  have hlt3 := cell_lt h3
  have hlt1 := cell_lt h1
  have hltm := hm.lt
  simp only at hlt3 hlt1
  obtain ⟨w1, hrun, hm2, hbut⟩ := smap_put (hm.ext ((Ext.refl w).alloc_ (.cells #[.int .i64 (hKind x.w), .int .i64 (hAge x.w), .int .i64 (hMark x.w), .int .i64 (hSize x.w)] 92))) (x.a : Int)
  have hk1 := Keep.of_but hbut
  have q1 : w1.cell? ⟨w.heap.size, 1, none⟩ = some (.int .i64 (hAge x.w)) := hk1.cell (by simp; omega) (by simp [go_sem])
  have q2 : w1.cell? ⟨w.heap.size, 2, none⟩ = some (.int .i64 (hMark x.w)) := hk1.cell (by simp; omega) (by simp [go_sem])
  have q3 : w1.cell? ⟨b1, 0, none⟩ = some (.pointer (some ⟨b, o, none⟩)) := hk1.cell hne1 (((Ext.refl w).alloc_ _).cell_ h1)
  have hkk : Keep (· = bm) w w1 := ((Keep.refl _ w).alloc_ _).trans hk1
  have hM1 : RMem w1 b o M S := hM.ext (Ext.keep hE hkk fun i hi => by omega)
  have HM2 := Lib.hid hm2
  have HK := Lib.hid hkk
  have HM1 := Lib.hid hM1
  clear hm hm2 hbut hk1 hkk hM1 hM hE
  unfold headV
  cases m0 : (hMark x.w == 0) with
  | false =>
    have e : okHd M x = false := by simp [okHd, m0]
    rw [e]
    go_enter Tryz.func136, Tryz.ntmps136
    go_wp2
    go_ret
    exact ⟨rfl, HM2.out, HK.out⟩
  | true =>
    cases a0 : (hAge x.w == 0) with
    | true =>
      have e : okHd M x = true := by simp [okHd, m0, a0]
      rw [e]
      go_enter Tryz.func136, Tryz.ntmps136
      go_wp2
      go_ret
      exact ⟨rfl, HM2.out, HK.out⟩
    | false =>
      have e : okHd M x = !oldB M (x.a : Int) := by simp [okHd, m0, a0]
      rw [e]
      go_enter Tryz.func136, Tryz.ntmps136
      go_wp2_with (go_at_call 101; refine (inOld_any _ _ b o M S HM1.out hs).mono ?_; rintro e w' ⟨rfl, rfl⟩)
      go_ret
      exact ⟨rfl, HM2.out, HK.out⟩
end Go.Proofs.YtelhoppfidibiaaGreatDoor
