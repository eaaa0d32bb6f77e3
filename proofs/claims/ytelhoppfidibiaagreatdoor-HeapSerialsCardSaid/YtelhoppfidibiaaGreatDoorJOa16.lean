/- The walk of Memory.Each where what is called keeps a row that may move: what a round may turn hangs on its world (D). -/
import Derived.Test.YtelhoppfidibiaaGreatDoorJOa05
import Derived.Test.YtelhoppfidibiaaGreatDoorJOa15
namespace Go.Proofs.YtelhoppfidibiaaGreatDoor
open Go.RowKit
set_option linter.unusedVariables false
set_option linter.unusedSimpArgs false

set_option maxRecDepth 100000 in
set_option maxHeartbeats 2000000 in
theorem each_walk2 (w0 : World) (b o : Nat) (M : Mem) (S : Sls) (hM : RMem w0 b o M S) (gb gs : Addr) (hG : GBound w0 gb) (hS : GShape w0 gs)
    (L : Nat → Prop) (g : Nat) (lb : Array Value) (eg : ∀ args w, (callFunc g args).run Tryz.prog w = .ok (.enter g args) w) (see : Ob → Bool) (I : List Ob → World → Prop)
    (w : World) (hE : Ext w0 w) (hL : ∀ k, L k → w0.heap.size ≤ k) (D : World → Nat → Prop) (hD : ∀ v w' w'' k, I v w' → Ext w' w'' → D w'' k → k < w'.heap.size) (hX : ∀ v w w', I v w → Ext w w' → I v w') (a to : Nat) (hto : to ≤ M.W.length) (hlen : M.W.length ≤ 196608) (v0 : List Ob)
    (hC : ∀ v x w', I v w' → Keep L w w' → ObIn M.W a to x → v.length ≤ v0.length + (part M.W a to).1.length → Calls Tryz.prog g (#[.int .i64 (x.a : Int), headV x.w] ++ lb) w' fun e w'' => e = .returned (.bool (see x)) ∧ I (v ++ [x]) w'' ∧ Keep L w' w'' ∧ Keep (D w') w' w'')
    (hat : a ≤ to) (hI : I v0 w) :
    Calls Tryz.prog 92 #[.pointer (some ⟨b, o, none⟩), .int .i64 (a : Int), .int .i64 (to : Int), .func (.func g) #[] lb] w (EachPost L w I see v0 (part M.W a to)) := by
  have HX := Lib.hid hX
  have HC := Lib.hid hC
  have HL := Lib.hid hL
  have HDX := Lib.hid hD
  have HE := Lib.hid hE
  have HM := Lib.hid hM
  have HG := Lib.hid hG
  have HS := Lib.hid hS
  have HI : Hid (I v0 w) := hI
  clear hX hM hC hI hL hD hE hG hS
  go_enter Tryz.func92, Tryz.ntmps92
  go_wp2
  go_loopw [1] (fun i wr => ∃ (k : Nat) (v : List Ob), a ≤ k ∧ k ≤ to ∧ i = .int .i64 (k : Int) ∧ Hid (I (v0 ++ v) wr) ∧ Hid (part M.W a to = (v ++ (part M.W k to).1, (part M.W k to).2)) ∧ Hid (v.all see = true) ∧ Hid (Keep L w wr))
    (fun i _ => to - (intOf i).toNat)
  case atStart => exact ⟨a, [], Nat.le_refl _, hat, rfl, by rw [List.append_nil]; exact HI, rfl, rfl, Keep.refl _ _⟩
  case round =>
    obtain ⟨k, v, hk1, hk2, rfl, hI, hP, hA, hK⟩ := hrel
    by_cases hlt : k < to
    · have hkW : k < M.W.length := by omega
      have hEr : Ext w0 wr := Ext.keep HE.out hK.out fun i hi => HL.out i hi
      have hMr : RMem wr b o M S := HM.out.ext hEr
      have c_W := hMr.W
      obtain ⟨wb, wo, hWa, hc⟩ := hMr.rW k _ (wcells_at M.W k hkW)
      rw [hWa] at c_W
      have hcapW := hMr.capW
      have hgb : GBound wr gb := hEr.cell_ HG.out
      have hgs : GShape wr gs := hEr.cell_ HS.out
      obtain ⟨hq0, hq1⟩ := wat_in HM.out.ok k
      change wr.cell? ⟨wb, wo + k, none⟩ = some (.int .u64 (wat M.W k)) at hc
      have HER := Lib.hid hEr
      clear hMr hWa hEr
      have hsz : hSize (wat M.W k) ≤ 281474976710655 ∧ 0 ≤ hSize (wat M.W k) := by unfold hSize; omega
      obtain ⟨hsz1, hsz0⟩ := hsz
      cases hd : isHd (wat M.W k) with
      | false =>
        have HB := Lib.hid (part_bad M.W k to hlt (by rw [hd]; rfl))
        go_wp2_with (go_at_call 56; refine (toHead_no _ hq0 hq1 hd _ gb gs hgb hgs).mono ?_; rintro e w1 ⟨rfl, hx⟩)
        go_ret
        refine ⟨v, ?_, ?_, fun h => ?_, ?_⟩
        · rw [hP.out, HB.out]; rfl
        · refine HX.out _ _ _ hI.out ?_
          repeat (first | exact hx | exact Ext.refl _ | (refine Ext.set_ ?_ (by simp; omega) _) | (refine Ext.alloc_ ?_ _) | (refine Ext.drew_ ?_) | (refine Ext.drewN_ ?_ _))
        · rw [hP.out, HB.out] at h; cases h
        · refine hK.out.ext_ ?_
          repeat (first | exact hx | exact Ext.refl _ | (refine Ext.set_ ?_ (by simp; omega) _) | (refine Ext.alloc_ ?_ _) | (refine Ext.drew_ ?_) | (refine Ext.drewN_ ?_ _))
      | true =>
        by_cases hfit : (k : Int) + 1 + hSize (wat M.W k) ≤ (to : Int)
        · have HIN : Hid (ObIn M.W a to ⟨k, wat M.W k⟩) := ⟨rfl, hd, hk1, by show k + 1 + (hSize (wat M.W k)).toNat ≤ to; omega⟩
          have HB := Lib.hid (part_next M.W k to hd (by omega))
          cases hsee : see ⟨k, wat M.W k⟩ with
          | false =>
            have HSEE := Lib.hid hsee
            go_wp2_with (first
              | (go_at_call 56; refine (toHead_yes _ hq0 hq1 hd _).mono ?_; rintro e w1 ⟨rfl, hx⟩; have hxs := hx.size))
            refine (HC.out (v0 ++ v) ⟨k, wat M.W k⟩ _ ?_ ?_ HIN.out (by have h := hP.out; rw [h]; simp)).mono ?_
            · refine HX.out _ _ _ hI.out ?_
              repeat (first | exact hx | exact Ext.refl _ | (refine Ext.set_ ?_ (by simp; omega) _) | (refine Ext.alloc_ ?_ _) | (refine Ext.drew_ ?_) | (refine Ext.drewN_ ?_ _))
            · refine hK.out.ext_ ?_
              repeat (first | exact hx | exact Ext.refl _ | (refine Ext.set_ ?_ (by simp; omega) _) | (refine Ext.alloc_ ?_ _) | (refine Ext.drew_ ?_) | (refine Ext.drewN_ ?_ _))
            rintro e w2 ⟨he, hI2, hK2, hD2⟩
            rw [hsee] at he
            subst he
            have HK2 := Lib.hid hK2
            clear hK2 hD2 hsee
            go_wp2
            go_ret
            refine ⟨v ++ [⟨k, wat M.W k⟩], ?_, ?_, fun h => ?_, ?_⟩
            · rw [hP.out, HB.out]; simp [HSEE.out]
            · rw [← List.append_assoc]; exact hI2
            · rw [hP.out, HB.out] at h; simp [HSEE.out] at h
            · refine Keep.trans (hK.out.ext_ ?_) HK2.out
              repeat (first | exact hx | exact Ext.refl _ | (refine Ext.set_ ?_ (by simp; omega) _) | (refine Ext.alloc_ ?_ _) | (refine Ext.drew_ ?_) | (refine Ext.drewN_ ?_ _))
          | true =>
            have HSEE := Lib.hid hsee
            go_wp2_with (first
              | (go_at_call 56; refine (toHead_yes _ hq0 hq1 hd _).mono ?_; rintro e w1 ⟨rfl, hx⟩; have hxs := hx.size))
            refine (HC.out (v0 ++ v) ⟨k, wat M.W k⟩ _ ?_ ?_ HIN.out (by have h := hP.out; rw [h]; simp)).mono ?_
            · refine HX.out _ _ _ hI.out ?_
              repeat (first | exact hx | exact Ext.refl _ | (refine Ext.set_ ?_ (by simp; omega) _) | (refine Ext.alloc_ ?_ _) | (refine Ext.drew_ ?_) | (refine Ext.drewN_ ?_ _))
            · refine hK.out.ext_ ?_
              repeat (first | exact hx | exact Ext.refl _ | (refine Ext.set_ ?_ (by simp; omega) _) | (refine Ext.alloc_ ?_ _) | (refine Ext.drew_ ?_) | (refine Ext.drewN_ ?_ _))
            rintro e w2 ⟨he, hI2, hK2, hD2⟩
            rw [hsee] at he
            subst he
            have hq3 : w2.cell? ⟨w1.heap.size, 3, none⟩ = some (.int .i64 (hSize (wat M.W k))) := hD2.cell (fun h => by
              have h1 := HDX.out _ _ _ _ hI.out (by repeat (first | exact hx | exact Ext.refl _ | (refine Ext.set_ ?_ (by simp; omega) _) | (refine Ext.alloc_ ?_ _) | (refine Ext.drew_ ?_) | (refine Ext.drewN_ ?_ _))) h
              simp only at h1
              omega) (by simp [go_sem])
            have HK2 := Lib.hid hK2
            have HI2 := Lib.hid hI2
            clear hK2 hD2 hsee hI2
            go_wp2
            go_roundw
            case rel =>
              refine ⟨k + 1 + (hSize (wat M.W k)).toNat, v ++ [⟨k, wat M.W k⟩], by omega, by omega, ?_, ?_, ?_, ?_, ?_⟩
              · go_num
              · rw [← List.append_assoc]; exact HI2.out
              · show part M.W a to = _
                rw [hP.out, HB.out]; simp
              · show (v ++ [_]).all see = true
                simp [hA.out, HSEE.out]
              · refine Keep.trans (hK.out.ext_ ?_) HK2.out
                repeat (first | exact hx | exact Ext.refl _ | (refine Ext.set_ ?_ (by simp; omega) _) | (refine Ext.alloc_ ?_ _) | (refine Ext.drew_ ?_) | (refine Ext.drewN_ ?_ _))
            case measure => simp [intOf]; omega
        · have HB := Lib.hid (part_bad M.W k to hlt (by rw [hd]; simp; omega))
          go_wp2_with (go_at_call 56; refine (toHead_yes _ hq0 hq1 hd _).mono ?_; rintro e w1 ⟨rfl, hx⟩; have hxs := hx.size)
          go_ret
          refine ⟨v, ?_, ?_, fun h => ?_, ?_⟩
          · rw [hP.out, HB.out]; rfl
          · refine HX.out _ _ _ hI.out ?_
            repeat (first | exact hx | exact Ext.refl _ | (refine Ext.set_ ?_ (by simp; omega) _) | (refine Ext.alloc_ ?_ _) | (refine Ext.drew_ ?_) | (refine Ext.drewN_ ?_ _))
          · rw [hP.out, HB.out] at h; cases h
          · refine hK.out.ext_ ?_
            repeat (first | exact hx | exact Ext.refl _ | (refine Ext.set_ ?_ (by simp; omega) _) | (refine Ext.alloc_ ?_ _) | (refine Ext.drew_ ?_) | (refine Ext.drewN_ ?_ _))
    · have HD := Lib.hid (part_done M.W k to (by omega))
      go_wp2
      go_ret
      refine ⟨v, ?_, hI.out, fun _ => ?_, hK.out⟩
      · rw [hP.out, HD.out]; simp [hA.out]
      · rw [hP.out, HD.out]; simp
/-- The roots are followed, from the i-th on. -/
def rootsC (C : Col) : Nat → Nat → Col
  | _, 0 => C
  | i, n + 1 => let r := followC C (C.M.roots.getD i 0); rootsC { r.2 with M := { r.2.M with roots := r.2.M.roots.set i r.1 } } (i + 1) n
/-- The fields of an object of the old space, those on marked cards. -/
def cardsC (was : List Bool) (C : Col) : Nat → Nat → Col
  | _, 0 => C
  | i, n + 1 =>
    if was.getD (cardI C.M (i : Int)) false then
      let r := followC C (wat C.M.W i); cardsC was { r.2 with M := storeM r.2.M i r.1 } (i + 1) n
    else cardsC was C (i + 1) n
def oldsC (was : List Bool) : Col → List Int → Col
  | C, [] => C
  | C, a :: l => oldsC was (cardsC was C (a.toNat + 1) (hSize (wat C.M.W a.toNat)).toNat) l
/-- The worklist, so many times. -/
def todoC : Nat → Col → Col
  | 0, C => C
  | n + 1, C =>
    match C.todo with
    | [] => C
    | a :: t => todoC n (fieldsC { C with todo := t } (a.toNat + 1) (hSize (wat C.M.W a.toNat)).toNat)
def weakC (C : Col) : List Int := C.M.weak.map fun a => if (lastC C a).2 then (lastC C a).1 else 2
def idsC (C : Col) : List (Int × Int) := C.M.ids.filterMap fun x => if (lastC C x.1).2 then some ((lastC C x.1).1, x.2) else none
/-- The old space's objects that aren't raw: where they lie. -/
def fromC (M : Mem) : List Int := ((part M.W (2 * M.half).toNat (2 * M.half + M.oldTop).toNat).1.filter fun x => !rawB (hKind x.w)).map fun x => (x.a : Int)
def startC (M : Mem) (ten : Int) : Col := { M := M, ten := ten, base := (1 - M.used) * M.half, top := 0, mv := [], todo := [] }
/-- A memory but for its words and the old space's top. -/
structure Mem.Like (M N : Mem) : Prop where
  half : N.half = M.half
  old : N.old = M.old
  card : N.card = M.card
  used : N.used = M.used
  top : N.top = M.top
  roots : N.roots = M.roots
  weak : N.weak = M.weak
  ids : N.ids = M.ids
  lenW : N.W.length = M.W.length
  lenC : N.cards.length = M.cards.length
theorem Mem.Like.refl (M : Mem) : M.Like M := ⟨rfl, rfl, rfl, rfl, rfl, rfl, rfl, rfl, rfl, rfl⟩
theorem Mem.Like.trans {M N K : Mem} (h : M.Like N) (k : N.Like K) : M.Like K :=
  ⟨k.half.trans h.half, k.old.trans h.old, k.card.trans h.card, k.used.trans h.used, k.top.trans h.top, k.roots.trans h.roots, k.weak.trans h.weak, k.ids.trans h.ids, k.lenW.trans h.lenW, k.lenC.trans h.lenC⟩
theorem moveC_like {C : Col} {j : Nat} (hc : CanMove C j) : C.M.Like (moveC C j).M := by
  obtain ⟨d0, d1⟩ := hc.dst
  have hw := wat_in hc.ok j
  have z0 := (hd_in (wat C.M.W j) hw.1).2.2.2.2.2.2
  refine ⟨rfl, rfl, rfl, rfl, rfl, rfl, rfl, rfl, ?_, rfl⟩
  simp only [moveC, List.length_set]
  rw [length_splice]
  rw [List.length_take, List.length_drop]
  omega
theorem followC_like {C : Col} {a : Int} (hc : CanFollow C a) : C.M.Like (followC C a).2.M := by
  unfold followC
  cases hst : stays C.M a with
  | true => simp only [if_true]; exact Mem.Like.refl _
  | false =>
    simp only [Bool.false_eq_true, if_false]
    cases hl : mlook C.mv (placeW a) with
    | some to => exact Mem.Like.refl _
    | none => exact moveC_like (hc hst hl).2
theorem storeM_like (M : Mem) (j : Nat) (v : Int) : M.Like (storeM M j v) := by
  unfold storeM
  split
  · exact ⟨rfl, rfl, rfl, rfl, rfl, rfl, rfl, rfl, by simp [touchM, setM], by simp [touchM, setM]⟩
  · exact ⟨rfl, rfl, rfl, rfl, rfl, rfl, rfl, rfl, by simp [setM], rfl⟩
theorem Mem.Like.shp {M N : Mem} (h : M.Like N) (hs : Shp M) (p : 0 ≤ N.oldTop ∧ N.oldTop ≤ N.old) : Shp N :=
  ⟨by rw [h.half]; exact hs.h1, by rw [h.half]; exact hs.h2, by rw [h.old]; exact hs.o1, by rw [h.old]; exact hs.o2, by rw [h.card]; exact hs.c1, by rw [h.card]; exact hs.c2, by rw [h.lenW, h.half, h.old]; exact hs.w,
    by rw [h.used]; exact hs.u1, by rw [h.used]; exact hs.u2, by rw [h.top]; exact hs.t1, by rw [h.top, h.half]; exact hs.t2, p.1, p.2, by rw [h.lenC, h.old, h.card]; exact hs.cl⟩
theorem Mem.Like.ok {M N : Mem} (h : M.Like N) (hok : M.Ok) (hW : ∀ x ∈ N.W, 0 ≤ x ∧ x ≤ 18446744073709551615) (p : -9223372036854775808 ≤ N.oldTop ∧ N.oldTop ≤ 9223372036854775807) : N.Ok :=
  ⟨by rw [h.half]; exact hok.half, by rw [h.old]; exact hok.old, by rw [h.card]; exact hok.card, by rw [h.used]; exact hok.used, by rw [h.top]; exact hok.top, p, hW, by rw [h.roots]; exact hok.roots, by rw [h.weak]; exact hok.weak, by rw [h.ids]; exact hok.ids,
    by rw [h.lenW]; exact hok.lenW, by rw [h.roots]; exact hok.lenR, by rw [h.weak]; exact hok.lenK, by rw [h.ids]; exact hok.lenI, by rw [h.lenC]; exact hok.lenC⟩
theorem headW_u64 {k a m s : Int} (hk : 0 ≤ k ∧ k ≤ 255) (ha : 0 ≤ a ∧ a ≤ 15) (hm : 0 ≤ m ∧ m ≤ 1) (hs : 0 ≤ s ∧ s ≤ 4096) : 0 ≤ headW k a m s ∧ headW k a m s ≤ 18446744073709551615 := by
  unfold headW; omega
theorem moveC_ok {C : Col} {j : Nat} (hc : CanMove C j) : (moveC C j).M.Ok := by
  have hw := wat_in hc.ok j
  obtain ⟨k0, k1, a0, a1, m0, m1, z0⟩ := hd_in (wat C.M.W j) hw.1
  have z1 : hSize (wat C.M.W j) ≤ 4096 := ((isHd_iff _).1 hc.hd).2.2
  have hp1 := hc.shp.p1
  have hp2 := hc.shp.p2
  have ho2 := hc.shp.o2
  refine (moveC_like hc).ok hc.ok (fun x hx => ?_) ?_
  · simp only [moveC] at hx
    rcases List.mem_or_eq_of_mem_set hx with q | q
    · unfold splice at q
      rcases List.mem_append.1 q with q | q
      · exact hc.ok.W x (List.mem_of_mem_take q)
      · rcases List.mem_append.1 q with q | q
        · exact hc.ok.W x (List.mem_of_mem_drop (List.mem_of_mem_take q))
        · exact hc.ok.W x (List.mem_of_mem_drop q)
    · subst q
      unfold moveHead
      exact headW_u64 ⟨k0, k1⟩ (by split <;> omega) ⟨m0, m1⟩ ⟨z0, z1⟩
  · simp only [moveC]
    split <;> omega
theorem addrW_u64 (n : Int) : 0 ≤ addrW n ∧ addrW n ≤ 18446744073709551615 := by unfold addrW; omega
theorem followC_word {C : Col} {a : Int} (h0 : 0 ≤ a) (h1 : a ≤ 18446744073709551615) : 0 ≤ (followC C a).1 ∧ (followC C a).1 ≤ 18446744073709551615 := by
  unfold followC
  cases hst : stays C.M a with
  | true => simp only [if_true]; exact ⟨h0, h1⟩
  | false =>
    simp only [Bool.false_eq_true, if_false]
    cases hl : mlook C.mv (placeW a) with
    | some to => exact addrW_u64 _
    | none => exact addrW_u64 _
theorem storeM_oldTop (M : Mem) (j : Nat) (v : Int) : (storeM M j v).oldTop = M.oldTop := by
  unfold storeM; split <;> rfl
def szW (W : List Int) (a : Nat) : Nat := (hSize (wat W a)).toNat
def obW (W : List Int) (a : Nat) : Ob := ⟨a, wat W a⟩
theorem obW_n (W : List Int) (a : Nat) : (obW W a).n = szW W a := rfl
/-- Objects one behind the other: where they lie. -/
def Laid (W : List Int) : Nat → List Nat → Nat → Prop
  | a, [], to => a = to
  | a, b :: l, to => b = a ∧ isHd (wat W a) = true ∧ Laid W (a + 1 + szW W a) l to
theorem Laid.le {W : List Int} : ∀ {l : List Nat} {a to : Nat}, Laid W a l to → a ≤ to
  | [], a, to, h => Nat.le_of_eq h
  | b :: l, a, to, ⟨_, _, h⟩ => by have := Laid.le h; omega
theorem laid_of (W : List Int) (to : Nat) : ∀ (f a : Nat), to - a ≤ f → a ≤ to → (objs W to f a).2 = true → Laid W a ((objs W to f a).1.map (·.a)) to
  | 0, a, h1, h2, _ => by show a = to; omega
  | f + 1, a, h1, h2, h3 => by
    unfold objs at h3 ⊢
    by_cases q : a < to
    · rw [if_pos q] at h3 ⊢
      by_cases r : (isHd (wat W a) && decide (a + 1 + (hSize (wat W a)).toNat ≤ to)) = true
      · rw [if_pos r] at h3 ⊢
        simp only [Bool.and_eq_true, decide_eq_true_eq] at r
        exact ⟨rfl, r.1, laid_of W to f _ (by omega) r.2 h3⟩
      · rw [if_neg r] at h3; cases h3
    · rw [if_neg q]; show a = to; omega
theorem laid_of_part {W : List Int} {a to : Nat} (h : (part W a to).2 = true) (h2 : a ≤ to) : Laid W a ((part W a to).1.map (·.a)) to := laid_of W to _ a (Nat.le_refl _) h2 h
theorem Laid.part {W : List Int} : ∀ {l : List Nat} {a to : Nat}, Laid W a l to → part W a to = (l.map (obW W), true)
  | [], a, to, h => part_done W a to (Nat.le_of_eq (Eq.symm h))
  | b :: l, a, to, ⟨e, h1, h2⟩ => by
    have h3 := h2.le
    rw [part_next W a to h1 h3, show a + 1 + (hSize (wat W a)).toNat = a + 1 + szW W a from rfl, h2.part]; subst e; rfl
theorem Laid.app {W : List Int} : ∀ {l : List Nat} {a m to : Nat} {k : List Nat}, Laid W a l m → Laid W m k to → Laid W a (l ++ k) to
  | [], a, m, to, k, h, h2 => by
    have e : a = m := h
    subst e; exact h2
  | b :: l, a, m, to, k, ⟨e, h1, h⟩, h2 => ⟨e, h1, h.app h2⟩
theorem Laid.congr {W V : List Int} : ∀ {l : List Nat} {a to : Nat}, Laid W a l to → (∀ b ∈ l, wat V b = wat W b) → Laid V a l to
  | [], _, _, h, _ => h
  | b :: l, a, to, ⟨e, h1, h2⟩, hw => by
    subst e
    have e1 := hw b (by simp)
    have e2 : szW V b = szW W b := by unfold szW; rw [e1]
    refine ⟨rfl, by rw [e1]; exact h1, ?_⟩
    rw [e2]; exact h2.congr fun c hc => hw c (by simp [hc])
theorem Laid.mem {W : List Int} : ∀ {l : List Nat} {a to : Nat}, Laid W a l to → ∀ b ∈ l, a ≤ b ∧ b + 1 + szW W b ≤ to ∧ isHd (wat W b) = true
  | [], _, _, _, b, hb => by simp at hb
  | c :: l, a, to, ⟨e, h1, h2⟩, b, hb => by
    subst e
    rcases List.mem_cons.1 hb with rfl | hb
    · exact ⟨Nat.le_refl _, h2.le, h1⟩
    · obtain ⟨q1, q2, q3⟩ := h2.mem b hb
      exact ⟨by omega, q2, q3⟩
theorem Laid.pair {W : List Int} : ∀ {l : List Nat} {a to : Nat}, Laid W a l to → l.Pairwise fun x y => x + 1 + szW W x ≤ y
  | [], _, _, _ => List.Pairwise.nil
  | c :: l, a, to, ⟨e, h1, h2⟩ => by
    subst e
    exact List.Pairwise.cons (fun y hy => (h2.mem y hy).1) h2.pair
theorem Laid.nodup {W : List Int} {l : List Nat} {a to : Nat} (h : Laid W a l to) : l.Nodup :=
  h.pair.imp fun hxy e => by subst e; omega
theorem Laid.apart {W : List Int} {l : List Nat} {a to : Nat} (h : Laid W a l to) {b c : Nat} (hb : b ∈ l) (hc : c ∈ l) (hn : b ≠ c) : b + 1 + szW W b ≤ c ∨ c + 1 + szW W c ≤ b := by
  have hp := h.pair
  clear h
  induction l with
  | nil => simp at hb
  | cons d l ih =>
    rw [List.pairwise_cons] at hp
    rcases List.mem_cons.1 hb with rfl | hb
    · rcases List.mem_cons.1 hc with rfl | hc
      · exact absurd rfl hn
      · exact Or.inl (hp.1 c hc)
    · rcases List.mem_cons.1 hc with rfl | hc
      · exact Or.inr (hp.1 b (by assumption))
      · exact ih (by assumption) (by assumption) hp.2
theorem Laid.sum {W : List Int} : ∀ {l : List Nat} {a to : Nat}, Laid W a l to → to = a + (l.map fun b => 1 + szW W b).sum
  | [], a, to, h => by
    have e : a = to := h
    simp [e]
  | c :: l, a, to, ⟨e, h1, h2⟩ => by
    subst e
    have := h2.sum
    rw [List.map_cons, List.sum_cons]; omega
theorem sum_sub (g : Nat → Nat) : ∀ (K L : List Nat), K.Nodup → (∀ k ∈ K, k ∈ L) → (K.map g).sum ≤ (L.map g).sum
  | [], L, _, _ => by simp
  | k :: K, L, h1, h2 => by
    have hk := h2 k (by simp)
    have hp := ((List.perm_cons_erase hk).map g).sum_nat
    rw [List.nodup_cons] at h1
    have ih := sum_sub g K (L.erase k) h1.2 fun c hc => (List.mem_erase_of_ne (fun (e : c = k) => h1.1 (by rw [← e]; exact hc))).2 (h2 c (by simp [hc]))
    rw [List.map_cons, List.sum_cons] at hp ⊢
    omega
theorem len_sub {α : Type} [DecidableEq α] : ∀ (K L : List α), K.Nodup → (∀ k ∈ K, k ∈ L) → K.length ≤ L.length
  | [], L, _, _ => by simp
  | k :: K, L, h1, h2 => by
    have hk := h2 k (by simp)
    have hp := (List.perm_cons_erase hk).length_eq
    rw [List.nodup_cons] at h1
    have ih := len_sub K (L.erase k) h1.2 fun c hc => (List.mem_erase_of_ne (fun (e : c = k) => h1.1 (by rw [← e]; exact hc))).2 (h2 c (by simp [hc]))
    rw [List.length_cons] at hp ⊢
    omega

/-- Looking up among what has moved. -/
theorem mlook_app {l : List (Int × Int)} {p : Int × Int} {k t : Int} (h : mlook l k = some t) : mlook (l ++ [p]) k = some t := by
  unfold mlook at h ⊢
  rw [List.find?_append]
  cases hf : List.find? (fun p => k == p.1) l with
  | none => rw [hf] at h; cases h
  | some q => rw [hf] at h; exact h
theorem mlook_new {l : List (Int × Int)} {k v : Int} (h : mlook l k = none) : mlook (l ++ [(k, v)]) k = some v := by
  unfold mlook at h ⊢
  rw [List.find?_append]
  cases hf : List.find? (fun p => k == p.1) l with
  | none => simp
  | some q => rw [hf] at h; cases h
theorem mlook_mem {l : List (Int × Int)} {k t : Int} (h : mlook l k = some t) : (k, t) ∈ l := by
  unfold mlook at h
  cases hf : List.find? (fun p => k == p.1) l with
  | none => rw [hf] at h; cases h
  | some q =>
    rw [hf] at h
    have h1 := List.find?_some hf
    have h2 := List.mem_of_find?_eq_some hf
    have e : q.2 = t := by simpa using h
    have e1 : k = q.1 := by simpa using h1
    rw [e1, ← e]; exact h2
theorem mlook_none {l : List (Int × Int)} {k : Int} (h : mlook l k = none) : ∀ p ∈ l, p.1 ≠ k := fun p hp e => by
  unfold mlook at h
  cases hf : List.find? (fun p => k == p.1) l with
  | none =>
    have := List.find?_eq_none.1 hf p hp
    rw [e] at this; simp at this
  | some q => rw [hf] at h; cases h
theorem mlook_of {l : List (Int × Int)} (hn : (l.map (·.1)).Nodup) {k t : Int} (h : (k, t) ∈ l) : mlook l k = some t := by
  cases hl : mlook l k with
  | none => exact absurd rfl (mlook_none hl _ h)
  | some s =>
    have hm := mlook_mem hl
    clear hl
    induction l with
    | nil => simp at h
    | cons q l ih =>
      rw [List.map_cons, List.nodup_cons] at hn
      rcases List.mem_cons.1 h with e | h
      · rcases List.mem_cons.1 hm with e2 | hm
        · rw [← e] at e2; injection e2 with _ e2; rw [e2]
        · exact absurd (List.mem_map_of_mem (f := (·.1)) hm) (by rw [← e] at hn; exact hn.1)
      · rcases List.mem_cons.1 hm with e2 | hm
        · exact absurd (List.mem_map_of_mem (f := (·.1)) h) (by rw [← e2] at hn; exact hn.1)
        · exact ih hn.2 h hm
/-- A word was followed: what it was, what it is. -/
def Fol (M : Mem) (mv : List (Int × Int)) (u v : Int) : Prop := (stays M u = true ∧ v = u) ∨ (stays M u = false ∧ ∃ to, mlook mv (placeW u) = some to ∧ v = addrW to)
theorem Fol.app {M : Mem} {mv : List (Int × Int)} {u v : Int} (h : Fol M mv u v) (p : Int × Int) : Fol M (mv ++ [p]) u v := by
  rcases h with h | ⟨h1, to, h2, h3⟩
  · exact Or.inl h
  · exact Or.inr ⟨h1, to, mlook_app h2, h3⟩
theorem Fol.only {M : Mem} {mv : List (Int × Int)} {u v v' : Int} (h : Fol M mv u v) (h' : Fol M mv u v') : v = v' := by
  rcases h with ⟨h1, h2⟩ | ⟨h1, to, h2, h3⟩ <;> rcases h' with ⟨k1, k2⟩ | ⟨k1, to', k2, k3⟩
  · rw [h2, k2]
  · rw [h1] at k1; cases k1
  · rw [h1] at k1; cases k1
  · rw [h2] at k2; injection k2 with k2; rw [h3, k3, k2]
theorem getD_in {l : List Int} {P : Int → Prop} (h : ∀ x ∈ l, P x) {i : Nat} (hi : i < l.length) : P (l.getD i 0) := by
  rw [List.getD_eq_getElem?_getD, List.getElem?_eq_getElem hi]; exact h _ (List.getElem_mem hi)
end Go.Proofs.YtelhoppfidibiaaGreatDoor
