/- The walk of Memory.Get. -/
import Derived.Test.YtecbbbaafcoliaaDoorJWa07
import Derived.Test.YtecbbbaafcoliaaDoorJWa04
import Derived.Test.YtecbbbaafcoliaaDoorJWa02
import Derived.Deep.AppendLies
import Derived.Deep.RegionHeld3
import Derived.IntWalk
namespace Go.Proofs.YtecbbbaafcoliaaDoor
open Go.RowKit
set_option linter.unusedVariables false
set_option linter.unusedSimpArgs false

/-- Whatever find answers that is an error. -/
def FErr (M : Mem) (E : Nat → Addr) (p f : Int) (w : World) (e : Ending) (w' : World) : Prop := ∃ a, errC E (findC M p f) = errV a ∧ e = .returned (.tuple #[.int .i64 0, head0, errV a]) ∧ Ext w w'
theorem find_err (b o : Nat) (M : Mem) (S : Sls) (E : Nat → Addr) (p f : Int) (h0 : 0 ≤ p) (h1 : p ≤ 18446744073709551615) (w : World) (hM : RMem w b o M S) (hE : G3 E w) (h : findC M p f ≠ 0) :
    Calls Tryd.prog 51 #[.pointer (some ⟨b, o, none⟩), .int .u64 p, .int .i64 f] w (FErr M E p f w) := by
  by_cases hc : chk M = 0
  · cases hp : ptB (startsM M) p with
    | false =>
      have e : findC M p f = 5 := by unfold findC; rw [if_neg (by simp [hc]), if_pos hp]
      refine (find_pt b o M S E p f h0 h1 w hM hE hc hp).mono fun en w' ⟨he, hx⟩ => ⟨E 4, by rw [e]; rfl, he, hx⟩
    | true =>
      obtain ⟨hk, hz, x, hx, hpl, hin⟩ := pt_ob hp
      have hxw : wat M.W (placeW p).toNat = x.w := by
        rw [hpl, Int.toNat_natCast]
        rcases obM_of hx with g | g <;> exact g.w.symm
      by_cases hb : f < 0 ∨ hSize x.w ≤ f
      · have e : findC M p f = 2 := by unfold findC; rw [if_neg (by simp [hc]), if_neg (by simp [hp]), hxw, if_pos hb]
        refine (find_bound b o M S E p f h0 h1 w hM hE hc hk hz x hx hpl hin (by rcases hb with g | g; exact Or.inl g; by_cases g2 : f < 0; exact Or.inl g2; exact Or.inr ⟨g2, g⟩)).mono fun en w' ⟨he, hx⟩ => ⟨E 1, by rw [e]; rfl, he, hx⟩
      · exact absurd (by unfold findC; rw [if_neg (by simp [hc]), if_neg (by simp [hp]), hxw, if_neg hb]) h
  · have e : findC M p f = chk M := by unfold findC; rw [if_pos hc]
    refine (find_chk b o M S E p f w hM hE hc).mono fun en w' ⟨he, hx⟩ => ⟨_, by rw [e]; exact errC_pos E _ hc, by rw [he, errC_pos E _ hc], hx⟩
/-- Where find finds. -/
structure Found (M : Mem) (p f : Int) (x : Ob) (k : Nat) : Prop where
  chk : chk M = 0
  kind : kindW p = 0
  nz : p ≠ 0
  mem : x ∈ objsAll M
  place : placeW p = (x.a : Int)
  inst : inSt (startsM M) (x.a : Int) = true
  fld : f = (k : Int)
  lt : k < x.n
  size : (x.n : Int) = hSize x.w
  small : hSize x.w ≤ 4096
  word : x.w = wat M.W x.a
  into : x.a + 1 + k < M.W.length
theorem find_found {M : Mem} (hok : M.Ok) {p f : Int} (h : findC M p f = 0) : ∃ x k, Found M p f x k := by
  unfold findC at h
  by_cases hc : chk M = 0
  · rw [if_neg (by simp [hc])] at h
    cases hp : ptB (startsM M) p with
    | false => rw [hp] at h; simp at h
    | true =>
      rw [if_neg (by simp [hp])] at h
      obtain ⟨hk, hz, x, hx, hpl, hin⟩ := pt_ob hp
      obtain ⟨hs, -⟩ := good_parts (chk_zero hc).1
      have hob := obM_of hx
      have hxw : x.w = wat M.W x.a ∧ isHd x.w = true := by rcases hob with g | g <;> exact ⟨g.w, g.hd⟩
      have hsz := ((isHd_iff x.w).1 hxw.2).2.2
      have h00 := (hd_in x.w (by rw [hxw.1]; exact (wat_in hok _).1)).2.2.2.2.2.2
      rw [hpl, Int.toNat_natCast, ← hxw.1] at h
      by_cases hb : f < 0 ∨ hSize x.w ≤ f
      · rw [if_pos hb] at h; simp at h
      · have hn : (x.n : Int) = hSize x.w := by unfold Ob.n; omega
        have hto : x.a + 1 + x.n ≤ M.W.length := by
          have h1 := hs.h1; have h2 := hs.t2; have h3 := hs.p2; have h4 := hs.w; have h5 := hs.base; have h6 := hs.o2; have h7 := hs.t1; have h8 := hs.p1
          rcases hob with g | g
          · have := g.to; omega
          · have := g.to; omega
        refine ⟨x, f.toNat, hc, hk, hz, hx, hpl, hin, by omega, by omega, hn, hsz, hxw.1, by omega⟩
  · rw [if_pos hc] at h; exact absurd h hc
theorem Found.calls {M : Mem} {p f : Int} {x : Ob} {k : Nat} (h : Found M p f x k) (b o : Nat) (S : Sls) (E : Nat → Addr) (h0 : 0 ≤ p) (h1 : p ≤ 18446744073709551615) (w : World) (hM : RMem w b o M S) (hE : G3 E w) :
    Calls Tryd.prog 51 #[.pointer (some ⟨b, o, none⟩), .int .u64 p, .int .i64 f] w fun e w' => e = .returned (.tuple #[.int .i64 ((x.a + 1 + k : Nat) : Int), headV x.w, .nilIface]) ∧ Ext w w' := by
  have hl := hM.ok.lenW
  have hs := (good_parts (chk_zero h.chk).1).1
  have q1 := hs.h2; have q2 := hs.o2; have q3 := hs.w; have q4 := h.into; have q5 := h.size; have q6 := h.lt; have q7 := h.fld
  refine (find_yes b o M S E p f h0 h1 w hM hE h.chk h.kind h.nz x h.mem h.place h.inst (by omega) (by omega) (by omega) h.small).mono fun en w' ⟨he, hx⟩ => ⟨?_, hx⟩
  rw [he, q7]
  rfl
set_option maxRecDepth 100000 in
set_option maxHeartbeats 4000000 in
theorem get_no (b o : Nat) (M : Mem) (S : Sls) (E : Nat → Addr) (p f : Int) (h0 : 0 ≤ p) (h1 : p ≤ 18446744073709551615) (w : World) (hM : RMem w b o M S) (hE : G3 E w) (h : findC M p f ≠ 0) :
    Calls Tryd.prog 20 #[.pointer (some ⟨b, o, none⟩), .int .u64 p, .int .i64 f] w fun e w' => e = .returned (.tuple #[.int .u64 0, errC E (findC M p f)]) ∧ Ext w w' := by
  have HC := Lib.hid (find_err b o M S E p f h0 h1 w hM hE h)
  clear hM hE h
  go_enter Tryd.func20, Tryd.ntmps20
  go_wp2_with fail
  refine HC.out.mono ?_
  rintro e w1 ⟨a, ha, rfl, hq⟩
  have HA := Lib.hid ha
  have HX1 := Lib.hid hq
  clear ha hq
  go_wp2
  go_ret2
  exact ⟨by rw [HA.out]; rfl, by repeat (first | exact HX1.out | (refine Ext.set_ ?_ (by have := HX1.out.size; simp; omega) _) | (refine Ext.alloc_ ?_ _))⟩
set_option maxRecDepth 100000 in
set_option maxHeartbeats 4000000 in
theorem get_yes (b o : Nat) (M : Mem) (S : Sls) (E : Nat → Addr) (p f : Int) (h0 : 0 ≤ p) (h1 : p ≤ 18446744073709551615) (w : World) (hM : RMem w b o M S) (hE : G3 E w) (x : Ob) (k : Nat) (h : Found M p f x k) :
    Calls Tryd.prog 20 #[.pointer (some ⟨b, o, none⟩), .int .u64 p, .int .i64 f] w fun e w' => e = .returned (.tuple #[.int .u64 (wat M.W (x.a + 1 + k)), .nilIface]) ∧ Ext w w' := by
  have HC := Lib.hid (h.calls b o S E h0 h1 w hM hE)
  have hl := hM.ok.lenW
  obtain ⟨wb, wo, hWa, hcell⟩ := hM.rW (x.a + 1 + k) _ (wcells_at M.W (x.a + 1 + k) h.into)
  have n3 := hM.W
  rw [hWa] at n3
  have hi := h.into
  generalize hat : x.a + 1 + k = at_ at *
  have hltz : (at_ : Int) < (M.W.length : Int) := by omega
  have hltb := hM.lt
  have hltw := cell_lt hcell
  simp only at hltw
  have HV : Hid (M.W.getD at_ 0 = wat M.W at_) := rfl
  generalize M.W.getD at_ 0 = v at *
  clear hM hE h hWa
  go_enter Tryd.func20, Tryd.ntmps20
  go_wp2_with fail
  refine HC.out.mono ?_
  rintro e w1 ⟨he, hq⟩
  unfold headV at he
  subst he
  have m3 := hq.cell_ n3
  have mc := hq.cell_ hcell
  have hz1 := hq.size
  have hzb : b < w1.heap.size := by omega
  have hzw : wb < w1.heap.size := by omega
  have HX1 := Lib.hid hq
  clear hq
  go_wp2
  go_ret2
  exact ⟨by rw [← HV.out]; rfl, by repeat (first | exact HX1.out | (refine Ext.set_ ?_ (by have := HX1.out.size; simp; omega) _) | (refine Ext.alloc_ ?_ _))⟩
end Go.Proofs.YtecbbbaafcoliaaDoor
/- The walks of the document's answer for memories: its small functions. -/
namespace Go.Proofs.YtecbbbaafcoliaaDoor
open Go.RowKit
set_option linter.unusedVariables false
set_option linter.unusedSimpArgs false

/-- Where a word points to; -1: nowhere. -/
def ptsW (a : Int) : Int := if kindW a = 0 ∧ a ≠ 0 ∧ a / 4 ≤ 1099511627776 then placeW a else -1
/-- Objects as cells; where an address is among them. -/
def ocells (l : List Ob) : List Value := l.flatMap fun o => [Value.int .i64 (o.a : Int), Value.int .i64 (hKind o.w), Value.int .i64 (hAge o.w), Value.int .i64 (hSize o.w)]
def objAt (l : List Ob) (p : Int) : Int := ((l.findIdx? fun o => (o.a : Int) == p).map fun i => (i : Int)).getD (-1)
theorem ocells_at (l : List Ob) (i : Nat) (h : i < l.length) : (ocells l)[i * 4]? = some (.int .i64 (l[i].a : Int)) ∧ (ocells l)[i * 4 + 1]? = some (.int .i64 (hKind l[i].w)) ∧
    (ocells l)[i * 4 + 2]? = some (.int .i64 (hAge l[i].w)) ∧ (ocells l)[i * 4 + 3]? = some (.int .i64 (hSize l[i].w)) := by
  induction l generalizing i with
  | nil => simp at h
  | cons y l ih =>
    cases i with
    | zero => simp [ocells]
    | succ i =>
      have := ih i (by simpa using h)
      have e1 : (i + 1) * 4 = i * 4 + 4 := by omega
      rw [e1]
      simpa [ocells] using this
theorem ocells_len (l : List Ob) : (ocells l).length = l.length * 4 := by
  induction l with
  | nil => rfl
  | cons y l ih => simp only [ocells, List.flatMap_cons, List.length_append, List.length_cons, List.length_nil] at *; omega
theorem objAt_nonneg (l : List Ob) (p : Int) : decide (0 ≤ objAt l p) = inSt (l.map fun o => (o.a : Int)) p := by
  unfold objAt inSt
  induction l with
  | nil => simp
  | cons y l ih =>
    rw [List.findIdx?_cons]
    by_cases h : ((y.a : Int) == p) = true
    · have : p = (y.a : Int) := by simpa using (beq_iff_eq.1 h).symm
      subst this
      simp
    · rw [if_neg h]
      have h' : ¬ p = (y.a : Int) := fun e => h (by simp [e])
      simp only [List.map_cons, List.contains_cons]
      rw [show (p == (y.a : Int)) = false by simpa using h', Bool.false_or, ← ih]
      cases l.findIdx? fun o => (o.a : Int) == p with
      | none => rfl
      | some i => simp; omega

theorem points_any (a : Int) (h0 : 0 ≤ a) (h1 : a ≤ 18446744073709551615) (w : World) :
    Calls Tryd.prog 48 #[.int .u64 a] w fun e w' => e = .returned (.int .i64 (ptsW a)) ∧ w' = w := by
  by_cases hk : a % 4 = 0
  · by_cases hz : a = 0
    · subst hz
      have e : ptsW 0 = -1 := by decide
      rw [e]
      clear hk
      go_enter Tryd.func48, Tryd.ntmps48
      go_wp2
      go_ret
      exact ⟨rfl, rfl⟩
    · have k1 : (a % 4 != 0) = false := by simpa using hk
      have k2 : (a == 0) = false := by simpa using hz
      by_cases h3 : a / 4 ≤ 1099511627776
      · have e : ptsW a = a / 4 - 1 := by unfold ptsW kindW; rw [if_pos ⟨hk, hz, h3⟩]; rfl
        have h4 : ¬ 1099511627776 < a / 4 := by omega
        rw [e]
        clear hk hz
        go_enter Tryd.func48, Tryd.ntmps48
        go_wp2
        go_ret
        exact ⟨rfl, rfl⟩
      · have e : ptsW a = -1 := by unfold ptsW; rw [if_neg (fun h => h3 h.2.2)]
        have h4 : 1099511627776 < a / 4 := by omega
        rw [e]
        clear hk hz
        go_enter Tryd.func48, Tryd.ntmps48
        go_wp2
        go_ret
        exact ⟨rfl, rfl⟩
  · have k1 : (a % 4 != 0) = true := by simpa using hk
    have e : ptsW a = -1 := by unfold ptsW kindW; rw [if_neg (fun h => hk h.1)]
    rw [e]
    clear hk
    go_enter Tryd.func48, Tryd.ntmps48
    go_wp2
    go_ret
    exact ⟨rfl, rfl⟩

set_option maxRecDepth 100000 in
theorem objectAt_any (a : Option Addr) (c : Nat) (l : List Ob) (p : Int) (w : World) (hl : l.length ≤ 9223372036854775807) (hR : RSl w a (ocells l)) :
    Calls Tryd.prog 49 #[.slice a l.length c, .int .i64 p] w fun e w' => e = .returned (.int .i64 (objAt l p)) ∧ w' = w := by
  have HR := Lib.hid hR
  clear hR
  go_enter Tryd.func49, Tryd.ntmps49
  go_wp2
  go_loop [5] (fun i => ∃ k : Nat, k ≤ l.length ∧ i = .int .i64 (k : Int) ∧ Hid (∀ j (hj : j < l.length), j < k → ((l[j].a : Int) == p) = false)) (fun i => l.length - (intOf i).toNat)
  case atStart => exact ⟨0, Nat.zero_le _, rfl, fun j _ hj => absurd hj (Nat.not_lt_zero _)⟩
  case round =>
    obtain ⟨k, hk, rfl, hA⟩ := hrel
    by_cases hlt : k < l.length
    · obtain ⟨ob, oo, rfl, hc⟩ := HR.out _ _ (ocells_at l k hlt).1
      cases hq : ((l[k].a : Int) == p) with
      | true =>
        have HQ := Lib.hid hq
        go_wp2
        go_ret
        refine ⟨?_, rfl⟩
        unfold objAt
        have : l.findIdx? (fun o => (o.a : Int) == p) = some k := List.findIdx?_eq_some_iff_getElem.2 ⟨hlt, HQ.out, fun j hj => by
          have := hA.out j (by omega) hj; simpa using this⟩
        rw [this]; rfl
      | false =>
        have HQ := Lib.hid hq
        go_wp2
        refine ⟨⟨k + 1, by omega, by go_num, fun j hj1 hj2 => ?_⟩, by simp [intOf]; omega⟩
        by_cases e : j = k
        · subst e; exact HQ.out
        · exact hA.out j hj1 (by omega)
    · go_wp2
      go_ret
      refine ⟨?_, rfl⟩
      unfold objAt
      have : l.findIdx? (fun o => (o.a : Int) == p) = none := List.findIdx?_eq_none_iff.2 fun x hx => by
        obtain ⟨j, hj, rfl⟩ := List.mem_iff_getElem.1 hx
        exact hA.out j hj (by omega)
      rw [this]; rfl
end Go.Proofs.YtecbbbaafcoliaaDoor
/- The walks of the document's answer for memories: fields. -/
namespace Go.Proofs.YtecbbbaafcoliaaDoor
open Go.RowKit
set_option linter.unusedVariables false
set_option linter.unusedSimpArgs false

def ats (l : List Ob) : List Int := l.map fun o => (o.a : Int)
theorem fieldOK_any (a : Int) (h0 : 0 ≤ a) (h1 : a ≤ 18446744073709551615) (ad : Option Addr) (c : Nat) (l : List Ob) (w : World) (hl : l.length ≤ 9223372036854775807) (hR : RSl w ad (ocells l)) (hlt : ∀ o ∈ l, (o.a : Int) < 1099511627776) :
    Calls Tryd.prog 87 #[.int .u64 a, .slice ad l.length c] w fun e w' => e = .returned (.bool (fldB (ats l) a)) ∧ w' = w := by
  have HR := Lib.hid hR
  have HLT := Lib.hid hlt
  clear hR hlt
  by_cases hk : a % 4 = 0
  · have k1 : (a % 4 == 0) = true := by simpa using hk
    by_cases hz : a = 0
    · have k2 : (a == 0) = true := by simpa using hz
      have e : fldB (ats l) a = true := by unfold fldB kindW; rw [if_pos hk, k2]; rfl
      rw [e]
      clear hk hz
      go_enter Tryd.func87, Tryd.ntmps87
      go_wp2
      go_ret
      exact ⟨rfl, rfl⟩
    · have k2 : (a == 0) = false := by simpa using hz
      have e : fldB (ats l) a = inSt (ats l) (placeW a) := by unfold fldB; rw [if_pos (show kindW a = 0 from hk), k2]; rfl
      by_cases h3 : a / 4 ≤ 1099511627776
      · have hpt : ∀ w, Calls Tryd.prog 48 #[.int .u64 a] w fun e w' => e = .returned (.int .i64 (placeW a)) ∧ w' = w := fun w => by
          have := points_any a h0 h1 w
          rw [show ptsW a = placeW a by unfold ptsW kindW; rw [if_pos ⟨hk, hz, h3⟩]] at this
          exact this
        have hob : ∀ w, RSl w ad (ocells l) → Calls Tryd.prog 49 #[.slice ad l.length c, .int .i64 (placeW a)] w fun e w' => e = .returned (.int .i64 (objAt l (placeW a))) ∧ w' = w := fun w hr => objectAt_any ad c l (placeW a) w hl hr
        have hge : 0 ≤ placeW a := by unfold placeW; omega
        rw [e, ats, ← objAt_nonneg]
        have HPT := Lib.hid hpt
        have HOB := Lib.hid hob
        clear hk hz hpt hob e
        go_enter Tryd.func87, Tryd.ntmps87
        go_wp2_with (first
          | (go_at_call 48; refine (HPT.out _).mono ?_; rintro e w' ⟨rfl, rfl⟩)
          | (go_at_call 49; refine (HOB.out _ HR.out).mono ?_; rintro e w' ⟨rfl, rfl⟩))
        go_ret
        exact ⟨rfl, rfl⟩
      · have hpt : ∀ w, Calls Tryd.prog 48 #[.int .u64 a] w fun e w' => e = .returned (.int .i64 (-1)) ∧ w' = w := fun w => by
          have := points_any a h0 h1 w
          rw [show ptsW a = -1 by unfold ptsW; rw [if_neg (fun h => h3 h.2.2)]] at this
          exact this
        have e2 : inSt (ats l) (placeW a) = false := by
          unfold inSt ats
          rw [List.contains_eq_any_beq, List.any_eq_false]
          intro x hx
          obtain ⟨o, ho, rfl⟩ := List.mem_map.1 hx
          have := HLT.out o ho
          unfold placeW
          simp; omega
        rw [e, e2]
        have HPT := Lib.hid hpt
        clear hk hz hpt e e2
        go_enter Tryd.func87, Tryd.ntmps87
        go_wp2_with (first
          | (go_at_call 48; refine (HPT.out _).mono ?_; rintro e w' ⟨rfl, rfl⟩))
        go_ret
        exact ⟨rfl, rfl⟩
  · have k1 : (a % 4 == 0) = false := by simpa using hk
    by_cases hk1 : a % 4 = 1
    · have k2 : (a % 4 == 1) = true := by simpa using hk1
      have e : fldB (ats l) a = true := by unfold fldB kindW; rw [if_neg hk, if_pos hk1]
      rw [e]
      clear hk hk1
      go_enter Tryd.func87, Tryd.ntmps87
      go_wp2
      go_ret
      exact ⟨rfl, rfl⟩
    · have k2 : (a % 4 == 1) = false := by simpa using hk1
      by_cases hk2 : a % 4 = 2
      · have k3 : (a % 4 == 2) = true := by simpa using hk2
        have e : fldB (ats l) a = decide (a / 4 ≤ 2) := by unfold fldB kindW; rw [if_neg hk, if_neg hk1, if_pos hk2]
        rw [e]
        clear hk hk1 hk2
        go_enter Tryd.func87, Tryd.ntmps87
        go_wp2
        go_ret
        exact ⟨rfl, rfl⟩
      · have k3 : (a % 4 == 2) = false := by simpa using hk2
        have e : fldB (ats l) a = false := by unfold fldB kindW; rw [if_neg hk, if_neg hk1, if_neg hk2]
        rw [e]
        clear hk hk1 hk2
        go_enter Tryd.func87, Tryd.ntmps87
        go_wp2
        go_ret
        exact ⟨rfl, rfl⟩

set_option maxRecDepth 100000 in
theorem fieldsOK_any (za : Option Addr) (zc : Nat) (zs : List Int) (hz : zs.length ≤ 9223372036854775807) (hb : ∀ x ∈ zs, 0 ≤ x ∧ x ≤ 18446744073709551615) (ad : Option Addr) (c : Nat) (l : List Ob) (w : World) (hl : l.length ≤ 9223372036854775807)
    (hZ : RSl w za (wcells zs)) (hR : RSl w ad (ocells l)) (hlt : ∀ o ∈ l, (o.a : Int) < 1099511627776) :
    Calls Tryd.prog 47 #[.slice za zs.length zc, .slice ad l.length c] w fun e w' => e = .returned (.bool (fieldsB (ats l) zs)) ∧ w' = w := by
  have HR := Lib.hid hR
  have HZ := Lib.hid hZ
  have HB := Lib.hid hb
  have HLT := Lib.hid hlt
  clear hR hZ hb hlt
  go_enter Tryd.func47, Tryd.ntmps47
  go_wp2
  go_loop [5] (fun i => ∃ k : Nat, k ≤ zs.length ∧ i = .int .i64 (k : Int) ∧ Hid (∀ j (hj : j < zs.length), j < k → fldB (ats l) zs[j] = true)) (fun i => zs.length - (intOf i).toNat)
  case atStart => exact ⟨0, Nat.zero_le _, rfl, fun j _ hj => absurd hj (Nat.not_lt_zero _)⟩
  case round =>
    obtain ⟨k, hk, rfl, hA⟩ := hrel
    by_cases hltk : k < zs.length
    · obtain ⟨zb, zo, rfl, hc⟩ := HZ.out k (.int .u64 zs[k]) (by simp [wcells, hltk])
      have hin := HB.out zs[k] (List.getElem_mem hltk)
      have hf := fun W hr => fieldOK_any zs[k] hin.1 hin.2 ad c l W hl hr HLT.out
      have HF := Lib.hid hf
      clear hf
      cases hq : fldB (ats l) zs[k] with
      | true =>
        have HQ := Lib.hid hq
        go_wp2_with (go_at_call 87; refine (HF.out _ HR.out).mono ?_; rintro e w' ⟨rfl, rfl⟩)
        refine ⟨⟨k + 1, by omega, by go_num, fun j hj1 hj2 => ?_⟩, by simp [intOf]; omega⟩
        by_cases e : j = k
        · subst e; exact HQ.out
        · exact hA.out j hj1 (by omega)
      | false =>
        have HQ := Lib.hid hq
        go_wp2_with (go_at_call 87; refine (HF.out _ HR.out).mono ?_; rintro e w' ⟨rfl, rfl⟩)
        go_ret
        refine ⟨?_, rfl⟩
        have : fieldsB (ats l) zs = false := by
          unfold fieldsB
          rw [List.all_eq_false]
          exact ⟨_, List.getElem_mem hltk, by rw [HQ.out]; simp⟩
        rw [this]; rfl
    · go_wp2
      go_ret
      refine ⟨?_, rfl⟩
      have : fieldsB (ats l) zs = true := by
        unfold fieldsB
        rw [List.all_eq_true]
        intro x hx
        obtain ⟨j, hj, rfl⟩ := List.mem_iff_getElem.1 hx
        exact hA.out j hj (by omega)
      rw [this]; rfl
end Go.Proofs.YtecbbbaafcoliaaDoor
/- The walks of the document's answer for words. -/
namespace Go.Proofs.YtecbbbaafcoliaaDoor
open Go.RowKit
set_option linter.unusedVariables false
set_option linter.unusedSimpArgs false

theorem kIntOf_any (a : Int) (h0 : 0 ≤ a) (h1 : a ≤ 18446744073709551615) (w : World) :
    Calls Tryd.prog 94 #[.int .u64 a] w fun e w' => e = .returned (.int .i64 (numW a)) ∧ w' = w := by
  rw [← num_bits a h0 h1]
  go_enter Tryd.func94, Tryd.ntmps94
  go_wp2
  go_ret
  exact ⟨rfl, rfl⟩
theorem constK_bits (a : Int) : IntKind.u64.wrap (IntKind.u64.wrap (IntKind.u64.wrap a * 4) + 2) = constW a := by
  rw [IntKind.wrap_u64, IntKind.wrap_u64, IntKind.wrap_u64]; unfold constW; omega
theorem kHeadOf_yes (a : Int) (h0 : 0 ≤ a) (h1 : a ≤ 18446744073709551615) (h : isHd a = true) (w : World) :
    Calls Tryd.prog 88 #[.int .u64 a] w fun e w' => e = .returned (.tuple #[.int .i64 (hKind a), .int .i64 (hAge a), .int .i64 (hMark a), .int .i64 (hSize a), .bool true]) ∧ w' = w := by
  obtain ⟨a1, a2, a3⟩ := (isHd_iff a).1 h
  clear h
  go_enter Tryd.func88, Tryd.ntmps88
  go_wp2
  exact bodyPost_ret (v := .tuple #[.int .i64 (hKind a), .int .i64 (hAge a), .int .i64 (hMark a), .int .i64 (hSize a), .bool true]) (by simp [results, Tryd.results88, go_sem, hKind, hAge, hMark, hSize]) rfl ⟨rfl, rfl⟩
theorem kHeadOf_no (a : Int) (h0 : 0 ≤ a) (h1 : a ≤ 18446744073709551615) (h : isHd a = false) (w : World) :
    Calls Tryd.prog 88 #[.int .u64 a] w fun e w' => e = .returned (.tuple #[.int .i64 0, .int .i64 0, .int .i64 0, .int .i64 0, .bool false]) ∧ w' = w := by
  have hn : ¬ (a % 4 = 3 ∧ a / 32768 % 2 = 0 ∧ a / 65536 ≤ 4096) := by rw [← isHd_iff, h]; simp
  clear h
  by_cases a1 : a % 4 = 3
  · by_cases a2 : a / 32768 % 2 = 0
    · have a3 : decide (a / 65536 ≤ 4096) = false := by simp; omega
      clear hn
      go_enter Tryd.func88, Tryd.ntmps88
      go_wp2
      exact bodyPost_ret (v := .tuple #[.int .i64 0, .int .i64 0, .int .i64 0, .int .i64 0, .bool false]) (by simp [results, Tryd.results88, go_sem]) rfl ⟨rfl, rfl⟩
    · have b2 : (a / 32768 % 2 == 0) = false := by simpa using a2
      clear hn a2
      go_enter Tryd.func88, Tryd.ntmps88
      go_wp2
      exact bodyPost_ret (v := .tuple #[.int .i64 0, .int .i64 0, .int .i64 0, .int .i64 0, .bool false]) (by simp [results, Tryd.results88, go_sem]) rfl ⟨rfl, rfl⟩
  · have b1 : (a % 4 == 3) = false := by simpa using a1
    clear hn a1
    go_enter Tryd.func88, Tryd.ntmps88
    go_wp2
    exact bodyPost_ret (v := .tuple #[.int .i64 0, .int .i64 0, .int .i64 0, .int .i64 0, .bool false]) (by simp [results, Tryd.results88, go_sem]) rfl ⟨rfl, rfl⟩
end Go.Proofs.YtecbbbaafcoliaaDoor
/- The walk of the document's answer for the objects of a part. -/
namespace Go.Proofs.YtecbbbaafcoliaaDoor
open Go.RowKit
set_option linter.unusedVariables false
set_option linter.unusedSimpArgs false

def markB (o : Ob) : Bool := hMark o.w == 0
/-- The objects of a part, as the document has them. -/
def partK (W : List Int) (a to : Nat) : List Ob × Bool := if ((part W a to).2 && (part W a to).1.all markB) = true then ((part W a to).1, true) else ([], false)
theorem infoObj : (Tryd.prog.info? 46).map (fun i => (i.zero, i.size, i.bytes)) = some (some (.agg #[.int .i64 0, .int .i64 0, .int .i64 0, .int .i64 0]), 4, 32) := by kernel_rfl
theorem undObjs : Tryd.prog.underlying 42 = some (.slice 46) := by kernel_rfl
/-- A slice of objects that the call owns. -/
def OwnObjs (w : World) (base : Nat) (a : Option Addr) (c : Nat) (l : List Ob) : Prop := w.ownsRow base 46 4 (.slice a l.length c) l.length (ocells l)
def ObjectsPost (w : World) (p : List Ob × Bool) (e : Ending) (w' : World) : Prop :=
  ∃ a c, e = .returned (.tuple #[.slice a p.1.length c, .bool p.2]) ∧ OwnObjs w' w.heap.size a c p.1 ∧ Ext w w'
theorem ocells_snoc (v : List Ob) (x : Ob) : ocells (v ++ [x]) = ocells v ++ [Value.int .i64 (x.a : Int), Value.int .i64 (hKind x.w), Value.int .i64 (hAge x.w), Value.int .i64 (hSize x.w)] := by simp [ocells]
theorem rsl_block {w : World} {B : Nat} {cs : List Value} {t : TypeId} {fr : Nat × Nat} (hb : w.heap[B]? = some (.cells cs.toArray t fr)) : RSl w (some ⟨B, 0, none⟩) cs := fun j u hu => ⟨B, 0, rfl, by
  rw [Nat.zero_add, cell_of_row w B j _ t fr hb]; simpa using hu⟩
theorem part_len (W : List Int) : ∀ f a to, (objs W to f a).1.length ≤ f
  | 0, _, _ => by simp [objs]
  | f + 1, a, to => by
    unfold objs
    split
    · split
      · have := part_len W f (a + 1 + (hSize (wat W a)).toNat) to
        simp; exact this
      · simp
    · simp

set_option maxRecDepth 100000 in
set_option maxHeartbeats 4000000 in
theorem kObjects_walk (b o : Nat) (M : Mem) (S : Sls) (w : World) (hM : RMem w b o M S) (a to : Nat) (hto : to ≤ M.W.length) (hlen : M.W.length ≤ 196608) (hat : a ≤ to) :
    Calls Tryd.prog 50 #[.pointer (some ⟨b, o, none⟩), .int .i64 (a : Int), .int .i64 (to : Int)] w (ObjectsPost w (partK M.W a to)) := by
  obtain ⟨i0, hi, hz0, hz1, hz2⟩ := info_parts infoObj
  have HM := Lib.hid hM
  have hltb := hM.lt
  clear hM
  go_enter Tryd.func50, Tryd.ntmps50
  go_wp2
  go_loopw [1, 8] (fun i out wr => ∃ (k : Nat) (v : List Ob) (oa : Option Addr) (oc : Nat), a ≤ k ∧ k ≤ to ∧ i = .int .i64 (k : Int) ∧ out = .slice oa v.length oc ∧ Hid (OwnObjs wr w.heap.size oa oc v) ∧
      Hid (part M.W a to = (v ++ (part M.W k to).1, (part M.W k to).2)) ∧ Hid (v.all markB = true) ∧ Hid (Ext w wr) ∧ v.length ≤ k)
    (fun i _ _ => to - (intOf i).toNat)
  case atStart => exact ⟨a, [], none, 0, Nat.le_refl _, hat, rfl, rfl, World.ownsRow_nil _ _ _ _, rfl, rfl, Ext.refl w, Nat.zero_le _⟩
  case round =>
    obtain ⟨k, v, oa, oc, hk1, hk2, rfl, rfl, hO, hP, hA, hE, hvk⟩ := hrel
    by_cases hlt : k < to
    · have hkW : k < M.W.length := by omega
      have hMr : RMem wr b o M S := HM.out.ext hE.out
      have c_W := hMr.W
      obtain ⟨wb, wo, hWa, hc⟩ := hMr.rW k _ (wcells_at M.W k hkW)
      rw [hWa] at c_W
      obtain ⟨hq0, hq1⟩ := wat_in HM.out.ok k
      change wr.cell? ⟨wb, wo + k, none⟩ = some (.int .u64 (wat M.W k)) at hc
      have hsz : hSize (wat M.W k) ≤ 281474976710655 ∧ 0 ≤ hSize (wat M.W k) := by unfold hSize; omega
      obtain ⟨hsz1, hsz0⟩ := hsz
      clear hMr hWa
      cases hd : isHd (wat M.W k) with
      | false =>
        have HB := Lib.hid (part_bad M.W k to hlt (by rw [hd]; rfl))
        go_wp2_with (go_at_call 88; refine (kHeadOf_no _ hq0 hq1 hd _).mono ?_; rintro e w1 ⟨rfl, rfl⟩)
        go_ret2
        have hp : partK M.W a to = ([], false) := by unfold partK; rw [hP.out, HB.out]; simp
        rw [hp]
        exact ⟨none, 0, rfl, World.ownsRow_nil _ _ _ _, hE.out⟩
      | true =>
        cases hm : (hMark (wat M.W k) != 0) with
        | true =>
          go_wp2_with (go_at_call 88; refine (kHeadOf_yes _ hq0 hq1 hd _).mono ?_; rintro e w1 ⟨rfl, rfl⟩)
          go_ret2
          have hm0 : (hMark (wat M.W k) == 0) = false := by simpa using hm
          have hp : partK M.W a to = ([], false) := by
            unfold partK
            rw [hP.out]
            by_cases hfit : k + 1 + (hSize (wat M.W k)).toNat ≤ to
            · rw [part_next M.W k to hd hfit]; simp [markB, hm0]
            · rw [part_bad M.W k to hlt (by rw [hd]; simp; omega)]; simp
          rw [hp]
          exact ⟨none, 0, rfl, World.ownsRow_nil _ _ _ _, hE.out⟩
        | false =>
          by_cases hfit : (k : Int) + 1 + hSize (wat M.W k) ≤ (to : Int)
          · have HB := Lib.hid (part_next M.W k to hd (by omega))
            have HM0 : Hid ((hMark (wat M.W k) == 0) = true) := by simpa [Hid] using hm
            have hes := hE.out.size
            go_wp2_with (first
              | (go_at_call 88; refine (kHeadOf_yes _ hq0 hq1 hd _).mono ?_; rintro e w1 ⟨rfl, rfl⟩)
              | (at_builtin; (refine wpList_append_src rfl _ _ 42 rfl w.heap.size 46 i0 (.agg #[.int .i64 0, .int .i64 0, .int .i64 0, .int .i64 0]) 4 32 undObjs hi hz0 hz1 hz2 rfl (by decide) _ v.length (ocells v) rfl (hO.out.alloc _) (some ⟨w1.heap.size, 0, none⟩) 1 1 [.int .i64 (k : Int), .int .i64 (hKind (wat M.W k)), .int .i64 (hAge (wat M.W k)), .int .i64 (hSize (wat M.W k))] rfl (fun h => by cases h) (Nat.le_refl _) rfl ?c1 ?c2 ?c3 ?c4 ?c5 ?_)))
            case c1 => exact rsl_block (heap_alloc_new w1 _)
            case c2 => intro u hu; simp at hu; rcases hu with rfl | rfl | rfl | rfl <;> rfl
            case c3 => unfold maxLen; omega
            case c4 => omega
            case c5 => simp; omega
            · intro a' c' w2 hown hgrow hat'
              have HOW := Lib.hid hown
              have HGR := Lib.hid hgrow
              have HAT := Lib.hid hat'
              clear hown hgrow hat'
              go_wp2
              go_roundw
              case rel =>
                refine ⟨k + 1 + (hSize (wat M.W k)).toNat, v ++ [⟨k, wat M.W k⟩], a', c', by omega, by omega, by go_num, ?_, ?_, ?_, ?_, ?_, ?_⟩
                · simp
                · show OwnObjs _ _ _ _ _
                  unfold OwnObjs
                  rw [ocells_snoc, List.length_append]
                  exact HOW.out
                · show part M.W a to = _
                  rw [hP.out, HB.out]; simp
                · show (v ++ [_]).all markB = true
                  simp [hA.out]; exact HM0.out
                · refine Below.grown (Ext.alloc_ hE.out _) HGR.out (by simp; omega) ?_
                  intro j hj
                  exact (hO.out.lt j hj).1
                · simp; omega
              case measure => simp [intOf]; omega
          · have HB := Lib.hid (part_bad M.W k to hlt (by rw [hd]; simp; omega))
            go_wp2_with (go_at_call 88; refine (kHeadOf_yes _ hq0 hq1 hd _).mono ?_; rintro e w1 ⟨rfl, rfl⟩)
            go_ret2
            have hp : partK M.W a to = ([], false) := by unfold partK; rw [hP.out, HB.out]; simp
            rw [hp]
            exact ⟨none, 0, rfl, World.ownsRow_nil _ _ _ _, hE.out⟩
    · have HD := Lib.hid (part_done M.W k to (by omega))
      go_wp2
      go_ret2
      have hp : partK M.W a to = (v, true) := by unfold partK; rw [hP.out, HD.out]; simp [hA.out]
      rw [hp]
      exact ⟨oa, oc, rfl, hO.out, hE.out⟩
end Go.Proofs.YtecbbbaafcoliaaDoor
/- The walk of the document's answer for all objects of a memory. -/
namespace Go.Proofs.YtecbbbaafcoliaaDoor
open Go.RowKit
set_option linter.unusedVariables false
set_option linter.unusedSimpArgs false

def kN (M : Mem) : List Ob × Bool := partK M.W M.base (M.base + M.top.toNat)
def kO (M : Mem) : List Ob × Bool := partK M.W (2 * M.half).toNat ((2 * M.half).toNat + M.oldTop.toNat)
def AllPost (w : World) (M : Mem) (e : Ending) (w' : World) : Prop :=
  ∃ a c, e = .returned (.tuple #[.slice a ((kN M).1 ++ (kO M).1).length c, .bool ((kN M).2 && (kO M).2)]) ∧ OwnObjs w' w.heap.size a c ((kN M).1 ++ (kO M).1) ∧ Ext w w'
theorem partK_len (W : List Int) (a to : Nat) : (partK W a to).1.length ≤ to - a := by
  unfold partK
  split
  · exact part_len W _ _ _
  · simp
theorem own_nil {w : World} {base : Nat} {a : Option Addr} {c : Nat} {l : List Ob} (h : OwnObjs w base a c l) : a = none → c = 0 := fun e => by
  subst e
  rcases h.2 with ⟨h1, _⟩ | ⟨g, cap, cur, h1, _⟩
  · injection h1
  · cases h1
theorem own_cap {w : World} {base : Nat} {a : Option Addr} {c : Nat} {l : List Ob} (h : OwnObjs w base a c l) : l.length ≤ c := by
  rcases h.2 with ⟨h1, h2⟩ | ⟨g, cap, cur, h1, _, _, h2, _⟩
  · omega
  · injection h1 with _ _ h1; omega
theorem own_rsl {w : World} {base : Nat} {a : Option Addr} {c : Nat} {l : List Ob} (h : OwnObjs w base a c l) : RSl w a (ocells l) := by
  rcases h.2 with ⟨h1, h2⟩ | ⟨g, cap, cur, h1, _, hg, _, _, _, ht⟩
  · rw [List.length_eq_zero_iff.1 h2]; exact RSl.nil _ _
  · injection h1 with h1 _ _
    subst h1
    intro j u hu
    refine ⟨g, 0, rfl, ?_⟩
    rw [Nat.zero_add, cell_of_row w g j cur _ _ hg]
    rw [← ht] at hu
    rw [List.getElem?_take] at hu
    split at hu
    · simpa using hu
    · cases hu
theorem ocells_app (u v : List Ob) : ocells (u ++ v) = ocells u ++ ocells v := by simp [ocells]
theorem ocells_one (l : List Ob) : ∀ u ∈ ocells l, u.oneCell' = true := fun u hu => by
  obtain ⟨o, _, ho⟩ := List.mem_flatMap.1 hu
  simp at ho
  rcases ho with rfl | rfl | rfl | rfl <;> rfl

set_option maxRecDepth 100000 in
set_option maxHeartbeats 4000000 in
theorem kAll_walk (b o : Nat) (M : Mem) (S : Sls) (hs : Shp M) (w : World) (hM : RMem w b o M S) :
    Calls Tryd.prog 19 #[.pointer (some ⟨b, o, none⟩)] w (AllPost w M) := by
  obtain ⟨i0, hi, hz0, hz1, hz2⟩ := info_parts infoObj
  obtain ⟨hb, b0, b1⟩ := hs.base
  have s1 := hs.h1
  have s2 := hs.h2
  have s3 := hs.t1
  have s4 := hs.t2
  have s5 := hs.p1
  have s6 := hs.p2
  have s7 := hs.o2
  have s8 := hs.w
  have c1 := hM.half
  have c2 := hM.top
  have c3 := hM.oldTop
  have c4 := hM.used
  obtain ⟨t, ht⟩ : ∃ t : Nat, M.top = t := ⟨M.top.toNat, by omega⟩
  obtain ⟨p, hp⟩ : ∃ p : Nat, M.oldTop = p := ⟨M.oldTop.toNat, by omega⟩
  obtain ⟨h, hh⟩ : ∃ h : Nat, M.half = h := ⟨M.half.toNat, by omega⟩
  obtain ⟨N1, hN1⟩ : ∃ N1 : Nat, N1 = M.base + t := ⟨_, rfl⟩
  obtain ⟨N2, hN2⟩ : ∃ N2 : Nat, N2 = 2 * h := ⟨_, rfl⟩
  obtain ⟨N3, hN3⟩ : ∃ N3 : Nat, N3 = 2 * h + p := ⟨_, rfl⟩
  have eN : kN M = partK M.W M.base N1 := by unfold kN; rw [ht, hN1]; rfl
  have eO : kO M = partK M.W N2 N3 := by unfold kO; rw [hp, hh, hN2, hN3]; rfl
  rw [hh] at c1
  rw [ht] at c2
  rw [hp] at c3
  have w0 : IntKind.i64.wrap (M.used * (h : Int)) = (M.base : Int) := by rw [← hh, IntWalk.i64_in _ (by omega)]; exact hb
  have w1 : IntKind.i64.wrap ((M.base : Int) + (t : Int)) = (N1 : Int) := by rw [IntWalk.i64_in _ (by omega)]; omega
  have w2 : IntKind.i64.wrap (2 * (h : Int)) = (N2 : Int) := by rw [IntWalk.i64_in _ (by omega)]; omega
  have w3 : IntKind.i64.wrap ((N2 : Int) + (p : Int)) = (N3 : Int) := by rw [IntWalk.i64_in _ (by omega)]; omega
  have E1 : Hid (M.half = (h : Int)) := hh
  have E3 : Hid (M.oldTop = (p : Int)) := hp
  have HM := Lib.hid hM
  have HN := Lib.hid eN
  have HO := Lib.hid eO
  have k1 : M.base ≤ N1 ∧ N1 ≤ M.W.length := by omega
  have k2 : N2 ≤ N3 ∧ N3 ≤ M.W.length := by omega
  have k3 : M.W.length ≤ 196608 := by omega
  obtain ⟨k4, k5⟩ := k1
  obtain ⟨k6, k7⟩ := k2
  have l1 := partK_len M.W M.base N1
  have l2 := partK_len M.W N2 N3
  have hltb := hM.lt
  clear hM hs eN eO s8 hb ht hp hh hN1 hN2 hN3 b0 b1 s1 s2 s3 s4 s5 s6 s7
  go_enter Tryd.func19, Tryd.ntmps19
  go_wp2
  refine wp_region_held_drew (S := fun W => W.cell? ⟨b, o + 4, none⟩ = some (.int .i64 M.used) ∧ W.cell? ⟨b, o, none⟩ = some (.int .i64 (h : Int)) ∧ W.cell? ⟨b, o + 5, none⟩ = some (.int .i64 (t : Int))) (by kernel_rfl) ?_ (fun hHeld => ?_)
  · exact ⟨c4, c1, c2⟩
  refine wpAnyH_take (i := 0) (oi := ⟨some 9, _, _, _, _, _⟩) (v := ?_) rfl (by kernel_rfl) (by kernel_rfl) (by kernel_rfl) (fun _ _ _ h => h) (Or.inl ⟨by rfl, ?_⟩) (by assumption) ?_
  rotate_left
  · (intro w hSw; (try dsimp only at hSw); go_simp; try with_reducible rfl)
  try simp only [Act.put, List.setIfInBounds_toArray, List.set_cons_zero, List.set_cons_succ]
  refine wpAnyH_take (i := 1) (oi := ⟨some 10, _, _, _, _, _⟩) (v := ?_) rfl (by kernel_rfl) (by kernel_rfl) (by kernel_rfl) (fun _ _ _ h => h) (Or.inl ⟨by rfl, ?_⟩) (by assumption) ?_
  rotate_left
  · (intro w hSw; (try dsimp only at hSw); go_simp; try with_reducible rfl)
  try simp only [Act.put, List.setIfInBounds_toArray, List.set_cons_zero, List.set_cons_succ]
  refine wpAnyH_take (i := 2) (oi := ⟨some 11, _, _, _, _, _⟩) (v := ?_) rfl (by kernel_rfl) (by kernel_rfl) (by kernel_rfl) (fun _ _ _ h => h) (Or.inl ⟨by rfl, ?_⟩) (by assumption) ?_
  rotate_left
  · (intro w hSw; (try dsimp only at hSw); go_simp; try with_reducible rfl)
  try simp only [Act.put, List.setIfInBounds_toArray, List.set_cons_zero, List.set_cons_succ]
  refine wpAnyH_take (i := 3) (oi := ⟨some 12, _, _, _, _, _⟩) (v := ?_) rfl (by kernel_rfl) (by kernel_rfl) (by kernel_rfl) (fun _ _ _ h => h) (Or.inl ⟨by rfl, ?_⟩) (by assumption) ?_
  rotate_left
  · (intro w hSw; (try dsimp only at hSw); go_simp; try with_reducible rfl)
  try simp only [Act.put, List.setIfInBounds_toArray, List.set_cons_zero, List.set_cons_succ]
  refine wpAnyH_take (i := 4) (oi := ⟨some 13, _, _, _, _, _⟩) (v := ?_) rfl (by kernel_rfl) (by kernel_rfl) (by kernel_rfl) (fun _ _ _ h => h) (Or.inl ⟨by rfl, ?_⟩) (by assumption) ?_
  rotate_left
  · (intro w hSw; (try dsimp only at hSw); go_simp; try with_reducible rfl)
  try simp only [Act.put, List.setIfInBounds_toArray, List.set_cons_zero, List.set_cons_succ]
  refine wpAnyH_take (i := 5) (oi := ⟨some 14, _, _, _, _, _⟩) (v := ?_) rfl (by kernel_rfl) (by kernel_rfl) (by kernel_rfl) (fun _ _ _ h => h) (Or.inl ⟨by rfl, ?_⟩) (by assumption) ?_
  rotate_left
  · (intro w hSw; (try dsimp only at hSw); go_simp; try with_reducible rfl)
  try simp only [Act.put, List.setIfInBounds_toArray, List.set_cons_zero, List.set_cons_succ]
  refine wpAnyH_take (i := 6) (oi := ⟨some 15, _, _, _, _, _⟩) (v := ?_) rfl (by kernel_rfl) (by kernel_rfl) (by kernel_rfl) (fun _ _ _ h => h) (Or.inl ⟨by rfl, ?_⟩) (by assumption) ?_
  rotate_left
  · (intro w hSw; (try dsimp only at hSw); go_simp; try with_reducible rfl)
  try simp only [Act.put, List.setIfInBounds_toArray, List.set_cons_zero, List.set_cons_succ]
  refine wpAnyH_take (i := 7) (oi := ⟨some 16, _, _, _, _, _⟩) (v := ?_) rfl (by kernel_rfl) (by kernel_rfl) (by kernel_rfl) (fun _ _ _ h => h) (Or.inl ⟨by rfl, ?_⟩) (by assumption) ?_
  rotate_left
  · (intro w hSw; (try dsimp only at hSw); go_simp; try with_reducible rfl)
  try simp only [Act.put, List.setIfInBounds_toArray, List.set_cons_zero, List.set_cons_succ]
  refine wpAnyH_take (i := 8) (oi := ⟨some 17, _, _, _, _, _⟩) (v := ?_) rfl (by kernel_rfl) (by kernel_rfl) (by kernel_rfl) (fun _ _ _ h => h) (Or.inl ⟨by rfl, ?_⟩) (by assumption) ?_
  rotate_left
  · (intro w hSw; (try dsimp only at hSw); go_simp; try with_reducible rfl)
  try simp only [Act.put, List.setIfInBounds_toArray, List.set_cons_zero, List.set_cons_succ]
  refine wpAnyH_take (i := 9) (oi := ⟨some 18, _, _, _, _, _⟩) (v := ?_) rfl (by kernel_rfl) (by kernel_rfl) (by kernel_rfl) (fun _ _ _ h => h) (Or.inl ⟨by rfl, ?_⟩) (by assumption) ?_
  rotate_left
  · (intro w hSw; (try dsimp only at hSw); go_simp; try with_reducible rfl)
  try simp only [Act.put, List.setIfInBounds_toArray, List.set_cons_zero, List.set_cons_succ]
  refine wpAnyH_take (i := 10) (oi := ⟨some 19, _, _, _, _, _⟩) (v := ?_) rfl (by kernel_rfl) (by kernel_rfl) (by kernel_rfl) (fun _ _ _ h => h) (Or.inl ⟨by rfl, ?_⟩) (by assumption) ?_
  rotate_left
  · (intro w hSw; (try dsimp only at hSw); go_simp; try with_reducible rfl)
  try simp only [Act.put, List.setIfInBounds_toArray, List.set_cons_zero, List.set_cons_succ]
  refine wpAnyH_take (i := 11) (oi := ⟨some 20, _, _, _, _, _⟩) (v := ?_) rfl (by kernel_rfl) (by kernel_rfl) (by kernel_rfl) (fun _ _ _ h => h) (Or.inl ⟨by rfl, ?_⟩) (by assumption) ?_
  rotate_left
  · (intro w hSw; (try dsimp only at hSw); go_simp; try with_reducible rfl)
  try simp only [Act.put, List.setIfInBounds_toArray, List.set_cons_zero, List.set_cons_succ]
  refine wpAnyH_take (i := 12) (oi := ⟨some 21, _, _, _, _, _⟩) (v := ?_) rfl (by kernel_rfl) (by kernel_rfl) (by kernel_rfl) (fun _ _ _ h => h) (Or.inl ⟨by rfl, ?_⟩) (by assumption) ?_
  rotate_left
  · (intro w hSw; (try dsimp only at hSw); go_simp; try with_reducible rfl)
  try simp only [Act.put, List.setIfInBounds_toArray, List.set_cons_zero, List.set_cons_succ]
  refine wpAnyH_take (i := 13) (oi := ⟨some 22, _, _, _, _, _⟩) (v := ?_) rfl (by kernel_rfl) (by kernel_rfl) (by kernel_rfl) (fun _ _ _ h => h) (Or.inl ⟨by rfl, ?_⟩) (by assumption) ?_
  rotate_left
  · (intro w hSw; (try dsimp only at hSw); go_simp; try with_reducible rfl)
  try simp only [Act.put, List.setIfInBounds_toArray, List.set_cons_zero, List.set_cons_succ]
  refine wpAnyH_take (i := 14) (oi := ⟨some 23, _, _, _, _, _⟩) (v := ?_) rfl (by kernel_rfl) (by kernel_rfl) (by kernel_rfl) (fun _ _ _ h => h) (Or.inl ⟨by rfl, ?_⟩) (by assumption) ?_
  rotate_left
  · (intro w hSw; (try dsimp only at hSw); go_simp; try with_reducible rfl)
  try simp only [Act.put, List.setIfInBounds_toArray, List.set_cons_zero, List.set_cons_succ]
  refine wpAnyH_take (i := 15) (oi := ⟨some 24, _, _, _, _, _⟩) (v := ?_) rfl (by kernel_rfl) (by kernel_rfl) (by kernel_rfl) (fun _ _ _ h => h) (Or.inl ⟨by rfl, ?_⟩) (by assumption) ?_
  rotate_left
  · (intro w hSw; (try dsimp only at hSw); go_simp; try with_reducible rfl)
  try simp only [Act.put, List.setIfInBounds_toArray, List.set_cons_zero, List.set_cons_succ]
  refine wpAnyH_take (i := 16) (oi := ⟨some 25, _, _, _, _, _⟩) (v := ?_) rfl (by kernel_rfl) (by kernel_rfl) (by kernel_rfl) (fun _ _ _ h => h) (Or.inl ⟨by rfl, ?_⟩) (by assumption) ?_
  rotate_left
  · (intro w hSw; (try dsimp only at hSw); go_simp; try with_reducible rfl)
  try simp only [Act.put, List.setIfInBounds_toArray, List.set_cons_zero, List.set_cons_succ]
  refine wpAnyH_take (i := 17) (oi := ⟨some 26, _, _, _, _, _⟩) (v := ?_) rfl (by kernel_rfl) (by kernel_rfl) (by kernel_rfl) (fun _ _ _ h => h) (Or.inl ⟨by rfl, ?_⟩) (by assumption) ?_
  rotate_left
  · (intro w hSw; (try dsimp only at hSw); go_simp; try with_reducible rfl)
  try simp only [Act.put, List.setIfInBounds_toArray, List.set_cons_zero, List.set_cons_succ]
  refine wpAnyH_take (i := 18) (oi := ⟨some 27, _, _, _, _, _⟩) (v := ?_) rfl (by kernel_rfl) (by kernel_rfl) (by kernel_rfl) (fun _ _ _ h => h) (Or.inl ⟨by rfl, ?_⟩) (by assumption) ?_
  rotate_left
  · (intro w hSw; (try dsimp only at hSw); go_simp; try with_reducible rfl)
  try simp only [Act.put, List.setIfInBounds_toArray, List.set_cons_zero, List.set_cons_succ]
  refine wpAnyH_take (i := 19) (oi := ⟨some 28, _, _, _, _, _⟩) (v := ?_) rfl (by kernel_rfl) (by kernel_rfl) (by kernel_rfl) (fun _ _ _ h => h) (Or.inl ⟨by rfl, ?_⟩) (by assumption) ?_
  rotate_left
  · (intro w hSw; (try dsimp only at hSw); go_simp; try with_reducible rfl)
  try simp only [Act.put, List.setIfInBounds_toArray, List.set_cons_zero, List.set_cons_succ]
  refine wpAnyH_take (i := 20) (oi := ⟨some 29, _, _, _, _, _⟩) (v := ?_) rfl (by kernel_rfl) (by kernel_rfl) (by kernel_rfl) (fun _ _ _ h => h) (Or.inl ⟨by rfl, ?_⟩) (by assumption) ?_
  rotate_left
  · (intro w hSw; (try dsimp only at hSw); go_simp; try with_reducible rfl)
  try simp only [Act.put, List.setIfInBounds_toArray, List.set_cons_zero, List.set_cons_succ]
  refine wpAnyH_take (i := 21) (oi := ⟨some 30, _, _, _, _, _⟩) (v := ?_) rfl (by kernel_rfl) (by kernel_rfl) (by kernel_rfl) (fun _ _ _ h => h) (Or.inl ⟨by rfl, ?_⟩) (by assumption) ?_
  rotate_left
  · (intro w hSw; (try dsimp only at hSw); go_simp; try with_reducible rfl)
  try simp only [Act.put, List.setIfInBounds_toArray, List.set_cons_zero, List.set_cons_succ]
  refine wpAnyH_take (i := 22) (oi := ⟨some 31, _, _, _, _, _⟩) (v := ?_) rfl (by kernel_rfl) (by kernel_rfl) (by kernel_rfl) (fun _ _ _ h => h) (Or.inl ⟨by rfl, ?_⟩) (by assumption) ?_
  rotate_left
  · (intro w hSw; (try dsimp only at hSw); go_simp; try with_reducible rfl)
  try simp only [Act.put, List.setIfInBounds_toArray, List.set_cons_zero, List.set_cons_succ]
  refine wpAnyH_take (i := 23) (oi := ⟨some 32, _, _, _, _, _⟩) (v := ?_) rfl (by kernel_rfl) (by kernel_rfl) (by kernel_rfl) (fun _ _ _ h => h) (Or.inl ⟨by rfl, ?_⟩) (by assumption) ?_
  rotate_left
  · (intro w hSw; (try dsimp only at hSw); go_simp; try with_reducible rfl)
  try simp only [Act.put, List.setIfInBounds_toArray, List.set_cons_zero, List.set_cons_succ]
  refine wpAnyH_ready (rs := [24]) (by kernel_rfl) (by simp) ?_
  refine AllReadyH.cons (o := ⟨some 33, _, _, _, _, _⟩) rfl (fun K hK => ?_) AllReadyH.nil
  go_simp
  refine (kObjects_walk b o M S _ (HM.out.ext (by repeat (first | exact Ext.refl _ | (refine Ext.drew_ ?_) | (refine Ext.drewN_ ?_ _)))) M.base N1 k5 k3 k4).mono ?_
  rintro e w1 ⟨a1, cc1, he, hO1, hq⟩
  rw [he]
  have HE1 : Hid (Ext w w1) := Ext.trans_ (by repeat (first | exact Ext.refl _ | (refine Ext.drew_ ?_) | (refine Ext.drewN_ ?_ _))) hq
  have HO1 : Hid (OwnObjs w1 w.heap.size a1 cc1 (partK M.W M.base N1).1) := hO1
  have d1 := hq.cell_ hHeld.1
  have d2 := hq.cell_ hHeld.2.1
  have d3 := hq.cell_ hHeld.2.2
  clear hO1 hq he
  refine hK.out _ _ ?_ (fun hHeld => ?_)
  · (try dsimp only); exact ⟨d1, d2, d3⟩
  clear hK K
  try simp only [Act.put, List.setIfInBounds_toArray, List.set_cons_zero, List.set_cons_succ]
  refine wpAnyH_take (i := 25) (oi := ⟨some 8, _, _, _, _, _⟩) (v := ?_) rfl (by kernel_rfl) (by kernel_rfl) (by kernel_rfl) (fun _ _ _ h => h) (Or.inl ⟨by rfl, ?_⟩) (by assumption) ?_
  rotate_left
  · (intro w hSw; (try dsimp only at hSw); go_simp; try with_reducible rfl)
  try simp only [Act.put, List.setIfInBounds_toArray, List.set_cons_zero, List.set_cons_succ]
  refine wpAnyH_take (i := 26) (oi := ⟨some 34, _, _, _, _, _⟩) (v := ?_) rfl (by kernel_rfl) (by kernel_rfl) (by kernel_rfl) (fun _ _ _ h => h) (Or.inl ⟨by rfl, ?_⟩) (by assumption) ?_
  rotate_left
  · (intro w hSw; (try dsimp only at hSw); go_simp; try with_reducible rfl)
  try simp only [Act.put, List.setIfInBounds_toArray, List.set_cons_zero, List.set_cons_succ]
  refine wpAnyH_take (i := 27) (oi := ⟨some 35, _, _, _, _, _⟩) (v := ?_) rfl (by kernel_rfl) (by kernel_rfl) (by kernel_rfl) (fun _ _ _ h => h) (Or.inl ⟨by rfl, ?_⟩) (by assumption) ?_
  rotate_left
  · (intro w hSw; (try dsimp only at hSw); go_simp; try with_reducible rfl)
  try simp only [Act.put, List.setIfInBounds_toArray, List.set_cons_zero, List.set_cons_succ]
  refine wpAnyH_take (i := 28) (oi := ⟨some 4, _, _, _, _, _⟩) (v := ?_) rfl (by kernel_rfl) (by kernel_rfl) (by kernel_rfl) (fun _ _ _ h => h) (Or.inl ⟨by rfl, ?_⟩) (by assumption) ?_
  rotate_left
  · (intro w hSw; (try dsimp only at hSw); go_simp; try with_reducible rfl)
  try simp only [Act.put, List.setIfInBounds_toArray, List.set_cons_zero, List.set_cons_succ]
  refine wpAnyH_take (i := 29) (oi := ⟨some 5, _, _, _, _, _⟩) (v := ?_) rfl (by kernel_rfl) (by kernel_rfl) (by kernel_rfl) (fun _ _ _ h => h) (Or.inl ⟨by rfl, ?_⟩) (by assumption) ?_
  rotate_left
  · (intro w hSw; (try dsimp only at hSw); go_simp; try with_reducible rfl)
  try simp only [Act.put, List.setIfInBounds_toArray, List.set_cons_zero, List.set_cons_succ]
  refine wpAnyH_done (by kernel_rfl) ?_ _
  go_wp2
  have hMM := HM.out.ext HE1.out
  have g1 := hMM.half
  have g3 := hMM.oldTop
  rw [E1.out] at g1
  rw [E3.out] at g3
  clear hMM hHeld
  refine wp_region_held_drew (S := fun W => W.cell? ⟨b, o, none⟩ = some (.int .i64 (h : Int)) ∧ W.cell? ⟨b, o + 6, none⟩ = some (.int .i64 (p : Int))) (by kernel_rfl) ?_ (fun hHeld => ?_)
  · exact ⟨g1, g3⟩
  refine wpAnyH_take (i := 0) (oi := ⟨some 37, _, _, _, _, _⟩) (v := ?_) rfl (by kernel_rfl) (by kernel_rfl) (by kernel_rfl) (fun _ _ _ h => h) (Or.inl ⟨by rfl, ?_⟩) (by assumption) ?_
  rotate_left
  · (intro w hSw; (try dsimp only at hSw); go_simp; try with_reducible rfl)
  try simp only [Act.put, List.setIfInBounds_toArray, List.set_cons_zero, List.set_cons_succ]
  refine wpAnyH_take (i := 1) (oi := ⟨some 38, _, _, _, _, _⟩) (v := ?_) rfl (by kernel_rfl) (by kernel_rfl) (by kernel_rfl) (fun _ _ _ h => h) (Or.inl ⟨by rfl, ?_⟩) (by assumption) ?_
  rotate_left
  · (intro w hSw; (try dsimp only at hSw); go_simp; try with_reducible rfl)
  try simp only [Act.put, List.setIfInBounds_toArray, List.set_cons_zero, List.set_cons_succ]
  refine wpAnyH_take (i := 2) (oi := ⟨some 39, _, _, _, _, _⟩) (v := ?_) rfl (by kernel_rfl) (by kernel_rfl) (by kernel_rfl) (fun _ _ _ h => h) (Or.inl ⟨by rfl, ?_⟩) (by assumption) ?_
  rotate_left
  · (intro w hSw; (try dsimp only at hSw); go_simp; try with_reducible rfl)
  try simp only [Act.put, List.setIfInBounds_toArray, List.set_cons_zero, List.set_cons_succ]
  refine wpAnyH_take (i := 3) (oi := ⟨some 40, _, _, _, _, _⟩) (v := ?_) rfl (by kernel_rfl) (by kernel_rfl) (by kernel_rfl) (fun _ _ _ h => h) (Or.inl ⟨by rfl, ?_⟩) (by assumption) ?_
  rotate_left
  · (intro w hSw; (try dsimp only at hSw); go_simp; try with_reducible rfl)
  try simp only [Act.put, List.setIfInBounds_toArray, List.set_cons_zero, List.set_cons_succ]
  refine wpAnyH_take (i := 4) (oi := ⟨some 41, _, _, _, _, _⟩) (v := ?_) rfl (by kernel_rfl) (by kernel_rfl) (by kernel_rfl) (fun _ _ _ h => h) (Or.inl ⟨by rfl, ?_⟩) (by assumption) ?_
  rotate_left
  · (intro w hSw; (try dsimp only at hSw); go_simp; try with_reducible rfl)
  try simp only [Act.put, List.setIfInBounds_toArray, List.set_cons_zero, List.set_cons_succ]
  refine wpAnyH_take (i := 5) (oi := ⟨some 42, _, _, _, _, _⟩) (v := ?_) rfl (by kernel_rfl) (by kernel_rfl) (by kernel_rfl) (fun _ _ _ h => h) (Or.inl ⟨by rfl, ?_⟩) (by assumption) ?_
  rotate_left
  · (intro w hSw; (try dsimp only at hSw); go_simp; try with_reducible rfl)
  try simp only [Act.put, List.setIfInBounds_toArray, List.set_cons_zero, List.set_cons_succ]
  refine wpAnyH_take (i := 6) (oi := ⟨some 43, _, _, _, _, _⟩) (v := ?_) rfl (by kernel_rfl) (by kernel_rfl) (by kernel_rfl) (fun _ _ _ h => h) (Or.inl ⟨by rfl, ?_⟩) (by assumption) ?_
  rotate_left
  · (intro w hSw; (try dsimp only at hSw); go_simp; try with_reducible rfl)
  try simp only [Act.put, List.setIfInBounds_toArray, List.set_cons_zero, List.set_cons_succ]
  refine wpAnyH_take (i := 7) (oi := ⟨some 44, _, _, _, _, _⟩) (v := ?_) rfl (by kernel_rfl) (by kernel_rfl) (by kernel_rfl) (fun _ _ _ h => h) (Or.inl ⟨by rfl, ?_⟩) (by assumption) ?_
  rotate_left
  · (intro w hSw; (try dsimp only at hSw); go_simp; try with_reducible rfl)
  try simp only [Act.put, List.setIfInBounds_toArray, List.set_cons_zero, List.set_cons_succ]
  refine wpAnyH_take (i := 8) (oi := ⟨some 45, _, _, _, _, _⟩) (v := ?_) rfl (by kernel_rfl) (by kernel_rfl) (by kernel_rfl) (fun _ _ _ h => h) (Or.inl ⟨by rfl, ?_⟩) (by assumption) ?_
  rotate_left
  · (intro w hSw; (try dsimp only at hSw); go_simp; try with_reducible rfl)
  try simp only [Act.put, List.setIfInBounds_toArray, List.set_cons_zero, List.set_cons_succ]
  refine wpAnyH_take (i := 9) (oi := ⟨some 46, _, _, _, _, _⟩) (v := ?_) rfl (by kernel_rfl) (by kernel_rfl) (by kernel_rfl) (fun _ _ _ h => h) (Or.inl ⟨by rfl, ?_⟩) (by assumption) ?_
  rotate_left
  · (intro w hSw; (try dsimp only at hSw); go_simp; try with_reducible rfl)
  try simp only [Act.put, List.setIfInBounds_toArray, List.set_cons_zero, List.set_cons_succ]
  refine wpAnyH_take (i := 10) (oi := ⟨some 47, _, _, _, _, _⟩) (v := ?_) rfl (by kernel_rfl) (by kernel_rfl) (by kernel_rfl) (fun _ _ _ h => h) (Or.inl ⟨by rfl, ?_⟩) (by assumption) ?_
  rotate_left
  · (intro w hSw; (try dsimp only at hSw); go_simp; try with_reducible rfl)
  try simp only [Act.put, List.setIfInBounds_toArray, List.set_cons_zero, List.set_cons_succ]
  refine wpAnyH_take (i := 11) (oi := ⟨some 48, _, _, _, _, _⟩) (v := ?_) rfl (by kernel_rfl) (by kernel_rfl) (by kernel_rfl) (fun _ _ _ h => h) (Or.inl ⟨by rfl, ?_⟩) (by assumption) ?_
  rotate_left
  · (intro w hSw; (try dsimp only at hSw); go_simp; try with_reducible rfl)
  try simp only [Act.put, List.setIfInBounds_toArray, List.set_cons_zero, List.set_cons_succ]
  refine wpAnyH_take (i := 12) (oi := ⟨some 49, _, _, _, _, _⟩) (v := ?_) rfl (by kernel_rfl) (by kernel_rfl) (by kernel_rfl) (fun _ _ _ h => h) (Or.inl ⟨by rfl, ?_⟩) (by assumption) ?_
  rotate_left
  · (intro w hSw; (try dsimp only at hSw); go_simp; try with_reducible rfl)
  try simp only [Act.put, List.setIfInBounds_toArray, List.set_cons_zero, List.set_cons_succ]
  refine wpAnyH_take (i := 13) (oi := ⟨some 50, _, _, _, _, _⟩) (v := ?_) rfl (by kernel_rfl) (by kernel_rfl) (by kernel_rfl) (fun _ _ _ h => h) (Or.inl ⟨by rfl, ?_⟩) (by assumption) ?_
  rotate_left
  · (intro w hSw; (try dsimp only at hSw); go_simp; try with_reducible rfl)
  try simp only [Act.put, List.setIfInBounds_toArray, List.set_cons_zero, List.set_cons_succ]
  refine wpAnyH_take (i := 14) (oi := ⟨some 51, _, _, _, _, _⟩) (v := ?_) rfl (by kernel_rfl) (by kernel_rfl) (by kernel_rfl) (fun _ _ _ h => h) (Or.inl ⟨by rfl, ?_⟩) (by assumption) ?_
  rotate_left
  · (intro w hSw; (try dsimp only at hSw); go_simp; try with_reducible rfl)
  try simp only [Act.put, List.setIfInBounds_toArray, List.set_cons_zero, List.set_cons_succ]
  refine wpAnyH_take (i := 15) (oi := ⟨some 52, _, _, _, _, _⟩) (v := ?_) rfl (by kernel_rfl) (by kernel_rfl) (by kernel_rfl) (fun _ _ _ h => h) (Or.inl ⟨by rfl, ?_⟩) (by assumption) ?_
  rotate_left
  · (intro w hSw; (try dsimp only at hSw); go_simp; try with_reducible rfl)
  try simp only [Act.put, List.setIfInBounds_toArray, List.set_cons_zero, List.set_cons_succ]
  refine wpAnyH_ready (rs := [16]) (by kernel_rfl) (by simp) ?_
  refine AllReadyH.cons (o := ⟨some 53, _, _, _, _, _⟩) rfl (fun K hK => ?_) AllReadyH.nil
  go_simp
  refine (kObjects_walk b o M S _ (HM.out.ext (Ext.trans_ HE1.out (by repeat (first | exact Ext.refl _ | (refine Ext.drew_ ?_) | (refine Ext.drewN_ ?_ _))))) N2 N3 k7 k3 k6).mono ?_
  rintro e w2 ⟨a2, cc2, he, hO2, hq⟩
  rw [he]
  have HE2 : Hid (Ext w1 w2) := Ext.trans_ (by repeat (first | exact Ext.refl _ | (refine Ext.drew_ ?_) | (refine Ext.drewN_ ?_ _))) hq
  have HO2 : Hid (OwnObjs w2 w1.heap.size a2 cc2 (partK M.W N2 N3).1) := hO2
  have d4 := hq.cell_ hHeld.1
  have d5 := hq.cell_ hHeld.2
  clear hO2 hq he
  refine hK.out _ _ ?_ (fun hHeld => ?_)
  · (try dsimp only); exact ⟨d4, d5⟩
  clear hK K
  try simp only [Act.put, List.setIfInBounds_toArray, List.set_cons_zero, List.set_cons_succ]
  refine wpAnyH_take (i := 17) (oi := ⟨some 36, _, _, _, _, _⟩) (v := ?_) rfl (by kernel_rfl) (by kernel_rfl) (by kernel_rfl) (fun _ _ _ h => h) (Or.inl ⟨by rfl, ?_⟩) (by assumption) ?_
  rotate_left
  · (intro w hSw; (try dsimp only at hSw); go_simp; try with_reducible rfl)
  try simp only [Act.put, List.setIfInBounds_toArray, List.set_cons_zero, List.set_cons_succ]
  refine wpAnyH_take (i := 18) (oi := ⟨some 54, _, _, _, _, _⟩) (v := ?_) rfl (by kernel_rfl) (by kernel_rfl) (by kernel_rfl) (fun _ _ _ h => h) (Or.inl ⟨by rfl, ?_⟩) (by assumption) ?_
  rotate_left
  · (intro w hSw; (try dsimp only at hSw); go_simp; try with_reducible rfl)
  try simp only [Act.put, List.setIfInBounds_toArray, List.set_cons_zero, List.set_cons_succ]
  refine wpAnyH_take (i := 19) (oi := ⟨some 55, _, _, _, _, _⟩) (v := ?_) rfl (by kernel_rfl) (by kernel_rfl) (by kernel_rfl) (fun _ _ _ h => h) (Or.inl ⟨by rfl, ?_⟩) (by assumption) ?_
  rotate_left
  · (intro w hSw; (try dsimp only at hSw); go_simp; try with_reducible rfl)
  try simp only [Act.put, List.setIfInBounds_toArray, List.set_cons_zero, List.set_cons_succ]
  refine wpAnyH_take (i := 20) (oi := ⟨some 6, _, _, _, _, _⟩) (v := ?_) rfl (by kernel_rfl) (by kernel_rfl) (by kernel_rfl) (fun _ _ _ h => h) (Or.inl ⟨by rfl, ?_⟩) (by assumption) ?_
  rotate_left
  · (intro w hSw; (try dsimp only at hSw); go_simp; try with_reducible rfl)
  try simp only [Act.put, List.setIfInBounds_toArray, List.set_cons_zero, List.set_cons_succ]
  refine wpAnyH_take (i := 21) (oi := ⟨some 7, _, _, _, _, _⟩) (v := ?_) rfl (by kernel_rfl) (by kernel_rfl) (by kernel_rfl) (fun _ _ _ h => h) (Or.inl ⟨by rfl, ?_⟩) (by assumption) ?_
  rotate_left
  · (intro w hSw; (try dsimp only at hSw); go_simp; try with_reducible rfl)
  try simp only [Act.put, List.setIfInBounds_toArray, List.set_cons_zero, List.set_cons_succ]
  refine wpAnyH_done (by kernel_rfl) ?_ _
  have hs1 := HE1.out.size
  have hs2 := HE2.out.size
  have hO1' : OwnObjs w2 w.heap.size a1 cc1 (partK M.W M.base N1).1 := HO1.out.kept (w' := w2) (row := none) ⟨HE2.out.os, HE2.out.tape, HE2.out.output, HE2.out.size, fun k hk _ => HE2.out.block k hk⟩ (by
    rcases hv : Value.ownBlock (.slice a1 (partK M.W M.base N1).1.length cc1) with _ | _
    · exact Or.inl rfl
    · exact Or.inr (by simp))
  have HO1' := Lib.hid hO1'
  clear hO1' hHeld
  go_wp2_with (first
    | (at_builtin; refine wpList_append_src rfl _ _ 42 rfl w.heap.size 46 i0 (.agg #[.int .i64 0, .int .i64 0, .int .i64 0, .int .i64 0]) 4 32 undObjs hi hz0 hz1 hz2 rfl (by decide) _ (partK M.W M.base N1).1.length (ocells (partK M.W M.base N1).1) rfl HO1'.out a2 (partK M.W N2 N3).1.length cc2 (ocells (partK M.W N2 N3).1) rfl (own_nil HO2.out) (own_cap HO2.out) (ocells_len _) (own_rsl HO2.out) (ocells_one _) ?c3 ?c4 ?c5 ?_))
  case c3 => unfold maxLen; omega
  case c4 => omega
  case c5 => omega
  intro a' c' w3 hown hgrow hat'
  have HOW := Lib.hid hown
  have HGR := Lib.hid hgrow
  clear hown hgrow hat'
  cases hr1 : (partK M.W M.base N1).2 with
  | false =>
    have HR1 := Lib.hid hr1
    go_wp2
    go_ret2
    refine ⟨a', c', ?_, ?_, ?_⟩
    · rw [HN.out, HO.out, HR1.out, List.length_append]; rfl
    · unfold OwnObjs
      rw [HN.out, HO.out, ocells_app, List.length_append]
      exact HOW.out
    · exact Below.grown (Ext.trans_ HE1.out HE2.out) HGR.out (by omega) (fun j hj => (HO1'.out.lt j hj).1)
  | true =>
    have HR1 := Lib.hid hr1
    go_wp2
    go_ret2
    refine ⟨a', c', ?_, ?_, ?_⟩
    · rw [HN.out, HO.out, HR1.out, List.length_append]; rfl
    · unfold OwnObjs
      rw [HN.out, HO.out, ocells_app, List.length_append]
      exact HOW.out
    · exact Below.grown (Ext.trans_ HE1.out HE2.out) HGR.out (by omega) (fun j hj => (HO1'.out.lt j hj).1)
end Go.Proofs.YtecbbbaafcoliaaDoor
