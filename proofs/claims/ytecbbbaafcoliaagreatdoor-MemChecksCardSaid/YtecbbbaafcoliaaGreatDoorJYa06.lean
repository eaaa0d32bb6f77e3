/- Is a memory right? Plainly. -/
import Derived.Test.YtecbbbaafcoliaaGreatDoorJYa05
import Derived.Test.YtecbbbaafcoliaaGreatDoorJYa03
namespace Go.Proofs.YtecbbbaafcoliaaGreatDoor
set_option linter.unusedVariables false
set_option linter.unusedSimpArgs false

/-- The two parts. -/
def partN (M : Mem) : List Ob × Bool := part M.W M.base (M.base + M.top.toNat)
def partO (M : Mem) : List Ob × Bool := part M.W (2 * M.half).toNat ((2 * M.half).toNat + M.oldTop.toNat)
def objsAll (M : Mem) : List Ob := (partN M).1 ++ (partO M).1
/-- Do the parts hold objects, each of which is as it is asked? -/
def objsB (M : Mem) (see : Ob → Bool) : Bool := ((partN M).2 && (partN M).1.all see) && ((partO M).2 && (partO M).1.all see)
def startsM (M : Mem) : List Int := (objsAll M).map fun o => (o.a : Int)
/-- An object of a memory. -/
def ObM (M : Mem) (x : Ob) : Prop := ObIn M.W M.base (M.base + M.top.toNat) x ∨ ObIn M.W (2 * M.half).toNat ((2 * M.half).toNat + M.oldTop.toNat) x
theorem obM_of {M : Mem} {x : Ob} (h : x ∈ objsAll M) : ObM M x := by
  unfold objsAll at h
  rcases List.mem_append.1 h with h | h
  · exact Or.inl (part_in h)
  · exact Or.inr (part_in h)
/-- An object's fields. -/
def flds (M : Mem) (x : Ob) : List Int := (List.range x.n).map fun i => wat M.W (x.a + 1 + i)
def okFld (M : Mem) (st : List Int) (x : Ob) : Bool := rawB (hKind x.w) || fieldsB st (flds M x)
/-- Is the card of an object's field marked, if it must be? -/
def crd (M : Mem) (x : Ob) (i : Nat) : Bool := !((oldB M (x.a : Int) && youngB M (wat M.W (x.a + 1 + i))) && !cardB M ((x.a : Int) + 1 + i))
def cardsK (M : Mem) (x : Ob) (k : Nat) : Bool := (List.range k).all (crd M x)
def cardsO (M : Mem) (x : Ob) : Bool := rawB (hKind x.w) || cardsK M x x.n
theorem cardsK_succ (M : Mem) (x : Ob) (k : Nat) : cardsK M x (k + 1) = (cardsK M x k && crd M x k) := by
  simp [cardsK, List.range_succ]
/-- Numbers. -/
def idOK (st : List Int) (pre : List (Int × Int)) (x : Int × Int) : Bool :=
  !(((((kindW x.1 != 0) || (x.1 == 0)) || !fldB st x.1) || decide (x.2 < 1)) || inSt (pre.map (·.1)) x.1) && !inSt (pre.map (·.2)) x.2
def idsB (st : List Int) : List (Int × Int) → List (Int × Int) → Bool
  | _, [] => true
  | pre, x :: l => idOK st pre x && idsB st (pre ++ [x]) l
/-- THE CHECK. -/
def goodB (M : Mem) : Bool :=
  shapeB M && objsB M (okHd M) && fieldsB (startsM M) M.roots && fieldsB (startsM M) M.weak && (objsAll M).all (okFld M (startsM M)) && idsB (startsM M) [] M.ids
def cardsM (M : Mem) : Bool := (objsAll M).all (cardsO M)
def chk (M : Mem) : Int := if goodB M then (if cardsM M then 0 else 5) else 3
theorem objsB_all {M : Mem} {p q : Ob → Bool} (h : objsB M p = true) : objsB M q = (objsAll M).all q := by
  simp only [objsB, Bool.and_eq_true] at h
  obtain ⟨⟨h1, _⟩, h2, _⟩ := h
  simp [objsB, objsAll, h1, h2, List.all_append]
open Go.RowKit

/-- Where a word points to; -1: nowhere. -/
def ptsW (a : Int) : Int := if kindW a = 0 ∧ a ≠ 0 ∧ a / 4 ≤ 1099511627776 then placeW a else -1
/-- Objects as cells; where an address is among them. -/
def ocells (l : List Ob) : List Value := l.flatMap fun o => [Value.int .i64 (o.a : Int), Value.int .i64 (hKind o.w), Value.int .i64 (hAge o.w), Value.int .i64 (hSize o.w)]
def objAt (l : List Ob) (p : Int) : Int := ((l.findIdx? fun o => (o.a : Int) == p).map fun i => (i : Int)).getD (-1)
theorem ocells_at (l : List Ob) (i : Nat) (h : i < l.length) : (ocells l)[i * 4]? = some (.int .i64 (l[i].a : Int)) ∧ (ocells l)[i * 4 + 1]? = some (.int .i64 (hKind l[i].w)) ∧
    (ocells l)[i * 4 + 2]? = some (.int .i64 (hAge l[i].w)) ∧ (ocells l)[i * 4 + 3]? = some (.int .i64 (hSize l[i].w)) := by
  induction l generalizing i with
  | nil => simp at h
  | cons y l ih =>
    cases i with
    | zero => simp [ocells]
    | succ i =>
      have := ih i (by simpa using h)
      have e1 : (i + 1) * 4 = i * 4 + 4 := by omega
      rw [e1]
      simpa [ocells] using this
theorem ocells_len (l : List Ob) : (ocells l).length = l.length * 4 := by
  induction l with
  | nil => rfl
  | cons y l ih => simp only [ocells, List.flatMap_cons, List.length_append, List.length_cons, List.length_nil] at *; omega
theorem objAt_nonneg (l : List Ob) (p : Int) : decide (0 ≤ objAt l p) = inSt (l.map fun o => (o.a : Int)) p := by
  unfold objAt inSt
  induction l with
  | nil => simp
  | cons y l ih =>
    rw [List.findIdx?_cons]
    by_cases h : ((y.a : Int) == p) = true
    · have : p = (y.a : Int) := by simpa using (beq_iff_eq.1 h).symm
      subst this
      simp
    · rw [if_neg h]
      have h' : ¬ p = (y.a : Int) := fun e => h (by simp [e])
      simp only [List.map_cons, List.contains_cons]
      rw [show (p == (y.a : Int)) = false by simpa using h', Bool.false_or, ← ih]
      cases l.findIdx? fun o => (o.a : Int) == p with
      | none => rfl
      | some i => simp; omega

theorem points_any (a : Int) (h0 : 0 ≤ a) (h1 : a ≤ 18446744073709551615) (w : World) :
    Calls Tryz.prog 28 #[.int .u64 a] w fun e w' => e = .returned (.int .i64 (ptsW a)) ∧ w' = w := by
  by_cases hk : a % 4 = 0
  · by_cases hz : a = 0
    · subst hz
      have e : ptsW 0 = -1 := by decide
      rw [e]
      clear hk
      go_enter Tryz.func28, Tryz.ntmps28
      go_wp2
      go_ret
      exact ⟨rfl, rfl⟩
    · have k1 : (a % 4 != 0) = false := by simpa using hk
      have k2 : (a == 0) = false := by simpa using hz
      by_cases h3 : a / 4 ≤ 1099511627776
      · have e : ptsW a = a / 4 - 1 := by unfold ptsW kindW; rw [if_pos ⟨hk, hz, h3⟩]; rfl
        have h4 : ¬ 1099511627776 < a / 4 := by omega
        rw [e]
        clear hk hz
        go_enter Tryz.func28, Tryz.ntmps28
        go_wp2
        go_ret
        exact ⟨rfl, rfl⟩
      · have e : ptsW a = -1 := by unfold ptsW; rw [if_neg (fun h => h3 h.2.2)]
        have h4 : 1099511627776 < a / 4 := by omega
        rw [e]
        clear hk hz
        go_enter Tryz.func28, Tryz.ntmps28
        go_wp2
        go_ret
        exact ⟨rfl, rfl⟩
  · have k1 : (a % 4 != 0) = true := by simpa using hk
    have e : ptsW a = -1 := by unfold ptsW kindW; rw [if_neg (fun h => hk h.1)]
    rw [e]
    clear hk
    go_enter Tryz.func28, Tryz.ntmps28
    go_wp2
    go_ret
    exact ⟨rfl, rfl⟩

set_option maxRecDepth 100000 in
theorem objectAt_any (a : Option Addr) (c : Nat) (l : List Ob) (p : Int) (w : World) (hl : l.length ≤ 9223372036854775807) (hR : RSl w a (ocells l)) :
    Calls Tryz.prog 29 #[.slice a l.length c, .int .i64 p] w fun e w' => e = .returned (.int .i64 (objAt l p)) ∧ w' = w := by
  have HR := Lib.hid hR
  clear hR
  go_enter Tryz.func29, Tryz.ntmps29
  go_wp2
  go_loop [5] (fun i => ∃ k : Nat, k ≤ l.length ∧ i = .int .i64 (k : Int) ∧ Hid (∀ j (hj : j < l.length), j < k → ((l[j].a : Int) == p) = false)) (fun i => l.length - (intOf i).toNat)
  case atStart => exact ⟨0, Nat.zero_le _, rfl, fun j _ hj => absurd hj (Nat.not_lt_zero _)⟩
  case round =>
    obtain ⟨k, hk, rfl, hA⟩ := hrel
    by_cases hlt : k < l.length
    · obtain ⟨ob, oo, rfl, hc⟩ := HR.out _ _ (ocells_at l k hlt).1
      cases hq : ((l[k].a : Int) == p) with
      | true =>
        have HQ := Lib.hid hq
        go_wp2
        go_ret
        refine ⟨?_, rfl⟩
        unfold objAt
        have : l.findIdx? (fun o => (o.a : Int) == p) = some k := List.findIdx?_eq_some_iff_getElem.2 ⟨hlt, HQ.out, fun j hj => by
          have := hA.out j (by omega) hj; simpa using this⟩
        rw [this]; rfl
      | false =>
        have HQ := Lib.hid hq
        go_wp2
        refine ⟨⟨k + 1, by omega, by go_num, fun j hj1 hj2 => ?_⟩, by simp [intOf]; omega⟩
        by_cases e : j = k
        · subst e; exact HQ.out
        · exact hA.out j hj1 (by omega)
    · go_wp2
      go_ret
      refine ⟨?_, rfl⟩
      unfold objAt
      have : l.findIdx? (fun o => (o.a : Int) == p) = none := List.findIdx?_eq_none_iff.2 fun x hx => by
        obtain ⟨j, hj, rfl⟩ := List.mem_iff_getElem.1 hx
        exact hA.out j hj (by omega)
      rw [this]; rfl
def ats (l : List Ob) : List Int := l.map fun o => (o.a : Int)
theorem fieldOK_any (a : Int) (h0 : 0 ≤ a) (h1 : a ≤ 18446744073709551615) (ad : Option Addr) (c : Nat) (l : List Ob) (w : World) (hl : l.length ≤ 9223372036854775807) (hR : RSl w ad (ocells l)) (hlt : ∀ o ∈ l, (o.a : Int) < 1099511627776) :
    Calls Tryz.prog 84 #[.int .u64 a, .slice ad l.length c] w fun e w' => e = .returned (.bool (fldB (ats l) a)) ∧ w' = w := by
  have HR := Lib.hid hR
  have HLT := Lib.hid hlt
  clear hR hlt
  by_cases hk : a % 4 = 0
  · have k1 : (a % 4 == 0) = true := by simpa using hk
    by_cases hz : a = 0
    · have k2 : (a == 0) = true := by simpa using hz
      have e : fldB (ats l) a = true := by unfold fldB kindW; rw [if_pos hk, k2]; rfl
      rw [e]
      clear hk hz
      go_enter Tryz.func84, Tryz.ntmps84
      go_wp2
      go_ret
      exact ⟨rfl, rfl⟩
    · have k2 : (a == 0) = false := by simpa using hz
      have e : fldB (ats l) a = inSt (ats l) (placeW a) := by unfold fldB; rw [if_pos (show kindW a = 0 from hk), k2]; rfl
      by_cases h3 : a / 4 ≤ 1099511627776
      · have hpt : ∀ w, Calls Tryz.prog 28 #[.int .u64 a] w fun e w' => e = .returned (.int .i64 (placeW a)) ∧ w' = w := fun w => by
          have := points_any a h0 h1 w
          rw [show ptsW a = placeW a by unfold ptsW kindW; rw [if_pos ⟨hk, hz, h3⟩]] at this
          exact this
        have hob : ∀ w, RSl w ad (ocells l) → Calls Tryz.prog 29 #[.slice ad l.length c, .int .i64 (placeW a)] w fun e w' => e = .returned (.int .i64 (objAt l (placeW a))) ∧ w' = w := fun w hr => objectAt_any ad c l (placeW a) w hl hr
        have hge : 0 ≤ placeW a := by unfold placeW; omega
        rw [e, ats, ← objAt_nonneg]
        have HPT := Lib.hid hpt
        have HOB := Lib.hid hob
        clear hk hz hpt hob e
        go_enter Tryz.func84, Tryz.ntmps84
        go_wp2_with (first
          | (go_at_call 28; refine (HPT.out _).mono ?_; rintro e w' ⟨rfl, rfl⟩)
          | (go_at_call 29; refine (HOB.out _ HR.out).mono ?_; rintro e w' ⟨rfl, rfl⟩))
        go_ret
        exact ⟨rfl, rfl⟩
      · have hpt : ∀ w, Calls Tryz.prog 28 #[.int .u64 a] w fun e w' => e = .returned (.int .i64 (-1)) ∧ w' = w := fun w => by
          have := points_any a h0 h1 w
          rw [show ptsW a = -1 by unfold ptsW; rw [if_neg (fun h => h3 h.2.2)]] at this
          exact this
        have e2 : inSt (ats l) (placeW a) = false := by
          unfold inSt ats
          rw [List.contains_eq_any_beq, List.any_eq_false]
          intro x hx
          obtain ⟨o, ho, rfl⟩ := List.mem_map.1 hx
          have := HLT.out o ho
          unfold placeW
          simp; omega
        rw [e, e2]
        have HPT := Lib.hid hpt
        clear hk hz hpt e e2
        go_enter Tryz.func84, Tryz.ntmps84
        go_wp2_with (first
          | (go_at_call 28; refine (HPT.out _).mono ?_; rintro e w' ⟨rfl, rfl⟩))
        go_ret
        exact ⟨rfl, rfl⟩
  · have k1 : (a % 4 == 0) = false := by simpa using hk
    by_cases hk1 : a % 4 = 1
    · have k2 : (a % 4 == 1) = true := by simpa using hk1
      have e : fldB (ats l) a = true := by unfold fldB kindW; rw [if_neg hk, if_pos hk1]
      rw [e]
      clear hk hk1
      go_enter Tryz.func84, Tryz.ntmps84
      go_wp2
      go_ret
      exact ⟨rfl, rfl⟩
    · have k2 : (a % 4 == 1) = false := by simpa using hk1
      by_cases hk2 : a % 4 = 2
      · have k3 : (a % 4 == 2) = true := by simpa using hk2
        have e : fldB (ats l) a = decide (a / 4 ≤ 2) := by unfold fldB kindW; rw [if_neg hk, if_neg hk1, if_pos hk2]
        rw [e]
        clear hk hk1 hk2
        go_enter Tryz.func84, Tryz.ntmps84
        go_wp2
        go_ret
        exact ⟨rfl, rfl⟩
      · have k3 : (a % 4 == 2) = false := by simpa using hk2
        have e : fldB (ats l) a = false := by unfold fldB kindW; rw [if_neg hk, if_neg hk1, if_neg hk2]
        rw [e]
        clear hk hk1 hk2
        go_enter Tryz.func84, Tryz.ntmps84
        go_wp2
        go_ret
        exact ⟨rfl, rfl⟩

set_option maxRecDepth 100000 in
theorem fieldsOK_any (za : Option Addr) (zc : Nat) (zs : List Int) (hz : zs.length ≤ 9223372036854775807) (hb : ∀ x ∈ zs, 0 ≤ x ∧ x ≤ 18446744073709551615) (ad : Option Addr) (c : Nat) (l : List Ob) (w : World) (hl : l.length ≤ 9223372036854775807)
    (hZ : RSl w za (wcells zs)) (hR : RSl w ad (ocells l)) (hlt : ∀ o ∈ l, (o.a : Int) < 1099511627776) :
    Calls Tryz.prog 27 #[.slice za zs.length zc, .slice ad l.length c] w fun e w' => e = .returned (.bool (fieldsB (ats l) zs)) ∧ w' = w := by
  have HR := Lib.hid hR
  have HZ := Lib.hid hZ
  have HB := Lib.hid hb
  have HLT := Lib.hid hlt
  clear hR hZ hb hlt
  go_enter Tryz.func27, Tryz.ntmps27
  go_wp2
  go_loop [5] (fun i => ∃ k : Nat, k ≤ zs.length ∧ i = .int .i64 (k : Int) ∧ Hid (∀ j (hj : j < zs.length), j < k → fldB (ats l) zs[j] = true)) (fun i => zs.length - (intOf i).toNat)
  case atStart => exact ⟨0, Nat.zero_le _, rfl, fun j _ hj => absurd hj (Nat.not_lt_zero _)⟩
  case round =>
    obtain ⟨k, hk, rfl, hA⟩ := hrel
    by_cases hltk : k < zs.length
    · obtain ⟨zb, zo, rfl, hc⟩ := HZ.out k (.int .u64 zs[k]) (by simp [wcells, hltk])
      have hin := HB.out zs[k] (List.getElem_mem hltk)
      have hf := fun W hr => fieldOK_any zs[k] hin.1 hin.2 ad c l W hl hr HLT.out
      have HF := Lib.hid hf
      clear hf
      cases hq : fldB (ats l) zs[k] with
      | true =>
        have HQ := Lib.hid hq
        go_wp2_with (go_at_call 84; refine (HF.out _ HR.out).mono ?_; rintro e w' ⟨rfl, rfl⟩)
        refine ⟨⟨k + 1, by omega, by go_num, fun j hj1 hj2 => ?_⟩, by simp [intOf]; omega⟩
        by_cases e : j = k
        · subst e; exact HQ.out
        · exact hA.out j hj1 (by omega)
      | false =>
        have HQ := Lib.hid hq
        go_wp2_with (go_at_call 84; refine (HF.out _ HR.out).mono ?_; rintro e w' ⟨rfl, rfl⟩)
        go_ret
        refine ⟨?_, rfl⟩
        have : fieldsB (ats l) zs = false := by
          unfold fieldsB
          rw [List.all_eq_false]
          exact ⟨_, List.getElem_mem hltk, by rw [HQ.out]; simp⟩
        rw [this]; rfl
    · go_wp2
      go_ret
      refine ⟨?_, rfl⟩
      have : fieldsB (ats l) zs = true := by
        unfold fieldsB
        rw [List.all_eq_true]
        intro x hx
        obtain ⟨j, hj, rfl⟩ := List.mem_iff_getElem.1 hx
        exact hA.out j hj (by omega)
      rw [this]; rfl
theorem kIntOf_any (a : Int) (h0 : 0 ≤ a) (h1 : a ≤ 18446744073709551615) (w : World) :
    Calls Tryz.prog 91 #[.int .u64 a] w fun e w' => e = .returned (.int .i64 (numW a)) ∧ w' = w := by
  rw [← num_bits a h0 h1]
  go_enter Tryz.func91, Tryz.ntmps91
  go_wp2
  go_ret
  exact ⟨rfl, rfl⟩
theorem constK_bits (a : Int) : IntKind.u64.wrap (IntKind.u64.wrap (IntKind.u64.wrap a * 4) + 2) = constW a := by
  rw [IntKind.wrap_u64, IntKind.wrap_u64, IntKind.wrap_u64]; unfold constW; omega
theorem kConstWord_any (a : Int) (w : World) :
    Calls Tryz.prog 46 #[.int .i64 a] w fun e w' => e = .returned (.int .u64 (constW a)) ∧ w' = w := by
  rw [← constK_bits]
  go_enter Tryz.func46, Tryz.ntmps46
  go_wp2
  go_ret
  exact ⟨rfl, rfl⟩
theorem kHeadOf_yes (a : Int) (h0 : 0 ≤ a) (h1 : a ≤ 18446744073709551615) (h : isHd a = true) (w : World) :
    Calls Tryz.prog 112 #[.int .u64 a] w fun e w' => e = .returned (.tuple #[.int .i64 (hKind a), .int .i64 (hAge a), .int .i64 (hMark a), .int .i64 (hSize a), .bool true]) ∧ w' = w := by
  obtain ⟨a1, a2, a3⟩ := (isHd_iff a).1 h
  clear h
  go_enter Tryz.func112, Tryz.ntmps112
  go_wp2
  exact bodyPost_ret (v := .tuple #[.int .i64 (hKind a), .int .i64 (hAge a), .int .i64 (hMark a), .int .i64 (hSize a), .bool true]) (by simp [results, Tryz.results112, go_sem, hKind, hAge, hMark, hSize]) rfl ⟨rfl, rfl⟩
theorem kHeadOf_no (a : Int) (h0 : 0 ≤ a) (h1 : a ≤ 18446744073709551615) (h : isHd a = false) (w : World) :
    Calls Tryz.prog 112 #[.int .u64 a] w fun e w' => e = .returned (.tuple #[.int .i64 0, .int .i64 0, .int .i64 0, .int .i64 0, .bool false]) ∧ w' = w := by
  have hn : ¬ (a % 4 = 3 ∧ a / 32768 % 2 = 0 ∧ a / 65536 ≤ 4096) := by rw [← isHd_iff, h]; simp
  clear h
  by_cases a1 : a % 4 = 3
  · by_cases a2 : a / 32768 % 2 = 0
    · have a3 : decide (a / 65536 ≤ 4096) = false := by simp; omega
      clear hn
      go_enter Tryz.func112, Tryz.ntmps112
      go_wp2
      exact bodyPost_ret (v := .tuple #[.int .i64 0, .int .i64 0, .int .i64 0, .int .i64 0, .bool false]) (by simp [results, Tryz.results112, go_sem]) rfl ⟨rfl, rfl⟩
    · have b2 : (a / 32768 % 2 == 0) = false := by simpa using a2
      clear hn a2
      go_enter Tryz.func112, Tryz.ntmps112
      go_wp2
      exact bodyPost_ret (v := .tuple #[.int .i64 0, .int .i64 0, .int .i64 0, .int .i64 0, .bool false]) (by simp [results, Tryz.results112, go_sem]) rfl ⟨rfl, rfl⟩
  · have b1 : (a % 4 == 3) = false := by simpa using a1
    clear hn a1
    go_enter Tryz.func112, Tryz.ntmps112
    go_wp2
    exact bodyPost_ret (v := .tuple #[.int .i64 0, .int .i64 0, .int .i64 0, .int .i64 0, .bool false]) (by simp [results, Tryz.results112, go_sem]) rfl ⟨rfl, rfl⟩
end Go.Proofs.YtecbbbaafcoliaaGreatDoor
