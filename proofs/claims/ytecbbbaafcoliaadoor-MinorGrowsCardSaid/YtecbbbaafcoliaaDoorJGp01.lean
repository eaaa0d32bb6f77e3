/- The walks of the document's texts of numbers. -/
import Derived.Test.YtecbbbaafcoliaaDoorJMn06
import Derived.Laws.BytesArg
import Derived.IntWalk
import Derived.Test.YtecbbbaafcoliaaDoorJMn07
import Derived.Test.YtecbbbaafcoliaaDoorJMn30
import Derived.Test.YtecbbbaafcoliaaDoorJMn31
import Derived.Deep.LoopGhost
import Derived.Deep.RegionHeld3
namespace Go.Proofs.YtecbbbaafcoliaaDoor
open Go.RowKit
set_option linter.unusedVariables false
set_option linter.unusedSimpArgs false

theorem undU8s' : Tryd.prog.underlying 167 = some (.slice 5) := by kernel_rfl
/-- A byte as a text; a number's digits; a number as a text. -/
def byteS (n : Int) : ByteArray := strOfNums [n % 256]
def belowS : Nat → Int → ByteArray
  | 0, n => byteS (48 - n)
  | f + 1, n => if -10 < n then byteS (48 - n) else belowS f (n.tdiv 10) ++ byteS (48 - n.tmod 10)
def decS (n : Int) : ByteArray := if n < 0 then ⟨#[45]⟩ ++ belowS 20 n else belowS 20 (-n)
set_option maxRecDepth 100000 in
theorem byte_any (n : Int) (w : World) : Calls Tryd.prog 102 #[.int .i64 n] w fun e w' => e = .returned (.string (byteS n)) ∧ Ext w w' := by
  have hconv := run_convert_bytes_arg (P := Tryd.prog) (w.alloc (.cells #[.int .u8 (n % 256)] 5)) 167 5 undU8s' (by kernel_rfl) w.heap.size 0 1 1 [n % 256] rfl (fun i hi => by
    obtain rfl : i = 0 := by omega
    simp [go_sem]) 9 (by kernel_rfl)
  go_enter Tryd.func102, Tryd.ntmps102
  go_wp2
  go_ret
  exact ⟨rfl, (Ext.refl w).alloc_ _⟩
theorem byteS_size (n : Int) : (byteS n).size = 1 := by unfold byteS; rw [strOfNums_size]; rfl
theorem belowS_size : ∀ (f : Nat) (n : Int), (belowS f n).size ≤ f + 1
  | 0, n => by simp [belowS, byteS_size]
  | f + 1, n => by
    unfold belowS
    split
    · rw [byteS_size]; omega
    · rw [ByteArray.size_append, byteS_size]
      have := belowS_size f (n.tdiv 10)
      omega
theorem decS_size (n : Int) : (decS n).size ≤ 22 := by
  unfold decS
  split
  · rw [ByteArray.size_append]
    have := belowS_size 20 n
    have e : (⟨#[45]⟩ : ByteArray).size = 1 := rfl
    omega
  · have := belowS_size 20 (-n); omega
theorem tdiv10 (n : Int) (h : n ≤ 0) : n.tdiv 10 = -((-n) / 10) := by
  have h1 : (-n).tdiv 10 = (-n) / 10 := Int.tdiv_eq_ediv_of_nonneg (by omega)
  rw [← h1, Int.neg_tdiv, Int.neg_neg]
theorem below_any : ∀ (f : Nat) (n : Int), f ≤ 20 → n ≤ 0 → -9223372036854775808 ≤ n → -(10 ^ (f + 1) : Int) < n → ∀ w : World, Calls Tryd.prog 95 #[.int .i64 n] w fun e w' => e = .returned (.string (belowS f n)) ∧ Ext w w'
  | f, n, hf, h0, h1, h2, w => by
    by_cases hq : -10 < n
    · have e : belowS f n = byteS (48 - n) := by cases f <;> simp [belowS, hq]
      have e1 : IntKind.i64.wrap (48 - n) = 48 - n := IntWalk.i64_in _ (by omega)
      rw [e]
      clear h2
      go_enter Tryd.func95, Tryd.ntmps95
      go_wp2_with (go_at_call 102; refine (byte_any _ _).mono ?_; rintro e w1 ⟨rfl, hq1⟩; have HX1 := Lib.hid hq1; clear hq1)
      go_ret
      exact ⟨rfl, HX1.out⟩
    · obtain ⟨f, rfl⟩ : ∃ f', f = f' + 1 := by
        cases f with
        | zero => exact absurd h2 (by simp; omega)
        | succ f => exact ⟨f, rfl⟩
      have e : belowS (f + 1) n = belowS f (n.tdiv 10) ++ byteS (48 - n.tmod 10) := by simp [belowS, hq]
      have hd := tdiv10 n h0
      have hm : n.tmod 10 = n - 10 * n.tdiv 10 := Int.tmod_def n 10
      have hp : (10 : Int) ^ (f + 1 + 1) = 10 * 10 ^ (f + 1) := by rw [Int.pow_succ]; omega
      rw [hp] at h2
      have hz := belowS_size f (n.tdiv 10)
      have hz1 := byteS_size (48 - n.tmod 10)
      have ih := below_any f (n.tdiv 10) (by omega) (by omega) (by omega) (by rw [hd]; omega)
      rw [e]
      have e1 : IntKind.i64.wrap (48 - n.tmod 10) = 48 - n.tmod 10 := IntWalk.i64_in _ (by omega)
      have e2 : IntKind.i64.wrap (n.tdiv 10) = n.tdiv 10 := IntWalk.i64_in _ (by omega)
      have e3 : IntKind.i64.wrap (n.tmod 10) = n.tmod 10 := IntWalk.i64_in _ (by omega)
      have IH := Lib.hid ih
      clear hd hm hp h2 ih e
      go_enter Tryd.func95, Tryd.ntmps95
      go_wp2_with (first
        | (go_at_call 95; refine (IH.out _).mono ?_; rintro e w1 ⟨rfl, hq1⟩; have HX1 := Lib.hid hq1; clear hq1)
        | (go_at_call 102; refine (byte_any _ _).mono ?_; rintro e w2 ⟨rfl, hq1⟩; have HX2 := Lib.hid hq1; clear hq1))
      go_ret
      exact ⟨rfl, HX1.out.trans_ HX2.out⟩
theorem decimal_any (n : Int) (h0 : -9223372036854775808 < n) (h1 : n ≤ 9223372036854775807) (w : World) : Calls Tryd.prog 73 #[.int .i64 n] w fun e w' => e = .returned (.string (decS n)) ∧ Ext w w' := by
  unfold decS
  by_cases hq : n < 0
  · rw [if_pos hq]
    have hz := belowS_size 20 n
    go_enter Tryd.func73, Tryd.ntmps73
    go_wp2_with (go_at_call 95; refine (below_any 20 n (by omega) (by omega) (by omega) (by omega) _).mono ?_; rintro e w1 ⟨rfl, hq1⟩; have HX1 := Lib.hid hq1; clear hq1)
    go_ret
    exact ⟨rfl, HX1.out⟩
  · rw [if_neg hq]
    have e1 : IntKind.i64.wrap (-n) = -n := IntWalk.i64_in _ (by omega)
    go_enter Tryd.func73, Tryd.ntmps73
    go_wp2_with (go_at_call 95; refine (below_any 20 (-n) (by omega) (by omega) (by omega) (by omega) _).mono ?_; rintro e w1 ⟨rfl, hq1⟩; have HX1 := Lib.hid hq1; clear hq1)
    go_ret
    exact ⟨rfl, HX1.out⟩
end Go.Proofs.YtecbbbaafcoliaaDoor
/- The walks of the document's texts of words. -/
namespace Go.Proofs.YtecbbbaafcoliaaDoor
open Go.RowKit
set_option linter.unusedVariables false
set_option linter.unusedSimpArgs false

def digits16 : ByteArray := ⟨#[48, 49, 50, 51, 52, 53, 54, 55, 56, 57, 97, 98, 99, 100, 101, 102]⟩
def hexG : Nat → Int → ByteArray → ByteArray
  | 0, _, out => out
  | f + 1, a, out => hexG f (a / 16) (digits16.extract (a % 16).toNat ((a % 16).toNat + 1) ++ out)
def hexS (a : Int) : ByteArray := hexG 16 a ⟨#[]⟩
set_option maxRecDepth 100000 in
set_option maxHeartbeats 2000000 in
theorem hex_any (a : Int) (h0 : 0 ≤ a) (h1 : a ≤ 18446744073709551615) (w : World) : Calls Tryd.prog 74 #[.int .u64 a] w fun e w' => e = .returned (.string (hexS a)) ∧ w' = w := by
  go_enter Tryd.func74, Tryd.ntmps74
  go_wp2
  go_loop [0, 4, 5] (fun x out i => ∃ (k : Nat) (b : Int) (o : ByteArray), k ≤ 16 ∧ i = .int .i64 (k : Int) ∧ x = .int .u64 b ∧ out = .string o ∧ (0 ≤ b ∧ b ≤ 18446744073709551615) ∧ o.size ≤ k ∧ Hid (hexG (16 - k) b o = hexS a)) (fun _ _ i => 16 - (intOf i).toNat)
  case atStart => exact ⟨0, a, _, Nat.zero_le _, rfl, rfl, rfl, ⟨h0, h1⟩, Nat.le_refl _, rfl⟩
  case round =>
    obtain ⟨k, b, o, hk, rfl, rfl, rfl, ⟨hb0, hb1⟩, ho, hR⟩ := hrel
    by_cases hlt : k < 16
    · have hltz : (k : Int) < 16 := by omega
      obtain ⟨m, hm⟩ : ∃ m, 16 - k = m + 1 := ⟨16 - k - 1, by omega⟩
      rw [hm] at hR
      have hz : 0 ≤ b % 16 ∧ b % 16 < 16 := by omega
      obtain ⟨d, hd⟩ : ∃ d : Nat, b % 16 = d := ⟨(b % 16).toNat, by omega⟩
      rw [hd] at hz
      have hd16 : d < 16 := by omega
      have e1 : IntKind.u64.wrap ((d : Int) + 1) = ((d + 1 : Nat) : Int) := by rw [IntWalk.u64_in _ (by omega)]; omega
      have HD := Lib.hid hd
      have HM := Lib.hid hm
      have hsl := run_slice_string (P := Tryd.prog) w 9 digits16 .u64 .u64 (d : Int) ((d : Int) + 1) (by kernel_rfl) (by omega) (by omega) (by show (d : Int) + 1 ≤ (16 : Nat); omega)
      have hsz : (digits16.extract d (d + 1)).size = 1 := by rw [ByteArray.size_extract]; show min (d + 1) 16 - d = 1; omega
      have e2 : ((d : Int) + 1).toNat = d + 1 := by omega
      rw [Int.toNat_natCast, e2] at hsl
      generalize hx : digits16.extract d (d + 1) = x at hsl hsz
      unfold digits16 at hsl
      have HX := Lib.hid hx
      clear hx
      go_wp2
      refine ⟨⟨k + 1, b / 16, x ++ o, by omega, by go_num, by go_num, rfl, by omega, by rw [ByteArray.size_append]; omega, ?_⟩, by simp [intOf]; omega⟩
      have hm := HM.out
      have hR' := hR.out
      unfold hexG at hR'
      rw [HD.out, Int.toNat_natCast, HX.out] at hR'
      rw [show 16 - (k + 1) = m by omega]; exact hR'
    · obtain rfl : k = 16 := by omega
      have hR' : o = hexS a := hR.out
      subst hR'
      go_wp2
      go_ret
      exact ⟨rfl, rfl⟩
theorem hexG_size : ∀ (f : Nat) (a : Int) (o : ByteArray), (hexG f a o).size ≤ o.size + f
  | 0, a, o => Nat.le_refl _
  | f + 1, a, o => by
    unfold hexG
    refine Nat.le_trans (hexG_size f _ _) ?_
    rw [ByteArray.size_append, ByteArray.size_extract]
    omega
theorem hexS_size (a : Int) : (hexS a).size ≤ 16 := by
  have := hexG_size 16 a ⟨#[]⟩
  have e : (⟨#[]⟩ : ByteArray).size = 0 := rfl
  unfold hexS; omega
/-- A word as a text. -/
def constS (k : Nat) : ByteArray := [⟨#[110, 111, 110, 101]⟩, ⟨#[102, 97, 108, 115, 101]⟩, ⟨#[116, 114, 117, 101]⟩].getD k ⟨#[]⟩
def toldS (a : Int) (l : List Ob) : ByteArray :=
  if a % 4 = 1 then decS (numW a) else if a % 4 = 2 then constS (a / 4).toNat else if a = 0 then ⟨#[110, 111, 119, 104, 101, 114, 101]⟩ else
  if objAt l (ptsW a) < 0 then ⟨#[64]⟩ else ⟨#[64]⟩ ++ decS (objAt l (ptsW a))
theorem toldS_size (a : Int) (l : List Ob) : (toldS a l).size ≤ 30 := by
  unfold toldS
  split
  · have := decS_size (numW a); omega
  · split
    · unfold constS
      rcases Nat.lt_or_ge (a / 4).toNat 3 with h | h
      · have hh : (a / 4).toNat = 0 ∨ (a / 4).toNat = 1 ∨ (a / 4).toNat = 2 := by omega
        rcases hh with q | q | q <;> rw [q] <;> decide
      · rw [List.getD_eq_getElem?_getD, List.getElem?_eq_none (by simpa using h)]; decide
    · split
      · decide
      · split
        · decide
        · rw [ByteArray.size_append]
          have := decS_size (objAt l (ptsW a))
          have e : (⟨#[64]⟩ : ByteArray).size = 1 := rfl
          omega
theorem objAt_lt (l : List Ob) (p : Int) : -1 ≤ objAt l p ∧ objAt l p < (l.length : Int) ∨ objAt l p = -1 := by
  unfold objAt
  cases h : l.findIdx? (fun o => (o.a : Int) == p) with
  | none => right; rfl
  | some i =>
    left
    have := (List.findIdx?_eq_some_iff_getElem.1 h).1
    simp; omega
set_option maxRecDepth 100000 in
set_option maxHeartbeats 4000000 in
theorem told_any (a : Int) (h0 : 0 ≤ a) (h1 : a ≤ 18446744073709551615) (hc : a % 4 = 2 → a / 4 ≤ 2) (la : Option Addr) (lc : Nat) (l : List Ob) (w : World) (hl : l.length ≤ 1000000) (hR : RSl w la (ocells l)) :
    Calls Tryd.prog 72 #[.int .u64 a, .slice la l.length lc] w fun e w' => e = .returned (.string (toldS a l)) ∧ Ext w w' := by
  have HR := Lib.hid hR
  have hll : l.length ≤ 9223372036854775807 := by omega
  have hnum : -9223372036854775808 < numW a ∧ numW a ≤ 9223372036854775807 := by unfold numW; split <;> omega
  have hoa := objAt_lt l (ptsW a)
  clear hR
  unfold toldS
  by_cases q1 : a % 4 = 1
  · rw [if_pos q1]
    have b1 : (a % 4 == 1) = true := by simp [q1]
    go_enter Tryd.func72, Tryd.ntmps72
    go_wp2_with (first
      | (go_at_call 94; refine (kIntOf_any _ h0 h1 _).mono ?_; rintro e w' ⟨rfl, rfl⟩)
      | (go_at_call 73; refine (decimal_any _ hnum.1 hnum.2 _).mono ?_; rintro e w1 ⟨rfl, hq⟩; have HX := Lib.hid hq; clear hq))
    go_ret
    exact ⟨rfl, HX.out⟩
  · rw [if_neg q1]
    have b1 : (a % 4 == 1) = false := by simp [q1]
    by_cases q2 : a % 4 = 2
    · rw [if_pos q2]
      have b2 : (a % 4 == 2) = true := by simp [q2]
      have hc' := hc q2
      obtain ⟨d, hd⟩ : ∃ d : Nat, a / 4 = d := ⟨(a / 4).toNat, by omega⟩
      rw [hd, Int.toNat_natCast]
      have hd3 : d = 0 ∨ d = 1 ∨ d = 2 := by omega
      clear hc hc' hoa
      rcases hd3 with rfl | rfl | rfl
      all_goals
        go_enter Tryd.func72, Tryd.ntmps72
        go_wp2
        go_ret
        exact ⟨rfl, by repeat (first | exact Ext.refl _ | (refine Ext.drew_ ?_) | (refine Ext.drewN_ ?_ _) | (refine Ext.alloc_ ?_ _))⟩
    · rw [if_neg q2]
      have b2 : (a % 4 == 2) = false := by simp [q2]
      clear hc
      by_cases q3 : a = 0
      · rw [if_pos q3]
        have b3 : (a == 0) = true := by simp [q3]
        go_enter Tryd.func72, Tryd.ntmps72
        go_wp2
        go_ret
        exact ⟨rfl, Ext.refl _⟩
      · rw [if_neg q3]
        have b3 : (a == 0) = false := by simp [q3]
        obtain ⟨k, hk⟩ : ∃ k, objAt l (ptsW a) = k := ⟨_, rfl⟩
        rw [hk] at hoa ⊢
        have HK := Lib.hid hk
        have hdz := decS_size k
        clear hk
        by_cases q4 : k < 0
        · rw [if_pos q4]
          go_enter Tryd.func72, Tryd.ntmps72
          go_wp2_with (first
            | (go_at_call 48; refine (points_any _ h0 h1 _).mono ?_; rintro e w' ⟨rfl, rfl⟩)
            | (go_at_call 49; refine (objectAt_any _ _ l _ _ hll HR.out).mono ?_; rintro e w' ⟨he, rfl⟩; rw [HK.out] at he; subst he))
          go_ret
          exact ⟨rfl, Ext.refl _⟩
        · rw [if_neg q4]
          go_enter Tryd.func72, Tryd.ntmps72
          go_wp2_with (first
            | (go_at_call 48; refine (points_any _ h0 h1 _).mono ?_; rintro e w' ⟨rfl, rfl⟩)
            | (go_at_call 49; refine (objectAt_any _ _ l _ _ hll HR.out).mono ?_; rintro e w' ⟨he, rfl⟩; rw [HK.out] at he; subst he)
            | (go_at_call 73; refine (decimal_any _ (by omega) (by omega) _).mono ?_; rintro e w1 ⟨rfl, hq⟩; have HX := Lib.hid hq; clear hq))
          go_ret
          exact ⟨rfl, HX.out⟩
end Go.Proofs.YtecbbbaafcoliaaDoor
/- A graph as a text: plainly; what moves has the same text. -/
namespace Go.Proofs.YtecbbbaafcoliaaDoor
open Go.RowKit
set_option linter.unusedVariables false
set_option linter.unusedSimpArgs false

def nlS : ByteArray := ⟨#[10]⟩
def rootS (l : List Ob) (out : ByteArray) (u : Int) : ByteArray := ((out ++ ⟨#[114, 111, 111, 116, 32]⟩) ++ toldS u l) ++ ⟨#[10]⟩
def rootsS (l : List Ob) (us : List Int) (out : ByteArray) : ByteArray := us.foldl (rootS l) out
def fieldS (l : List Ob) (kind : Int) (out : ByteArray) (u : Int) : ByteArray := if kind < 8 then (out ++ ⟨#[32, 48, 120]⟩) ++ hexS u else (out ++ ⟨#[32]⟩) ++ toldS u l
def fieldsS (l : List Ob) (kind : Int) (us : List Int) (out : ByteArray) : ByteArray := us.foldl (fieldS l kind) out
def headS (i : Nat) (kind : Int) (out : ByteArray) : ByteArray := ((out ++ decS (i : Int)) ++ ⟨#[32]⟩) ++ decS kind
/-- The objects, from the i-th on. -/
def objsS (W : List Int) (l : List Ob) : Nat → List Ob → ByteArray → ByteArray
  | _, [], out => out
  | i, o :: r, out => objsS W l (i + 1) r (fieldsS l (hKind o.w) (fldsW W o) (headS i (hKind o.w) out) ++ ⟨#[10]⟩)
def weakS (l : List Ob) (out : ByteArray) (u : Int) : ByteArray := ((out ++ ⟨#[119, 101, 97, 107, 32]⟩) ++ toldS u l) ++ ⟨#[10]⟩
def weaksS (l : List Ob) (us : List Int) (out : ByteArray) : ByteArray := us.foldl (weakS l) out
/-- The first text. -/
def graphS (M : Mem) : ByteArray := objsS M.W (reachP M) 0 (reachP M) (rootsS (reachP M) M.roots ⟨#[]⟩)
/-- The next number: where it stands (-1: none). -/
def nextB (ids : List (Int × Int)) (last : Int) (nx : Int) (i : Nat) : Bool := decide (last < (ids.getD i (0, 0)).2) && (decide (nx < 0) || decide ((ids.getD i (0, 0)).2 < (ids.getD nx.toNat (0, 0)).2))
def nextS (ids : List (Int × Int)) (last : Int) : Nat → Int
  | 0 => -1
  | k + 1 => if nextB ids last (nextS ids last k) k then (k : Int) else nextS ids last k
theorem nextS_in (ids : List (Int × Int)) (last : Int) : ∀ k : Nat, k ≤ ids.length → nextS ids last k = -1 ∨ (0 ≤ nextS ids last k ∧ nextS ids last k < (k : Int) ∧ last < (ids.getD (nextS ids last k).toNat (0, 0)).2)
  | 0, _ => Or.inl rfl
  | k + 1, h => by
    unfold nextS
    split
    · rename_i hb
      right
      unfold nextB at hb
      simp only [Bool.and_eq_true, decide_eq_true_eq] at hb
      refine ⟨by omega, by omega, ?_⟩
      rw [Int.toNat_natCast]; exact hb.1
    · rcases nextS_in ids last k (by omega) with q | ⟨q1, q2, q3⟩
      · exact Or.inl q
      · exact Or.inr ⟨q1, by omega, q3⟩
def idLine (l : List Ob) (x : Int × Int) (out : ByteArray) : ByteArray :=
  if 0 ≤ objAt l (ptsW x.1) then ((((out ++ ⟨#[105, 100, 32]⟩) ++ decS x.2) ++ ⟨#[32, 64]⟩) ++ decS (objAt l (ptsW x.1))) ++ ⟨#[10]⟩ else out
/-- How many numbers are greater. -/
def moreN (ids : List (Int × Int)) (last : Int) : Nat := (ids.filter fun x => decide (last < x.2)).length
def idsS (ids : List (Int × Int)) (l : List Ob) : Nat → Int → ByteArray → ByteArray
  | 0, _, out => out
  | f + 1, last, out =>
    if nextS ids last ids.length < 0 then out else
    idsS ids l f (ids.getD (nextS ids last ids.length).toNat (0, 0)).2 (idLine l (ids.getD (nextS ids last ids.length).toNat (0, 0)) out)
/-- The second text. -/
def moreS (M : Mem) : ByteArray := idsS M.ids (reachP M) (M.ids.length + 1) 0 (weaksS (reachP M) M.weak ⟨#[]⟩)
theorem moreN_less (ids : List (Int × Int)) (last : Int) (x : Int × Int) (hx : x ∈ ids) (h : last < x.2) : moreN ids x.2 < moreN ids last := by
  unfold moreN
  induction ids with
  | nil => simp at hx
  | cons y l ih =>
    have hsub : ∀ l : List (Int × Int), (l.filter fun z => decide (x.2 < z.2)).length ≤ (l.filter fun z => decide (last < z.2)).length := fun l => by
      induction l with
      | nil => simp
      | cons z l ih =>
        rw [List.filter_cons, List.filter_cons]
        by_cases q : x.2 < z.2
        · rw [if_pos (decide_eq_true q), if_pos (decide_eq_true (by omega)), List.length_cons, List.length_cons]; omega
        · rw [if_neg (by simpa using q)]
          split
          · rw [List.length_cons]; omega
          · exact ih
    rw [List.filter_cons, List.filter_cons]
    rcases List.mem_cons.1 hx with rfl | hx
    · rw [if_neg (by simp), if_pos (by simpa using h), List.length_cons]
      have := hsub l; omega
    · have := ih hx
      by_cases q : x.2 < y.2
      · rw [if_pos (decide_eq_true q), if_pos (decide_eq_true (by omega)), List.length_cons, List.length_cons]; omega
      · rw [if_neg (by simpa using q)]
        split
        · rw [List.length_cons]; omega
        · exact this

section
variable {V W : List Int} {Dom : Nat → Prop} {f : Nat → Nat}
theorem objAt_map (hm : Morph V W Dom f) : ∀ (l : List Ob), InD V Dom l → ∀ a : Nat, Dom a → objAt (l.map fun o => obW W (f o.a)) (f a : Int) = objAt l (a : Int)
  | l, h, a, ha => by
    unfold objAt
    suffices key : List.findIdx? (fun o : Ob => (o.a : Int) == (f a : Int)) (l.map fun o => obW W (f o.a)) = List.findIdx? (fun o : Ob => (o.a : Int) == (a : Int)) l by rw [key]
    induction l with
    | nil => rfl
    | cons o l ih =>
      have ih' := ih fun x hx => h x (by simp [hx])
      rw [List.map_cons, List.findIdx?_cons, List.findIdx?_cons]
      have e : (((obW W (f o.a)).a : Int) == (f a : Int)) = ((o.a : Int) == (a : Int)) := by
        rw [Bool.eq_iff_iff]
        simp only [beq_iff_eq]
        show (f o.a : Int) = (f a : Int) ↔ _
        constructor
        · intro q
          have := hm.inj o.a a (h o (by simp)).1 ha (by omega)
          omega
        · intro q
          rw [show o.a = a by omega]
      rw [e, ih']
theorem told_map (hm : Morph V W Dom f) {l : List Ob} (h : InD V Dom l) {u v : Int} (hc : Cor f Dom u v) : toldS v (l.map fun o => obW W (f o.a)) = toldS u l := by
  rcases hc with ⟨h1, h2⟩ | ⟨a, h1, h2, h3, h4, h5, h6, h7⟩
  · subst h2
    unfold toldS
    have e : ∀ l : List Ob, objAt l (ptsW v) = -1 := fun l => by
      unfold objAt
      rw [List.findIdx?_eq_none_iff.2 (fun x hx => by
        simp only [beq_eq_false_iff_ne, ne_eq]; omega)]
      rfl
    rw [e, e]
  · unfold kindW at h4 h6
    have key : ∀ (u : Int) (l : List Ob), u % 4 = 0 → u ≠ 0 → toldS u l = (if objAt l (ptsW u) < 0 then ⟨#[64]⟩ else ⟨#[64]⟩ ++ decS (objAt l (ptsW u))) := fun u l g1 g2 => by
      unfold toldS
      rw [if_neg (show ¬ u % 4 = 1 by omega), if_neg (show ¬ u % 4 = 2 by omega), if_neg g2]
    rw [key v _ h6 h7, key u _ h4 h5, h1, h3, objAt_map hm l h a h2]
theorem rootsS_map (hm : Morph V W Dom f) {l : List Ob} (h : InD V Dom l) : ∀ (us vs : List Int) (out : ByteArray), us.length = vs.length → (∀ i, i < us.length → Cor f Dom (us.getD i 0) (vs.getD i 0)) → rootsS (l.map fun o => obW W (f o.a)) vs out = rootsS l us out
  | [], [], out, _, _ => rfl
  | u :: us, v :: vs, out, hl, hc => by
    have h0 : Cor f Dom u v := hc 0 (by simp)
    have ih := rootsS_map hm h us vs (rootS l out u) (by simpa using hl) fun i hi => by simpa using hc (i + 1) (by simpa using hi)
    unfold rootsS at ih ⊢
    rw [List.foldl_cons, List.foldl_cons, ← ih]
    unfold rootS
    rw [told_map hm h h0]
theorem fieldsS_raw (l l' : List Ob) (kind : Int) (hk : kind < 8) : ∀ (us : List Int) (out : ByteArray), fieldsS l kind us out = fieldsS l' kind us out
  | [], out => rfl
  | u :: us, out => by
    unfold fieldsS
    rw [List.foldl_cons, List.foldl_cons]
    have e : fieldS l kind out u = fieldS l' kind out u := by unfold fieldS; rw [if_pos hk, if_pos hk]
    rw [e]
    exact fieldsS_raw l l' kind hk us _
theorem fieldsS_map (hm : Morph V W Dom f) {l : List Ob} (h : InD V Dom l) (kind : Int) (hk : ¬ kind < 8) : ∀ (us vs : List Int) (out : ByteArray), us.length = vs.length → (∀ i, i < us.length → Cor f Dom (us.getD i 0) (vs.getD i 0)) → fieldsS (l.map fun o => obW W (f o.a)) kind vs out = fieldsS l kind us out
  | [], [], out, _, _ => rfl
  | u :: us, v :: vs, out, hl, hc => by
    have h0 : Cor f Dom u v := hc 0 (by simp)
    have ih := fieldsS_map hm h kind hk us vs (fieldS l kind out u) (by simpa using hl) fun i hi => by simpa using hc (i + 1) (by simpa using hi)
    unfold fieldsS at ih ⊢
    rw [List.foldl_cons, List.foldl_cons, ← ih]
    unfold fieldS
    rw [if_neg hk, if_neg hk, told_map hm h h0]
theorem objsS_map (hm : Morph V W Dom f) {l : List Ob} (h : InD V Dom l) : ∀ (r : List Ob) (i : Nat) (out : ByteArray), InD V Dom r → objsS W (l.map fun o => obW W (f o.a)) i (r.map fun o => obW W (f o.a)) out = objsS V l i r out
  | [], i, out, _ => rfl
  | o :: r, i, out, hr => by
    obtain ⟨hd, e⟩ := hr o (by simp)
    have ew : o.w = wat V o.a := by rw [e]; rfl
    rw [List.map_cons, objsS, objsS]
    have hk : hKind (obW W (f o.a)).w = hKind o.w := by rw [ew]; exact hm.kind _ hd
    have hn : (obW W (f o.a)).n = o.n := by unfold Ob.n; rw [ew]; show (hSize (wat W (f o.a))).toNat = _; rw [hm.size _ hd]
    have hsz : szW V o.a = o.n := by unfold szW Ob.n; rw [ew]
    have hfs : ∀ out, fieldsS (l.map fun o => obW W (f o.a)) (hKind o.w) (fldsW W (obW W (f o.a))) out = fieldsS l (hKind o.w) (fldsW V o) out := fun out => by
      by_cases q : hKind o.w < 8
      · have hraw : rawB (hKind (wat V o.a)) = true := by rw [← ew]; unfold rawB; exact decide_eq_true q
        have e2 : fldsW W (obW W (f o.a)) = fldsW V o := by
          unfold fldsW
          rw [hn]
          refine List.map_congr_left fun i hi => ?_
          exact hm.raw o.a hd hraw i (by rw [hsz]; exact List.mem_range.1 hi)
        rw [e2]
        exact fieldsS_raw _ _ _ q _ _
      · have hraw : rawB (hKind (wat V o.a)) = false := by rw [← ew]; unfold rawB; exact decide_eq_false q
        refine fieldsS_map hm h _ q _ _ _ (by simp [fldsW, hn]) fun i hi => ?_
        have hi' : i < o.n := by simpa [fldsW] using hi
        have g1 : (fldsW V o).getD i 0 = wat V (o.a + 1 + i) := by simp [fldsW, List.getD_eq_getElem?_getD, hi']
        have g2 : (fldsW W (obW W (f o.a))).getD i 0 = wat W (f o.a + 1 + i) := by
          have hi2 : i < (obW W (f o.a)).n := by rw [hn]; exact hi'
          simp [fldsW, List.getD_eq_getElem?_getD, hi2]; rfl
        rw [g1, g2]
        exact hm.fld o.a hd hraw i (by rw [hsz]; exact hi')
    rw [hk, hfs]
    exact objsS_map hm h r (i + 1) _ fun x hx => hr x (by simp [hx])
end
theorem graph_map {M N : Mem} {Dom : Nat → Prop} {f : Nat → Nat} (hm : Morph M.W N.W Dom f) (hl : N.W.length = M.W.length) (hr : M.roots.length = N.roots.length) (hc : ∀ i, i < M.roots.length → Cor f Dom (M.roots.getD i 0) (N.roots.getD i 0)) : graphS N = graphS M := by
  obtain ⟨e1, e2⟩ := reach_sim hm hl hr hc
  unfold graphS
  rw [e1, rootsS_map hm e2 M.roots N.roots _ hr hc, objsS_map hm e2 _ 0 _ e2]
end Go.Proofs.YtecbbbaafcoliaaDoor
/- The walk of the document's GraphOf. -/
namespace Go.Proofs.YtecbbbaafcoliaaDoor
open Go.RowKit
set_option linter.unusedVariables false
set_option linter.unusedSimpArgs false

theorem lit_size (l : Array UInt8) : (⟨l⟩ : ByteArray).size = l.size := rfl
theorem rootS_size (l : List Ob) (out : ByteArray) (u : Int) : (rootS l out u).size ≤ out.size + 40 := by
  have := toldS_size u l
  unfold rootS
  simp only [ByteArray.size_append, lit_size]
  simp; omega
theorem weakS_size (l : List Ob) (out : ByteArray) (u : Int) : (weakS l out u).size ≤ out.size + 40 := by
  have := toldS_size u l
  unfold weakS
  simp only [ByteArray.size_append, lit_size]
  simp; omega
theorem fieldS_size (l : List Ob) (kind : Int) (out : ByteArray) (u : Int) : (fieldS l kind out u).size ≤ out.size + 40 := by
  have := toldS_size u l
  have := hexS_size u
  unfold fieldS
  split
  · simp only [ByteArray.size_append, lit_size]
    simp; omega
  · simp only [ByteArray.size_append, lit_size]
    simp; omega
theorem fieldsS_size (l : List Ob) (kind : Int) : ∀ (us : List Int) (out : ByteArray), (fieldsS l kind us out).size ≤ out.size + 40 * us.length
  | [], out => by simp [fieldsS]
  | u :: us, out => by
    have h1 := fieldS_size l kind out u
    have h2 := fieldsS_size l kind us (fieldS l kind out u)
    unfold fieldsS at h2 ⊢
    rw [List.foldl_cons, List.length_cons]; omega
theorem headS_size (i : Nat) (kind : Int) (out : ByteArray) : (headS i kind out).size ≤ out.size + 50 := by
  have := decS_size (i : Int)
  have := decS_size kind
  unfold headS
  simp only [ByteArray.size_append, lit_size]
  simp; omega
theorem idLine_size (l : List Ob) (x : Int × Int) (out : ByteArray) : (idLine l x out).size ≤ out.size + 60 := by
  have := decS_size x.2
  have := decS_size (objAt l (ptsW x.1))
  unfold idLine
  split
  · simp only [ByteArray.size_append, lit_size]
    simp; omega
  · omega
theorem foldl_snoc {α : Type} (g : ByteArray → α → ByteArray) (out : ByteArray) (us : List α) (k : Nat) (hk : k < us.length) : (us.take (k + 1)).foldl g out = g ((us.take k).foldl g out) us[k] := by
  rw [List.take_add_one, List.getElem?_eq_getElem hk, List.foldl_append]; rfl
def GraphPost (w : World) (M : Mem) (e : Ending) (w' : World) : Prop := e = .returned (.tuple #[.string (graphS M), .string (moreS M)]) ∧ Ext w w'
set_option maxRecDepth 100000 in
set_option maxHeartbeats 16000000 in
theorem graph_walk (b o : Nat) (M : Mem) (S : Sls) (w : World) (hM : RMem w b o M S) (hg : goodB M = true) (hF : Few M) :
    Calls Tryd.prog 28 #[.pointer (some ⟨b, o, none⟩)] w (GraphPost w M) := by
  obtain ⟨hs, hob, hro, hwk, hfo, hid⟩ := good_parts hg
  have hlr := (reachP_gath hg).len
  have hlo := objs_len hs
  have hlM := len_small hs
  have hrl : (reachP M).length ≤ 196608 := by omega
  have hwrd : ∀ l : List Int, fieldsB (startsM M) l = true → ∀ k, k < l.length → (l.getD k 0) % 4 = 2 → (l.getD k 0) / 4 ≤ 2 := fun l hl k hk h2 => by
    unfold fieldsB at hl
    rw [List.all_eq_true] at hl
    have h := getD_in (P := fun x => fldB (startsM M) x = true) hl hk
    unfold fldB kindW at h
    rw [if_neg (by omega), if_neg (by omega), if_pos h2] at h
    exact of_decide_eq_true h
  have HRO := Lib.hid (hwrd M.roots hro)
  have HWK := Lib.hid (hwrd M.weak hwk)
  have HRB : Hid (∀ k, k < M.roots.length → 0 ≤ M.roots.getD k 0 ∧ M.roots.getD k 0 ≤ 18446744073709551615) := fun k hk => getD_in (P := fun x => 0 ≤ x ∧ x ≤ 18446744073709551615) hM.ok.roots hk
  have HWB : Hid (∀ k, k < M.weak.length → 0 ≤ M.weak.getD k 0 ∧ M.weak.getD k 0 ≤ 18446744073709551615) := fun k hk => getD_in (P := fun x => 0 ≤ x ∧ x ≤ 18446744073709551615) hM.ok.weak hk
  have HMEM : Hid (∀ x ∈ reachP M, x ∈ objsAll M) := fun x hx => (reachP_gath hg).mem x hx
  have hRl := hF.R
  have hKl := hF.K
  have hIl := hF.I
  have HM := Lib.hid hM
  have HG := Lib.hid hg
  have HS := Lib.hid hs
  have HFO := Lib.hid hfo
  clear hM hg hs hob hro hwk hfo hid hF hwrd hlr hlo hlM
  go_enter Tryd.func28, Tryd.ntmps28
  go_wp2_with (go_at_call 27; refine (reached_walk b o M S _ HM.out HG.out).mono ?_; rintro e w1 ⟨la, lc, rfl, hO, hE⟩; have HL := Lib.hid (own_rsl hO); have HE1 := Lib.hid hE; clear hO hE)
  obtain ⟨l, hl⟩ : ∃ l, l = reachP M := ⟨_, rfl⟩
  rw [← hl] at HL HMEM hrl ⊢
  have HLL := Lib.hid hl
  clear hl
  go_loopg [6, 5] (M.roots.length) (fun r i out wr => ∃ (k : Nat) (s : ByteArray), k + r = M.roots.length ∧ i = .int .i64 (k : Int) ∧ out = .string s ∧ s.size ≤ 40 * k ∧ Hid (s = rootsS l (M.roots.take k) ⟨#[]⟩) ∧ Hid (Ext w1 wr))
  case atStart => exact ⟨0, _, by omega, rfl, rfl, Nat.le_refl _, rfl, Ext.refl _⟩
  case round =>
    obtain ⟨k, s, hk, rfl, rfl, hsz, hs, hE⟩ := hrel
    have hMr : RMem wr b o M S := HM.out.ext (HE1.out.trans_ hE.out)
    have c_R := hMr.roots
    cases gk with
    | succ r =>
      have hlt : k < M.roots.length := by omega
      have hltz : (k : Int) < (M.roots.length : Int) := by omega
      obtain ⟨rb, ro, hRa, hc⟩ := hMr.rR k _ (wcells_at M.roots k hlt)
      rw [hRa] at c_R
      obtain ⟨hu2, hu3⟩ := HRB.out k hlt
      have hu1 := HRO.out k hlt
      have hsn := foldl_snoc (rootS l) ⟨#[]⟩ M.roots k hlt
      have hgd : M.roots[k] = M.roots.getD k 0 := by rw [List.getD_eq_getElem?_getD, List.getElem?_eq_getElem hlt]; rfl
      rw [hgd] at hsn
      generalize M.roots.getD k 0 = u at *
      have ht := toldS_size u l
      have hrs := rootS_size l s u
      have HU := Lib.hid hu1
      have HSN := Lib.hid hsn
      have HK2 := Lib.hid hk
      clear hMr hRa hu1 hsn hgd hk hlt
      go_wp2_with (go_at_call 72; refine (told_any u hu2 hu3 HU.out la lc l _ (by omega) (HL.out.ext hE.out)).mono ?_; rintro e w2 ⟨rfl, hq⟩; have HX2 := Lib.hid hq; clear hq)
      go_roundg r
      case measure => omega
      case rel =>
        refine ⟨k + 1, rootS l s u, (by have := HK2.out; omega), (by go_num), rfl, (by omega), ?_, hE.out.trans_ HX2.out⟩
        show _ = _
        unfold rootsS at hs ⊢
        rw [HSN.out, ← hs.out]
    | zero =>
      obtain rfl : k = M.roots.length := by omega
      have hltz : ¬ ((M.roots.length : Nat) : Int) < (M.roots.length : Int) := by omega
      have hs' : s = rootsS l M.roots ⟨#[]⟩ := by have := hs.out; rw [List.take_length] at this; exact this
      have HS1 := Lib.hid hs'
      clear hs hs' hk
      go_wp2
      obtain ⟨wA, rfl⟩ : ∃ x, x = wr := ⟨wr, rfl⟩
      have HEA : Hid (Ext w1 wA) := hE.out
      have HG0 : Hid (objsS M.W l (0) (l.drop 0) s = graphS M) := by
        unfold Hid graphS
        rw [← HLL.out, List.drop_zero, HS1.out]
      have HL0 : Hid (l.length ≤ 196608) := hrl
      have hsz0 : s.size ≤ 40000000 := by omega
      clear hE hMr c_R hltz hsz HS1
      go_loopg [7, 5] (l.length) (fun r i out wr => ∃ (k : Nat) (s : ByteArray), k + r = l.length ∧ i = .int .i64 (k : Int) ∧ out = .string s ∧ s.size ≤ 40000000 + 200000 * k ∧ Hid (objsS M.W l k (l.drop k) s = graphS M) ∧ Hid (Ext w1 wr))
      case atStart => exact ⟨0, s, by omega, rfl, rfl, by omega, HG0, HEA⟩
      case round =>
        clear HG0 hsz0
        obtain ⟨k, s, hk, rfl, rfl, hsz, hs, hE⟩ := hrel
        cases gk with
        | succ r =>
          have hlt : k < l.length := by omega
          have hltz : (k : Int) < (l.length : Int) := by omega
          obtain ⟨ob, oo, rfl, c0, c1, c2, c3⟩ := ob_cells4 (HL.out.ext hE.out) hlt
          have hmem := HMEM.out _ (List.getElem_mem hlt)
          have hdrop : l.drop k = l[k] :: l.drop (k + 1) := List.drop_eq_getElem_cons hlt
          have hs2 := hs.out
          rw [hdrop, objsS] at hs2
          obtain ⟨m1, m2, m3⟩ := mem_in HS.out hmem
          have hobn := found_n HM.out.ok HS.out hmem
          have hhd := hd_in l[k].w (by rw [m2]; exact (wat_in HM.out.ok _).1)
          have hsz4 := ((isHd_iff l[k].w).1 m3).2.2
          have hfo : rawB (hKind l[k].w) = false → ∀ j, j < l[k].n → fldB (startsM M) (wat M.W (l[k].a + 1 + j)) = true := fun hr j hj => fld_ok HFO.out hmem hr j hj
          have hsz44 : hSize l[k].w ≤ 4096 := hsz4
          have hW := len_small HS.out
          generalize l[k] = x at *
          have hob1 := cell_lt c0
          simp only at hob1
          obtain ⟨kd, hkd⟩ : ∃ kd, hKind x.w = kd := ⟨_, rfl⟩
          rw [hkd] at c1 hs2 hhd hfo
          have hdz1 := decS_size (k : Int)
          have hdz2 := decS_size kd
          have hk64 : (k : Int) ≤ 9223372036854775807 := by omega
          have hhs := headS_size k kd s
          have n1 : ¬ 9223372036854775807 < s.size + (decS (k : Int)).size := by omega
          have n2 : ¬ 9223372036854775807 < s.size + (decS (k : Int)).size + 1 := by omega
          have n3 : ¬ 9223372036854775807 < s.size + (decS (k : Int)).size + 1 + (decS kd).size := by omega
          obtain ⟨hk0, hk255, _⟩ := hhd
          have HS2 := Lib.hid hs2
          have HK2 := Lib.hid hk
          have HM1 := Lib.hid m1
          have HFO2 := Lib.hid hfo
          have HXN : Hid ((x.n : Int) = hSize x.w) := hobn
          have HE2 := Lib.hid hE.out
          have HSZ := Lib.hid hsz
          have HWW := Lib.hid hW
          clear hs hs2 hdrop hmem m1 m2 m3 hobn hfo hE hkd hk hlt hW hsz4
          go_wp2
          refine wp_region_held_drew (S := fun W => W.cell? ⟨wr.heap.size, 1, none⟩ = some (.int .i64 kd)) (by kernel_rfl) ?_ (fun hHeld => ?_)
          · (simp [go_sem])
          refine wpAnyH_take (i := 0) (oi := ⟨some 51, _, _, _, _, _⟩) (v := ?_) rfl (by kernel_rfl) (by kernel_rfl) (by kernel_rfl) (fun _ _ _ h => h) (Or.inl ⟨by rfl, ?_⟩) (by assumption) ?_
          rotate_left
          · (intro w hSw; (try dsimp only at hSw); go_simp; try with_reducible rfl)
          try simp only [Act.put, List.setIfInBounds_toArray, List.set_cons_zero, List.set_cons_succ]
          refine wpAnyH_take (i := 1) (oi := ⟨some 52, _, _, _, _, _⟩) (v := ?_) rfl (by kernel_rfl) (by kernel_rfl) (by kernel_rfl) (fun _ _ _ h => h) (Or.inl ⟨by rfl, ?_⟩) (by assumption) ?_
          rotate_left
          · (intro w hSw; (try dsimp only at hSw); go_simp; try with_reducible rfl)
          try simp only [Act.put, List.setIfInBounds_toArray, List.set_cons_zero, List.set_cons_succ]
          refine wpAnyH_take (i := 5) (oi := ⟨some 56, _, _, _, _, _⟩) (v := ?_) rfl (by kernel_rfl) (by kernel_rfl) (by kernel_rfl) (fun _ _ _ h => h) (Or.inl ⟨by rfl, ?_⟩) (by assumption) ?_
          rotate_left
          · (intro w hSw; (try dsimp only at hSw); go_simp; try with_reducible rfl)
          try simp only [Act.put, List.setIfInBounds_toArray, List.set_cons_zero, List.set_cons_succ]
          refine wpAnyH_take (i := 6) (oi := ⟨some 57, _, _, _, _, _⟩) (v := ?_) rfl (by kernel_rfl) (by kernel_rfl) (by kernel_rfl) (fun _ _ _ h => h) (Or.inl ⟨by rfl, ?_⟩) (by assumption) ?_
          rotate_left
          · (intro w hSw; (try dsimp only at hSw); go_simp; try with_reducible rfl)
          try simp only [Act.put, List.setIfInBounds_toArray, List.set_cons_zero, List.set_cons_succ]
          refine wpAnyH_ready (rs := [2]) (by kernel_rfl) (by simp) ?_
          refine AllReadyH.cons (o := ⟨some 53, _, _, _, _, _⟩) rfl (fun K hK => ?_) AllReadyH.nil
          go_simp
          refine (decimal_any _ (by omega) (by omega) _).mono ?_
          rintro e w2 ⟨rfl, hq⟩
          have q2 := hq.cell_ hHeld
          have HX2 := Lib.hid hq
          clear hq
          refine hK.out _ _ ?_ (fun hHeld => ?_)
          · (try dsimp only); exact q2
          clear hK K
          try simp only [Act.put, List.setIfInBounds_toArray, List.set_cons_zero, List.set_cons_succ]
          refine wpAnyH_take (i := 3) (oi := ⟨some 54, _, _, _, _, _⟩) (v := ?_) rfl (by kernel_rfl) (by kernel_rfl) (by kernel_rfl) (fun _ _ _ h => h) (Or.inl ⟨by rfl, ?_⟩) (by assumption) ?_
          rotate_left
          · (intro w hSw; (try dsimp only at hSw); go_simp; try with_reducible rfl)
          try simp only [Act.put, List.setIfInBounds_toArray, List.set_cons_zero, List.set_cons_succ]
          refine wpAnyH_take (i := 4) (oi := ⟨some 55, _, _, _, _, _⟩) (v := ?_) rfl (by kernel_rfl) (by kernel_rfl) (by kernel_rfl) (fun _ _ _ h => h) (Or.inl ⟨by rfl, ?_⟩) (by assumption) ?_
          rotate_left
          · (intro w hSw; (try dsimp only at hSw); go_simp; try with_reducible rfl)
          try simp only [Act.put, List.setIfInBounds_toArray, List.set_cons_zero, List.set_cons_succ]
          refine wpAnyH_ready (rs := [7]) (by kernel_rfl) (by simp) ?_
          refine AllReadyH.cons (o := ⟨some 58, _, _, _, _, _⟩) rfl (fun K hK => ?_) AllReadyH.nil
          go_simp
          refine (decimal_any _ (by omega) (by omega) _).mono ?_
          rintro e w3 ⟨rfl, hq⟩
          have q3 := hq.cell_ hHeld
          have HX3 := Lib.hid hq
          clear hq
          refine hK.out _ _ ?_ (fun hHeld => ?_)
          · (try dsimp only); exact q3
          clear hK K
          try simp only [Act.put, List.setIfInBounds_toArray, List.set_cons_zero, List.set_cons_succ]
          refine wpAnyH_take (i := 8) (oi := ⟨some 59, _, _, _, _, _⟩) (v := ?_) rfl (by kernel_rfl) (by kernel_rfl) (by kernel_rfl) (fun _ _ _ h => h) (Or.inl ⟨by rfl, ?_⟩) (by assumption) ?_
          rotate_left
          · (intro w hSw; (try dsimp only at hSw); go_simp; try with_reducible rfl)
          try simp only [Act.put, List.setIfInBounds_toArray, List.set_cons_zero, List.set_cons_succ]
          refine wpAnyH_take (i := 9) (oi := ⟨some 5, _, _, _, _, _⟩) (v := ?_) rfl (by kernel_rfl) (by kernel_rfl) (by kernel_rfl) (fun _ _ _ h => h) (Or.inl ⟨by rfl, ?_⟩) (by assumption) ?_
          rotate_left
          · (intro w hSw; (try dsimp only at hSw); go_simp; try with_reducible rfl)
          try simp only [Act.put, List.setIfInBounds_toArray, List.set_cons_zero, List.set_cons_succ]
          refine wpAnyH_done (by kernel_rfl) ?_ _
          have hx13 : Ext wr w3 := Ext.trans_ (((Ext.refl wr).alloc_ (.cells #[.int .i64 (x.a : Int), .int .i64 kd, .int .i64 (hAge x.w), .int .i64 (hSize x.w)] 46)).drew_.trans_ HX2.out) HX3.out
          have hx23 : Ext (wr.alloc (.cells #[.int .i64 (x.a : Int), .int .i64 kd, .int .i64 (hAge x.w), .int .i64 (hSize x.w)] 46)).drew w3 := HX2.out.trans_ HX3.out
          have h630 : w3.cell? ⟨wr.heap.size, 0, none⟩ = some (.int .i64 (x.a : Int)) := hx23.cell_ (by simp [go_sem])
          have h631 : w3.cell? ⟨wr.heap.size, 1, none⟩ = some (.int .i64 kd) := hx23.cell_ (by simp [go_sem])
          have h633 : w3.cell? ⟨wr.heap.size, 3, none⟩ = some (.int .i64 (hSize x.w)) := hx23.cell_ (by simp [go_sem])
          obtain ⟨wq, rfl⟩ : ∃ y, y = wr := ⟨wr, rfl⟩
          generalize wq.heap.size = Hb at *
          have H630 := Lib.hid h630
          have H631 := Lib.hid h631
          have H633 := Lib.hid h633
          have HE3 : Hid (Ext w1 w3) := HE2.out.trans_ hx13
          have hhd2 : (s ++ decS (k : Int) ++ { data := #[32] } ++ decS kd) = headS k kd s := rfl
          rw [hhd2]
          generalize hy : headS k kd s = y at *
          have HY := Lib.hid hy
          clear h630 h631 h633 hx13 hx23 hHeld q2 q3 c0 c1 c2 c3 n1 n2 n3 hdz1 hdz2 hob1 hk64 HX2 HX3 hhd2 hy
          go_wp2
          go_loopg [9, 5] (x.n) (fun r i out wr => ∃ (j : Nat) (t : ByteArray), j + r = x.n ∧ i = .int .i64 (j : Int) ∧ out = .string t ∧ t.size ≤ y.size + 40 * j ∧ Hid (t = fieldsS l kd ((fldsW M.W x).take j) y) ∧ Hid (Ext w3 wr))
          case atStart => exact ⟨0, y, by omega, rfl, rfl, Nat.le_refl _, rfl, Ext.refl _⟩
          case round =>
            obtain ⟨j, t, hj, rfl, rfl, htz, ht, hE⟩ := hrel
            have h630 := hE.out.cell_ H630.out
            have h631 := hE.out.cell_ H631.out
            have h633 := hE.out.cell_ H633.out
            have hxn := HXN.out
            cases gk with
            | succ r2 =>
              have hltz : (j : Int) < hSize x.w := by omega
              have hMr : RMem wr b o M S := HM.out.ext (HE1.out.trans_ (HE3.out.trans_ hE.out))
              have c_W := hMr.W
              obtain ⟨idx, hidx⟩ : ∃ i : Nat, i = x.a + 1 + j := ⟨_, rfl⟩
              have hm1 := HM1.out
              have hil : idx < M.W.length := by omega
              obtain ⟨wb, wo, hWa, hc⟩ := hMr.rW idx _ (wcells_at M.W idx hil)
              rw [hWa] at c_W
              have hWs := HWW.out
              have i1 : IntKind.i64.wrap ((x.a : Int) + 1) = (x.a : Int) + 1 := IntWalk.i64_in _ (by omega)
              have i2 : IntKind.i64.wrap ((x.a : Int) + 1 + (j : Int)) = (idx : Int) := by rw [IntWalk.i64_in _ (by omega)]; omega
              have hilz : (idx : Int) < (M.W.length : Int) := by omega
              obtain ⟨hu2, hu3⟩ := wat_in HM.out.ok idx
              change wr.cell? ⟨wb, wo + idx, none⟩ = some (.int .u64 (wat M.W idx)) at hc
              have hsn := foldl_snoc (fieldS l kd) y (fldsW M.W x) j (by simp [fldsW]; omega)
              have hgd : (fldsW M.W x)[j]'(by simp [fldsW]; omega) = wat M.W idx := by simp [fldsW, hidx]
              rw [hgd] at hsn
              have hfb : rawB kd = false → wat M.W idx % 4 = 2 → wat M.W idx / 4 ≤ 2 := fun hr h2 => by
                have h := HFO2.out hr j (by omega)
                rw [← hidx] at h
                unfold fldB kindW at h
                rw [if_neg (by omega), if_neg (by omega), if_pos h2] at h
                exact of_decide_eq_true h
              generalize wat M.W idx = u at *
              have htd := toldS_size u l
              have hxd := hexS_size u
              have hfz := fieldS_size l kd t u
              have hltb := hMr.lt
              have HJ := Lib.hid hj
              have HSN := Lib.hid hsn
              have HFB := Lib.hid hfb
              clear hMr hWa hsn hgd hfb hidx hil hm1 hj hWs
              by_cases hk8 : kd < 8
              · have hfe : fieldS l kd t u = (t ++ ⟨#[32, 48, 120]⟩) ++ hexS u := by unfold fieldS; rw [if_pos hk8]
                rw [hfe] at hfz
                have HFE := Lib.hid hfe
                clear hfe
                go_wp2
                go_region
                go_wp2_with (go_at_call 74; refine (hex_any u hu2 hu3 _).mono ?_; rintro e w' ⟨rfl, hw9⟩; have hw9 := hw9.symm; subst hw9)
                go_roundg r2
                case measure => omega
                case rel =>
                  refine ⟨j + 1, _, (by have := HJ.out; omega), (by go_num), rfl, (by omega), ?_, hE.out.drew_⟩
                  show _ = _
                  rw [← HFE.out]
                  have h1 := HSN.out
                  unfold fieldsS at ht ⊢
                  rw [h1, ← ht.out]
              · have hfe : fieldS l kd t u = (t ++ ⟨#[32]⟩) ++ toldS u l := by unfold fieldS; rw [if_neg hk8]
                rw [hfe] at hfz
                have HFE := Lib.hid hfe
                have HFB2 := Lib.hid (HFB.out (by unfold rawB; exact decide_eq_false hk8))
                clear hfe
                go_wp2
                go_region
                go_wp2_with (go_at_call 72; refine (told_any u hu2 hu3 HFB2.out _ lc l _ (by have := HL0.out; omega) (HL.out.ext ((HE3.out.trans_ hE.out).drew_))).mono ?_; rintro e w2 ⟨rfl, hq⟩; have HX2 := Lib.hid hq; clear hq)
                go_roundg r2
                case measure => omega
                case rel =>
                  refine ⟨j + 1, _, (by have := HJ.out; omega), (by go_num), rfl, (by omega), ?_, (hE.out.drew_).trans_ HX2.out⟩
                  show _ = _
                  rw [← HFE.out]
                  have h1 := HSN.out
                  unfold fieldsS at ht ⊢
                  rw [h1, ← ht.out]
            | zero =>
              obtain rfl : j = x.n := by omega
              have hltz : ¬ ((x.n : Nat) : Int) < hSize x.w := by omega
              have ht' : t = fieldsS l kd (fldsW M.W x) y := by have h := ht.out; rw [List.take_of_length_le (by simp [fldsW])] at h; exact h
              have HT := Lib.hid ht'
              have hsz5 := HSZ.out
              have hts : t.size + 1 ≤ 40000000 + 200000 * (k + 1) := by omega
              clear ht ht'
              go_wp2
              go_roundg r
              case measure => omega
              case rel =>
                refine ⟨k + 1, _, (by have := HK2.out; omega), (by go_num), rfl, ?_, ?_, HE3.out.trans_ hE.out⟩
                · rw [ByteArray.size_append]; show t.size + 1 ≤ _; exact hts
                · show _ = _
                  have h1 := HS2.out
                  rw [← HT.out] at h1
                  exact h1
        | zero =>
          obtain rfl : k = l.length := by omega
          have hltz : ¬ ((l.length : Nat) : Int) < (l.length : Int) := by omega
          have hs' : s = graphS M := by have := hs.out; rw [List.drop_length] at this; exact this
          subst hs'
          have HEB := Lib.hid hE.out
          clear hs hk hE
          obtain ⟨wA2, rfl⟩ : ∃ x, x = wr := ⟨wr, rfl⟩
          have HLS : Hid (l.length ≤ 1000000) := by have := HL0.out; unfold Hid; omega
          clear hsz HEA
          go_wp2
          go_loopg [12, 11] (M.weak.length) (fun r i out wr => ∃ (k : Nat) (s : ByteArray), k + r = M.weak.length ∧ i = .int .i64 (k : Int) ∧ out = .string s ∧ s.size ≤ 40 * k ∧ Hid (s = weaksS l (M.weak.take k) ⟨#[]⟩) ∧ Hid (Ext w1 wr))
          case atStart => exact ⟨0, _, by omega, rfl, rfl, Nat.le_refl _, rfl, HEB⟩
          case round =>
            obtain ⟨k, s, hk, rfl, rfl, hsz, hs, hE⟩ := hrel
            have hMr : RMem wr b o M S := HM.out.ext (HE1.out.trans_ hE.out)
            have c_R := hMr.weak
            cases gk with
            | succ r =>
              have hlt : k < M.weak.length := by omega
              have hltz : (k : Int) < (M.weak.length : Int) := by omega
              obtain ⟨rb, ro, hRa, hc⟩ := hMr.rK k _ (wcells_at M.weak k hlt)
              rw [hRa] at c_R
              obtain ⟨hu2, hu3⟩ := HWB.out k hlt
              have hu1 := HWK.out k hlt
              have hsn := foldl_snoc (weakS l) ⟨#[]⟩ M.weak k hlt
              have hgd : M.weak[k] = M.weak.getD k 0 := by rw [List.getD_eq_getElem?_getD, List.getElem?_eq_getElem hlt]; rfl
              rw [hgd] at hsn
              generalize M.weak.getD k 0 = u at *
              have ht := toldS_size u l
              have hrs := weakS_size l s u
              have HU := Lib.hid hu1
              have HSN := Lib.hid hsn
              have HK2 := Lib.hid hk
              clear hMr hRa hu1 hsn hgd hk hlt
              go_wp2_with (go_at_call 72; refine (told_any u hu2 hu3 HU.out _ lc l _ HLS.out (HL.out.ext hE.out)).mono ?_; rintro e w2 ⟨rfl, hq⟩; have HX2 := Lib.hid hq; clear hq)
              go_roundg r
              case measure => omega
              case rel =>
                refine ⟨k + 1, weakS l s u, (by have := HK2.out; omega), (by go_num), rfl, (by omega), ?_, hE.out.trans_ HX2.out⟩
                show _ = _
                unfold weaksS at hs ⊢
                rw [HSN.out, ← hs.out]
            | zero =>
              obtain rfl : k = M.weak.length := by omega
              have hltz : ¬ ((M.weak.length : Nat) : Int) < (M.weak.length : Int) := by omega
              have hs' : s = weaksS l M.weak ⟨#[]⟩ := by have := hs.out; rw [List.take_length] at this; exact this
              have HID0 : Hid (idsS M.ids l (M.ids.length + 1) 0 s = moreS M) := by
                unfold Hid moreS
                rw [← HLL.out, ← hs']
              have hm0 : moreN M.ids 0 < M.ids.length + 1 := by
                unfold moreN
                have := List.length_filter_le (fun x : Int × Int => decide (0 < x.2)) M.ids
                omega
              have HM0 := Lib.hid hm0
              have HEC := Lib.hid hE.out
              have hsz0 : s.size + 60 * (M.ids.length + 1) ≤ 40000000 + 60 * (M.ids.length + 1) := by omega
              have hIB : Hid (∀ x ∈ M.ids, (0 ≤ x.1 ∧ x.1 ≤ 18446744073709551615) ∧ (-9223372036854775808 ≤ x.2 ∧ x.2 ≤ 9223372036854775807)) := HM.out.ok.ids
              clear hs hs' hk hE hMr hm0 hsz
              go_wp2
              clear c_R
              go_loopg [13, 11] (M.ids.length + 1) (fun r la2 out wr => ∃ (L : Int) (t : ByteArray), la2 = .int .i64 L ∧ out = .string t ∧ t.size + 60 * r ≤ 40000000 + 60 * (M.ids.length + 1) ∧ Hid (moreN M.ids L < r) ∧ Hid (idsS M.ids l r L t = moreS M) ∧ 0 ≤ L ∧ Hid (Ext w1 wr))
              case atStart => exact ⟨0, s, rfl, rfl, hsz0, HM0, HID0, Int.le_refl _, HEC⟩
              case round =>
                clear HID0 HM0 HEC hsz0
                obtain ⟨L, t, rfl, rfl, htz, hmn, hid, hL0, hE⟩ := hrel
                obtain ⟨r, rfl⟩ : ∃ r, gk = r + 1 := by
                  cases gk with
                  | zero => exact absurd hmn.out (by omega)
                  | succ r => exact ⟨r, rfl⟩
                obtain ⟨wB, rfl⟩ : ∃ x, x = wr := ⟨wr, rfl⟩
                have HEB2 := Lib.hid hE.out
                clear hE
                go_wp2
                go_loopg [15, 14] (M.ids.length) (fun r i nx wr => ∃ k : Nat, k + r = M.ids.length ∧ i = .int .i64 (k : Int) ∧ nx = .int .i64 (nextS M.ids L k) ∧ Hid (Ext w1 wr))
                case atStart => exact ⟨0, by omega, rfl, rfl, HEB2⟩
                case round =>
                  obtain ⟨k, hk, rfl, rfl, hE⟩ := hrel
                  have hin := nextS_in M.ids L k (by omega)
                  have hnk : nextS M.ids L (k + 1) = if nextB M.ids L (nextS M.ids L k) k then (k : Int) else nextS M.ids L k := rfl
                  obtain ⟨nx, hnx⟩ : ∃ nx, nextS M.ids L k = nx := ⟨_, rfl⟩
                  rw [hnx] at hin hnk ⊢
                  have hMr := HM.out.ext (HE1.out.trans_ hE.out)
                  have c9 := hMr.ids
                  have hltb := hMr.lt
                  have hrI := hMr.rI
                  cases gk with
                  | succ r2 =>
                    have hlt : k < M.ids.length := by omega
                    have hltz : (k : Int) < (M.ids.length : Int) := by omega
                    obtain ⟨p0, p1⟩ := icells_at M.ids k hlt
                    obtain ⟨ib, io, hI, hc0⟩ := hrI _ _ p0
                    rw [hI] at c9 hrI
                    have hc1 := hrI.at_ p1
                    rw [← Nat.add_assoc] at hc1
                    have hgd : M.ids.getD k (0, 0) = M.ids[k] := by rw [List.getD_eq_getElem?_getD, List.getElem?_eq_getElem hlt]; rfl
                    obtain ⟨sk, hsk⟩ : ∃ sk, M.ids[k].2 = sk := ⟨_, rfl⟩
                    rw [hsk] at hc1
                    have HK2 := Lib.hid hk
                    by_cases hA : L < sk
                    · rcases hin with hn | ⟨hn0, hn1, hn2⟩
                      · have hnb : nextB M.ids L nx k = true := by unfold nextB; rw [hgd, hsk, hn]; simp [hA]
                        rw [hnb] at hnk
                        have HNK := Lib.hid hnk
                        subst hn
                        clear hnb hnk hgd hsk p0 p1 hI hrI hMr hnx hk hlt hc0
                        go_wp2
                        go_quiet (fail)
                        go_wp2
                        go_roundg r2
                        case measure => omega
                        case rel => exact ⟨k + 1, (by have := HK2.out; omega), (by go_num), (by rw [HNK.out]; rfl), hE.out.drewN_ _⟩
                      · obtain ⟨m, hm⟩ : ∃ m : Nat, nx = (m : Int) := ⟨nx.toNat, by omega⟩
                        subst hm
                        have hmlt : m < M.ids.length := by omega
                        have hmz : (m : Int) < (M.ids.length : Int) := by omega
                        obtain ⟨p2, p3⟩ := icells_at M.ids m hmlt
                        have hc3 := hrI.at_ p3
                        rw [← Nat.add_assoc] at hc3
                        have hgm : M.ids.getD m (0, 0) = M.ids[m] := by rw [List.getD_eq_getElem?_getD, List.getElem?_eq_getElem hmlt]; rfl
                        obtain ⟨sm, hsm⟩ : ∃ sm, M.ids[m].2 = sm := ⟨_, rfl⟩
                        rw [hsm] at hc3
                        have hneg : ¬ (m : Int) < 0 := by omega
                        by_cases hB : sk < sm
                        · have hnb : nextB M.ids L (m : Int) k = true := by unfold nextB; rw [hgd, hsk, Int.toNat_natCast, hgm, hsm]; simp [hA, hB]
                          rw [hnb] at hnk
                          have HNK := Lib.hid hnk
                          clear hnb hnk hgd hgm hsk hsm p0 p1 p2 p3 hI hrI hMr hnx hk hlt hc0 hn2
                          go_wp2
                          go_quiet (fail)
                          go_wp2
                          go_roundg r2
                          case measure => omega
                          case rel => exact ⟨k + 1, (by have := HK2.out; omega), (by go_num), (by rw [HNK.out]; rfl), hE.out.drewN_ _⟩
                        · have hnb : nextB M.ids L (m : Int) k = false := by unfold nextB; rw [hgd, hsk, Int.toNat_natCast, hgm, hsm]; simp [hB]
                          rw [hnb] at hnk
                          have HNK := Lib.hid hnk
                          clear hnb hnk hgd hgm hsk hsm p0 p1 p2 p3 hI hrI hMr hnx hk hlt hc0 hn2
                          go_wp2
                          go_quiet (fail)
                          go_wp2
                          go_roundg r2
                          case measure => omega
                          case rel => exact ⟨k + 1, (by have := HK2.out; omega), (by go_num), (by rw [HNK.out]; rfl), hE.out.drewN_ _⟩
                    · have hnb : nextB M.ids L nx k = false := by unfold nextB; rw [hgd, hsk]; simp [hA]
                      rw [hnb] at hnk
                      have HNK := Lib.hid hnk
                      have hA2 : decide (L < sk) = false := by simp [hA]
                      clear hA
                      rcases hin with hn | ⟨hn0, hn1, hn2⟩
                      · subst hn
                        clear hnb hnk hgd hsk p0 p1 hI hrI hMr hnx hk hlt hc0
                        go_wp2
                        go_quiet (fail)
                        go_wp2
                        go_roundg r2
                        case measure => omega
                        case rel => exact ⟨k + 1, (by have := HK2.out; omega), (by go_num), (by rw [HNK.out]; rfl), hE.out.drewN_ _⟩
                      · obtain ⟨m, hm⟩ : ∃ m : Nat, nx = (m : Int) := ⟨nx.toNat, by omega⟩
                        subst hm
                        have hmlt : m < M.ids.length := by omega
                        have hmz : (m : Int) < (M.ids.length : Int) := by omega
                        obtain ⟨p2, p3⟩ := icells_at M.ids m hmlt
                        have hc3 := hrI.at_ p3
                        rw [← Nat.add_assoc] at hc3
                        have hneg : ¬ (m : Int) < 0 := by omega
                        clear hnb hnk hgd hsk p0 p1 p2 p3 hI hrI hMr hnx hk hlt hc0 hn2
                        go_wp2
                        go_quiet (fail)
                        go_wp2
                        go_roundg r2
                        case measure => omega
                        case rel => exact ⟨k + 1, (by have := HK2.out; omega), (by go_num), (by rw [HNK.out]; rfl), hE.out.drewN_ _⟩
                  | zero =>
                    obtain rfl : k = M.ids.length := by omega
                    have hltz : ¬ ((M.ids.length : Nat) : Int) < (M.ids.length : Int) := by omega
                    rcases hin with hn | ⟨hn0, hn1, hn2⟩
                    · subst hn
                      have hEnd : idsS M.ids l (r + 1) L t = t := by
                        rw [idsS]
                        simp [hnx]
                      have hres : t = moreS M := by rw [← hid.out, hEnd]
                      have HRES := Lib.hid hres
                      clear hEnd hres hid hmn htz
                      go_wp2
                      go_ret2
                      exact ⟨by rw [HRES.out]; rfl, by first | exact (HE1.out.trans_ hE.out).drewN_ _ | exact HE1.out.trans_ hE.out⟩
                    · obtain ⟨m, hm⟩ : ∃ m : Nat, nx = (m : Int) := ⟨nx.toNat, by omega⟩
                      subst hm
                      have hmlt : m < M.ids.length := by omega
                      have hmz : (m : Int) < (M.ids.length : Int) := by omega
                      obtain ⟨p2, p3⟩ := icells_at M.ids m hmlt
                      obtain ⟨ib, io, hI, hc2⟩ := hrI _ _ p2
                      rw [hI] at c9 hrI
                      have hc3 := hrI.at_ p3
                      rw [← Nat.add_assoc] at hc3
                      have hgm : M.ids.getD m (0, 0) = M.ids[m] := by rw [List.getD_eq_getElem?_getD, List.getElem?_eq_getElem hmlt]; rfl
                      have hneg : ¬ (m : Int) < 0 := by omega
                      obtain ⟨⟨hx1, hx2⟩, hx3, hx4⟩ := hIB.out _ (List.getElem_mem hmlt)
                      have hid2 := hid.out
                      rw [idsS, hnx, if_neg hneg, Int.toNat_natCast, hgm] at hid2
                      rw [Int.toNat_natCast, hgm] at hn2
                      have hml := moreN_less M.ids L M.ids[m] (List.getElem_mem hmlt) hn2
                      generalize M.ids[m] = x at *
                      have hil := idLine_size l x t
                      have hd1 := decS_size x.2
                      have hd2 := decS_size (objAt l (ptsW x.1))
                      have hob := objAt_lt l (ptsW x.1)
                      have hl6 : l.length ≤ 1000000 := HLS.out
                      have hx5 : 0 ≤ x.2 := by omega
                      have hx6 : moreN M.ids x.2 < r := by have := hmn.out; omega
                      have htz2 : (idLine l x t).size + 60 * r ≤ 40000000 + 60 * (M.ids.length + 1) := by omega
                      have hbI := hMr.lt
                      have HID2 := Lib.hid hid2
                      have HMN2 := Lib.hid hx6
                      have HTZ2 := Lib.hid htz2
                      have HE1I := Lib.hid (HE1.out.trans_ hE.out)
                      have hRl : RSl wr la (ocells l) := HL.out.ext hE.out
                      have HRl2 := Lib.hid hRl
                      have hll : l.length ≤ 9223372036854775807 := by omega
                      have hhf := hMr.half
                      have hts : t.size ≤ 100000100 := by omega
                      clear hid2 hml hil hid hmn htz hn2 hI hrI p2 p3 hgm hnx hMr hx6 htz2 hRl hmlt
                      by_cases ho : 0 ≤ objAt l (ptsW x.1)
                      · have hil2 : idLine l x t = ((((t ++ ⟨#[105, 100, 32]⟩) ++ decS x.2) ++ ⟨#[32, 64]⟩) ++ decS (objAt l (ptsW x.1))) ++ ⟨#[10]⟩ := by unfold idLine; rw [if_pos ho]
                        have HIL := Lib.hid hil2
                        obtain ⟨ox, hox⟩ : ∃ y, objAt l (ptsW x.1) = y := ⟨_, rfl⟩
                        rw [hox] at hd2 hob ho HIL
                        have HOX := Lib.hid hox
                        have hob2 : ox < 1000000 := by omega
                        clear hil2 hox hob
                        have HXA : Hid (Ext wr wr) := Ext.refl _
                        go_wp2_with (first
                          | (go_at_call 48; refine (points_any _ hx1 hx2 _).mono ?_; rintro e w' ⟨rfl, hw9⟩; have hw9 := hw9.symm; subst hw9)
                          | (go_at_call 49; refine (objectAt_any _ _ l _ _ hll HRl2.out).mono ?_; rintro e w' ⟨he, hw9⟩; rw [HOX.out] at he; subst he; have hw9 := hw9.symm; subst hw9)
                          | (go_at_call 73; refine (decimal_any _ (by omega) (by omega) _).mono ?_; rintro e w7 ⟨rfl, hq⟩; replace HXA : Hid (Ext wr w7) := Ext.trans_ HXA.out hq; clear hq))
                        go_roundg r
                        case measure => omega
                        case rel => exact ⟨x.2, idLine l x t, rfl, by rw [HIL.out], HTZ2.out, HMN2.out, HID2.out, hx5, hE.out.trans_ HXA.out⟩
                      · have hil2 : idLine l x t = t := by unfold idLine; rw [if_neg ho]
                        rw [hil2] at HID2 HTZ2
                        obtain ⟨ox, hox⟩ : ∃ y, objAt l (ptsW x.1) = y := ⟨_, rfl⟩
                        rw [hox] at hd2 hob ho
                        have HOX := Lib.hid hox
                        clear hil2 hox hob
                        go_wp2_with (first
                          | (go_at_call 48; refine (points_any _ hx1 hx2 _).mono ?_; rintro e w' ⟨rfl, hw9⟩; have hw9 := hw9.symm; subst hw9)
                          | (go_at_call 49; refine (objectAt_any _ _ l _ _ hll HRl2.out).mono ?_; rintro e w' ⟨he, hw9⟩; rw [HOX.out] at he; subst he; have hw9 := hw9.symm; subst hw9))
                        go_roundg r
                        case measure => omega
                        case rel => exact ⟨x.2, t, rfl, rfl, HTZ2.out, HMN2.out, HID2.out, hx5, hE.out⟩
end Go.Proofs.YtecbbbaafcoliaaDoor
