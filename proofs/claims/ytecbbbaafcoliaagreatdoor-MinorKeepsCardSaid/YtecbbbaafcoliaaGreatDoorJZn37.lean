/- The walks of the document's texts of numbers. -/
import Derived.Test.YtecbbbaafcoliaaGreatDoorJZn06
import Derived.Laws.BytesArg
import Derived.IntWalk
import Derived.Test.YtecbbbaafcoliaaGreatDoorJZn07
import Derived.Test.YtecbbbaafcoliaaGreatDoorJZn30
namespace Go.Proofs.YtecbbbaafcoliaaGreatDoor
open Go.RowKit
set_option linter.unusedVariables false
set_option linter.unusedSimpArgs false

theorem undU8s' : Tryz.prog.underlying 112 = some (.slice 5) := by kernel_rfl
/-- A byte as a text; a number's digits; a number as a text. -/
def byteS (n : Int) : ByteArray := strOfNums [n % 256]
def belowS : Nat → Int → ByteArray
  | 0, n => byteS (48 - n)
  | f + 1, n => if -10 < n then byteS (48 - n) else belowS f (n.tdiv 10) ++ byteS (48 - n.tmod 10)
def decS (n : Int) : ByteArray := if n < 0 then ⟨#[45]⟩ ++ belowS 20 n else belowS 20 (-n)
set_option maxRecDepth 100000 in
theorem byte_any (n : Int) (w : World) : Calls Tryz.prog 120 #[.int .i64 n] w fun e w' => e = .returned (.string (byteS n)) ∧ Ext w w' := by
  have hconv := run_convert_bytes_arg (P := Tryz.prog) (w.alloc (.cells #[.int .u8 (n % 256)] 5)) 112 5 undU8s' (by kernel_rfl) w.heap.size 0 1 1 [n % 256] rfl (fun i hi => by
    obtain rfl : i = 0 := by omega
    simp [go_sem]) 9 (by kernel_rfl)
  go_enter Tryz.func120, Tryz.ntmps120
  go_wp2
  go_ret
  exact ⟨rfl, (Ext.refl w).alloc_ _⟩
theorem byteS_size (n : Int) : (byteS n).size = 1 := by unfold byteS; rw [strOfNums_size]; rfl
theorem belowS_size : ∀ (f : Nat) (n : Int), (belowS f n).size ≤ f + 1
  | 0, n => by simp [belowS, byteS_size]
  | f + 1, n => by
    unfold belowS
    split
    · rw [byteS_size]; omega
    · rw [ByteArray.size_append, byteS_size]
      have := belowS_size f (n.tdiv 10)
      omega
theorem decS_size (n : Int) : (decS n).size ≤ 22 := by
  unfold decS
  split
  · rw [ByteArray.size_append]
    have := belowS_size 20 n
    have e : (⟨#[45]⟩ : ByteArray).size = 1 := rfl
    omega
  · have := belowS_size 20 (-n); omega
theorem tdiv10 (n : Int) (h : n ≤ 0) : n.tdiv 10 = -((-n) / 10) := by
  have h1 : (-n).tdiv 10 = (-n) / 10 := Int.tdiv_eq_ediv_of_nonneg (by omega)
  rw [← h1, Int.neg_tdiv, Int.neg_neg]
theorem below_any : ∀ (f : Nat) (n : Int), f ≤ 20 → n ≤ 0 → -9223372036854775808 ≤ n → -(10 ^ (f + 1) : Int) < n → ∀ w : World, Calls Tryz.prog 92 #[.int .i64 n] w fun e w' => e = .returned (.string (belowS f n)) ∧ Ext w w'
  | f, n, hf, h0, h1, h2, w => by
    by_cases hq : -10 < n
    · have e : belowS f n = byteS (48 - n) := by cases f <;> simp [belowS, hq]
      have e1 : IntKind.i64.wrap (48 - n) = 48 - n := IntWalk.i64_in _ (by omega)
      rw [e]
      clear h2
      go_enter Tryz.func92, Tryz.ntmps92
      go_wp2_with (go_at_call 120; refine (byte_any _ _).mono ?_; rintro e w1 ⟨rfl, hq1⟩; have HX1 := Lib.hid hq1; clear hq1)
      go_ret
      exact ⟨rfl, HX1.out⟩
    · obtain ⟨f, rfl⟩ : ∃ f', f = f' + 1 := by
        cases f with
        | zero => exact absurd h2 (by simp; omega)
        | succ f => exact ⟨f, rfl⟩
      have e : belowS (f + 1) n = belowS f (n.tdiv 10) ++ byteS (48 - n.tmod 10) := by simp [belowS, hq]
      have hd := tdiv10 n h0
      have hm : n.tmod 10 = n - 10 * n.tdiv 10 := Int.tmod_def n 10
      have hp : (10 : Int) ^ (f + 1 + 1) = 10 * 10 ^ (f + 1) := by rw [Int.pow_succ]; omega
      rw [hp] at h2
      have hz := belowS_size f (n.tdiv 10)
      have hz1 := byteS_size (48 - n.tmod 10)
      have ih := below_any f (n.tdiv 10) (by omega) (by omega) (by omega) (by rw [hd]; omega)
      rw [e]
      have e1 : IntKind.i64.wrap (48 - n.tmod 10) = 48 - n.tmod 10 := IntWalk.i64_in _ (by omega)
      have e2 : IntKind.i64.wrap (n.tdiv 10) = n.tdiv 10 := IntWalk.i64_in _ (by omega)
      have e3 : IntKind.i64.wrap (n.tmod 10) = n.tmod 10 := IntWalk.i64_in _ (by omega)
      have IH := Lib.hid ih
      clear hd hm hp h2 ih e
      go_enter Tryz.func92, Tryz.ntmps92
      go_wp2_with (first
        | (go_at_call 92; refine (IH.out _).mono ?_; rintro e w1 ⟨rfl, hq1⟩; have HX1 := Lib.hid hq1; clear hq1)
        | (go_at_call 120; refine (byte_any _ _).mono ?_; rintro e w2 ⟨rfl, hq1⟩; have HX2 := Lib.hid hq1; clear hq1))
      go_ret
      exact ⟨rfl, HX1.out.trans_ HX2.out⟩
theorem decimal_any (n : Int) (h0 : -9223372036854775808 < n) (h1 : n ≤ 9223372036854775807) (w : World) : Calls Tryz.prog 44 #[.int .i64 n] w fun e w' => e = .returned (.string (decS n)) ∧ Ext w w' := by
  unfold decS
  by_cases hq : n < 0
  · rw [if_pos hq]
    have hz := belowS_size 20 n
    go_enter Tryz.func44, Tryz.ntmps44
    go_wp2_with (go_at_call 92; refine (below_any 20 n (by omega) (by omega) (by omega) (by omega) _).mono ?_; rintro e w1 ⟨rfl, hq1⟩; have HX1 := Lib.hid hq1; clear hq1)
    go_ret
    exact ⟨rfl, HX1.out⟩
  · rw [if_neg hq]
    have e1 : IntKind.i64.wrap (-n) = -n := IntWalk.i64_in _ (by omega)
    go_enter Tryz.func44, Tryz.ntmps44
    go_wp2_with (go_at_call 92; refine (below_any 20 (-n) (by omega) (by omega) (by omega) (by omega) _).mono ?_; rintro e w1 ⟨rfl, hq1⟩; have HX1 := Lib.hid hq1; clear hq1)
    go_ret
    exact ⟨rfl, HX1.out⟩
end Go.Proofs.YtecbbbaafcoliaaGreatDoor
/- The walks of the document's texts of words. -/
namespace Go.Proofs.YtecbbbaafcoliaaGreatDoor
open Go.RowKit
set_option linter.unusedVariables false
set_option linter.unusedSimpArgs false

def digits16 : ByteArray := ⟨#[48, 49, 50, 51, 52, 53, 54, 55, 56, 57, 97, 98, 99, 100, 101, 102]⟩
def hexG : Nat → Int → ByteArray → ByteArray
  | 0, _, out => out
  | f + 1, a, out => hexG f (a / 16) (digits16.extract (a % 16).toNat ((a % 16).toNat + 1) ++ out)
def hexS (a : Int) : ByteArray := hexG 16 a ⟨#[]⟩
set_option maxRecDepth 100000 in
set_option maxHeartbeats 2000000 in
theorem hex_any (a : Int) (h0 : 0 ≤ a) (h1 : a ≤ 18446744073709551615) (w : World) : Calls Tryz.prog 45 #[.int .u64 a] w fun e w' => e = .returned (.string (hexS a)) ∧ w' = w := by
  go_enter Tryz.func45, Tryz.ntmps45
  go_wp2
  go_loop [0, 4, 5] (fun x out i => ∃ (k : Nat) (b : Int) (o : ByteArray), k ≤ 16 ∧ i = .int .i64 (k : Int) ∧ x = .int .u64 b ∧ out = .string o ∧ (0 ≤ b ∧ b ≤ 18446744073709551615) ∧ o.size ≤ k ∧ Hid (hexG (16 - k) b o = hexS a)) (fun _ _ i => 16 - (intOf i).toNat)
  case atStart => exact ⟨0, a, _, Nat.zero_le _, rfl, rfl, rfl, ⟨h0, h1⟩, Nat.le_refl _, rfl⟩
  case round =>
    obtain ⟨k, b, o, hk, rfl, rfl, rfl, ⟨hb0, hb1⟩, ho, hR⟩ := hrel
    by_cases hlt : k < 16
    · have hltz : (k : Int) < 16 := by omega
      obtain ⟨m, hm⟩ : ∃ m, 16 - k = m + 1 := ⟨16 - k - 1, by omega⟩
      rw [hm] at hR
      have hz : 0 ≤ b % 16 ∧ b % 16 < 16 := by omega
      obtain ⟨d, hd⟩ : ∃ d : Nat, b % 16 = d := ⟨(b % 16).toNat, by omega⟩
      rw [hd] at hz
      have hd16 : d < 16 := by omega
      have e1 : IntKind.u64.wrap ((d : Int) + 1) = ((d + 1 : Nat) : Int) := by rw [IntWalk.u64_in _ (by omega)]; omega
      have HD := Lib.hid hd
      have HM := Lib.hid hm
      have hsl := run_slice_string (P := Tryz.prog) w 9 digits16 .u64 .u64 (d : Int) ((d : Int) + 1) (by kernel_rfl) (by omega) (by omega) (by show (d : Int) + 1 ≤ (16 : Nat); omega)
      have hsz : (digits16.extract d (d + 1)).size = 1 := by rw [ByteArray.size_extract]; show min (d + 1) 16 - d = 1; omega
      have e2 : ((d : Int) + 1).toNat = d + 1 := by omega
      rw [Int.toNat_natCast, e2] at hsl
      generalize hx : digits16.extract d (d + 1) = x at hsl hsz
      unfold digits16 at hsl
      have HX := Lib.hid hx
      clear hx
      go_wp2
      refine ⟨⟨k + 1, b / 16, x ++ o, by omega, by go_num, by go_num, rfl, by omega, by rw [ByteArray.size_append]; omega, ?_⟩, by simp [intOf]; omega⟩
      have hm := HM.out
      have hR' := hR.out
      unfold hexG at hR'
      rw [HD.out, Int.toNat_natCast, HX.out] at hR'
      rw [show 16 - (k + 1) = m by omega]; exact hR'
    · obtain rfl : k = 16 := by omega
      have hR' : o = hexS a := hR.out
      subst hR'
      go_wp2
      go_ret
      exact ⟨rfl, rfl⟩
theorem hexG_size : ∀ (f : Nat) (a : Int) (o : ByteArray), (hexG f a o).size ≤ o.size + f
  | 0, a, o => Nat.le_refl _
  | f + 1, a, o => by
    unfold hexG
    refine Nat.le_trans (hexG_size f _ _) ?_
    rw [ByteArray.size_append, ByteArray.size_extract]
    omega
theorem hexS_size (a : Int) : (hexS a).size ≤ 16 := by
  have := hexG_size 16 a ⟨#[]⟩
  have e : (⟨#[]⟩ : ByteArray).size = 0 := rfl
  unfold hexS; omega
/-- A word as a text. -/
def constS (k : Nat) : ByteArray := [⟨#[110, 111, 110, 101]⟩, ⟨#[102, 97, 108, 115, 101]⟩, ⟨#[116, 114, 117, 101]⟩].getD k ⟨#[]⟩
def toldS (a : Int) (l : List Ob) : ByteArray :=
  if a % 4 = 1 then decS (numW a) else if a % 4 = 2 then constS (a / 4).toNat else if a = 0 then ⟨#[110, 111, 119, 104, 101, 114, 101]⟩ else
  if objAt l (ptsW a) < 0 then ⟨#[64]⟩ else ⟨#[64]⟩ ++ decS (objAt l (ptsW a))
theorem toldS_size (a : Int) (l : List Ob) : (toldS a l).size ≤ 30 := by
  unfold toldS
  split
  · have := decS_size (numW a); omega
  · split
    · unfold constS
      rcases Nat.lt_or_ge (a / 4).toNat 3 with h | h
      · have hh : (a / 4).toNat = 0 ∨ (a / 4).toNat = 1 ∨ (a / 4).toNat = 2 := by omega
        rcases hh with q | q | q <;> rw [q] <;> decide
      · rw [List.getD_eq_getElem?_getD, List.getElem?_eq_none (by simpa using h)]; decide
    · split
      · decide
      · split
        · decide
        · rw [ByteArray.size_append]
          have := decS_size (objAt l (ptsW a))
          have e : (⟨#[64]⟩ : ByteArray).size = 1 := rfl
          omega
theorem objAt_lt (l : List Ob) (p : Int) : -1 ≤ objAt l p ∧ objAt l p < (l.length : Int) ∨ objAt l p = -1 := by
  unfold objAt
  cases h : l.findIdx? (fun o => (o.a : Int) == p) with
  | none => right; rfl
  | some i =>
    left
    have := (List.findIdx?_eq_some_iff_getElem.1 h).1
    simp; omega
set_option maxRecDepth 100000 in
set_option maxHeartbeats 4000000 in
theorem told_any (a : Int) (h0 : 0 ≤ a) (h1 : a ≤ 18446744073709551615) (hc : a % 4 = 2 → a / 4 ≤ 2) (la : Option Addr) (lc : Nat) (l : List Ob) (w : World) (hl : l.length ≤ 1000000) (hR : RSl w la (ocells l)) :
    Calls Tryz.prog 43 #[.int .u64 a, .slice la l.length lc] w fun e w' => e = .returned (.string (toldS a l)) ∧ Ext w w' := by
  have HR := Lib.hid hR
  have hll : l.length ≤ 9223372036854775807 := by omega
  have hnum : -9223372036854775808 < numW a ∧ numW a ≤ 9223372036854775807 := by unfold numW; split <;> omega
  have hoa := objAt_lt l (ptsW a)
  clear hR
  unfold toldS
  by_cases q1 : a % 4 = 1
  · rw [if_pos q1]
    have b1 : (a % 4 == 1) = true := by simp [q1]
    go_enter Tryz.func43, Tryz.ntmps43
    go_wp2_with (first
      | (go_at_call 91; refine (kIntOf_any _ h0 h1 _).mono ?_; rintro e w' ⟨rfl, rfl⟩)
      | (go_at_call 44; refine (decimal_any _ hnum.1 hnum.2 _).mono ?_; rintro e w1 ⟨rfl, hq⟩; have HX := Lib.hid hq; clear hq))
    go_ret
    exact ⟨rfl, HX.out⟩
  · rw [if_neg q1]
    have b1 : (a % 4 == 1) = false := by simp [q1]
    by_cases q2 : a % 4 = 2
    · rw [if_pos q2]
      have b2 : (a % 4 == 2) = true := by simp [q2]
      have hc' := hc q2
      obtain ⟨d, hd⟩ : ∃ d : Nat, a / 4 = d := ⟨(a / 4).toNat, by omega⟩
      rw [hd, Int.toNat_natCast]
      have hd3 : d = 0 ∨ d = 1 ∨ d = 2 := by omega
      clear hc hc' hoa
      rcases hd3 with rfl | rfl | rfl
      all_goals
        go_enter Tryz.func43, Tryz.ntmps43
        go_wp2
        go_ret
        exact ⟨rfl, by repeat (first | exact Ext.refl _ | (refine Ext.drew_ ?_) | (refine Ext.drewN_ ?_ _) | (refine Ext.alloc_ ?_ _))⟩
    · rw [if_neg q2]
      have b2 : (a % 4 == 2) = false := by simp [q2]
      clear hc
      by_cases q3 : a = 0
      · rw [if_pos q3]
        have b3 : (a == 0) = true := by simp [q3]
        go_enter Tryz.func43, Tryz.ntmps43
        go_wp2
        go_ret
        exact ⟨rfl, Ext.refl _⟩
      · rw [if_neg q3]
        have b3 : (a == 0) = false := by simp [q3]
        obtain ⟨k, hk⟩ : ∃ k, objAt l (ptsW a) = k := ⟨_, rfl⟩
        rw [hk] at hoa ⊢
        have HK := Lib.hid hk
        have hdz := decS_size k
        clear hk
        by_cases q4 : k < 0
        · rw [if_pos q4]
          go_enter Tryz.func43, Tryz.ntmps43
          go_wp2_with (first
            | (go_at_call 28; refine (points_any _ h0 h1 _).mono ?_; rintro e w' ⟨rfl, rfl⟩)
            | (go_at_call 29; refine (objectAt_any _ _ l _ _ hll HR.out).mono ?_; rintro e w' ⟨he, rfl⟩; rw [HK.out] at he; subst he))
          go_ret
          exact ⟨rfl, Ext.refl _⟩
        · rw [if_neg q4]
          go_enter Tryz.func43, Tryz.ntmps43
          go_wp2_with (first
            | (go_at_call 28; refine (points_any _ h0 h1 _).mono ?_; rintro e w' ⟨rfl, rfl⟩)
            | (go_at_call 29; refine (objectAt_any _ _ l _ _ hll HR.out).mono ?_; rintro e w' ⟨he, rfl⟩; rw [HK.out] at he; subst he)
            | (go_at_call 44; refine (decimal_any _ (by omega) (by omega) _).mono ?_; rintro e w1 ⟨rfl, hq⟩; have HX := Lib.hid hq; clear hq))
          go_ret
          exact ⟨rfl, HX.out⟩
end Go.Proofs.YtecbbbaafcoliaaGreatDoor
/- A graph as a text: plainly; what moves has the same text. -/
namespace Go.Proofs.YtecbbbaafcoliaaGreatDoor
open Go.RowKit
set_option linter.unusedVariables false
set_option linter.unusedSimpArgs false

def nlS : ByteArray := ⟨#[10]⟩
def rootS (l : List Ob) (out : ByteArray) (u : Int) : ByteArray := ((out ++ ⟨#[114, 111, 111, 116, 32]⟩) ++ toldS u l) ++ ⟨#[10]⟩
def rootsS (l : List Ob) (us : List Int) (out : ByteArray) : ByteArray := us.foldl (rootS l) out
def fieldS (l : List Ob) (kind : Int) (out : ByteArray) (u : Int) : ByteArray := if kind < 8 then (out ++ ⟨#[32, 48, 120]⟩) ++ hexS u else (out ++ ⟨#[32]⟩) ++ toldS u l
def fieldsS (l : List Ob) (kind : Int) (us : List Int) (out : ByteArray) : ByteArray := us.foldl (fieldS l kind) out
def headS (i : Nat) (kind : Int) (out : ByteArray) : ByteArray := ((out ++ decS (i : Int)) ++ ⟨#[32]⟩) ++ decS kind
/-- The objects, from the i-th on. -/
def objsS (W : List Int) (l : List Ob) : Nat → List Ob → ByteArray → ByteArray
  | _, [], out => out
  | i, o :: r, out => objsS W l (i + 1) r (fieldsS l (hKind o.w) (fldsW W o) (headS i (hKind o.w) out) ++ ⟨#[10]⟩)
def weakS (l : List Ob) (out : ByteArray) (u : Int) : ByteArray := ((out ++ ⟨#[119, 101, 97, 107, 32]⟩) ++ toldS u l) ++ ⟨#[10]⟩
def weaksS (l : List Ob) (us : List Int) (out : ByteArray) : ByteArray := us.foldl (weakS l) out
/-- The first text. -/
def graphS (M : Mem) : ByteArray := objsS M.W (reachP M) 0 (reachP M) (rootsS (reachP M) M.roots ⟨#[]⟩)
/-- The next number: where it stands (-1: none). -/
def nextB (ids : List (Int × Int)) (last : Int) (nx : Int) (i : Nat) : Bool := decide (last < (ids.getD i (0, 0)).2) && (decide (nx < 0) || decide ((ids.getD i (0, 0)).2 < (ids.getD nx.toNat (0, 0)).2))
def nextS (ids : List (Int × Int)) (last : Int) : Nat → Int
  | 0 => -1
  | k + 1 => if nextB ids last (nextS ids last k) k then (k : Int) else nextS ids last k
theorem nextS_in (ids : List (Int × Int)) (last : Int) : ∀ k : Nat, k ≤ ids.length → nextS ids last k = -1 ∨ (0 ≤ nextS ids last k ∧ nextS ids last k < (k : Int) ∧ last < (ids.getD (nextS ids last k).toNat (0, 0)).2)
  | 0, _ => Or.inl rfl
  | k + 1, h => by
    unfold nextS
    split
    · rename_i hb
      right
      unfold nextB at hb
      simp only [Bool.and_eq_true, decide_eq_true_eq] at hb
      refine ⟨by omega, by omega, ?_⟩
      rw [Int.toNat_natCast]; exact hb.1
    · rcases nextS_in ids last k (by omega) with q | ⟨q1, q2, q3⟩
      · exact Or.inl q
      · exact Or.inr ⟨q1, by omega, q3⟩
def idLine (l : List Ob) (x : Int × Int) (out : ByteArray) : ByteArray :=
  if 0 ≤ objAt l (ptsW x.1) then ((((out ++ ⟨#[105, 100, 32]⟩) ++ decS x.2) ++ ⟨#[32, 64]⟩) ++ decS (objAt l (ptsW x.1))) ++ ⟨#[10]⟩ else out
/-- How many numbers are greater. -/
def moreN (ids : List (Int × Int)) (last : Int) : Nat := (ids.filter fun x => decide (last < x.2)).length
def idsS (ids : List (Int × Int)) (l : List Ob) : Nat → Int → ByteArray → ByteArray
  | 0, _, out => out
  | f + 1, last, out =>
    if nextS ids last ids.length < 0 then out else
    idsS ids l f (ids.getD (nextS ids last ids.length).toNat (0, 0)).2 (idLine l (ids.getD (nextS ids last ids.length).toNat (0, 0)) out)
/-- The second text. -/
def moreS (M : Mem) : ByteArray := idsS M.ids (reachP M) (M.ids.length + 1) 0 (weaksS (reachP M) M.weak ⟨#[]⟩)
theorem moreN_less (ids : List (Int × Int)) (last : Int) (x : Int × Int) (hx : x ∈ ids) (h : last < x.2) : moreN ids x.2 < moreN ids last := by
  unfold moreN
  induction ids with
  | nil => simp at hx
  | cons y l ih =>
    have hsub : ∀ l : List (Int × Int), (l.filter fun z => decide (x.2 < z.2)).length ≤ (l.filter fun z => decide (last < z.2)).length := fun l => by
      induction l with
      | nil => simp
      | cons z l ih =>
        rw [List.filter_cons, List.filter_cons]
        by_cases q : x.2 < z.2
        · rw [if_pos (decide_eq_true q), if_pos (decide_eq_true (by omega)), List.length_cons, List.length_cons]; omega
        · rw [if_neg (by simpa using q)]
          split
          · rw [List.length_cons]; omega
          · exact ih
    rw [List.filter_cons, List.filter_cons]
    rcases List.mem_cons.1 hx with rfl | hx
    · rw [if_neg (by simp), if_pos (by simpa using h), List.length_cons]
      have := hsub l; omega
    · have := ih hx
      by_cases q : x.2 < y.2
      · rw [if_pos (decide_eq_true q), if_pos (decide_eq_true (by omega)), List.length_cons, List.length_cons]; omega
      · rw [if_neg (by simpa using q)]
        split
        · rw [List.length_cons]; omega
        · exact this

section
variable {V W : List Int} {Dom : Nat → Prop} {f : Nat → Nat}
theorem objAt_map (hm : Morph V W Dom f) : ∀ (l : List Ob), InD V Dom l → ∀ a : Nat, Dom a → objAt (l.map fun o => obW W (f o.a)) (f a : Int) = objAt l (a : Int)
  | l, h, a, ha => by
    unfold objAt
    suffices key : List.findIdx? (fun o : Ob => (o.a : Int) == (f a : Int)) (l.map fun o => obW W (f o.a)) = List.findIdx? (fun o : Ob => (o.a : Int) == (a : Int)) l by rw [key]
    induction l with
    | nil => rfl
    | cons o l ih =>
      have ih' := ih fun x hx => h x (by simp [hx])
      rw [List.map_cons, List.findIdx?_cons, List.findIdx?_cons]
      have e : (((obW W (f o.a)).a : Int) == (f a : Int)) = ((o.a : Int) == (a : Int)) := by
        rw [Bool.eq_iff_iff]
        simp only [beq_iff_eq]
        show (f o.a : Int) = (f a : Int) ↔ _
        constructor
        · intro q
          have := hm.inj o.a a (h o (by simp)).1 ha (by omega)
          omega
        · intro q
          rw [show o.a = a by omega]
      rw [e, ih']
theorem told_map (hm : Morph V W Dom f) {l : List Ob} (h : InD V Dom l) {u v : Int} (hc : Cor f Dom u v) : toldS v (l.map fun o => obW W (f o.a)) = toldS u l := by
  rcases hc with ⟨h1, h2⟩ | ⟨a, h1, h2, h3, h4, h5, h6, h7⟩
  · subst h2
    unfold toldS
    have e : ∀ l : List Ob, objAt l (ptsW v) = -1 := fun l => by
      unfold objAt
      rw [List.findIdx?_eq_none_iff.2 (fun x hx => by
        simp only [beq_eq_false_iff_ne, ne_eq]; omega)]
      rfl
    rw [e, e]
  · unfold kindW at h4 h6
    have key : ∀ (u : Int) (l : List Ob), u % 4 = 0 → u ≠ 0 → toldS u l = (if objAt l (ptsW u) < 0 then ⟨#[64]⟩ else ⟨#[64]⟩ ++ decS (objAt l (ptsW u))) := fun u l g1 g2 => by
      unfold toldS
      rw [if_neg (show ¬ u % 4 = 1 by omega), if_neg (show ¬ u % 4 = 2 by omega), if_neg g2]
    rw [key v _ h6 h7, key u _ h4 h5, h1, h3, objAt_map hm l h a h2]
theorem rootsS_map (hm : Morph V W Dom f) {l : List Ob} (h : InD V Dom l) : ∀ (us vs : List Int) (out : ByteArray), us.length = vs.length → (∀ i, i < us.length → Cor f Dom (us.getD i 0) (vs.getD i 0)) → rootsS (l.map fun o => obW W (f o.a)) vs out = rootsS l us out
  | [], [], out, _, _ => rfl
  | u :: us, v :: vs, out, hl, hc => by
    have h0 : Cor f Dom u v := hc 0 (by simp)
    have ih := rootsS_map hm h us vs (rootS l out u) (by simpa using hl) fun i hi => by simpa using hc (i + 1) (by simpa using hi)
    unfold rootsS at ih ⊢
    rw [List.foldl_cons, List.foldl_cons, ← ih]
    unfold rootS
    rw [told_map hm h h0]
theorem fieldsS_raw (l l' : List Ob) (kind : Int) (hk : kind < 8) : ∀ (us : List Int) (out : ByteArray), fieldsS l kind us out = fieldsS l' kind us out
  | [], out => rfl
  | u :: us, out => by
    unfold fieldsS
    rw [List.foldl_cons, List.foldl_cons]
    have e : fieldS l kind out u = fieldS l' kind out u := by unfold fieldS; rw [if_pos hk, if_pos hk]
    rw [e]
    exact fieldsS_raw l l' kind hk us _
theorem fieldsS_map (hm : Morph V W Dom f) {l : List Ob} (h : InD V Dom l) (kind : Int) (hk : ¬ kind < 8) : ∀ (us vs : List Int) (out : ByteArray), us.length = vs.length → (∀ i, i < us.length → Cor f Dom (us.getD i 0) (vs.getD i 0)) → fieldsS (l.map fun o => obW W (f o.a)) kind vs out = fieldsS l kind us out
  | [], [], out, _, _ => rfl
  | u :: us, v :: vs, out, hl, hc => by
    have h0 : Cor f Dom u v := hc 0 (by simp)
    have ih := fieldsS_map hm h kind hk us vs (fieldS l kind out u) (by simpa using hl) fun i hi => by simpa using hc (i + 1) (by simpa using hi)
    unfold fieldsS at ih ⊢
    rw [List.foldl_cons, List.foldl_cons, ← ih]
    unfold fieldS
    rw [if_neg hk, if_neg hk, told_map hm h h0]
theorem objsS_map (hm : Morph V W Dom f) {l : List Ob} (h : InD V Dom l) : ∀ (r : List Ob) (i : Nat) (out : ByteArray), InD V Dom r → objsS W (l.map fun o => obW W (f o.a)) i (r.map fun o => obW W (f o.a)) out = objsS V l i r out
  | [], i, out, _ => rfl
  | o :: r, i, out, hr => by
    obtain ⟨hd, e⟩ := hr o (by simp)
    have ew : o.w = wat V o.a := by rw [e]; rfl
    rw [List.map_cons, objsS, objsS]
    have hk : hKind (obW W (f o.a)).w = hKind o.w := by rw [ew]; exact hm.kind _ hd
    have hn : (obW W (f o.a)).n = o.n := by unfold Ob.n; rw [ew]; show (hSize (wat W (f o.a))).toNat = _; rw [hm.size _ hd]
    have hsz : szW V o.a = o.n := by unfold szW Ob.n; rw [ew]
    have hfs : ∀ out, fieldsS (l.map fun o => obW W (f o.a)) (hKind o.w) (fldsW W (obW W (f o.a))) out = fieldsS l (hKind o.w) (fldsW V o) out := fun out => by
      by_cases q : hKind o.w < 8
      · have hraw : rawB (hKind (wat V o.a)) = true := by rw [← ew]; unfold rawB; exact decide_eq_true q
        have e2 : fldsW W (obW W (f o.a)) = fldsW V o := by
          unfold fldsW
          rw [hn]
          refine List.map_congr_left fun i hi => ?_
          exact hm.raw o.a hd hraw i (by rw [hsz]; exact List.mem_range.1 hi)
        rw [e2]
        exact fieldsS_raw _ _ _ q _ _
      · have hraw : rawB (hKind (wat V o.a)) = false := by rw [← ew]; unfold rawB; exact decide_eq_false q
        refine fieldsS_map hm h _ q _ _ _ (by simp [fldsW, hn]) fun i hi => ?_
        have hi' : i < o.n := by simpa [fldsW] using hi
        have g1 : (fldsW V o).getD i 0 = wat V (o.a + 1 + i) := by simp [fldsW, List.getD_eq_getElem?_getD, hi']
        have g2 : (fldsW W (obW W (f o.a))).getD i 0 = wat W (f o.a + 1 + i) := by
          have hi2 : i < (obW W (f o.a)).n := by rw [hn]; exact hi'
          simp [fldsW, List.getD_eq_getElem?_getD, hi2]; rfl
        rw [g1, g2]
        exact hm.fld o.a hd hraw i (by rw [hsz]; exact hi')
    rw [hk, hfs]
    exact objsS_map hm h r (i + 1) _ fun x hx => hr x (by simp [hx])
end
theorem graph_map {M N : Mem} {Dom : Nat → Prop} {f : Nat → Nat} (hm : Morph M.W N.W Dom f) (hl : N.W.length = M.W.length) (hr : M.roots.length = N.roots.length) (hc : ∀ i, i < M.roots.length → Cor f Dom (M.roots.getD i 0) (N.roots.getD i 0)) : graphS N = graphS M := by
  obtain ⟨e1, e2⟩ := reach_sim hm hl hr hc
  unfold graphS
  rw [e1, rootsS_map hm e2 M.roots N.roots _ hr hc, objsS_map hm e2 _ 0 _ e2]
end Go.Proofs.YtecbbbaafcoliaaGreatDoor
