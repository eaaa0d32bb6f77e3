/- The library's contracts of texts, laid over this program. -/
import Derived.Test.YtgjjkllngopboaaDoorJCa01
import Derived.Shelf.Strings.BuilderK
import Derived.Shelf.LaysM
import Derived.Shelf.Strconv.Itoa4
import Derived.Shelf.Strings.OnBuilder
import Derived.Test.YtgjjkllngopboaaDoorJCa11
import Derived.Lib.OthersKept
import Derived.Test.YtgjjkllngopboaaDoorJCa03
import Derived.Lib.AppendIntMem
import Derived.Lib.SmallJoins
namespace Go.Proofs.YtgjjkllngopboaaDoor
open Go.Shelf Go.RowKit
set_option linter.unusedVariables false
set_option linter.unusedSimpArgs false

def textRen : Ren where
  f := fun x => match x with
    | 129 => 68
    | 156 => 19
    | 165 => 36
    | 166 => 18
    | 169 => 25
    | 171 => 20
    | 173 => 23
    | 240 => 35
    | 241 => 50
    | 243 => 37
    | 246 => 38
    | 276 => 49
    | 277 => 66
    | 283 => 51
    | 284 => 52
    | 285 => 53
    | 286 => 54
    | 317 => 67
    | 318 => 69
    | 319 => 70
    | 320 => 71
    | 337 => 74
    | 338 => 75
    | n => n
  t := fun x => match x with
    | 0 => 0
    | 2 => 2
    | 3 => 3
    | 4 => 4
    | 5 => 5
    | 9 => 9
    | 20 => 20
    | 31 => 24
    | 37 => 55
    | 46 => 89
    | 51 => 137
    | 53 => 107
    | 70 => 54
    | 72 => 57
    | 75 => 39
    | 76 => 58
    | 80 => 69
    | 127 => 90
    | 164 => 104
    | 171 => 106
    | 173 => 110
    | 212 => 136
    | 213 => 138
    | 232 => 157
    | 233 => 158
    | n => n
  g := fun x => match x with
    | 17 => 8
    | 18 => 10
    | 19 => 11
    | n => n
set_option maxRecDepth 100000 in
theorem joinL : Lays.n156 Tryd.prog textRen := {
  mixed := by kernel_rfl, f156 := Tryd.func19.trans (congrArg some (by kernel_rfl)), f165 := Tryd.func36.trans (congrArg some (by kernel_rfl)),
  f166 := Tryd.func18.trans (congrArg some (by kernel_rfl)), f169 := Tryd.func25.trans (congrArg some (by kernel_rfl)),
  f240 := Tryd.func35.trans (congrArg some (by kernel_rfl)), f241 := Tryd.func50.trans (congrArg some (by kernel_rfl)),
  f276 := Tryd.func49.trans (congrArg some (by kernel_rfl)), f277 := Tryd.func66.trans (congrArg some (by kernel_rfl)), t0 := Tryd.underlying0, a0 := Tryd.isAgg0,
  z0 := Tryd.sizeOf0, v0 := Tryd.zeroValue0, t3 := Tryd.underlying3, a3 := Tryd.isAgg3, z3 := Tryd.sizeOf3, v3 := Tryd.zeroValue3, t4 := Tryd.underlying4, a4 := Tryd.isAgg4,
  z4 := Tryd.sizeOf4, v4 := Tryd.zeroValue4, t9 := Tryd.underlying9, a9 := Tryd.isAgg9, z9 := Tryd.sizeOf9, v9 := Tryd.zeroValue9, t20 := Tryd.underlying20,
  a20 := Tryd.isAgg20, z20 := Tryd.sizeOf20, v20 := Tryd.zeroValue20, t31 := Tryd.underlying24, a31 := Tryd.isAgg24, z31 := Tryd.sizeOf24,
  v31 := Tryd.zeroValue24, t37 := Tryd.underlying55, a37 := Tryd.isAgg55, z37 := Tryd.sizeOf55, v37 := Tryd.zeroValue55, t70 := Tryd.underlying54,
  a70 := Tryd.isAgg54, z70 := Tryd.sizeOf54, v70 := Tryd.zeroValue54, t72 := Tryd.underlying57, a72 := Tryd.isAgg57,
  z72 := Tryd.sizeOf57, v72 := Tryd.zeroValue57, t75 := Tryd.underlying39, a75 := Tryd.isAgg39, z75 := Tryd.sizeOf39, v75 := Tryd.zeroValue39,
  t76 := Tryd.underlying58, a76 := Tryd.isAgg58, z76 := Tryd.sizeOf58, v76 := Tryd.zeroValue58, t127 := Tryd.underlying90, a127 := Tryd.isAgg90,
  z127 := Tryd.sizeOf90, v127 := Tryd.zeroValue90, t164 := Tryd.underlying104, a164 := Tryd.isAgg104, z164 := Tryd.sizeOf104, v164 := Tryd.zeroValue104 }
set_option maxRecDepth 100000 in
theorem itoaL : LaysM.n171 Tryd.prog textRen := {
  mixed := by kernel_rfl, f129 := Tryd.func68.trans (congrArg some (by kernel_rfl)), f171 := Tryd.func20.trans (congrArg some (by kernel_rfl)),
  f243 := Tryd.func37.trans (congrArg some (by kernel_rfl)), f246 := Tryd.func38.trans (congrArg some (by kernel_rfl)),
  f283 := Tryd.func51.trans (congrArg some (by kernel_rfl)), f284 := Tryd.func52.trans (congrArg some (by kernel_rfl)),
  f285 := Tryd.func53.trans (congrArg some (by kernel_rfl)), f286 := Tryd.func54.trans (congrArg some (by kernel_rfl)),
  f317 := Tryd.func67.trans (congrArg some (by kernel_rfl)), f318 := Tryd.func69.trans (congrArg some (by kernel_rfl)),
  f319 := Tryd.func70.trans (congrArg some (by kernel_rfl)), f320 := Tryd.func71.trans (congrArg some (by kernel_rfl)),
  f337 := Tryd.func74.trans (congrArg some (by kernel_rfl)), f338 := Tryd.func75.trans (congrArg some (by kernel_rfl)), t0 := Tryd.underlying0, a0 := Tryd.isAgg0,
  z0 := Tryd.sizeOf0, v0 := Tryd.zeroValue0, t2 := Tryd.underlying2, a2 := Tryd.isAgg2, z2 := Tryd.sizeOf2, v2 := Tryd.zeroValue2, t3 := Tryd.underlying3, a3 := Tryd.isAgg3,
  z3 := Tryd.sizeOf3, v3 := Tryd.zeroValue3, t4 := Tryd.underlying4, a4 := Tryd.isAgg4, z4 := Tryd.sizeOf4, v4 := Tryd.zeroValue4, t5 := Tryd.underlying5, a5 := Tryd.isAgg5,
  z5 := Tryd.sizeOf5, v5 := Tryd.zeroValue5, t9 := Tryd.underlying9, a9 := Tryd.isAgg9, z9 := Tryd.sizeOf9, v9 := Tryd.zeroValue9, t20 := Tryd.underlying20,
  a20 := Tryd.isAgg20, z20 := Tryd.sizeOf20, v20 := Tryd.zeroValue20, t37 := Tryd.underlying55, a37 := Tryd.isAgg55, z37 := Tryd.sizeOf55,
  v37 := Tryd.zeroValue55, t46 := Tryd.underlying89, a46 := Tryd.isAgg89, z46 := Tryd.sizeOf89, v46 := Tryd.zeroValue89, t51 := Tryd.underlying137, a51 := Tryd.isAgg137,
  z51 := Tryd.sizeOf137, v51 := Tryd.zeroValue137, t53 := Tryd.underlying107, a53 := Tryd.isAgg107, z53 := Tryd.sizeOf107, v53 := Tryd.zeroValue107, t171 := Tryd.underlying106,
  a171 := Tryd.isAgg106, z171 := Tryd.sizeOf106, v171 := Tryd.zeroValue106, t173 := Tryd.underlying110, a173 := Tryd.isAgg110,
  z173 := Tryd.sizeOf110, v173 := Tryd.zeroValue110, t212 := Tryd.underlying136, a212 := Tryd.isAgg136, z212 := Tryd.sizeOf136,
  v212 := Tryd.zeroValue136, t213 := Tryd.underlying138, a213 := Tryd.isAgg138, z213 := Tryd.sizeOf138, t232 := Tryd.underlying157, a232 := Tryd.isAgg157,
  z232 := Tryd.sizeOf157, v232 := Tryd.zeroValue157, t233 := Tryd.underlying158, a233 := Tryd.isAgg158, z233 := Tryd.sizeOf158, v233 := Tryd.zeroValue158,
  g17 := by kernel_rfl, g18 := by kernel_rfl, g19 := by kernel_rfl, i0 := by kernel_rfl, i2 := by kernel_rfl, i3 := by kernel_rfl, i4 := by kernel_rfl, i5 := by kernel_rfl, i9 := by kernel_rfl, i20 := by kernel_rfl,
  i37 := by kernel_rfl, i46 := by kernel_rfl, i51 := by kernel_rfl, i53 := by kernel_rfl, i171 := by kernel_rfl, i173 := by kernel_rfl, i212 := by kernel_rfl, i232 := by kernel_rfl, i233 := by kernel_rfl, m17 := by kernel_rfl,
  m18 := by kernel_rfl, m19 := by kernel_rfl }
set_option maxRecDepth 100000 in
theorem fmtL : LaysM.n173 Tryd.prog textRen := { itoaL with
  f173 := Tryd.func23.trans (congrArg some (by kernel_rfl)) }
theorem builderX : Builder.Extra Tryd.prog textRen := {
  sizeBuilder := by kernel_rfl, liesBuilder := by kernel_rfl, t5 := Tryd.underlying5, a5 := Tryd.isAgg5, z5 := Tryd.sizeOf5, v5 := Tryd.zeroValue5, infoByte := by kernel_rfl,
  cellsByte := by kernel_rfl, sizeByte := by kernel_rfl, neB5 := by decide }
/-- A builder that the call has made, and what it holds. -/
def Bld (B b : Nat) (s : ByteArray) (w : World) : Prop := Lib.IsBuilderF 57 5 B b (Lib.strCells s) w
theorem strCells_app (a b : ByteArray) : Lib.strCells (a ++ b) = Lib.strCells a ++ Lib.strCells b := by
  simp [Lib.strCells_eq, Lib.byteCells]
theorem write_any (B b : Nat) (out s : ByteArray) (w : World) (h : Bld B b out w) (hl : out.size + s.size ≤ 140737488355328) (hB : B ≤ w.heap.size) :
    Calls Tryd.prog 18 #[.pointer (some ⟨b, 0, none⟩), .string s] w fun e w' => e = .returned (.tuple #[.int .i64 s.size, .nilIface]) ∧ Bld B b (out ++ s) w' ∧ Below B w w' ∧ Lib.OthersKept 5 (some b) w w' := by
  refine (Any.Builder_WriteString_k (ρ := textRen) { joinL with } builderX B b (Lib.strCells out) s w h (by rw [Lib.strCells_length]; exact hl) hB).mono ?_
  rintro e w' ⟨he, h1, h2, h3⟩
  refine ⟨he, ?_, h2, h3⟩
  unfold Bld
  rw [strCells_app]
  exact Or.inr h1
/-- The same; how many bytes were written is not told. -/
theorem write_ex (B b : Nat) (out s : ByteArray) (w : World) (h : Bld B b out w) (hl : out.size + s.size ≤ 140737488355328) (hB : B ≤ w.heap.size) :
    Calls Tryd.prog 18 #[.pointer (some ⟨b, 0, none⟩), .string s] w fun e w' => ∃ z : Int, e = .returned (.tuple #[.int .i64 z, .nilIface]) ∧ Bld B b (out ++ s) w' ∧ Below B w w' ∧ Lib.OthersKept 5 (some b) w w' :=
  (write_any B b out s w h hl hB).mono fun _ _ h => ⟨_, h⟩
theorem string_any (B b : Nat) (s : ByteArray) (w : World) (h : Bld B b s w) (hB : B ≤ w.heap.size) :
    Calls Tryd.prog 25 #[.pointer (some ⟨b, 0, none⟩)] w fun e w' => e = .returned (.string s) ∧ Below B w w' := by
  refine (Any.Builder_String_any_k (ρ := textRen) { joinL with } builderX B b s.data.toList w h hB).mono ?_
  rintro e w' ⟨he, h1, h2, h3⟩
  exact ⟨he, h2⟩
theorem itoa_any (n : Int) (h0 : -9223372036854775808 ≤ n) (h1 : n ≤ 9223372036854775807) (w : World) (htab : Lib.TabIs Tryd.prog w "internal/strconv.uint64pow10" .u64 Lib.pow10Tab) :
    Calls Tryd.prog 20 #[.int .i64 n] w fun e w' => e = .returned (.string ⟨(Lib.itoa n).toArray⟩) ∧ ∃ k os, w' = Sort.grow (w.drewN k) os := Any.strconv_Itoa itoaL n h0 h1 w htab
theorem fmt_any (n : Int) (h0 : -9223372036854775808 ≤ n) (h1 : n ≤ 9223372036854775807) (w : World) (htab : Lib.TabIs Tryd.prog w "internal/strconv.uint64pow10" .u64 Lib.pow10Tab) :
    Calls Tryd.prog 23 #[.int .i64 n, .int .i64 10] w fun e w' => e = .returned (.string ⟨(Lib.itoa n).toArray⟩) ∧ ∃ k os, w' = Sort.grow (w.drewN k) os := Any.strconv_FormatInt_10 fmtL n h0 h1 w htab
theorem joinL_cons (x : List UInt8) (xs : List (List UInt8)) (s : List UInt8) (h : xs ≠ []) : Lib.join (x :: xs) s = x ++ s ++ Lib.join xs s := by
  cases xs with
  | nil => exact absurd rfl h
  | cons y ys => simp [Lib.join]
def hexDigP (n : Nat) : UInt8 := if n < 10 then UInt8.ofNat (48 + n) else UInt8.ofNat (87 + n)
/-- A byte as it stands in quotes. -/
def quote1 (c : UInt8) : List UInt8 :=
  if c.toNat = 10 then [92, 110] else if c.toNat = 34 ∨ c.toNat = 92 then [92, c] else if c.toNat < 32 ∨ 126 < c.toNat then [92, 120, hexDigP (c.toNat / 16), hexDigP (c.toNat % 16)] else [c]
def quotesP (l : List UInt8) : List UInt8 := l.flatMap quote1
def quotedP (s : ByteArray) : ByteArray := ⟨(34 :: (quotesP s.data.toList ++ [34])).toArray⟩
def dashP (s : ByteArray) : ByteArray := if s = ⟨#[]⟩ then ⟨#[45]⟩ else s
/-- The words of a line, a blank between each two. -/
def joinP : List ByteArray → ByteArray
  | [] => ⟨#[]⟩
  | [a] => a
  | a :: b :: r => (a ++ ⟨#[32]⟩) ++ joinP (b :: r)
def lineP (l : List ByteArray) : ByteArray := joinP l ++ ⟨#[10]⟩
def opLine (k : Nat) (op : OpP) : ByteArray := if kindP op = ⟨#[]⟩ then lineP [⟨#[32]⟩, decS (k : Int), op.name] else lineP [⟨#[32]⟩, decS (k : Int), op.name, decS op.a]
def opsP : Nat → List OpP → ByteArray → ByteArray
  | _, [], out => out
  | k, op :: r, out => opsP (k + 1) r (out ++ opLine k op)
def fnLine (i : Nat) (f : FnP) : ByteArray := lineP [⟨#[102, 117, 110, 99]⟩, decS (i : Int), dashP f.name, decS f.params, decS f.locals, decS f.cells, decS f.frees]
def fnsP : Nat → List FnP → ByteArray → ByteArray
  | _, [], out => out
  | i, f :: r, out => fnsP (i + 1) r (opsP 0 f.ops (out ++ fnLine i f))
def eachP {α : Type} (g : Nat → α → ByteArray) : Nat → List α → ByteArray → ByteArray
  | _, [], out => out
  | i, x :: r, out => eachP g (i + 1) r (out ++ g i x)
def intLine (i : Nat) (x : Int) : ByteArray := lineP [⟨#[105, 110, 116]⟩, decS (i : Int), decS x]
def strLine (i : Nat) (s : ByteArray) : ByteArray := lineP [⟨#[115, 116, 114]⟩, decS (i : Int), quotedP s]
def nameLine (i : Nat) (s : ByteArray) : ByteArray := lineP [⟨#[110, 97, 109, 101]⟩, decS (i : Int), dashP s]
def textC (c : CodeP) : ByteArray := eachP nameLine 0 c.names (eachP strLine 0 c.strs (eachP intLine 0 c.ints (fnsP 0 c.funcs ⟨#[]⟩)))

theorem quotesP_snoc (l : List UInt8) (k : Nat) (hk : k < l.length) : quotesP (l.take (k + 1)) = quotesP (l.take k) ++ quote1 l[k] := by
  unfold quotesP
  rw [List.take_add_one, List.getElem?_eq_getElem hk, List.flatMap_append]
  simp
theorem eachP_snoc {α : Type} (g : Nat → α → ByteArray) : ∀ (l : List α) (i k : Nat) (out : ByteArray) (hk : k < l.length), eachP g i (l.take (k + 1)) out = eachP g i (l.take k) out ++ g (i + k) l[k]
  | [], _, _, _, h => by simp at h
  | x :: l, i, 0, out, h => by simp [eachP]
  | x :: l, i, k + 1, out, h => by
    have h' : k < l.length := by simpa using h
    have := eachP_snoc g l (i + 1) k (out ++ g i x) h'
    simp only [List.take_succ_cons, eachP, List.getElem_cons_succ]
    rw [this]
    congr 2
    omega
theorem opsP_each : ∀ (k : Nat) (l : List OpP) (out : ByteArray), opsP k l out = eachP opLine k l out
  | _, [], _ => rfl
  | k, op :: r, out => opsP_each (k + 1) r _
open Go.RowKit

theorem ba_app (a b : List UInt8) : (⟨a.toArray⟩ : ByteArray) ++ ⟨b.toArray⟩ = ⟨(a ++ b).toArray⟩ := by
  apply ByteArray.ext
  simp
theorem byteS_of {n : Int} {x : UInt8} (h : n % 256 = (x.toNat : Int)) : byteS n = ⟨[x].toArray⟩ := by
  unfold byteS strOfNums
  rw [h]
  simp
theorem dig_nat (m : Nat) (h : m < 10) : byteS (48 - -(m : Int)) = ⟨[UInt8.ofNat (48 + m)].toArray⟩ := byteS_of (by
  rw [UInt8.toNat_ofNat']
  omega)
theorem tmod10 (n : Int) (h : n ≤ 0) : n.tmod 10 = -((-n) % 10) := by
  have h1 : (-n).tmod 10 = (-n) % 10 := Int.tmod_eq_emod_of_nonneg (by omega)
  rw [← h1, Int.neg_tmod, Int.neg_neg]
theorem belowS_dec : ∀ (f m : Nat), m < 10 ^ (f + 1) → belowS f (-(m : Int)) = ⟨(Lib.decDigits m).toArray⟩
  | 0, m, h => by
    have h' : m < 10 := by simpa using h
    rw [Lib.decDigits, dif_pos h']
    exact dig_nat m h'
  | f + 1, m, h => by
    unfold belowS
    by_cases h' : m < 10
    · rw [if_pos (by omega), Lib.decDigits, dif_pos h']
      exact dig_nat m h'
    · rw [if_neg (by omega), Lib.decDigits, dif_neg h']
      have e1 : (-(m : Int)).tdiv 10 = -((m / 10 : Nat) : Int) := by rw [tdiv10 _ (by omega)]; omega
      have e2 : (-(m : Int)).tmod 10 = -((m % 10 : Nat) : Int) := by rw [tmod10 _ (by omega)]; omega
      have hlt : m / 10 < 10 ^ (f + 1) := by
        rw [Nat.pow_succ] at h
        generalize 10 ^ (f + 1) = p at *
        omega
      rw [e1, e2, belowS_dec f (m / 10) hlt, dig_nat (m % 10) (Nat.mod_lt _ (by decide)), ba_app]
theorem decS_itoa (n : Int) (h0 : -9223372036854775808 ≤ n) (h1 : n ≤ 9223372036854775807) : (⟨(Lib.itoa n).toArray⟩ : ByteArray) = decS n := by
  have hp : (10 : Nat) ^ 21 = 1000000000000000000000 := by decide
  unfold Lib.itoa decS
  by_cases h : n < 0
  · rw [if_pos h, if_pos h]
    have e : n = -((n.natAbs : Nat) : Int) := by omega
    conv => rhs; rw [e]
    rw [belowS_dec 20 _ (by rw [hp]; omega)]
    have : (⟨#[45]⟩ : ByteArray) = ⟨[45].toArray⟩ := rfl
    rw [this, ba_app]; rfl
  · rw [if_neg h, if_neg h]
    have e : -n = -((n.toNat : Nat) : Int) := by omega
    rw [e, belowS_dec 20 _ (by rw [hp]; omega)]
abbrev Pow (w : World) : Prop := Lib.TabIs Tryd.prog w "internal/strconv.uint64pow10" .u64 Lib.pow10Tab
theorem Pow.ext {w w' : World} (h : Pow w) (hx : Ext w w') : Pow w' := Lib.tabBelow_of_tabIs h w' hx
theorem extGrow {w : World} (k : Nat) (os : Array Obj) : Ext w (Sort.grow (w.drewN k) os) := by
  refine ⟨rfl, rfl, rfl, ?_, fun i hi => ?_⟩
  · show w.heap.size ≤ (w.heap ++ os).size
    simp
  · show (w.heap ++ os)[i]? = w.heap[i]?
    rw [Array.getElem?_append, if_pos hi]
theorem itoaT_any (n : Int) (h0 : -9223372036854775808 ≤ n) (h1 : n ≤ 9223372036854775807) (w : World) (ht : Pow w) :
    Calls Tryd.prog 20 #[.int .i64 n] w fun e w' => e = .returned (.string (decS n)) ∧ Ext w w' := by
  refine (itoa_any n h0 h1 w ht).mono ?_
  rintro e w' ⟨he, k, os, rfl⟩
  rw [decS_itoa n h0 h1] at he
  exact ⟨he, extGrow k os⟩
theorem fmtT_any (n : Int) (h0 : -9223372036854775808 ≤ n) (h1 : n ≤ 9223372036854775807) (w : World) (ht : Pow w) :
    Calls Tryd.prog 23 #[.int .i64 n, .int .i64 10] w fun e w' => e = .returned (.string (decS n)) ∧ Ext w w' := by
  refine (fmt_any n h0 h1 w ht).mono ?_
  rintro e w' ⟨he, k, os, rfl⟩
  rw [decS_itoa n h0 h1] at he
  exact ⟨he, extGrow k os⟩
theorem nameC_any (s : ByteArray) (w : World) : Calls Tryd.prog 21 #[.string s] w fun e w' => e = .returned (.string (dashP s)) ∧ w' = w := by
  unfold dashP
  by_cases h : s = ⟨#[]⟩
  · rw [if_pos h]
    subst h
    go_enter Tryd.func21, Tryd.ntmps21
    go_wp2
    go_ret
    exact ⟨rfl, rfl⟩
  · rw [if_neg h]
    have h1 := empty_no h
    go_enter Tryd.func21, Tryd.ntmps21
    go_wp2
    go_ret
    exact ⟨rfl, rfl⟩
theorem join_eq : ∀ xs : List ByteArray, (⟨(Lib.join (xs.map (·.data.toList)) [32]).toArray⟩ : ByteArray) = joinP xs
  | [] => rfl
  | [a] => by
    simp only [List.map_cons, List.map_nil, Lib.join_one, joinP]
  | a :: b :: r => by
    have ih := join_eq (b :: r)
    simp only [List.map_cons] at ih ⊢
    rw [joinL_cons _ _ _ (by simp)]
    unfold joinP
    rw [← ih]
    apply ByteArray.ext
    simp
/-- What a line leaves: the builder holds more; all below it stands, and all that are no bytes. -/
structure Lined (b : Nat) (out : ByteArray) (w w' : World) : Prop where
  bld : Bld b b out w'
  below : Below b w w'
  others : Lib.OthersKept 5 (some b) w w'
theorem others_ext {w w' : World} (b : Option Nat) (h : Ext w w') : Lib.OthersKept 5 b w w' := fun g o hg _ _ => by
  have hl : g < w.heap.size := by
    rcases Nat.lt_or_ge g w.heap.size with q | q
    · exact q
    · simp [Array.getElem?_eq_none q] at hg
  rw [Below.block h g hl]; exact hg
theorem Bld.lt_ {B b : Nat} {s : ByteArray} {w : World} (h : Bld B b s w) : b < w.heap.size := by
  rcases h with h | h <;> exact h.lt
theorem Bld.ext_ {B b : Nat} {s : ByteArray} {w w' : World} (h : Bld B b s w) (hx : Ext w w') : Bld B b s w' := by
  have key : ∀ p, Lib.BuilderAtF 57 5 B b p (Lib.strCells s) w → Lib.BuilderAtF 57 5 B b p (Lib.strCells s) w' := fun p hp => by
    have hl := hp.lt
    obtain ⟨hB, v, hb, hown, hne⟩ := hp
    obtain ⟨q1, q2, q3, q4, q5⟩ := hx
    exact ⟨hB, v, by rw [q5 b hl]; exact hb, hown.kept (row := none) ⟨q1, q2, q3, q4, fun k hk _ => q5 k hk⟩ (by cases hv : v.ownBlock <;> simp), hne⟩
  rcases h with h | h
  · exact Or.inl (key _ h)
  · exact Or.inr (key _ h)
theorem bldNew (w : World) : Bld w.heap.size w.heap.size ⟨#[]⟩ (w.alloc (.cells #[.pointer none, .slice none 0 0] 57)) := Lib.IsBuilderF.of (Lib.fresh_isBuilder _ _ w)
set_option maxRecDepth 100000 in
theorem line_any (b : Nat) (out : ByteArray) (xs : List ByteArray) (rb ro rc : Nat) (w : World) (hB : Bld b b out w) (hrow : ∀ (j : Nat) x, xs[j]? = some x → w.cell? ⟨rb, ro + j, none⟩ = some (.string x)) (hrb : rb < w.heap.size) (hn : xs.length ≤ 1000)
    (hcap : xs.length ≤ rc) (hlen : out.size + (lineP xs).size ≤ 140737488355328) :
    Calls Tryd.prog 17 #[.slice (some ⟨rb, ro, none⟩) xs.length rc, .pointer (some ⟨b, 0, none⟩)] w fun e w' => e = .returned (.tuple #[]) ∧ Lined b (out ++ lineP xs) w w' := by
  have hs : (lineP xs).size = (joinP xs).size + 1 := by unfold lineP; rw [ByteArray.size_append]; rfl
  have hj : (Lib.join (xs.map (·.data.toList)) [32]).length = (joinP xs).size := by rw [← join_eq xs]; rfl
  have hjoin := Any.strings_Join (P := Tryd.prog) (ρ := textRen) joinL builderX rb ro rc xs ⟨#[32]⟩ w hrow hrb (by omega) hcap (by show (Lib.join _ [32]).length ≤ _; rw [hj]; omega)
  have hj2 : Calls Tryd.prog 19 #[.slice (some ⟨rb, ro, none⟩) xs.length rc, .string ⟨#[32]⟩] w fun e w' => e = .returned (.string (joinP xs)) ∧ Ext w w' := by
    rw [← join_eq xs]; exact hjoin
  have HJ := Lib.hid hj2
  have HB := Lib.hid hB
  have hbl := hB.lt_
  have e1 : lineP xs = joinP xs ++ ⟨#[10]⟩ := rfl
  have z1 : (⟨#[10]⟩ : ByteArray).size = 1 := rfl
  have HE1 := Lib.hid e1
  generalize joinP xs = jn at *
  clear hjoin hj2 hrow hB hj e1
  go_enter Tryd.func17, Tryd.ntmps17
  go_wp2_with (first
    | (go_at_call 19; refine HJ.out.mono ?_; rintro e w2 ⟨rfl, hq⟩; have HX2 := Lib.hid hq; have hls2 := hq.size; clear hq)
    | (go_at_call 18; refine (write_ex b b out _ _ (HB.out.ext_ HX2.out) (by rw [ByteArray.size_append]; omega) (by omega)).mono ?_; rintro e w3 ⟨z, rfl, q1, q2, q3⟩; have Q1 := Lib.hid q1; have Q2 := Lib.hid q2; have Q3 := Lib.hid q3; clear q1 q2 q3))
  go_end0
  refine ⟨rfl, ?_, ?_, ?_⟩
  · rw [HE1.out]; exact Q1.out
  · exact (HX2.out.mono (by omega)).trans Q2.out
  · exact (others_ext _ HX2.out).trans Q3.out
end Go.Proofs.YtgjjkllngopboaaDoor
