/- The library's contracts of texts, laid over this program. -/
import Derived.Test.YtecbbbaafcoliaaGreatDoorJYa01
import Derived.Shelf.Strings.BuilderK
import Derived.Shelf.LaysM
import Derived.Shelf.Strconv.Itoa4
import Derived.Shelf.Strings.Repeat
import Derived.IntWalk
import Derived.Laws.Rows
import Derived.Lib.LazyBuf
import Derived.Deep.LoopGhost
import Derived.Deep.Cut
import Derived.Laws.BytesArg
import Derived.Test.YtecbbbaafcoliaaGreatDoorJYa24
import Derived.Test.YtecbbbaafcoliaaGreatDoorJYa36
import Derived.Test.YtecbbbaafcoliaaGreatDoorJYa35
import Derived.Test.YtecbbbaafcoliaaGreatDoorJYa30
import Derived.Test.YtecbbbaafcoliaaGreatDoorJYa29
import Derived.Test.YtecbbbaafcoliaaGreatDoorJYa33
import Derived.Lib.SmallJoins
import Derived.Lib.AppendIntMem
import Derived.Deep.QuietTactic
import Derived.BigQuiet
namespace Go.Proofs.YtecbbbaafcoliaaGreatDoor
open Go.Shelf Go.RowKit
set_option linter.unusedVariables false
set_option linter.unusedSimpArgs false

def textRen : Ren where
  f := fun x => match x with
    | 99 => 105
    | 105 => 74
    | 129 => 130
    | 165 => 106
    | 166 => 70
    | 169 => 78
    | 170 => 107
    | 171 => 72
    | 173 => 100
    | 206 => 139
    | 212 => 104
    | 240 => 99
    | 241 => 140
    | 243 => 102
    | 246 => 132
    | 263 => 137
    | 264 => 138
    | 276 => 131
    | 277 => 154
    | 283 => 133
    | 284 => 134
    | 285 => 135
    | 286 => 136
    | 317 => 150
    | 318 => 151
    | 319 => 152
    | 320 => 153
    | 337 => 164
    | 338 => 165
    | n => n
  t := fun x => match x with
    | 0 => 0
    | 2 => 2
    | 3 => 3
    | 4 => 4
    | 5 => 5
    | 9 => 9
    | 20 => 20
    | 37 => 112
    | 46 => 130
    | 51 => 181
    | 53 => 51
    | 70 => 111
    | 72 => 114
    | 75 => 34
    | 76 => 47
    | 80 => 124
    | 109 => 150
    | 127 => 156
    | 146 => 187
    | 148 => 189
    | 164 => 159
    | 171 => 183
    | 173 => 185
    | 212 => 213
    | 213 => 214
    | 232 => 225
    | 233 => 226
    | n => n
  g := fun x => match x with
    | 17 => 8
    | 18 => 10
    | 19 => 11
    | n => n
set_option maxRecDepth 100000 in
theorem repeatL_ : Lays.n105 Tryz.prog textRen := {
  mixed := by kernel_rfl, f99 := Tryz.func105.trans (congrArg some (by kernel_rfl)), f105 := Tryz.func74.trans (congrArg some (by kernel_rfl)),
  f165 := Tryz.func106.trans (congrArg some (by kernel_rfl)), f166 := Tryz.func70.trans (congrArg some (by kernel_rfl)),
  f169 := Tryz.func78.trans (congrArg some (by kernel_rfl)), f170 := Tryz.func107.trans (congrArg some (by kernel_rfl)),
  f206 := Tryz.func139.trans (congrArg some (by kernel_rfl)), f212 := Tryz.func104.trans (congrArg some (by kernel_rfl)),
  f240 := Tryz.func99.trans (congrArg some (by kernel_rfl)), f241 := Tryz.func140.trans (congrArg some (by kernel_rfl)),
  f263 := Tryz.func137.trans (congrArg some (by kernel_rfl)), f264 := Tryz.func138.trans (congrArg some (by kernel_rfl)),
  f276 := Tryz.func131.trans (congrArg some (by kernel_rfl)), f277 := Tryz.func154.trans (congrArg some (by kernel_rfl)), t0 := Tryz.underlying0, a0 := Tryz.isAgg0,
  z0 := Tryz.sizeOf0, v0 := Tryz.zeroValue0, t3 := Tryz.underlying3, a3 := Tryz.isAgg3, z3 := Tryz.sizeOf3, v3 := Tryz.zeroValue3, t4 := Tryz.underlying4, a4 := Tryz.isAgg4,
  z4 := Tryz.sizeOf4, v4 := Tryz.zeroValue4, t5 := Tryz.underlying5, a5 := Tryz.isAgg5, z5 := Tryz.sizeOf5, v5 := Tryz.zeroValue5, t9 := Tryz.underlying9,
  a9 := Tryz.isAgg9, z9 := Tryz.sizeOf9, v9 := Tryz.zeroValue9, t20 := Tryz.underlying20, a20 := Tryz.isAgg20, z20 := Tryz.sizeOf20,
  v20 := Tryz.zeroValue20, t37 := Tryz.underlying112, a37 := Tryz.isAgg112, z37 := Tryz.sizeOf112, v37 := Tryz.zeroValue112, t46 := Tryz.underlying130, a46 := Tryz.isAgg130,
  z46 := Tryz.sizeOf130, v46 := Tryz.zeroValue130, t51 := Tryz.underlying181, a51 := Tryz.isAgg181, z51 := Tryz.sizeOf181, v51 := Tryz.zeroValue181, t53 := Tryz.underlying51,
  a53 := Tryz.isAgg51, z53 := Tryz.sizeOf51, v53 := Tryz.zeroValue51, t70 := Tryz.underlying111, a70 := Tryz.isAgg111, z70 := Tryz.sizeOf111,
  v70 := Tryz.zeroValue111, t72 := Tryz.underlying114, a72 := Tryz.isAgg114, z72 := Tryz.sizeOf114, v72 := Tryz.zeroValue114,
  t75 := Tryz.underlying34, a75 := Tryz.isAgg34, z75 := Tryz.sizeOf34, v75 := Tryz.zeroValue34, t76 := Tryz.underlying47, a76 := Tryz.isAgg47,
  z76 := Tryz.sizeOf47, v76 := Tryz.zeroValue47, t109 := Tryz.underlying150, a109 := Tryz.isAgg150, z109 := Tryz.sizeOf150, v109 := Tryz.zeroValue150,
  t127 := Tryz.underlying156, a127 := Tryz.isAgg156, z127 := Tryz.sizeOf156, v127 := Tryz.zeroValue156, t146 := Tryz.underlying187, a146 := Tryz.isAgg187,
  z146 := Tryz.sizeOf187, v146 := Tryz.zeroValue187, t148 := Tryz.underlying189, a148 := Tryz.isAgg189, z148 := Tryz.sizeOf189,
  v148 := Tryz.zeroValue189, t164 := Tryz.underlying159, a164 := Tryz.isAgg159, z164 := Tryz.sizeOf159, v164 := Tryz.zeroValue159 }
set_option maxRecDepth 100000 in
theorem itoaL : LaysM.n171 Tryz.prog textRen := {
  mixed := by kernel_rfl, f129 := Tryz.func130.trans (congrArg some (by kernel_rfl)), f171 := Tryz.func72.trans (congrArg some (by kernel_rfl)),
  f243 := Tryz.func102.trans (congrArg some (by kernel_rfl)), f246 := Tryz.func132.trans (congrArg some (by kernel_rfl)),
  f283 := Tryz.func133.trans (congrArg some (by kernel_rfl)), f284 := Tryz.func134.trans (congrArg some (by kernel_rfl)),
  f285 := Tryz.func135.trans (congrArg some (by kernel_rfl)), f286 := Tryz.func136.trans (congrArg some (by kernel_rfl)),
  f317 := Tryz.func150.trans (congrArg some (by kernel_rfl)), f318 := Tryz.func151.trans (congrArg some (by kernel_rfl)),
  f319 := Tryz.func152.trans (congrArg some (by kernel_rfl)), f320 := Tryz.func153.trans (congrArg some (by kernel_rfl)),
  f337 := Tryz.func164.trans (congrArg some (by kernel_rfl)), f338 := Tryz.func165.trans (congrArg some (by kernel_rfl)), t0 := Tryz.underlying0, a0 := Tryz.isAgg0,
  z0 := Tryz.sizeOf0, v0 := Tryz.zeroValue0, t2 := Tryz.underlying2, a2 := Tryz.isAgg2, z2 := Tryz.sizeOf2, v2 := Tryz.zeroValue2, t3 := Tryz.underlying3, a3 := Tryz.isAgg3,
  z3 := Tryz.sizeOf3, v3 := Tryz.zeroValue3, t4 := Tryz.underlying4, a4 := Tryz.isAgg4, z4 := Tryz.sizeOf4, v4 := Tryz.zeroValue4, t5 := Tryz.underlying5, a5 := Tryz.isAgg5,
  z5 := Tryz.sizeOf5, v5 := Tryz.zeroValue5, t9 := Tryz.underlying9, a9 := Tryz.isAgg9, z9 := Tryz.sizeOf9, v9 := Tryz.zeroValue9, t20 := Tryz.underlying20,
  a20 := Tryz.isAgg20, z20 := Tryz.sizeOf20, v20 := Tryz.zeroValue20, t37 := Tryz.underlying112, a37 := Tryz.isAgg112, z37 := Tryz.sizeOf112,
  v37 := Tryz.zeroValue112, t46 := Tryz.underlying130, a46 := Tryz.isAgg130, z46 := Tryz.sizeOf130, v46 := Tryz.zeroValue130, t51 := Tryz.underlying181, a51 := Tryz.isAgg181,
  z51 := Tryz.sizeOf181, v51 := Tryz.zeroValue181, t53 := Tryz.underlying51, a53 := Tryz.isAgg51, z53 := Tryz.sizeOf51, v53 := Tryz.zeroValue51, t171 := Tryz.underlying183,
  a171 := Tryz.isAgg183, z171 := Tryz.sizeOf183, v171 := Tryz.zeroValue183, t173 := Tryz.underlying185, a173 := Tryz.isAgg185,
  z173 := Tryz.sizeOf185, v173 := Tryz.zeroValue185, t212 := Tryz.underlying213, a212 := Tryz.isAgg213, z212 := Tryz.sizeOf213,
  v212 := Tryz.zeroValue213, t213 := Tryz.underlying214, a213 := Tryz.isAgg214, z213 := Tryz.sizeOf214, t232 := Tryz.underlying225, a232 := Tryz.isAgg225,
  z232 := Tryz.sizeOf225, v232 := Tryz.zeroValue225, t233 := Tryz.underlying226, a233 := Tryz.isAgg226, z233 := Tryz.sizeOf226, v233 := Tryz.zeroValue226,
  g17 := by kernel_rfl, g18 := by kernel_rfl, g19 := by kernel_rfl, i0 := by kernel_rfl, i2 := by kernel_rfl, i3 := by kernel_rfl, i4 := by kernel_rfl, i5 := by kernel_rfl, i9 := by kernel_rfl, i20 := by kernel_rfl,
  i37 := by kernel_rfl, i46 := by kernel_rfl, i51 := by kernel_rfl, i53 := by kernel_rfl, i171 := by kernel_rfl, i173 := by kernel_rfl, i212 := by kernel_rfl, i232 := by kernel_rfl, i233 := by kernel_rfl, m17 := by kernel_rfl,
  m18 := by kernel_rfl, m19 := by kernel_rfl }
set_option maxRecDepth 100000 in
theorem fmtL : LaysM.n173 Tryz.prog textRen := { itoaL with
  f173 := Tryz.func100.trans (congrArg some (by kernel_rfl)) }
theorem builderX : Builder.Extra Tryz.prog textRen := {
  sizeBuilder := by kernel_rfl, liesBuilder := by kernel_rfl, t5 := Tryz.underlying5, a5 := Tryz.isAgg5, z5 := Tryz.sizeOf5, v5 := Tryz.zeroValue5, infoByte := by kernel_rfl,
  cellsByte := by kernel_rfl, sizeByte := by kernel_rfl, neB5 := by decide }
/-- A builder that the call has made, and what it holds. -/
def Bld (B b : Nat) (s : ByteArray) (w : World) : Prop := Lib.IsBuilderF 114 5 B b (Lib.strCells s) w
theorem strCells_app (a b : ByteArray) : Lib.strCells (a ++ b) = Lib.strCells a ++ Lib.strCells b := by
  simp [Lib.strCells_eq, Lib.byteCells]
theorem write_any (B b : Nat) (out s : ByteArray) (w : World) (h : Bld B b out w) (hl : out.size + s.size ≤ 140737488355328) (hB : B ≤ w.heap.size) :
    Calls Tryz.prog 70 #[.pointer (some ⟨b, 0, none⟩), .string s] w fun e w' => e = .returned (.tuple #[.int .i64 s.size, .nilIface]) ∧ Bld B b (out ++ s) w' ∧ Below B w w' ∧ Lib.OthersKept 5 (some b) w w' := by
  refine (Any.Builder_WriteString_k (ρ := textRen) { repeatL_ with } builderX B b (Lib.strCells out) s w h (by rw [Lib.strCells_length]; exact hl) hB).mono ?_
  rintro e w' ⟨he, h1, h2, h3⟩
  refine ⟨he, ?_, h2, h3⟩
  unfold Bld
  rw [strCells_app]
  exact Or.inr h1
/-- The same; how many bytes were written is not told. -/
theorem write_ex (B b : Nat) (out s : ByteArray) (w : World) (h : Bld B b out w) (hl : out.size + s.size ≤ 140737488355328) (hB : B ≤ w.heap.size) :
    Calls Tryz.prog 70 #[.pointer (some ⟨b, 0, none⟩), .string s] w fun e w' => ∃ z : Int, e = .returned (.tuple #[.int .i64 z, .nilIface]) ∧ Bld B b (out ++ s) w' ∧ Below B w w' ∧ Lib.OthersKept 5 (some b) w w' :=
  (write_any B b out s w h hl hB).mono fun _ _ h => ⟨_, h⟩
theorem string_any (B b : Nat) (s : ByteArray) (w : World) (h : Bld B b s w) (hB : B ≤ w.heap.size) :
    Calls Tryz.prog 78 #[.pointer (some ⟨b, 0, none⟩)] w fun e w' => e = .returned (.string s) ∧ Below B w w' := by
  refine (Any.Builder_String_any_k (ρ := textRen) { repeatL_ with } builderX B b s.data.toList w h hB).mono ?_
  rintro e w' ⟨he, h1, h2, h3⟩
  exact ⟨he, h2⟩
theorem itoa_any (n : Int) (h0 : -9223372036854775808 ≤ n) (h1 : n ≤ 9223372036854775807) (w : World) (htab : Lib.TabIs Tryz.prog w "internal/strconv.uint64pow10" .u64 Lib.pow10Tab) :
    Calls Tryz.prog 72 #[.int .i64 n] w fun e w' => e = .returned (.string ⟨(Lib.itoa n).toArray⟩) ∧ ∃ k os, w' = Sort.grow (w.drewN k) os := Any.strconv_Itoa itoaL n h0 h1 w htab
theorem fmt_any (n : Int) (h0 : -9223372036854775808 ≤ n) (h1 : n ≤ 9223372036854775807) (w : World) (htab : Lib.TabIs Tryz.prog w "internal/strconv.uint64pow10" .u64 Lib.pow10Tab) :
    Calls Tryz.prog 100 #[.int .i64 n, .int .i64 10] w fun e w' => e = .returned (.string ⟨(Lib.itoa n).toArray⟩) ∧ ∃ k os, w' = Sort.grow (w.drewN k) os := Any.strconv_FormatInt_10 fmtL n h0 h1 w htab
theorem repeat_any (s : ByteArray) (c : Nat) (w : World) (hc : c ≤ 9223372036854775807) (hlen : s.size * c ≤ 140737488355328) :
    Calls Tryz.prog 74 #[.string s, .int .i64 c] w fun e w' => e = .returned (.string ⟨(Lib.repeatL s.data.toList c).toArray⟩) ∧ Below w.heap.size w w' := Any.strings_Repeat repeatL_ builderX s c w hc hlen
open Go.RowKit

def digS (n : Nat) : UInt8 := if n < 10 then UInt8.ofNat (48 + n) else UInt8.ofNat (87 + n)
/-- The digits of a number at base 16, no more than so many and one. -/
def hexL : Nat → Nat → List UInt8
  | 0, u => [digS u]
  | f + 1, u => if u < 16 then [digS u] else hexL f (u / 16) ++ [digS (u % 16)]
/-- The table's place that TrailingZeros(16) reads. -/
def Tz16 (w : World) : Prop := w.cell? ⟨11, 15, none⟩ = some (.int .u8 4)
theorem heap_set1 {w : World} {g : Nat} {cur : List Value} {t : TypeId} (h : w.heap[g]? = some (.cells cur.toArray t (0, 0))) (j : Nat) (v : Value) : (w.setCell ⟨g, j, none⟩ v).heap[g]? = some (.cells (cur.set j v).toArray t (0, 0)) := by simp [World.setCell, Array.getElem?_modify, h]
theorem cell_list {w : World} {g : Nat} {cur : List Value} {t : TypeId} (h : w.heap[g]? = some (.cells cur.toArray t (0, 0))) {j : Nat} (hj : j < cur.length) : w.cell? ⟨g, j, none⟩ = some cur[j] := by simp [World.cell?, h, hj]
theorem frozen_list {w : World} {g : Nat} {cur : List Value} {t : TypeId} (h : w.heap[g]? = some (.cells cur.toArray t (0, 0))) (j : Nat) : w.frozen? ⟨g, j, none⟩ = false := by simp [World.frozen?, h]
def digsT : ByteArray := ⟨#[48, 49, 50, 51, 52, 53, 54, 55, 56, 57, 97, 98, 99, 100, 101, 102, 103, 104, 105, 106, 107, 108, 109, 110, 111, 112, 113, 114, 115, 116, 117, 118, 119, 120, 121, 122]⟩
theorem dig_at (j : Nat) (hj : j < 16) (h : j < digsT.size) : digsT[j].toNat = (digS j).toNat := by
  rcases (show j = 0 ∨ j = 1 ∨ j = 2 ∨ j = 3 ∨ j = 4 ∨ j = 5 ∨ j = 6 ∨ j = 7 ∨ j = 8 ∨ j = 9 ∨ j = 10 ∨ j = 11 ∨ j = 12 ∨ j = 13 ∨ j = 14 ∨ j = 15 by omega) with rfl | rfl | rfl | rfl | rfl | rfl | rfl | rfl | rfl | rfl | rfl | rfl | rfl | rfl | rfl | rfl <;> rfl
theorem drop_set1 (cur : List Value) (m : Nat) (x : Value) (t : List UInt8) (d : UInt8) (hm : m < cur.length) (hx : x = .int .u8 (d.toNat : Int)) (hc : cur.drop (m + 1) = Lib.byteCells t) : (cur.set m x).drop m = Lib.byteCells (d :: t) := by
  rw [List.drop_eq_getElem_cons (by rw [List.length_set]; exact hm), List.getElem_set_self, List.drop_set_of_lt (by omega), hc, hx]
  rfl
theorem arr_und : Tryz.prog.underlying 214 = some (.array (Tryz.prog.arrayLen 214) (Tryz.prog.elem 214)) := by kernel_rfl
theorem arr_len : Tryz.prog.arrayLen 214 = 65 := by kernel_rfl
theorem arr_size (w : World) : (sizeOf (Tryz.prog.elem 214)).run Tryz.prog w = .ok 1 w := by kernel_rfl
theorem arr_from (H m : Nat) (hm : m < 65) (W : World) : (Instr.sliceAt 214 (.pointer (some ⟨H, 0, none⟩)) (some (.int .i64 (m : Int))) none none).run Tryz.prog W = .ok (.slice (some ⟨H, m, none⟩) (65 - m) (65 - m)) W := by
  rw [run_sliceAt_array_l W 214 ⟨H, 0, none⟩ arr_und .i64 (m : Int) (by omega) (by rw [arr_len]; omega), arr_size]
  have h1 : ¬ 65 = m := by omega
  simp [Result.andThen, slicedAt, arr_len, Addr.add, h1]
  omega
theorem strOfNums_list (l : List UInt8) : strOfNums (l.map fun b => (b.toNat : Int)) = ⟨l.toArray⟩ := by
  unfold strOfNums
  rw [List.map_map]
  congr 1
  conv => rhs; rw [← List.map_id l]
  congr 1
  refine List.map_congr_left fun b _ => ?_
  simp
theorem tz_any (w : World) (h : Tz16 w) : Calls Tryz.prog 153 #[.int .u64 16] w fun e w' => e = .returned (.int .i64 4) ∧ w' = w := by
  unfold Tz16 at h
  have hr : ∀ w : World, w.cell? ⟨11, 15, none⟩ = some (.int .u8 4) → Calls Tryz.prog 165 #[.int .u64 16] w fun e w' => e = .returned (.int .i64 4) ∧ w' = w := fun w h => by
    have q1 : IntKind.u64.wrap (bits BinOp.and IntKind.u64 16 (IntKind.u64.wrap (-16)) * 285870213051353865) = 4573923408821661840 := by decide +kernel
    have q2 : (4573923408821661840 : Int) / 288230376151711744 = 15 := by decide +kernel
    go_enter Tryz.func165, Tryz.ntmps165
    go_wp2
    go_ret
    exact ⟨rfl, rfl⟩
  go_enter Tryz.func153, Tryz.ntmps153
  go_wp2_with (go_at_call 165; refine (hr _ h).mono ?_; rintro e w' ⟨rfl, hw9⟩; have hw9 := hw9.symm; subst hw9)
  go_ret
  exact ⟨rfl, rfl⟩
theorem pow16_any (w : World) : Calls Tryz.prog 152 #[.int .i64 16] w fun e w' => e = .returned (.bool true) ∧ w' = w := by
  have q : IntKind.i64.wrap (bits BinOp.and IntKind.i64 16 15) = 0 := by decide +kernel
  have q' : bits BinOp.and IntKind.i64 16 15 = 0 := by decide +kernel
  go_enter Tryz.func152, Tryz.ntmps152
  go_wp2
  go_ret
  exact ⟨rfl, rfl⟩
set_option maxRecDepth 100000 in
set_option maxHeartbeats 4000000 in
theorem bits16_any (u : Nat) (hu : u ≤ 18446744073709551615) (w : World) (h : Tz16 w) :
    Calls Tryz.prog 136 #[.slice none 0 0, .int .u64 (u : Int), .int .i64 16, .bool false, .bool false] w fun e w' => e = .returned (.tuple #[.slice none 0 0, .string ⟨(hexL 15 u).toArray⟩]) ∧ Ext w w' := by
  have HT := Lib.hid h
  clear h
  go_enter Tryz.func136, Tryz.ntmps136
  go_wp2_with (first
    | (go_at_call 152; refine (pow16_any _).mono ?_; rintro e w' ⟨rfl, hw9⟩; have hw9 := hw9.symm; subst hw9)
    | (go_at_call 153; refine (tz_any _ (((Ext.refl w).alloc_ _).cell_ HT.out)).mono ?_; rintro e w' ⟨rfl, hw9⟩; have hw9 := hw9.symm; subst hw9))
  have hz : (w.alloc (.cells Tryz.zeroCells214 214)).heap[w.heap.size]? = some (.cells Tryz.zeroCells214.toList.toArray 214 (0, 0)) := by rw [Array.toArray_toList]; exact heap_alloc_new _ _
  have hzl : Tryz.zeroCells214.toList.length = 65 := by kernel_rfl
  have HZ := Lib.hid hz
  have HZL := Lib.hid hzl
  have hu16 : u < 16 ^ 16 := by have : (16 : Nat) ^ 16 = 18446744073709551616 := by decide
                                omega
  have HU := Lib.hid hu16
  clear hz hzl hu16
  go_loopg [1, 13] 15 (fun r x i wr => ∃ (v n : Nat) (t : List UInt8) (cur : List Value), x = .int .u64 (v : Int) ∧ i = .int .i64 (n : Int) ∧ n + t.length = 65 ∧ t.length + r = 15 ∧ v < 16 ^ (r + 1) ∧ v ≤ u ∧ Hid (hexL 15 u = hexL r v ++ t) ∧ Hid (wr.heap[w.heap.size]? = some (.cells cur.toArray 214 (0, 0))) ∧ Hid (cur.length = 65 ∧ cur.drop n = Lib.byteCells t) ∧ Hid (Ext w wr))
  case atStart => exact ⟨u, 65, [], _, rfl, rfl, rfl, rfl, HU.out, Nat.le_refl _, by simp [Hid], HZ.out, ⟨HZL.out, by rw [List.drop_of_length_le (by rw [HZL.out]; exact Nat.le_refl _)]; rfl⟩, (Ext.refl w).alloc_ _⟩
  case round =>
    obtain ⟨v, n, t, cur, rfl, rfl, hn, hr, hv, hvu, hx, hh, hc, hE⟩ := hrel
    obtain ⟨m, rfl⟩ : ∃ m, n = m + 1 := ⟨n - 1, by omega⟩
    have hml : m < cur.length := by rw [hc.out.1]; omega
    have cm := cell_list hh.out hml
    have cf := frozen_list hh.out m
    have hm0 : (0 : Int) ≤ (m : Int) := by omega
    have hm1 : (m : Int) < 65 := by omega
    have e1 : IntKind.i64.wrap (((m + 1 : Nat) : Int) - 1) = (m : Int) := by rw [IntWalk.i64_in _ (by omega)]; omega
    have e2 : ((m + 1 : Nat) : Int) - 1 = (m : Int) := by omega
    have HN := Lib.hid hn
    have HV := Lib.hid hv
    have hv0 : (0 : Int) ≤ (v : Int) := by omega
    have hv1 : (v : Int) ≤ 18446744073709551615 := by omega
    by_cases h16 : v < 16
    · have k16 : ¬ 16 ≤ (v : Int) := by omega
      have hv16 : (v : Int) < 16 := by omega
      have hsl := arr_from w.heap.size m (by omega)
      have hll : 65 - m = (digS v :: t).length := by rw [List.length_cons]; omega
      have hd := dig_at v h16
      unfold digsT at hd
      have hset := heap_set1 hh.out m (.int .u8 ((digS v).toNat : Int))
      have hdrop := drop_set1 cur m (.int .u8 ((digS v).toNat : Int)) t (digS v) hml rfl hc.out.2
      have hcv := run_convert_bytes_arg (P := Tryz.prog) (wr.setCell ⟨w.heap.size, m, none⟩ (.int .u8 ((digS v).toNat : Int))) 112 5 (by kernel_rfl) (by kernel_rfl) w.heap.size m (65 - m) (65 - m) ((digS v :: t).map fun b => (b.toNat : Int)) (by rw [List.length_map, hll]) (fun i hi => by
        have hi2 : i < (digS v :: t).length := by omega
        have h1 : m + i < (cur.set m (.int .u8 ((digS v).toNat : Int))).length := by rw [List.length_set, hc.out.1]; omega
        rw [cell_list hset h1]
        have h2 : ((cur.set m (.int .u8 ((digS v).toNat : Int))).drop m)[i]? = (Lib.byteCells (digS v :: t))[i]? := by rw [hdrop]
        rw [List.getElem?_drop, List.getElem?_eq_getElem h1] at h2
        rw [h2, Lib.byteCells, List.getElem?_map, List.getElem?_eq_getElem hi2, List.getD_eq_getElem?_getD, List.getElem?_map, List.getElem?_eq_getElem hi2]
        rfl) 9 (by kernel_rfl)
      rw [strOfNums_list] at hcv
      have hend : hexL 15 u = digS v :: t := by
        rw [hx.out]
        cases gk with
        | zero => rfl
        | succ r => rw [hexL, if_pos h16]; rfl
      rw [← hend] at hcv
      clear hset hdrop hll hend hn hv
      go_wp2
      go_ret2
      exact ⟨rfl, hE.out.set_ (p := ⟨w.heap.size, m, none⟩) (Nat.le_refl _) _⟩
    · obtain ⟨r, rfl⟩ : ∃ r, gk = r + 1 := ⟨gk - 1, by
        rcases Nat.eq_zero_or_pos gk with q | q
        · subst q; omega
        · omega⟩
      have k16 : 16 ≤ (v : Int) := by omega
      have b1 : bits BinOp.and IntKind.u64 (v : Int) 15 = (v : Int) % 16 := and15 _ hv0 hv1
      clear hn hv
      go_wp2
      go_roundg r
      case measure => omega
      case rel =>
        refine ⟨v / 16, m, digS (v % 16) :: t, _, (by have e : ((v / 16 : Nat) : Int) = (v : Int) / 16 := (by omega); rw [e]), rfl, (by have := HN.out; simp; omega), (by simp; omega), ?_, (by omega), ?_, heap_set1 hh.out m _, ⟨(by rw [List.length_set]; exact hc.out.1), ?_⟩, hE.out.set_ (p := ⟨w.heap.size, m, none⟩) (Nat.le_refl _) _⟩
        · have := HV.out
          rw [Nat.pow_succ] at this
          generalize 16 ^ (r + 1) = p at *
          omega
        · show hexL 15 u = _
          rw [hx.out, hexL, if_neg h16]
          simp
        · exact drop_set1 cur m _ t _ hml (by rw [← dig_at _ (Nat.mod_lt _ (by decide)) (by have : v % 16 < 16 := Nat.mod_lt _ (by decide); show v % 16 < 36; omega)]; rfl) hc.out.2
theorem fmt16_any (u : Nat) (hu : u ≤ 18446744073709551615) (w : World) (h : Tz16 w) :
    Calls Tryz.prog 73 #[.int .u64 (u : Int), .int .i64 16] w fun e w' => e = .returned (.string ⟨(hexL 15 u).toArray⟩) ∧ Ext w w' := by
  have hi : Calls Tryz.prog 103 #[.int .u64 (u : Int), .int .i64 16] w fun e w' => e = .returned (.string ⟨(hexL 15 u).toArray⟩) ∧ Ext w w' := by
    go_enter Tryz.func103, Tryz.ntmps103
    go_wp2_with (go_at_call 136; refine (bits16_any u hu _ h).mono ?_; rintro e w1 ⟨rfl, hq⟩; have HQ := Lib.hid hq; clear hq)
    go_ret
    exact ⟨rfl, HQ.out⟩
  go_enter Tryz.func73, Tryz.ntmps73
  go_wp2_with (go_at_call 103; refine hi.mono ?_; rintro e w1 ⟨rfl, hq⟩; have HQ := Lib.hid hq; clear hq)
  go_ret
  exact ⟨rfl, HQ.out⟩
theorem ba_app (a b : List UInt8) : (⟨a.toArray⟩ : ByteArray) ++ ⟨b.toArray⟩ = ⟨(a ++ b).toArray⟩ := by
  apply ByteArray.ext
  simp
theorem byteS_of {n : Int} {x : UInt8} (h : n % 256 = (x.toNat : Int)) : byteS n = ⟨[x].toArray⟩ := by
  unfold byteS strOfNums
  rw [h]
  simp
theorem dig_nat (m : Nat) (h : m < 10) : byteS (48 - -(m : Int)) = ⟨[UInt8.ofNat (48 + m)].toArray⟩ := byteS_of (by
  rw [UInt8.toNat_ofNat']
  omega)
theorem tmod10 (n : Int) (h : n ≤ 0) : n.tmod 10 = -((-n) % 10) := by
  have h1 : (-n).tmod 10 = (-n) % 10 := Int.tmod_eq_emod_of_nonneg (by omega)
  rw [← h1, Int.neg_tmod, Int.neg_neg]
theorem belowS_dec : ∀ (f m : Nat), m < 10 ^ (f + 1) → belowS f (-(m : Int)) = ⟨(Lib.decDigits m).toArray⟩
  | 0, m, h => by
    have h' : m < 10 := by simpa using h
    rw [Lib.decDigits, dif_pos h']
    exact dig_nat m h'
  | f + 1, m, h => by
    unfold belowS
    by_cases h' : m < 10
    · rw [if_pos (by omega), Lib.decDigits, dif_pos h']
      exact dig_nat m h'
    · rw [if_neg (by omega), Lib.decDigits, dif_neg h']
      have e1 : (-(m : Int)).tdiv 10 = -((m / 10 : Nat) : Int) := by rw [tdiv10 _ (by omega)]; omega
      have e2 : (-(m : Int)).tmod 10 = -((m % 10 : Nat) : Int) := by rw [tmod10 _ (by omega)]; omega
      have hlt : m / 10 < 10 ^ (f + 1) := by
        rw [Nat.pow_succ] at h
        generalize 10 ^ (f + 1) = p at *
        omega
      rw [e1, e2, belowS_dec f (m / 10) hlt, dig_nat (m % 10) (Nat.mod_lt _ (by decide)), ba_app]
theorem decS_itoa (n : Int) (h0 : -9223372036854775808 ≤ n) (h1 : n ≤ 9223372036854775807) : (⟨(Lib.itoa n).toArray⟩ : ByteArray) = decS n := by
  have hp : (10 : Nat) ^ 21 = 1000000000000000000000 := by decide
  unfold Lib.itoa decS
  by_cases h : n < 0
  · rw [if_pos h, if_pos h]
    have e : n = -((n.natAbs : Nat) : Int) := by omega
    conv => rhs; rw [e]
    rw [belowS_dec 20 _ (by rw [hp]; omega)]
    have : (⟨#[45]⟩ : ByteArray) = ⟨[45].toArray⟩ := rfl
    rw [this, ba_app]; rfl
  · rw [if_neg h, if_neg h]
    have e : -n = -((n.toNat : Nat) : Int) := by omega
    rw [e, belowS_dec 20 _ (by rw [hp]; omega)]
/-- So many digits at base 16. -/
def dl : Nat → Nat → List UInt8
  | 0, _ => []
  | f + 1, a => dl f (a / 16) ++ [digS (a % 16)]
theorem dl_zero : ∀ f, dl f 0 = List.replicate f 48
  | 0 => rfl
  | f + 1 => by
    rw [dl, Nat.zero_div, dl_zero f, List.replicate_succ']
    rfl
theorem dl_hex : ∀ (f a : Nat), a < 16 ^ (f + 1) → dl (f + 1) a = List.replicate (f + 1 - (hexL f a).length) 48 ++ hexL f a ∧ (hexL f a).length ≤ f + 1
  | 0, a, h => by
    have h' : a < 16 := by simpa using h
    simp [dl, hexL, Nat.mod_eq_of_lt h']
  | f + 1, a, h => by
    rw [dl, hexL]
    by_cases h' : a < 16
    · rw [if_pos h', Nat.div_eq_of_lt h', dl_zero, Nat.mod_eq_of_lt h']
      simp
    · rw [if_neg h']
      have hlt : a / 16 < 16 ^ (f + 1) := by
        rw [Nat.pow_succ] at h
        generalize 16 ^ (f + 1) = p at *
        omega
      obtain ⟨i1, i2⟩ := dl_hex f (a / 16) hlt
      rw [i1, List.length_append, List.length_singleton, List.append_assoc]
      refine ⟨?_, by omega⟩
      congr 2
      omega
theorem digit_ext (d : Nat) (h : d < 16) : digits16.extract d (d + 1) = ⟨[digS d].toArray⟩ := by
  rcases (show d = 0 ∨ d = 1 ∨ d = 2 ∨ d = 3 ∨ d = 4 ∨ d = 5 ∨ d = 6 ∨ d = 7 ∨ d = 8 ∨ d = 9 ∨ d = 10 ∨ d = 11 ∨ d = 12 ∨ d = 13 ∨ d = 14 ∨ d = 15 by omega) with rfl | rfl | rfl | rfl | rfl | rfl | rfl | rfl | rfl | rfl | rfl | rfl | rfl | rfl | rfl | rfl <;> (apply ByteArray.ext; decide)
theorem hexG_dl : ∀ (f a : Nat) (l : List UInt8), hexG f (a : Int) ⟨l.toArray⟩ = ⟨(dl f a ++ l).toArray⟩
  | 0, _, _ => rfl
  | f + 1, a, l => by
    have e1 : ((a : Int) % 16).toNat = a % 16 := by omega
    have e2 : (a : Int) / 16 = ((a / 16 : Nat) : Int) := by omega
    rw [hexG, e1, e2, digit_ext _ (Nat.mod_lt _ (by decide)), ba_app, hexG_dl f, dl]
    simp
theorem repeatL_one (b : UInt8) : ∀ n, Lib.repeatL [b] n = List.replicate n b
  | 0 => rfl
  | n + 1 => by rw [Lib.repeatL, repeatL_one b n, List.replicate_succ]; rfl
theorem hexS_hex (u : Nat) (h : u ≤ 18446744073709551615) : (hexL 15 u).length ≤ 16 ∧ (⟨(Lib.repeatL [48] (16 - (hexL 15 u).length)).toArray⟩ : ByteArray) ++ ⟨(hexL 15 u).toArray⟩ = hexS (u : Int) := by
  have hp : (16 : Nat) ^ 16 = 18446744073709551616 := by decide
  obtain ⟨h1, h2⟩ := dl_hex 15 u (by show u < 16 ^ 16; omega)
  refine ⟨h2, ?_⟩
  have : hexS (u : Int) = ⟨(dl 16 u ++ []).toArray⟩ := hexG_dl 16 u []
  rw [this, List.append_nil, h1, ba_app, repeatL_one]
theorem numQ_bits (a : Int) (h0 : 0 ≤ a) (h1 : a ≤ 18446744073709551615) : wrap64 a / 4 = numW a := by
  unfold wrap64 numW; split <;> omega
theorem numQ_any (a : Int) (h0 : 0 ≤ a) (h1 : a ≤ 18446744073709551615) (w : World) :
    Calls Tryz.prog 101 #[.int .u64 a] w fun e w' => e = .returned (.int .i64 (numW a)) ∧ w' = w := by
  rw [← numQ_bits a h0 h1]
  go_enter Tryz.func101, Tryz.ntmps101
  go_wp2
  go_ret
  exact ⟨rfl, rfl⟩
theorem codeQ_nil (w : World) : Calls Tryz.prog 40 #[.nilIface] w fun e w' => e = .returned (.tuple #[.int .i64 0, .int .i64 (-1)]) ∧ w' = w := by
  go_enter Tryz.func40, Tryz.ntmps40
  go_wp2_with fail
  go_ret2
  exact ⟨rfl, rfl⟩

theorem codedQ_nil (c : Int) (w : World) : Calls Tryz.prog 11 #[.nilIface, .int .i64 c] w fun e w' => e = .returned (.bool (0 == c)) ∧ w' = w := by
  rcases hc : (0 == c) with _ | _
  all_goals
    go_enter Tryz.func11, Tryz.ntmps11
    go_wp2_with (go_at_call 40; refine (codeQ_nil _).mono ?_; rintro e w' ⟨rfl, rfl⟩)
    go_ret
    exact ⟨rfl, rfl⟩
theorem freshQ_chk : goodB (newM 4 5 2) = true ∧ cardsM (newM 4 5 2) = true := by decide
set_option maxRecDepth 100000 in
theorem freshQ_any (w : World) (E : Nat → Addr) (h : G3 E w) : Calls Tryz.prog 19 #[] w fun e w' => e = .returned (.bool true) ∧ Ext w w' := by
  have H := Lib.hid h
  clear h
  go_enter Tryz.func19, Tryz.ntmps19
  go_wp2_with (first
    | (go_at_call 23; refine (new_yes 4 5 2 (by decide) _).mono ?_; rintro e w1 ⟨b, S, rfl, hom, hx⟩; have hM := hom.mem (newM_ok 4 5 2 (by decide)); have k3 : w1.cell? ⟨b, 3, none⟩ = some (.slice S.W.1 (13 : Nat) S.W.2) := hM.W; have k5 : w1.cell? ⟨b, 5, none⟩ = some (.int .i64 0) := hM.top; have k10 : w1.cell? ⟨b, 10, none⟩ = some (.slice S.C.1 (3 : Nat) S.C.2) := hM.cards; have HM := Lib.hid hM; have HX := Lib.hid hx; clear hom hM hx)
    | (go_at_call 20; refine (check_any b 0 (newM 4 5 2) S (E 1) (E 2) (E 4) _ HM.out (HX.out.cell_ H.out.bound) (HX.out.cell_ H.out.shape) (HX.out.cell_ H.out.place)).mono ?_; rintro e w2 ⟨he, hq⟩; rw [show chkV (newM 4 5 2) (E 2) (E 4) = .nilIface by unfold chkV; rw [freshQ_chk.1, freshQ_chk.2]; rfl] at he; subst he; have k6 := hq.cell_ k5; have HQ := Lib.hid hq; clear hq k5))
  go_ret
  exact ⟨rfl, Ext.trans_ HX.out HQ.out⟩
/-- The library's tables that texts of numbers read. -/
structure Tabs (w : World) : Prop where
  pow : Lib.TabIs Tryz.prog w "internal/strconv.uint64pow10" .u64 Lib.pow10Tab
  tz : Tz16 w
theorem Tabs.ext {w w' : World} (h : Tabs w) (hx : Ext w w') : Tabs w' := ⟨Lib.tabBelow_of_tabIs h.pow w' hx, hx.cell_ h.tz⟩
theorem ext_grow {w : World} (k : Nat) (os : Array Obj) : Ext w (Sort.grow (w.drewN k) os) := by
  refine ⟨rfl, rfl, rfl, ?_, fun i hi => ?_⟩
  · show w.heap.size ≤ (w.heap ++ os).size
    simp
  · show (w.heap ++ os)[i]? = w.heap[i]?
    rw [Array.getElem?_append, if_pos hi]
theorem itoaS_any (n : Int) (h0 : -9223372036854775808 ≤ n) (h1 : n ≤ 9223372036854775807) (w : World) (ht : Tabs w) :
    Calls Tryz.prog 72 #[.int .i64 n] w fun e w' => e = .returned (.string (decS n)) ∧ Ext w w' := by
  refine (itoa_any n h0 h1 w ht.pow).mono ?_
  rintro e w' ⟨he, k, os, rfl⟩
  rw [decS_itoa n h0 h1] at he
  exact ⟨he, ext_grow k os⟩
theorem fmtS_any (n : Int) (h0 : -9223372036854775808 ≤ n) (h1 : n ≤ 9223372036854775807) (w : World) (ht : Tabs w) :
    Calls Tryz.prog 100 #[.int .i64 n, .int .i64 10] w fun e w' => e = .returned (.string (decS n)) ∧ Ext w w' := by
  refine (fmt_any n h0 h1 w ht.pow).mono ?_
  rintro e w' ⟨he, k, os, rfl⟩
  rw [decS_itoa n h0 h1] at he
  exact ⟨he, ext_grow k os⟩
theorem mlook_obj (l : List Ob) (p : Int) : mlook (numE (ats l)) p = (l.findIdx? fun o => (o.a : Int) == p).map fun i : Nat => (i : Int) := by
  have key : ∀ (l : List Ob) (n : Nat), ((((ats l).zipIdx n).map fun q => (q.1, (q.2 : Int))).find? fun q => p == q.1).map (·.2) = (l.findIdx? fun o => (o.a : Int) == p).map fun i : Nat => ((i + n : Nat) : Int) := fun l => by
    induction l with
    | nil => intro n; rfl
    | cons o l ih =>
      intro n
      have e : ats (o :: l) = (o.a : Int) :: ats l := rfl
      rw [e, List.zipIdx_cons, List.map_cons, List.find?_cons, List.findIdx?_cons]
      by_cases h : (o.a : Int) = p
      · subst h
        simp
      · have h1 : (p == (o.a : Int)) = false := by simpa using fun q : p = (o.a : Int) => h q.symm
        have h2 : ((o.a : Int) == p) = false := by simpa using h
        simp only [h1, h2]
        rw [ih (n + 1), if_neg (by decide), Option.map_map]
        congr 1
        funext i
        simp
        omega
  have := key l 0
  simp only [Nat.add_zero] at this
  exact this
theorem mlook_at {l : List Ob} {p : Int} (h : 0 ≤ objAt l p) : mlook (numE (ats l)) p = some (objAt l p) := by
  rw [mlook_obj]
  unfold objAt at h ⊢
  cases hf : l.findIdx? fun o => (o.a : Int) == p with
  | none => rw [hf] at h; simp at h
  | some i => rfl
theorem mlook_no {l : List Ob} {p : Int} (h : objAt l p < 0) : mlook (numE (ats l)) p = none := by
  rw [mlook_obj]
  unfold objAt at h
  cases hf : l.findIdx? fun o => (o.a : Int) == p with
  | none => rfl
  | some i =>
    rw [hf] at h
    simp at h
    omega
theorem numW_in (u : Int) (h0 : 0 ≤ u) (h1 : u ≤ 18446744073709551615) : -9223372036854775808 ≤ numW u ∧ numW u ≤ 9223372036854775807 := by
  unfold numW
  split <;> omega
set_option maxRecDepth 100000 in
set_option maxHeartbeats 4000000 in
theorem mTold_any (M : Mem) (hg : goodB M = true) (u : Int) (h0 : 0 ≤ u) (h1 : u ≤ 18446744073709551615) (hf : fldB (startsM M) u = true) (hl : (reachP M).length ≤ 1000000) (mb : Nat) (w : World) (hMp : MapI w mb .i64 (mvE (numE (ats (reachP M))))) (hT : Tabs w) :
    Calls Tryz.prog 71 #[.int .u64 u, .map (some mb)] w fun e w' => e = .returned (.string (toldS u (reachP M))) ∧ Ext w w' := by
  have HT := Lib.hid hT
  clear hT
  by_cases k1 : u % 4 = 1
  · have e : toldS u (reachP M) = decS (numW u) := by unfold toldS; rw [if_pos k1]
    have hk : kindW u = 1 := k1
    obtain ⟨n0, n1⟩ := numW_in u h0 h1
    rw [e]
    clear e hMp
    go_enter Tryz.func71, Tryz.ntmps71
    go_wp2_with (first
      | (go_at_call 54; refine (kind_any _ h0 h1 _).mono ?_; rintro e w' ⟨he, hw9⟩; rw [hk] at he; subst he; have hw9 := hw9.symm; subst hw9)
      | (go_at_call 101; refine (numQ_any _ h0 h1 _).mono ?_; rintro e w' ⟨rfl, hw9⟩; have hw9 := hw9.symm; subst hw9)
      | (go_at_call 100; refine (fmtS_any _ n0 n1 _ HT.out).mono ?_; rintro e w1 ⟨rfl, hq⟩; have HQ := Lib.hid hq; clear hq))
    go_ret
    exact ⟨rfl, HQ.out⟩
  · by_cases k2 : u % 4 = 2
    · have hu : u = 2 ∨ u = 6 ∨ u = 10 := by
        unfold fldB kindW at hf
        rw [if_neg (by omega), if_neg (by omega), if_pos k2] at hf
        have := of_decide_eq_true hf
        omega
      clear hMp hf
      rcases hu with rfl | rfl | rfl
      · have e : toldS 2 (reachP M) = ⟨#[110, 111, 110, 101]⟩ := by unfold toldS; rw [if_neg (by decide), if_pos (by decide)]; rfl
        have hk : kindW 2 = 2 := rfl
        have hix : ∀ w : World, (Instr.index 149 (.agg #[.string ⟨#[110, 111, 110, 101]⟩, .string ⟨#[102, 97, 108, 115, 101]⟩, .string ⟨#[116, 114, 117, 101]⟩]) (.int .u64 0)).run Tryz.prog w = .ok (.string ⟨#[110, 111, 110, 101]⟩) w := fun w => by kernel_rfl
        rw [e]
        clear e
        go_enter Tryz.func71, Tryz.ntmps71
        go_wp2_with (go_at_call 54; refine (kind_any _ h0 h1 _).mono ?_; rintro e w' ⟨he, hw9⟩; rw [hk] at he; subst he; have hw9 := hw9.symm; subst hw9)
        go_ret
        exact ⟨rfl, Ext.refl _⟩
      · have e : toldS 6 (reachP M) = ⟨#[102, 97, 108, 115, 101]⟩ := by unfold toldS; rw [if_neg (by decide), if_pos (by decide)]; rfl
        have hk : kindW 6 = 2 := rfl
        have hix : ∀ w : World, (Instr.index 149 (.agg #[.string ⟨#[110, 111, 110, 101]⟩, .string ⟨#[102, 97, 108, 115, 101]⟩, .string ⟨#[116, 114, 117, 101]⟩]) (.int .u64 1)).run Tryz.prog w = .ok (.string ⟨#[102, 97, 108, 115, 101]⟩) w := fun w => by kernel_rfl
        rw [e]
        clear e
        go_enter Tryz.func71, Tryz.ntmps71
        go_wp2_with (go_at_call 54; refine (kind_any _ h0 h1 _).mono ?_; rintro e w' ⟨he, hw9⟩; rw [hk] at he; subst he; have hw9 := hw9.symm; subst hw9)
        go_ret
        exact ⟨rfl, Ext.refl _⟩
      · have e : toldS 10 (reachP M) = ⟨#[116, 114, 117, 101]⟩ := by unfold toldS; rw [if_neg (by decide), if_pos (by decide)]; rfl
        have hk : kindW 10 = 2 := rfl
        have hix : ∀ w : World, (Instr.index 149 (.agg #[.string ⟨#[110, 111, 110, 101]⟩, .string ⟨#[102, 97, 108, 115, 101]⟩, .string ⟨#[116, 114, 117, 101]⟩]) (.int .u64 2)).run Tryz.prog w = .ok (.string ⟨#[116, 114, 117, 101]⟩) w := fun w => by kernel_rfl
        rw [e]
        clear e
        go_enter Tryz.func71, Tryz.ntmps71
        go_wp2_with (go_at_call 54; refine (kind_any _ h0 h1 _).mono ?_; rintro e w' ⟨he, hw9⟩; rw [hk] at he; subst he; have hw9 := hw9.symm; subst hw9)
        go_ret
        exact ⟨rfl, Ext.refl _⟩
    · by_cases hz : u = 0
      · subst hz
        have e : toldS 0 (reachP M) = ⟨#[110, 111, 119, 104, 101, 114, 101]⟩ := by unfold toldS; simp
        have hk : kindW 0 = 0 := rfl
        rw [e]
        clear e hMp
        go_enter Tryz.func71, Tryz.ntmps71
        go_wp2_with (go_at_call 54; refine (kind_any _ h0 h1 _).mono ?_; rintro e w' ⟨he, hw9⟩; rw [hk] at he; subst he; have hw9 := hw9.symm; subst hw9)
        go_ret
        exact ⟨rfl, Ext.refl _⟩
      · have hk : kindW u = 0 := by
          unfold fldB at hf
          by_cases q : kindW u = 0
          · exact q
          · rw [if_neg q, if_neg (show ¬ kindW u = 1 from k1), if_neg (show ¬ kindW u = 2 from k2)] at hf
            cases hf
        have hu1 : (u == 0) = false := by simpa using hz
        have hp : pointedB u = true := by
          unfold pointedB
          unfold kindW at hk
          simp [hk, hz]
        have hpt := pointed_pts hg hf hp
        have ep : ptsW u = placeW u := by
          unfold ptsW at hpt ⊢
          split at hpt
          · rename_i hc; rw [if_pos hc]
          · omega
        have e0 : toldS u (reachP M) = if objAt (reachP M) (placeW u) < 0 then ⟨#[64]⟩ else ⟨#[64]⟩ ++ decS (objAt (reachP M) (placeW u)) := by
          unfold toldS
          rw [if_neg k1, if_neg k2, if_neg hz, ep]
        rw [e0]
        by_cases hin : objAt (reachP M) (placeW u) < 0
        · rw [if_pos hin]
          have hlk : ∀ n, (Instr.lookup 70 (.map (some mb)) (.int .i64 (placeW u)) true).run Tryz.prog (w.drewN n) = .ok (.tuple #[.int .i64 0, .bool false]) (w.drewN n) := fun n => by
            rw [map_look (hMp.drewN n), mlook_no hin]; rfl
          have hlk0 : (Instr.lookup 70 (.map (some mb)) (.int .i64 (placeW u)) true).run Tryz.prog w = .ok (.tuple #[.int .i64 0, .bool false]) w := by
            rw [map_look hMp, mlook_no hin]; rfl
          clear hMp hin e0 hp hpt ep hf k1 k2
          go_enter Tryz.func71, Tryz.ntmps71
          go_wp2_with (first
            | (go_at_call 54; refine (kind_any _ h0 h1 _).mono ?_; rintro e w' ⟨he, hw9⟩; rw [hk] at he; subst he; have hw9 := hw9.symm; subst hw9)
            | (go_at_call 55; refine (place_any _ h0 h1 _).mono ?_; rintro e w' ⟨rfl, hw9⟩; have hw9 := hw9.symm; subst hw9))
          go_ret
          exact ⟨rfl, Ext.refl _⟩
        · rw [if_neg hin]
          obtain ⟨i, hi⟩ : ∃ i, i = objAt (reachP M) (placeW u) := ⟨_, rfl⟩
          have hii : 0 ≤ i ∧ i < (reachP M).length := by
            rw [hi]
            unfold objAt at hin ⊢
            cases hfi : (reachP M).findIdx? fun o => (o.a : Int) == placeW u with
            | none => rw [hfi] at hin; exact absurd (by decide) hin
            | some j =>
              have := (List.findIdx?_eq_some_iff_getElem.1 hfi).1
              simp
              omega
          rw [← hi]
          have hlk0 : (Instr.lookup 70 (.map (some mb)) (.int .i64 (placeW u)) true).run Tryz.prog w = .ok (.tuple #[.int .i64 i, .bool true]) w := by
            rw [map_look hMp, mlook_at (by omega), ← hi]; rfl
          have hds := decS_size i
          have i0 : -9223372036854775808 ≤ i := by omega
          have i1 : i ≤ 9223372036854775807 := by omega
          clear hMp hin e0 hp hpt ep hf k1 k2 hi hii
          go_enter Tryz.func71, Tryz.ntmps71
          go_wp2_with (first
            | (go_at_call 54; refine (kind_any _ h0 h1 _).mono ?_; rintro e w' ⟨he, hw9⟩; rw [hk] at he; subst he; have hw9 := hw9.symm; subst hw9)
            | (go_at_call 55; refine (place_any _ h0 h1 _).mono ?_; rintro e w' ⟨rfl, hw9⟩; have hw9 := hw9.symm; subst hw9)
            | (go_at_call 72; refine (itoaS_any _ i0 i1 _ HT.out).mono ?_; rintro e w1 ⟨rfl, hq⟩; have HQ := Lib.hid hq; clear hq))
          go_ret
          exact ⟨rfl, HQ.out⟩
end Go.Proofs.YtecbbbaafcoliaaGreatDoor
