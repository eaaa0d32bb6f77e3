/- The closed fact on a new memory. -/
import Derived.Test.YtbbiaepgenbloaaGreatDoorJHa37
import Derived.Test.YtbbiaepgenbloaaGreatDoorJHa12
import Derived.Test.YtbbiaepgenbloaaGreatDoorJHa34
import Derived.Test.YtbbiaepgenbloaaGreatDoorJHa21
import Derived.Test.YtbbiaepgenbloaaGreatDoorJHa01
import Derived.Test.YtbbiaepgenbloaaGreatDoorJHa36
import Derived.IntWalk
import Derived.Laws.Rows
import Derived.Lib.LazyBuf
import Derived.Deep.LoopGhost
import Derived.Deep.Cut
import Derived.Laws.BytesArg
import Derived.Test.YtbbiaepgenbloaaGreatDoorJHa24
namespace Go.Proofs.YtbbiaepgenbloaaGreatDoor
open Go.RowKit
set_option linter.unusedVariables false
set_option linter.unusedSimpArgs false

theorem newM_ok (half old card : Int) (h : newOK half old card = true) : (newM half old card).Ok := by
  simp only [newOK, Bool.and_eq_true] at h
  obtain ⟨⟨h1, h2⟩, h3⟩ := h
  obtain ⟨a1, a2⟩ := inR_true.1 h1
  obtain ⟨a3, a4⟩ := inR_true.1 h2
  obtain ⟨a5, a6⟩ := inR_true.1 h3
  have q0 : 0 ≤ (old + card - 1) / card := Int.ediv_nonneg (by omega) (by omega)
  have q1 : (old + card - 1) / card ≤ old + card - 1 := Int.ediv_le_self _ (by omega)
  refine ⟨by simp only [newM]; omega, by simp only [newM]; omega, by simp only [newM]; omega, by simp [newM], by simp [newM], by simp [newM], ?_, by simp [newM], by simp [newM], by simp [newM], ?_, by simp [newM], by simp [newM], by simp [newM], ?_⟩
  · intro x hx; simp only [newM] at hx; have := (List.mem_replicate.1 hx).2; omega
  · simp only [newM, List.length_replicate]; omega
  · simp only [newM, List.length_replicate]; omega
theorem fresh_chk : goodB (newM 4 5 2) = true ∧ cardsM (newM 4 5 2) = true := by decide
theorem grown_of_ext {w w' : World} (h : Ext w w') (r : Option Nat) : w.grownBy w' r := by
  obtain ⟨q1, q2, q3, q4, q5⟩ := h
  exact ⟨q1, q2, q3, q4, fun k hk _ => q5 k hk⟩
theorem OMem.putRoots {w w1 : World} {B b : Nat} {tI : TypeId} {M : Mem} {S : Sls} (h : OMem w B b tI M S) (l : List Int) (a' : Option Addr) (c' : Nat) (hx : Ext w w1)
    (ho : w1.ownsRow B 63 1 (.slice a' l.length c') l.length (wcells l)) (hn : (Value.slice a' l.length c').ownBlock = some w.heap.size) :
    OMem (w1.setCell ⟨b, 7, none⟩ (.slice a' l.length c')) B b tI { M with roots := l } { S with R := (a', c') } :=
  OM.push (L1 := (memFlds tI M S).take 1) (L2 := (memFlds tI M S).drop 2) (f := ⟨7, 63, 1, S.R.1, M.roots.length, S.R.2, wcells M.roots⟩) h a' l.length c' _ (grown_of_ext hx _) ho (Or.inr hn)
theorem OM.lower {w : World} {B B' b : Nat} {nums : List (Nat × Int)} {L : List Fld} (h : OM w B b nums L) (hB : B' ≤ B) : OM w B' b nums L :=
  ⟨Nat.le_trans hB h.hb, h.blk, h.num, fun f hf => ⟨(h.fld f hf).1, own_le (h.fld f hf).2.1 hB (Ext.refl _), (h.fld f hf).2.2⟩, h.apart, h.offs⟩
def newHM (half old card : Int) (n : Nat) : Mem := { newM half old card with roots := List.replicate n 2 }
theorem newHM_ok (half old card : Int) (n : Nat) (h : newOK half old card = true) (hn : n ≤ 5000) : (newHM half old card n).Ok := by
  obtain ⟨h1, h2, h3, h4, h5, h6, h7, h8, h9, h10, h11, h12, h13, h14, h15⟩ := newM_ok half old card h
  exact ⟨h1, h2, h3, h4, h5, h6, h7, fun x hx => by rw [(List.mem_replicate.1 hx).2]; omega, h9, h10, h11, by unfold newHM; simp; omega, h13, h14, h15⟩
def HNewPost (w : World) (ten : Int) (M : Mem) (e : Ending) (w' : World) : Prop :=
  ∃ hb b S, e = .returned (.tuple #[.pointer (some ⟨hb, 0, none⟩), .nilIface]) ∧ OHeap w' w.heap.size hb b M S ten 1 ∧ Ext w w'
theorem oheap_new {W : World} {B b : Nat} {M : Mem} {S : Sls} (h : OMem W B b 134 M S) (hx : B ≤ W.heap.size) (ten nx : Int) (t : TypeId) :
    OHeap (W.alloc (.cells #[.pointer (some ⟨b, 0, none⟩), .int .i64 ten, .int .i64 nx] t)) B W.heap.size b M S ten nx := by
  refine ⟨OM.ext h ((Ext.refl _).alloc_ _), hx, ⟨_, _, heap_alloc_new _ _⟩, ?_, ?_, ?_, fun e => ?_⟩
  · rw [World.cell?, heap_alloc_new]; rfl
  · rw [World.cell?, heap_alloc_new]; rfl
  · rw [World.cell?, heap_alloc_new]; rfl
  · have := (OMem.own_size h e).2; omega
set_option maxRecDepth 100000 in
set_option maxHeartbeats 4000000 in
theorem hnew_yes (half old card ten : Int) (n : Nat) (h : newOK half old card = true) (ht : 0 ≤ ten ∧ ten ≤ 15) (hn : n ≤ 5000) (w : World) :
    Calls Tryz.prog 9 #[.agg #[.int .i64 half, .int .i64 old, .int .i64 card, .int .i64 ten], .int .i64 (n : Int)] w (HNewPost w ten (newHM half old card n)) := by
  have t1 : ¬ ten < 0 := by omega
  have t2 : ¬ 15 < ten := by omega
  have t3 : ¬ (n : Int) < 0 := by omega
  have t4 : ¬ 5000 < (n : Int) := by omega
  go_enter Tryz.func9, Tryz.ntmps9
  go_upto_region 2 with (go_at_call 29; refine (new_yes half old card h _).mono ?_; rintro e w1 ⟨b, S, rfl, hom, hx⟩; have HO := Lib.hid hom; have HX := Lib.hid hx; clear hom hx)
  have HX1 : Hid (Ext w w1) := ((Ext.refl w).alloc_ _).trans_ HX.out
  have HZ := HX.out.size
  have hbz := OM.lt HO.out
  have c3 : w1.cell? ⟨w.heap.size, 3, none⟩ = some (.int .i64 ten) := HX.out.cell_ (by rw [World.cell?, heap_alloc_new]; rfl)
  have hfb := OM.frozen HO.out 7
  have hMc := HO.out.mem (newM_ok half old card h)
  have c7 : w1.cell? ⟨b, 7, none⟩ = some (.slice S.R.1 (0 : Nat) S.R.2) := hMc.roots
  have hwz : w.heap.size < w1.heap.size := by simp at HZ; omega
  obtain ⟨W2, hW2⟩ : ∃ W, W = w1.alloc (.cells #[.int .u64 (constW 0)] 63) := ⟨_, rfl⟩
  have hRep := repeat1_walk w1.heap.size 0 1 n (constW 0) W2 (by rw [hW2, World.cell?, heap_alloc_new]; rfl) hn
  have hXA : Ext w1 W2 := by rw [hW2]; exact (Ext.refl _).alloc_ _
  have HXA := Lib.hid hXA
  have HREP := Lib.hid hRep
  clear hMc HX hXA hRep
  go_wp2_with (first
    | (go_at_call 31; refine (const_any 0 _).mono ?_; rintro e w9 ⟨rfl, hw9⟩; have hw9 := hw9.symm; subst hw9)
    | (go_at_call 30; rw [← hW2]; refine HREP.out.mono ?_; rintro e w4 ⟨rfl, hrow, hq⟩; have HRW := Lib.hid hrow; have HX4 := Lib.hid hq; have c74 := (HXA.out.trans_ hq).cell_ c7; have c34 := (HXA.out.trans_ hq).cell_ c3; have hf74 : w4.frozen? ⟨b, 7, none⟩ = false := (by rw [(HXA.out.trans_ hq).three.2.1 _ _ hbz]; exact hfb); have hz4 := (HXA.out.trans_ hq).size; clear hrow hq hW2))
  go_ret2
  have hO2 : OMem W2 w.heap.size b 134 (newM half old card) S := OM.ext (OM.lower HO.out (by simp)) HXA.out
  have hO5 := OMem.putRoots hO2 (List.replicate n 2) (some ⟨W2.heap.size, 0, none⟩) n HX4.out (by rw [List.length_replicate]; exact own_le HRW.out (by have := HX1.out.size; have := HXA.out.size; omega) (Ext.refl _)) (by simp [Value.ownBlock])
  rw [List.length_replicate] at hO5
  have hH := oheap_new hO5 (by simp; omega) ten 1 70
  rw [World.size_setCell] at hH
  have hbw : w.heap.size ≤ b := Nat.le_trans (by simp) (OM.hb HO.out)
  exact ⟨w4.heap.size, b, _, rfl, hH, Ext.alloc_ (Ext.set_ ((HX1.out.trans_ HXA.out).trans_ HX4.out) hbw _) _⟩
def digS (n : Nat) : UInt8 := if n < 10 then UInt8.ofNat (48 + n) else UInt8.ofNat (87 + n)
/-- The digits of a number at base 16, no more than so many and one. -/
def hexL : Nat → Nat → List UInt8
  | 0, u => [digS u]
  | f + 1, u => if u < 16 then [digS u] else hexL f (u / 16) ++ [digS (u % 16)]
/-- The table's place that TrailingZeros(16) reads. -/
def Tz16 (w : World) : Prop := w.cell? ⟨10, 15, none⟩ = some (.int .u8 4)
theorem heap_set1 {w : World} {g : Nat} {cur : List Value} {t : TypeId} (h : w.heap[g]? = some (.cells cur.toArray t (0, 0))) (j : Nat) (v : Value) : (w.setCell ⟨g, j, none⟩ v).heap[g]? = some (.cells (cur.set j v).toArray t (0, 0)) := by simp [World.setCell, Array.getElem?_modify, h]
theorem cell_list {w : World} {g : Nat} {cur : List Value} {t : TypeId} (h : w.heap[g]? = some (.cells cur.toArray t (0, 0))) {j : Nat} (hj : j < cur.length) : w.cell? ⟨g, j, none⟩ = some cur[j] := by simp [World.cell?, h, hj]
theorem frozen_list {w : World} {g : Nat} {cur : List Value} {t : TypeId} (h : w.heap[g]? = some (.cells cur.toArray t (0, 0))) (j : Nat) : w.frozen? ⟨g, j, none⟩ = false := by simp [World.frozen?, h]
def digsT : ByteArray := ⟨#[48, 49, 50, 51, 52, 53, 54, 55, 56, 57, 97, 98, 99, 100, 101, 102, 103, 104, 105, 106, 107, 108, 109, 110, 111, 112, 113, 114, 115, 116, 117, 118, 119, 120, 121, 122]⟩
theorem dig_at (j : Nat) (hj : j < 16) (h : j < digsT.size) : digsT[j].toNat = (digS j).toNat := by
  rcases (show j = 0 ∨ j = 1 ∨ j = 2 ∨ j = 3 ∨ j = 4 ∨ j = 5 ∨ j = 6 ∨ j = 7 ∨ j = 8 ∨ j = 9 ∨ j = 10 ∨ j = 11 ∨ j = 12 ∨ j = 13 ∨ j = 14 ∨ j = 15 by omega) with rfl | rfl | rfl | rfl | rfl | rfl | rfl | rfl | rfl | rfl | rfl | rfl | rfl | rfl | rfl | rfl <;> rfl
theorem drop_set1 (cur : List Value) (m : Nat) (x : Value) (t : List UInt8) (d : UInt8) (hm : m < cur.length) (hx : x = .int .u8 (d.toNat : Int)) (hc : cur.drop (m + 1) = Lib.byteCells t) : (cur.set m x).drop m = Lib.byteCells (d :: t) := by
  rw [List.drop_eq_getElem_cons (by rw [List.length_set]; exact hm), List.getElem_set_self, List.drop_set_of_lt (by omega), hc, hx]
  rfl
theorem arr_und : Tryz.prog.underlying 225 = some (.array (Tryz.prog.arrayLen 225) (Tryz.prog.elem 225)) := by kernel_rfl
theorem arr_len : Tryz.prog.arrayLen 225 = 65 := by kernel_rfl
theorem arr_size (w : World) : (sizeOf (Tryz.prog.elem 225)).run Tryz.prog w = .ok 1 w := by kernel_rfl
theorem arr_from (H m : Nat) (hm : m < 65) (W : World) : (Instr.sliceAt 225 (.pointer (some ⟨H, 0, none⟩)) (some (.int .i64 (m : Int))) none none).run Tryz.prog W = .ok (.slice (some ⟨H, m, none⟩) (65 - m) (65 - m)) W := by
  rw [run_sliceAt_array_l W 225 ⟨H, 0, none⟩ arr_und .i64 (m : Int) (by omega) (by rw [arr_len]; omega), arr_size]
  have h1 : ¬ 65 = m := by omega
  simp [Result.andThen, slicedAt, arr_len, Addr.add, h1]
  omega
theorem strOfNums_list (l : List UInt8) : strOfNums (l.map fun b => (b.toNat : Int)) = ⟨l.toArray⟩ := by
  unfold strOfNums
  rw [List.map_map]
  congr 1
  conv => rhs; rw [← List.map_id l]
  congr 1
  refine List.map_congr_left fun b _ => ?_
  simp
theorem tz_any (w : World) (h : Tz16 w) : Calls Tryz.prog 152 #[.int .u64 16] w fun e w' => e = .returned (.int .i64 4) ∧ w' = w := by
  unfold Tz16 at h
  have hr : ∀ w : World, w.cell? ⟨10, 15, none⟩ = some (.int .u8 4) → Calls Tryz.prog 159 #[.int .u64 16] w fun e w' => e = .returned (.int .i64 4) ∧ w' = w := fun w h => by
    have q1 : IntKind.u64.wrap (bits BinOp.and IntKind.u64 16 (IntKind.u64.wrap (-16)) * 285870213051353865) = 4573923408821661840 := by decide +kernel
    have q2 : (4573923408821661840 : Int) / 288230376151711744 = 15 := by decide +kernel
    go_enter Tryz.func159, Tryz.ntmps159
    go_wp2
    go_ret
    exact ⟨rfl, rfl⟩
  go_enter Tryz.func152, Tryz.ntmps152
  go_wp2_with (go_at_call 159; refine (hr _ h).mono ?_; rintro e w' ⟨rfl, hw9⟩; have hw9 := hw9.symm; subst hw9)
  go_ret
  exact ⟨rfl, rfl⟩
theorem pow16_any (w : World) : Calls Tryz.prog 151 #[.int .i64 16] w fun e w' => e = .returned (.bool true) ∧ w' = w := by
  have q : IntKind.i64.wrap (bits BinOp.and IntKind.i64 16 15) = 0 := by decide +kernel
  have q' : bits BinOp.and IntKind.i64 16 15 = 0 := by decide +kernel
  go_enter Tryz.func151, Tryz.ntmps151
  go_wp2
  go_ret
  exact ⟨rfl, rfl⟩
set_option maxRecDepth 100000 in
set_option maxHeartbeats 4000000 in
theorem bits16_any (u : Nat) (hu : u ≤ 18446744073709551615) (w : World) (h : Tz16 w) :
    Calls Tryz.prog 136 #[.slice none 0 0, .int .u64 (u : Int), .int .i64 16, .bool false, .bool false] w fun e w' => e = .returned (.tuple #[.slice none 0 0, .string ⟨(hexL 15 u).toArray⟩]) ∧ Ext w w' := by
  have HT := Lib.hid h
  clear h
  go_enter Tryz.func136, Tryz.ntmps136
  go_wp2_with (first
    | (go_at_call 151; refine (pow16_any _).mono ?_; rintro e w' ⟨rfl, hw9⟩; have hw9 := hw9.symm; subst hw9)
    | (go_at_call 152; refine (tz_any _ (((Ext.refl w).alloc_ _).cell_ HT.out)).mono ?_; rintro e w' ⟨rfl, hw9⟩; have hw9 := hw9.symm; subst hw9))
  have hz : (w.alloc (.cells Tryz.zeroCells225 225)).heap[w.heap.size]? = some (.cells Tryz.zeroCells225.toList.toArray 225 (0, 0)) := by rw [Array.toArray_toList]; exact heap_alloc_new _ _
  have hzl : Tryz.zeroCells225.toList.length = 65 := by kernel_rfl
  have HZ := Lib.hid hz
  have HZL := Lib.hid hzl
  have hu16 : u < 16 ^ 16 := by have : (16 : Nat) ^ 16 = 18446744073709551616 := by decide
                                omega
  have HU := Lib.hid hu16
  clear hz hzl hu16
  go_loopg [1, 13] 15 (fun r x i wr => ∃ (v n : Nat) (t : List UInt8) (cur : List Value), x = .int .u64 (v : Int) ∧ i = .int .i64 (n : Int) ∧ n + t.length = 65 ∧ t.length + r = 15 ∧ v < 16 ^ (r + 1) ∧ v ≤ u ∧ Hid (hexL 15 u = hexL r v ++ t) ∧ Hid (wr.heap[w.heap.size]? = some (.cells cur.toArray 225 (0, 0))) ∧ Hid (cur.length = 65 ∧ cur.drop n = Lib.byteCells t) ∧ Hid (Ext w wr))
  case atStart => exact ⟨u, 65, [], _, rfl, rfl, rfl, rfl, HU.out, Nat.le_refl _, by simp [Hid], HZ.out, ⟨HZL.out, by rw [List.drop_of_length_le (by rw [HZL.out]; exact Nat.le_refl _)]; rfl⟩, (Ext.refl w).alloc_ _⟩
  case round =>
    obtain ⟨v, n, t, cur, rfl, rfl, hn, hr, hv, hvu, hx, hh, hc, hE⟩ := hrel
    obtain ⟨m, rfl⟩ : ∃ m, n = m + 1 := ⟨n - 1, by omega⟩
    have hml : m < cur.length := by rw [hc.out.1]; omega
    have cm := cell_list hh.out hml
    have cf := frozen_list hh.out m
    have hm0 : (0 : Int) ≤ (m : Int) := by omega
    have hm1 : (m : Int) < 65 := by omega
    have e1 : IntKind.i64.wrap (((m + 1 : Nat) : Int) - 1) = (m : Int) := by rw [IntWalk.i64_in _ (by omega)]; omega
    have e2 : ((m + 1 : Nat) : Int) - 1 = (m : Int) := by omega
    have HN := Lib.hid hn
    have HV := Lib.hid hv
    have hv0 : (0 : Int) ≤ (v : Int) := by omega
    have hv1 : (v : Int) ≤ 18446744073709551615 := by omega
    by_cases h16 : v < 16
    · have k16 : ¬ 16 ≤ (v : Int) := by omega
      have hv16 : (v : Int) < 16 := by omega
      have hsl := arr_from w.heap.size m (by omega)
      have hll : 65 - m = (digS v :: t).length := by rw [List.length_cons]; omega
      have hd := dig_at v h16
      unfold digsT at hd
      have hset := heap_set1 hh.out m (.int .u8 ((digS v).toNat : Int))
      have hdrop := drop_set1 cur m (.int .u8 ((digS v).toNat : Int)) t (digS v) hml rfl hc.out.2
      have hcv := run_convert_bytes_arg (P := Tryz.prog) (wr.setCell ⟨w.heap.size, m, none⟩ (.int .u8 ((digS v).toNat : Int))) 93 5 (by kernel_rfl) (by kernel_rfl) w.heap.size m (65 - m) (65 - m) ((digS v :: t).map fun b => (b.toNat : Int)) (by rw [List.length_map, hll]) (fun i hi => by
        have hi2 : i < (digS v :: t).length := by omega
        have h1 : m + i < (cur.set m (.int .u8 ((digS v).toNat : Int))).length := by rw [List.length_set, hc.out.1]; omega
        rw [cell_list hset h1]
        have h2 : ((cur.set m (.int .u8 ((digS v).toNat : Int))).drop m)[i]? = (Lib.byteCells (digS v :: t))[i]? := by rw [hdrop]
        rw [List.getElem?_drop, List.getElem?_eq_getElem h1] at h2
        rw [h2, Lib.byteCells, List.getElem?_map, List.getElem?_eq_getElem hi2, List.getD_eq_getElem?_getD, List.getElem?_map, List.getElem?_eq_getElem hi2]
        rfl) 9 (by kernel_rfl)
      rw [strOfNums_list] at hcv
      have hend : hexL 15 u = digS v :: t := by
        rw [hx.out]
        cases gk with
        | zero => rfl
        | succ r => rw [hexL, if_pos h16]; rfl
      rw [← hend] at hcv
      clear hset hdrop hll hend hn hv
      go_wp2
      go_ret2
      exact ⟨rfl, hE.out.set_ (p := ⟨w.heap.size, m, none⟩) (Nat.le_refl _) _⟩
    · obtain ⟨r, rfl⟩ : ∃ r, gk = r + 1 := ⟨gk - 1, by
        rcases Nat.eq_zero_or_pos gk with q | q
        · subst q; omega
        · omega⟩
      have k16 : 16 ≤ (v : Int) := by omega
      have b1 : bits BinOp.and IntKind.u64 (v : Int) 15 = (v : Int) % 16 := and15 _ hv0 hv1
      clear hn hv
      go_wp2
      go_roundg r
      case measure => omega
      case rel =>
        refine ⟨v / 16, m, digS (v % 16) :: t, _, (by have e : ((v / 16 : Nat) : Int) = (v : Int) / 16 := (by omega); rw [e]), rfl, (by have := HN.out; simp; omega), (by simp; omega), ?_, (by omega), ?_, heap_set1 hh.out m _, ⟨(by rw [List.length_set]; exact hc.out.1), ?_⟩, hE.out.set_ (p := ⟨w.heap.size, m, none⟩) (Nat.le_refl _) _⟩
        · have := HV.out
          rw [Nat.pow_succ] at this
          generalize 16 ^ (r + 1) = p at *
          omega
        · show hexL 15 u = _
          rw [hx.out, hexL, if_neg h16]
          simp
        · exact drop_set1 cur m _ t _ hml (by rw [← dig_at _ (Nat.mod_lt _ (by decide)) (by have : v % 16 < 16 := Nat.mod_lt _ (by decide); show v % 16 < 36; omega)]; rfl) hc.out.2
theorem ba_app (a b : List UInt8) : (⟨a.toArray⟩ : ByteArray) ++ ⟨b.toArray⟩ = ⟨(a ++ b).toArray⟩ := by
  apply ByteArray.ext
  simp
theorem byteS_of {n : Int} {x : UInt8} (h : n % 256 = (x.toNat : Int)) : byteS n = ⟨[x].toArray⟩ := by
  unfold byteS strOfNums
  rw [h]
  simp
theorem dig_nat (m : Nat) (h : m < 10) : byteS (48 - -(m : Int)) = ⟨[UInt8.ofNat (48 + m)].toArray⟩ := byteS_of (by
  rw [UInt8.toNat_ofNat']
  omega)
theorem tmod10 (n : Int) (h : n ≤ 0) : n.tmod 10 = -((-n) % 10) := by
  have h1 : (-n).tmod 10 = (-n) % 10 := Int.tmod_eq_emod_of_nonneg (by omega)
  rw [← h1, Int.neg_tmod, Int.neg_neg]
theorem belowS_dec : ∀ (f m : Nat), m < 10 ^ (f + 1) → belowS f (-(m : Int)) = ⟨(Lib.decDigits m).toArray⟩
  | 0, m, h => by
    have h' : m < 10 := by simpa using h
    rw [Lib.decDigits, dif_pos h']
    exact dig_nat m h'
  | f + 1, m, h => by
    unfold belowS
    by_cases h' : m < 10
    · rw [if_pos (by omega), Lib.decDigits, dif_pos h']
      exact dig_nat m h'
    · rw [if_neg (by omega), Lib.decDigits, dif_neg h']
      have e1 : (-(m : Int)).tdiv 10 = -((m / 10 : Nat) : Int) := by rw [tdiv10 _ (by omega)]; omega
      have e2 : (-(m : Int)).tmod 10 = -((m % 10 : Nat) : Int) := by rw [tmod10 _ (by omega)]; omega
      have hlt : m / 10 < 10 ^ (f + 1) := by
        rw [Nat.pow_succ] at h
        generalize 10 ^ (f + 1) = p at *
        omega
      rw [e1, e2, belowS_dec f (m / 10) hlt, dig_nat (m % 10) (Nat.mod_lt _ (by decide)), ba_app]
theorem decS_itoa (n : Int) (h0 : -9223372036854775808 ≤ n) (h1 : n ≤ 9223372036854775807) : (⟨(Lib.itoa n).toArray⟩ : ByteArray) = decS n := by
  have hp : (10 : Nat) ^ 21 = 1000000000000000000000 := by decide
  unfold Lib.itoa decS
  by_cases h : n < 0
  · rw [if_pos h, if_pos h]
    have e : n = -((n.natAbs : Nat) : Int) := by omega
    conv => rhs; rw [e]
    rw [belowS_dec 20 _ (by rw [hp]; omega)]
    have : (⟨#[45]⟩ : ByteArray) = ⟨[45].toArray⟩ := rfl
    rw [this, ba_app]; rfl
  · rw [if_neg h, if_neg h]
    have e : -n = -((n.toNat : Nat) : Int) := by omega
    rw [e, belowS_dec 20 _ (by rw [hp]; omega)]
/-- So many digits at base 16. -/
def dl : Nat → Nat → List UInt8
  | 0, _ => []
  | f + 1, a => dl f (a / 16) ++ [digS (a % 16)]
theorem dl_zero : ∀ f, dl f 0 = List.replicate f 48
  | 0 => rfl
  | f + 1 => by
    rw [dl, Nat.zero_div, dl_zero f, List.replicate_succ']
    rfl
theorem dl_hex : ∀ (f a : Nat), a < 16 ^ (f + 1) → dl (f + 1) a = List.replicate (f + 1 - (hexL f a).length) 48 ++ hexL f a ∧ (hexL f a).length ≤ f + 1
  | 0, a, h => by
    have h' : a < 16 := by simpa using h
    simp [dl, hexL, Nat.mod_eq_of_lt h']
  | f + 1, a, h => by
    rw [dl, hexL]
    by_cases h' : a < 16
    · rw [if_pos h', Nat.div_eq_of_lt h', dl_zero, Nat.mod_eq_of_lt h']
      simp
    · rw [if_neg h']
      have hlt : a / 16 < 16 ^ (f + 1) := by
        rw [Nat.pow_succ] at h
        generalize 16 ^ (f + 1) = p at *
        omega
      obtain ⟨i1, i2⟩ := dl_hex f (a / 16) hlt
      rw [i1, List.length_append, List.length_singleton, List.append_assoc]
      refine ⟨?_, by omega⟩
      congr 2
      omega
theorem digit_ext (d : Nat) (h : d < 16) : digits16.extract d (d + 1) = ⟨[digS d].toArray⟩ := by
  rcases (show d = 0 ∨ d = 1 ∨ d = 2 ∨ d = 3 ∨ d = 4 ∨ d = 5 ∨ d = 6 ∨ d = 7 ∨ d = 8 ∨ d = 9 ∨ d = 10 ∨ d = 11 ∨ d = 12 ∨ d = 13 ∨ d = 14 ∨ d = 15 by omega) with rfl | rfl | rfl | rfl | rfl | rfl | rfl | rfl | rfl | rfl | rfl | rfl | rfl | rfl | rfl | rfl <;> (apply ByteArray.ext; decide)
theorem hexG_dl : ∀ (f a : Nat) (l : List UInt8), hexG f (a : Int) ⟨l.toArray⟩ = ⟨(dl f a ++ l).toArray⟩
  | 0, _, _ => rfl
  | f + 1, a, l => by
    have e1 : ((a : Int) % 16).toNat = a % 16 := by omega
    have e2 : (a : Int) / 16 = ((a / 16 : Nat) : Int) := by omega
    rw [hexG, e1, e2, digit_ext _ (Nat.mod_lt _ (by decide)), ba_app, hexG_dl f, dl]
    simp
theorem repeatL_one (b : UInt8) : ∀ n, Lib.repeatL [b] n = List.replicate n b
  | 0 => rfl
  | n + 1 => by rw [Lib.repeatL, repeatL_one b n, List.replicate_succ]; rfl
theorem hexS_hex (u : Nat) (h : u ≤ 18446744073709551615) : (hexL 15 u).length ≤ 16 ∧ (⟨(Lib.repeatL [48] (16 - (hexL 15 u).length)).toArray⟩ : ByteArray) ++ ⟨(hexL 15 u).toArray⟩ = hexS (u : Int) := by
  have hp : (16 : Nat) ^ 16 = 18446744073709551616 := by decide
  obtain ⟨h1, h2⟩ := dl_hex 15 u (by show u < 16 ^ 16; omega)
  refine ⟨h2, ?_⟩
  have : hexS (u : Int) = ⟨(dl 16 u ++ []).toArray⟩ := hexG_dl 16 u []
  rw [this, List.append_nil, h1, ba_app, repeatL_one]
end Go.Proofs.YtbbiaepgenbloaaGreatDoor
