/- Texts' sizes, Byte and Decimal, which the joined base has dropped. -/
import Derived.Test.YtgjjkllngopboaaDoorJCa20
import Derived.Lib.SlBytesRow
import Derived.Test.YtgjjkllngopboaaDoorJCa12
import Derived.Test.YtgjjkllngopboaaDoorJCa13
import Derived.Test.YtgjjkllngopboaaDoorJCa03
namespace Go.Proofs.YtgjjkllngopboaaDoor
open Go.RowKit
set_option linter.unusedVariables false
set_option linter.unusedSimpArgs false

theorem undU8s' : Tryd.prog.underlying 55 = some (.slice 5) := by kernel_rfl
set_option maxRecDepth 100000 in
theorem byte_any (n : Int) (w : World) : Calls Tryd.prog 40 #[.int .i64 n] w fun e w' => e = .returned (.string (byteS n)) ∧ Ext w w' := by
  have hconv := run_convert_bytes_arg (P := Tryd.prog) (w.alloc (.cells #[.int .u8 (n % 256)] 5)) 55 5 undU8s' (by kernel_rfl) w.heap.size 0 1 1 [n % 256] rfl (fun i hi => by
    obtain rfl : i = 0 := by omega
    simp [go_sem]) 9 (by kernel_rfl)
  go_enter Tryd.func40, Tryd.ntmps40
  go_wp2
  go_ret
  exact ⟨rfl, (Ext.refl w).alloc_ _⟩
theorem byteS_size (n : Int) : (byteS n).size = 1 := by unfold byteS; rw [strOfNums_size]; rfl
theorem belowS_size : ∀ (f : Nat) (n : Int), (belowS f n).size ≤ f + 1
  | 0, n => by simp [belowS, byteS_size]
  | f + 1, n => by
    unfold belowS
    split
    · rw [byteS_size]; omega
    · rw [ByteArray.size_append, byteS_size]
      have := belowS_size f (n.tdiv 10)
      omega
theorem decS_size (n : Int) : (decS n).size ≤ 22 := by
  unfold decS
  split
  · rw [ByteArray.size_append]
    have := belowS_size 20 n
    have e : (⟨#[45]⟩ : ByteArray).size = 1 := rfl
    omega
  · have := belowS_size 20 (-n); omega
theorem below_any : ∀ (f : Nat) (n : Int), f ≤ 20 → n ≤ 0 → -9223372036854775808 ≤ n → -(10 ^ (f + 1) : Int) < n → ∀ w : World, Calls Tryd.prog 39 #[.int .i64 n] w fun e w' => e = .returned (.string (belowS f n)) ∧ Ext w w'
  | f, n, hf, h0, h1, h2, w => by
    by_cases hq : -10 < n
    · have e : belowS f n = byteS (48 - n) := by cases f <;> simp [belowS, hq]
      have e1 : IntKind.i64.wrap (48 - n) = 48 - n := IntWalk.i64_in _ (by omega)
      rw [e]
      clear h2
      go_enter Tryd.func39, Tryd.ntmps39
      go_wp2_with (go_at_call 40; refine (byte_any _ _).mono ?_; rintro e w1 ⟨rfl, hq1⟩; have HX1 := Lib.hid hq1; clear hq1)
      go_ret
      exact ⟨rfl, HX1.out⟩
    · obtain ⟨f, rfl⟩ : ∃ f', f = f' + 1 := by
        cases f with
        | zero => exact absurd h2 (by simp; omega)
        | succ f => exact ⟨f, rfl⟩
      have e : belowS (f + 1) n = belowS f (n.tdiv 10) ++ byteS (48 - n.tmod 10) := by simp [belowS, hq]
      have hd := tdiv10 n h0
      have hm : n.tmod 10 = n - 10 * n.tdiv 10 := Int.tmod_def n 10
      have hp : (10 : Int) ^ (f + 1 + 1) = 10 * 10 ^ (f + 1) := by rw [Int.pow_succ]; omega
      rw [hp] at h2
      have hz := belowS_size f (n.tdiv 10)
      have hz1 := byteS_size (48 - n.tmod 10)
      have ih := below_any f (n.tdiv 10) (by omega) (by omega) (by omega) (by rw [hd]; omega)
      rw [e]
      have e1 : IntKind.i64.wrap (48 - n.tmod 10) = 48 - n.tmod 10 := IntWalk.i64_in _ (by omega)
      have e2 : IntKind.i64.wrap (n.tdiv 10) = n.tdiv 10 := IntWalk.i64_in _ (by omega)
      have e3 : IntKind.i64.wrap (n.tmod 10) = n.tmod 10 := IntWalk.i64_in _ (by omega)
      have IH := Lib.hid ih
      clear hd hm hp h2 ih e
      go_enter Tryd.func39, Tryd.ntmps39
      go_wp2_with (first
        | (go_at_call 39; refine (IH.out _).mono ?_; rintro e w1 ⟨rfl, hq1⟩; have HX1 := Lib.hid hq1; clear hq1)
        | (go_at_call 40; refine (byte_any _ _).mono ?_; rintro e w2 ⟨rfl, hq1⟩; have HX2 := Lib.hid hq1; clear hq1))
      go_ret
      exact ⟨rfl, HX1.out.trans_ HX2.out⟩
theorem decimal_any (n : Int) (h0 : -9223372036854775808 < n) (h1 : n ≤ 9223372036854775807) (w : World) : Calls Tryd.prog 26 #[.int .i64 n] w fun e w' => e = .returned (.string (decS n)) ∧ Ext w w' := by
  unfold decS
  by_cases hq : n < 0
  · rw [if_pos hq]
    have hz := belowS_size 20 n
    go_enter Tryd.func26, Tryd.ntmps26
    go_wp2_with (go_at_call 39; refine (below_any 20 n (by omega) (by omega) (by omega) (by omega) _).mono ?_; rintro e w1 ⟨rfl, hq1⟩; have HX1 := Lib.hid hq1; clear hq1)
    go_ret
    exact ⟨rfl, HX1.out⟩
  · rw [if_neg hq]
    have e1 : IntKind.i64.wrap (-n) = -n := IntWalk.i64_in _ (by omega)
    go_enter Tryd.func26, Tryd.ntmps26
    go_wp2_with (go_at_call 39; refine (below_any 20 (-n) (by omega) (by omega) (by omega) (by omega) _).mono ?_; rintro e w1 ⟨rfl, hq1⟩; have HX1 := Lib.hid hq1; clear hq1)
    go_ret
    exact ⟨rfl, HX1.out⟩
theorem quote1_len (c : UInt8) : (quote1 c).length ≤ 4 := by
  unfold quote1
  split
  · simp
  split
  · simp
  split <;> simp
theorem quotesP_len : ∀ l : List UInt8, (quotesP l).length ≤ 4 * l.length
  | [] => by simp [quotesP]
  | c :: l => by
    have h1 := quote1_len c
    have h2 := quotesP_len l
    unfold quotesP at h2 ⊢
    rw [List.flatMap_cons, List.length_append, List.length_cons]
    omega
theorem quotedP_size (s : ByteArray) : (quotedP s).size ≤ 4 * s.size + 2 := by
  have := quotesP_len s.data.toList
  have h2 : s.data.toList.length = s.size := by simp
  show (34 :: (quotesP s.data.toList ++ [34])).toArray.size ≤ _
  simp only [List.size_toArray, List.length_cons, List.length_append, List.length_nil]
  omega
theorem text_parts (c : CodeP) : textC c = eachP nameLine 0 c.names (partC c) := rfl
theorem decimal_all (n : Int) (h0 : -9223372036854775808 ≤ n) (h1 : n ≤ 9223372036854775807) (w : World) : Calls Tryd.prog 26 #[.int .i64 n] w fun e w' => e = .returned (.string (decS n)) ∧ Ext w w' := by
  unfold decS
  by_cases hq : n < 0
  · rw [if_pos hq]
    have hz := belowS_size 20 n
    go_enter Tryd.func26, Tryd.ntmps26
    go_wp2_with (go_at_call 39; refine (below_any 20 n (by omega) (by omega) (by omega) (by omega) _).mono ?_; rintro e w1 ⟨rfl, hq1⟩; have HX1 := Lib.hid hq1; clear hq1)
    go_ret
    exact ⟨rfl, HX1.out⟩
  · rw [if_neg hq]
    have e1 : IntKind.i64.wrap (-n) = -n := IntWalk.i64_in _ (by omega)
    go_enter Tryd.func26, Tryd.ntmps26
    go_wp2_with (go_at_call 39; refine (below_any 20 (-n) (by omega) (by omega) (by omega) (by omega) _).mono ?_; rintro e w1 ⟨rfl, hq1⟩; have HX1 := Lib.hid hq1; clear hq1)
    go_ret
    exact ⟨rfl, HX1.out⟩
/-- What has been quoted so far. -/
def quoS (l : List UInt8) : ByteArray := ⟨(34 :: quotesP l).toArray⟩
theorem quoS_add (l m : List UInt8) : (⟨(34 :: (quotesP l ++ m)).toArray⟩ : ByteArray) = quoS l ++ ⟨m.toArray⟩ := by
  unfold quoS
  rw [ba_app]; rfl
theorem quoS_size (l : List UInt8) : (quoS l).size ≤ 4 * l.length + 1 := by
  have := quotesP_len l
  show (34 :: quotesP l).toArray.size ≤ _
  simp only [List.size_toArray, List.length_cons]
  omega
theorem quoS_snoc (s : ByteArray) (k : Nat) (hk : k < s.size) : quoS (s.data.toList.take (k + 1)) = quoS (s.data.toList.take k) ++ ⟨(quote1 s[k]).toArray⟩ := by
  have hl : k < s.data.toList.length := by simpa using hk
  have := quotesP_snoc s.data.toList k hl
  have e : s.data.toList[k] = s[k] := rfl
  rw [e] at this
  show (⟨(34 :: quotesP (s.data.toList.take (k + 1))).toArray⟩ : ByteArray) = _
  rw [this, quoS_add]
theorem bytes_c (c : UInt8) : byteS (c.toNat : Int) = ⟨[c].toArray⟩ := byteS_of (by have := c.toNat_lt; omega)
theorem byte92 : byteS 92 = ⟨[92].toArray⟩ := byteS_of (by decide)
theorem app2 (o : ByteArray) (a b : List UInt8) : (o ++ ⟨a.toArray⟩) ++ ⟨b.toArray⟩ = o ++ ⟨(a ++ b).toArray⟩ := by
  rw [ByteArray.append_assoc, ba_app a b]
theorem hex_part : ∀ v : Fin 16, hexLit.extract v.val (v.val + 1) = ⟨[hexDigP v.val].toArray⟩ := by decide +kernel
set_option maxRecDepth 100000 in
theorem hex_cut (v : Nat) (hv : v < 16) (n m : Int) (hn : n = (v : Int)) (hm : m = (v : Int) + 1) (W : World) : (Instr.slice 9 (.string ⟨#[48, 49, 50, 51, 52, 53, 54, 55, 56, 57, 97, 98, 99, 100, 101, 102]⟩) (some (.int .i64 n)) (some (.int .i64 m)) none).run Tryd.prog W = .ok (.string ⟨[hexDigP v].toArray⟩) W := by
  have := run_slice_string (P := Tryd.prog) W 9 hexLit .i64 .i64 n m (by kernel_rfl) (by omega) (by omega) (by show m ≤ (16 : Nat); omega)
  rw [this]
  congr 2
  have e1 : n.toNat = v := by omega
  have e2 : m.toNat = v + 1 := by omega
  rw [e1, e2]
  exact hex_part ⟨v, hv⟩
theorem byte_lt (c : UInt8) : c.toNat < 256 := c.toNat_lt
set_option maxRecDepth 100000 in
set_option maxHeartbeats 8000000 in
theorem quotedR_any (s : ByteArray) (w : World) (hs : s.size ≤ 17592186044416) :
    Calls Tryd.prog 29 #[.string s] w fun e w' => e = .returned (.string (quotedP s)) ∧ Ext w w' := by
  go_enter Tryd.func29, Tryd.ntmps29
  go_upto_region 4 with fail
  go_loopg [4, 5] (s.size) (fun r o i wr => ∃ (k : Nat) (q : ByteArray), k + r = s.size ∧ o = .string q ∧ i = .int .i64 (k : Int) ∧ Hid (q = quoS (s.data.toList.take k)) ∧ q.size ≤ 4 * k + 1 ∧ Hid (Ext w wr))
  case atStart => exact ⟨0, ⟨#[34]⟩, by omega, rfl, rfl, rfl, Nat.le_refl _, Ext.refl _⟩
  case round =>
    obtain ⟨k, q, hk, rfl, rfl, hq, hqz, hE⟩ := hrel
    cases gk with
    | succ r =>
      have hlt : k < s.size := by omega
      have hltz : (k : Int) < (s.size : Int) := by omega
      have hsn := quoS_snoc s k hlt
      rw [← hq.out] at hsn
      have hq2 : (quoS (s.data.toList.take (k + 1))).size ≤ 4 * (k + 1) + 1 := by
        have := quoS_size (s.data.toList.take (k + 1))
        have h2 : (s.data.toList.take (k + 1)).length ≤ k + 1 := by simp; omega
        omega
      have HQ2 := Lib.hid hq2
      have HK := Lib.hid hk
      have hcb := byte_lt s[k]
      have hz92 := byteS_size 92
      have hzc := byteS_size (s[k].toNat : Int)
      have HC := Lib.hid (bytes_c s[k])
      have HSN : Hid (∀ m, quote1 s[k] = m → quoS (s.data.toList.take (k + 1)) = q ++ ⟨m.toArray⟩) := fun m hm => by rw [hsn, hm]
      have HQ1 : Hid (∀ x : UInt8, s[k] = x → quote1 s[k] = quote1 x) := fun x hx => by rw [hx]
      clear hk hsn hq2 hq
      generalize hc : s[k] = c at *
      have hci : Hid (s[k] = c) := hc
      have e0 : ((s[k]).toNat : Int) = (c.toNat : Int) := by rw [hc]
      clear hc
      by_cases c10 : c.toNat = 10
      · have z10 : ((c.toNat : Int) == 10) = true := by simp; omega
        have hm := HSN.out [92, 110] (by unfold quote1; rw [if_pos c10])
        have HM := Lib.hid hm
        clear hm c10
        go_wp2_with (go_at_call 40; refine (byte_any _ _).mono ?_; rintro e w1 ⟨rfl, hq1⟩; have HB := Lib.hid hq1; clear hq1)
        go_roundg r
        case measure => omega
        case rel =>
          have hqe : (q ++ byteS 92) ++ (⟨#[110]⟩ : ByteArray) = quoS (s.data.toList.take (k + 1)) := by rw [HM.out, byte92, show (⟨#[110]⟩ : ByteArray) = ⟨[110].toArray⟩ from rfl, app2]; rfl
          exact ⟨k + 1, _, by have := HK.out; omega, rfl, by go_num, hqe, by rw [hqe]; exact HQ2.out, hE.out.trans_ HB.out⟩
      have z10 : ((c.toNat : Int) == 10) = false := by simp; omega
      by_cases c34 : c.toNat = 34 ∨ c.toNat = 92
      · have hm := HSN.out [92, c] (by unfold quote1; rw [if_neg c10, if_pos c34])
        have HM := Lib.hid hm
        clear hm c10
        by_cases d34 : c.toNat = 34
        · have z34 : ((c.toNat : Int) == 34) = true := by simp; omega
          clear c34 d34
          go_wp2_with (first
            | (go_at_call 40; refine (byte_any 92 _).mono ?_; rintro e w1 ⟨rfl, hq1⟩; have HB0 := Lib.hid hq1; clear hq1)
            | (go_at_call 40; refine (byte_any (c.toNat : Int) _).mono ?_; rintro e w2 ⟨rfl, hq1⟩; have HB := Lib.hid (HB0.out.trans_ hq1); clear hq1))
          go_roundg r
          case measure => omega
          case rel =>
            have hqe : (q ++ byteS 92) ++ byteS (c.toNat : Int) = quoS (s.data.toList.take (k + 1)) := by rw [HM.out, byte92, HC.out, app2]; rfl
            exact ⟨k + 1, _, by have := HK.out; omega, rfl, by go_num, hqe, by rw [hqe]; exact HQ2.out, hE.out.trans_ HB.out⟩
        · have z34 : ((c.toNat : Int) == 34) = false := by simp; omega
          have z92 : ((c.toNat : Int) == 92) = true := by simp; omega
          clear c34 d34
          go_wp2_with (first
            | (go_at_call 40; refine (byte_any 92 _).mono ?_; rintro e w1 ⟨rfl, hq1⟩; have HB0 := Lib.hid hq1; clear hq1)
            | (go_at_call 40; refine (byte_any (c.toNat : Int) _).mono ?_; rintro e w2 ⟨rfl, hq1⟩; have HB := Lib.hid (HB0.out.trans_ hq1); clear hq1))
          go_roundg r
          case measure => omega
          case rel =>
            have hqe : (q ++ byteS 92) ++ byteS (c.toNat : Int) = quoS (s.data.toList.take (k + 1)) := by rw [HM.out, byte92, HC.out, app2]; rfl
            exact ⟨k + 1, _, by have := HK.out; omega, rfl, by go_num, hqe, by rw [hqe]; exact HQ2.out, hE.out.trans_ HB.out⟩
      have z34 : ((c.toNat : Int) == 34) = false := by simp; omega
      have z92 : ((c.toNat : Int) == 92) = false := by simp; omega
      by_cases c32 : c.toNat < 32 ∨ 126 < c.toNat
      · have hm := HSN.out [92, 120, hexDigP (c.toNat / 16), hexDigP (c.toNat % 16)] (by unfold quote1; rw [if_neg c10, if_neg c34, if_pos c32])
        have HM := Lib.hid hm
        have i1 : ∀ W : World, (Instr.slice 9 (.string ⟨#[48, 49, 50, 51, 52, 53, 54, 55, 56, 57, 97, 98, 99, 100, 101, 102]⟩) (some (.int .i64 ((c.toNat : Int) / 16))) (some (.int .i64 ((c.toNat : Int) / 16 + 1))) none).run Tryd.prog W = .ok (.string ⟨[hexDigP (c.toNat / 16)].toArray⟩) W := fun W => hex_cut (c.toNat / 16) (by omega) _ _ (by omega) (by omega) W
        have i2 : ∀ W : World, (Instr.slice 9 (.string ⟨#[48, 49, 50, 51, 52, 53, 54, 55, 56, 57, 97, 98, 99, 100, 101, 102]⟩) (some (.int .i64 ((c.toNat : Int) % 16))) (some (.int .i64 ((c.toNat : Int) % 16 + 1))) none).run Tryd.prog W = .ok (.string ⟨[hexDigP (c.toNat % 16)].toArray⟩) W := fun W => hex_cut (c.toNat % 16) (by omega) _ _ (by omega) (by omega) W
        have I1 := Lib.hid i1
        have I2 := Lib.hid i2
        have e1 : IntKind.i64.wrap ((c.toNat : Int) / 16 + 1) = (c.toNat : Int) / 16 + 1 := IntWalk.i64_in _ (by omega)
        have e2 : IntKind.i64.wrap ((c.toNat : Int) % 16 + 1) = (c.toNat : Int) % 16 + 1 := IntWalk.i64_in _ (by omega)
        have e3 : IntKind.i64.wrap ((c.toNat : Int) / 16) = (c.toNat : Int) / 16 := IntWalk.i64_in _ (by omega)
        have e5 : (c.toNat : Int).tdiv 16 = (c.toNat : Int) / 16 := Int.tdiv_eq_ediv_of_nonneg (by omega)
        have e6 : (c.toNat : Int).tmod 16 = (c.toNat : Int) % 16 := Int.tmod_eq_emod_of_nonneg (by omega)
        generalize hexDigP (c.toNat / 16) = h1 at *
        generalize hexDigP (c.toNat % 16) = h2 at *
        have s1 : (⟨[h1].toArray⟩ : ByteArray).size = 1 := rfl
        have s2 : (⟨[h2].toArray⟩ : ByteArray).size = 1 := rfl
        generalize hb1 : (⟨[h1].toArray⟩ : ByteArray) = b1 at *
        generalize hb2 : (⟨[h2].toArray⟩ : ByteArray) = b2 at *
        have HB1 := Lib.hid hb1
        have HB2 := Lib.hid hb2
        clear hm c10 c34 i1 i2 hb1 hb2
        by_cases d32 : c.toNat < 32
        · have z32 : decide ((c.toNat : Int) < 32) = true := decide_eq_true (by omega)
          clear c32 d32
          go_upto_region 13 with fail
          have f1 : ¬ 9223372036854775807 < q.size + 1 := by omega
          have f2 : ¬ 9223372036854775807 < q.size + 1 + 1 := by omega
          have f3 : ¬ 9223372036854775807 < q.size + 1 + 1 + 1 := by omega
          have f4 : ¬ 9223372036854775807 < q.size + 1 + 1 + 1 + 1 := by omega
          have g1 : ¬ maxLen < q.size + 1 := by unfold maxLen; omega
          have g2 : ¬ maxLen < q.size + 1 + 1 := by unfold maxLen; omega
          have g3 : ¬ maxLen < q.size + 1 + 1 + 1 := by unfold maxLen; omega
          have g4 : ¬ maxLen < q.size + 1 + 1 + 1 + 1 := by unfold maxLen; omega
          refine wp_region_held_drew (S := fun W => True) (by kernel_rfl) ?_ (fun hHeld => ?_)
          · trivial
          refine tk 0 ⟨some 48, _, _, _, _, _⟩ ?_ rfl ?_ ?_
          rotate_left
          · (intro w hSw; (try dsimp only at hSw); go_simp; try with_reducible rfl)
          try simp only [tkS]
          refine tk 4 ⟨some 52, _, _, _, _, _⟩ ?_ rfl ?_ ?_
          rotate_left
          · (intro w hSw; (try dsimp only at hSw); go_simp; try with_reducible rfl)
          try simp only [tkS]
          refine tk 5 ⟨some 53, _, _, _, _, _⟩ ?_ rfl ?_ ?_
          rotate_left
          · (intro w hSw; (try dsimp only at hSw); go_simp; try with_reducible rfl)
          try simp only [tkS]
          refine tk 6 ⟨some 54, _, _, _, _, _⟩ ?_ rfl ?_ ?_
          rotate_left
          · (intro w hSw; (try dsimp only at hSw); go_simp; try with_reducible rfl)
          try simp only [tkS]
          refine tk 7 ⟨some 55, _, _, _, _, _⟩ ?_ rfl ?_ ?_
          rotate_left
          · (intro w hSw; (try dsimp only at hSw); go_simp; try with_reducible rfl)
          try simp only [tkS]
          refine tk 8 ⟨some 56, _, _, _, _, _⟩ ?_ rfl ?_ ?_
          rotate_left
          · (intro w hSw; (try dsimp only at hSw); go_simp; try with_reducible rfl)
          try simp only [tkS]
          refine tk 9 ⟨some 57, _, _, _, _, _⟩ ?_ rfl ?_ ?_
          rotate_left
          · (intro w hSw; (try dsimp only at hSw); go_simp; try with_reducible rfl)
          try simp only [tkS]
          refine tk 10 ⟨some 58, _, _, _, _, _⟩ ?_ rfl ?_ ?_
          rotate_left
          · (intro w hSw; have hlk := I1.out w; go_simp; try with_reducible rfl)
          try simp only [tkS]
          refine tk 12 ⟨some 60, _, _, _, _, _⟩ ?_ rfl ?_ ?_
          rotate_left
          · (intro w hSw; (try dsimp only at hSw); go_simp; try with_reducible rfl)
          try simp only [tkS]
          refine tk 13 ⟨some 61, _, _, _, _, _⟩ ?_ rfl ?_ ?_
          rotate_left
          · (intro w hSw; (try dsimp only at hSw); go_simp; try with_reducible rfl)
          try simp only [tkS]
          refine tk 14 ⟨some 62, _, _, _, _, _⟩ ?_ rfl ?_ ?_
          rotate_left
          · (intro w hSw; (try dsimp only at hSw); go_simp; try with_reducible rfl)
          try simp only [tkS]
          refine tk 15 ⟨some 63, _, _, _, _, _⟩ ?_ rfl ?_ ?_
          rotate_left
          · (intro w hSw; (try dsimp only at hSw); go_simp; try with_reducible rfl)
          try simp only [tkS]
          refine tk 16 ⟨some 64, _, _, _, _, _⟩ ?_ rfl ?_ ?_
          rotate_left
          · (intro w hSw; (try dsimp only at hSw); go_simp; try with_reducible rfl)
          try simp only [tkS]
          refine tk 17 ⟨some 65, _, _, _, _, _⟩ ?_ rfl ?_ ?_
          rotate_left
          · (intro w hSw; (try dsimp only at hSw); go_simp; try with_reducible rfl)
          try simp only [tkS]
          refine tk 18 ⟨some 66, _, _, _, _, _⟩ ?_ rfl ?_ ?_
          rotate_left
          · (intro w hSw; have hlk := I2.out w; go_simp; try with_reducible rfl)
          try simp only [tkS]
          refine wpAnyH_ready (rs := [1]) (by kernel_rfl) (by simp) ?_
          refine AllReadyH.cons (o := ⟨some 49, _, _, _, _, _⟩) rfl (fun K hK => ?_) AllReadyH.nil
          go_simp
          refine (byte_any 92 _).mono ?_
          rintro e w1 ⟨rfl, hq1⟩
          have HB : Hid (Ext wr w1) := Ext.trans_ (by first | exact Ext.refl _ | exact (Ext.refl _).drew_ | exact (Ext.refl _).drewN_ _) hq1
          clear hq1
          refine hK.out _ _ ?_ (fun hHeld => ?_)
          · (try dsimp only); first | done | trivial
          clear hK K
          try simp only [tkS]
          refine tk 2 ⟨some 50, _, _, _, _, _⟩ ?_ rfl ?_ ?_
          rotate_left
          · (intro w hSw; (try dsimp only at hSw); go_simp; try with_reducible rfl)
          try simp only [tkS]
          refine tk 3 ⟨some 51, _, _, _, _, _⟩ ?_ rfl ?_ ?_
          rotate_left
          · (intro w hSw; (try dsimp only at hSw); go_simp; try with_reducible rfl)
          try simp only [tkS]
          refine tk 11 ⟨some 59, _, _, _, _, _⟩ ?_ rfl ?_ ?_
          rotate_left
          · (intro w hSw; (try dsimp only at hSw); go_simp; try with_reducible rfl)
          try simp only [tkS]
          refine tk 19 ⟨some 67, _, _, _, _, _⟩ ?_ rfl ?_ ?_
          rotate_left
          · (intro w hSw; (try dsimp only at hSw); go_simp; try with_reducible rfl)
          try simp only [tkS]
          refine tk 20 ⟨some 4, _, _, _, _, _⟩ ?_ rfl ?_ ?_
          rotate_left
          · (intro w hSw; (try dsimp only at hSw); go_simp; try with_reducible rfl)
          try simp only [tkS]
          refine wpAnyH_done (by kernel_rfl) ?_ _
          clear hHeld f1 f2 f3 f4 g1 g2 g3 g4
          go_wp2
          go_roundg r
          case measure => omega
          case rel =>
            have hqe : (((q ++ byteS 92) ++ (⟨#[120]⟩ : ByteArray)) ++ b1) ++ b2 = quoS (s.data.toList.take (k + 1)) := by rw [HM.out, byte92, ← HB1.out, ← HB2.out, show (⟨#[120]⟩ : ByteArray) = ⟨[120].toArray⟩ from rfl, app2, app2, app2]; rfl
            exact ⟨k + 1, _, by have := HK.out; omega, rfl, by go_num, hqe, by rw [hqe]; exact HQ2.out, hE.out.trans_ HB.out⟩
        · have z32 : decide ((c.toNat : Int) < 32) = false := decide_eq_false (by omega)
          have z126 : decide (126 < (c.toNat : Int)) = true := decide_eq_true (by omega)
          clear c32 d32
          go_upto_region 13 with fail
          have f1 : ¬ 9223372036854775807 < q.size + 1 := by omega
          have f2 : ¬ 9223372036854775807 < q.size + 1 + 1 := by omega
          have f3 : ¬ 9223372036854775807 < q.size + 1 + 1 + 1 := by omega
          have f4 : ¬ 9223372036854775807 < q.size + 1 + 1 + 1 + 1 := by omega
          have g1 : ¬ maxLen < q.size + 1 := by unfold maxLen; omega
          have g2 : ¬ maxLen < q.size + 1 + 1 := by unfold maxLen; omega
          have g3 : ¬ maxLen < q.size + 1 + 1 + 1 := by unfold maxLen; omega
          have g4 : ¬ maxLen < q.size + 1 + 1 + 1 + 1 := by unfold maxLen; omega
          refine wp_region_held_drew (S := fun W => True) (by kernel_rfl) ?_ (fun hHeld => ?_)
          · trivial
          refine tk 0 ⟨some 48, _, _, _, _, _⟩ ?_ rfl ?_ ?_
          rotate_left
          · (intro w hSw; (try dsimp only at hSw); go_simp; try with_reducible rfl)
          try simp only [tkS]
          refine tk 4 ⟨some 52, _, _, _, _, _⟩ ?_ rfl ?_ ?_
          rotate_left
          · (intro w hSw; (try dsimp only at hSw); go_simp; try with_reducible rfl)
          try simp only [tkS]
          refine tk 5 ⟨some 53, _, _, _, _, _⟩ ?_ rfl ?_ ?_
          rotate_left
          · (intro w hSw; (try dsimp only at hSw); go_simp; try with_reducible rfl)
          try simp only [tkS]
          refine tk 6 ⟨some 54, _, _, _, _, _⟩ ?_ rfl ?_ ?_
          rotate_left
          · (intro w hSw; (try dsimp only at hSw); go_simp; try with_reducible rfl)
          try simp only [tkS]
          refine tk 7 ⟨some 55, _, _, _, _, _⟩ ?_ rfl ?_ ?_
          rotate_left
          · (intro w hSw; (try dsimp only at hSw); go_simp; try with_reducible rfl)
          try simp only [tkS]
          refine tk 8 ⟨some 56, _, _, _, _, _⟩ ?_ rfl ?_ ?_
          rotate_left
          · (intro w hSw; (try dsimp only at hSw); go_simp; try with_reducible rfl)
          try simp only [tkS]
          refine tk 9 ⟨some 57, _, _, _, _, _⟩ ?_ rfl ?_ ?_
          rotate_left
          · (intro w hSw; (try dsimp only at hSw); go_simp; try with_reducible rfl)
          try simp only [tkS]
          refine tk 10 ⟨some 58, _, _, _, _, _⟩ ?_ rfl ?_ ?_
          rotate_left
          · (intro w hSw; have hlk := I1.out w; go_simp; try with_reducible rfl)
          try simp only [tkS]
          refine tk 12 ⟨some 60, _, _, _, _, _⟩ ?_ rfl ?_ ?_
          rotate_left
          · (intro w hSw; (try dsimp only at hSw); go_simp; try with_reducible rfl)
          try simp only [tkS]
          refine tk 13 ⟨some 61, _, _, _, _, _⟩ ?_ rfl ?_ ?_
          rotate_left
          · (intro w hSw; (try dsimp only at hSw); go_simp; try with_reducible rfl)
          try simp only [tkS]
          refine tk 14 ⟨some 62, _, _, _, _, _⟩ ?_ rfl ?_ ?_
          rotate_left
          · (intro w hSw; (try dsimp only at hSw); go_simp; try with_reducible rfl)
          try simp only [tkS]
          refine tk 15 ⟨some 63, _, _, _, _, _⟩ ?_ rfl ?_ ?_
          rotate_left
          · (intro w hSw; (try dsimp only at hSw); go_simp; try with_reducible rfl)
          try simp only [tkS]
          refine tk 16 ⟨some 64, _, _, _, _, _⟩ ?_ rfl ?_ ?_
          rotate_left
          · (intro w hSw; (try dsimp only at hSw); go_simp; try with_reducible rfl)
          try simp only [tkS]
          refine tk 17 ⟨some 65, _, _, _, _, _⟩ ?_ rfl ?_ ?_
          rotate_left
          · (intro w hSw; (try dsimp only at hSw); go_simp; try with_reducible rfl)
          try simp only [tkS]
          refine tk 18 ⟨some 66, _, _, _, _, _⟩ ?_ rfl ?_ ?_
          rotate_left
          · (intro w hSw; have hlk := I2.out w; go_simp; try with_reducible rfl)
          try simp only [tkS]
          refine wpAnyH_ready (rs := [1]) (by kernel_rfl) (by simp) ?_
          refine AllReadyH.cons (o := ⟨some 49, _, _, _, _, _⟩) rfl (fun K hK => ?_) AllReadyH.nil
          go_simp
          refine (byte_any 92 _).mono ?_
          rintro e w1 ⟨rfl, hq1⟩
          have HB : Hid (Ext wr w1) := Ext.trans_ (by first | exact Ext.refl _ | exact (Ext.refl _).drew_ | exact (Ext.refl _).drewN_ _) hq1
          clear hq1
          refine hK.out _ _ ?_ (fun hHeld => ?_)
          · (try dsimp only); first | done | trivial
          clear hK K
          try simp only [tkS]
          refine tk 2 ⟨some 50, _, _, _, _, _⟩ ?_ rfl ?_ ?_
          rotate_left
          · (intro w hSw; (try dsimp only at hSw); go_simp; try with_reducible rfl)
          try simp only [tkS]
          refine tk 3 ⟨some 51, _, _, _, _, _⟩ ?_ rfl ?_ ?_
          rotate_left
          · (intro w hSw; (try dsimp only at hSw); go_simp; try with_reducible rfl)
          try simp only [tkS]
          refine tk 11 ⟨some 59, _, _, _, _, _⟩ ?_ rfl ?_ ?_
          rotate_left
          · (intro w hSw; (try dsimp only at hSw); go_simp; try with_reducible rfl)
          try simp only [tkS]
          refine tk 19 ⟨some 67, _, _, _, _, _⟩ ?_ rfl ?_ ?_
          rotate_left
          · (intro w hSw; (try dsimp only at hSw); go_simp; try with_reducible rfl)
          try simp only [tkS]
          refine tk 20 ⟨some 4, _, _, _, _, _⟩ ?_ rfl ?_ ?_
          rotate_left
          · (intro w hSw; (try dsimp only at hSw); go_simp; try with_reducible rfl)
          try simp only [tkS]
          refine wpAnyH_done (by kernel_rfl) ?_ _
          clear hHeld f1 f2 f3 f4 g1 g2 g3 g4
          go_wp2
          go_roundg r
          case measure => omega
          case rel =>
            have hqe : (((q ++ byteS 92) ++ (⟨#[120]⟩ : ByteArray)) ++ b1) ++ b2 = quoS (s.data.toList.take (k + 1)) := by rw [HM.out, byte92, ← HB1.out, ← HB2.out, show (⟨#[120]⟩ : ByteArray) = ⟨[120].toArray⟩ from rfl, app2, app2, app2]; rfl
            exact ⟨k + 1, _, by have := HK.out; omega, rfl, by go_num, hqe, by rw [hqe]; exact HQ2.out, hE.out.trans_ HB.out⟩
      · have hm := HSN.out [c] (by unfold quote1; rw [if_neg c10, if_neg c34, if_neg c32])
        have HM := Lib.hid hm
        have z32 : decide ((c.toNat : Int) < 32) = false := decide_eq_false (by omega)
        have z126 : decide (126 < (c.toNat : Int)) = false := decide_eq_false (by omega)
        clear hm c10 c34 c32
        go_wp2_with (go_at_call 40; refine (byte_any _ _).mono ?_; rintro e w1 ⟨rfl, hq1⟩; have HB := Lib.hid hq1; clear hq1)
        go_roundg r
        case measure => omega
        case rel =>
          have hqe : q ++ byteS (c.toNat : Int) = quoS (s.data.toList.take (k + 1)) := by rw [HM.out, HC.out]
          exact ⟨k + 1, _, by have := HK.out; omega, rfl, by go_num, hqe, by rw [hqe]; exact HQ2.out, hE.out.trans_ HB.out⟩
    | zero =>
      obtain rfl : k = s.size := by omega
      have hltz : ¬ ((s.size : Nat) : Int) < (s.size : Int) := by omega
      have hfin : quotedP s = q ++ ⟨#[34]⟩ := by
        have h2 : s.data.toList.take s.size = s.data.toList := List.take_of_length_le (by simp)
        rw [hq.out, h2]
        show (⟨(34 :: (quotesP s.data.toList ++ [34])).toArray⟩ : ByteArray) = _
        rw [quoS_add]
      have HF := Lib.hid hfin
      clear hfin hk hq
      go_wp2
      go_ret
      exact ⟨by rw [HF.out]; rfl, hE.out⟩
theorem dash_any (s : ByteArray) (w : World) : Calls Tryd.prog 27 #[.string s] w fun e w' => e = .returned (.string (if s = ⟨#[]⟩ then ⟨#[45]⟩ else s)) ∧ w' = w := by
  by_cases h : s = ⟨#[]⟩
  · rw [if_pos h]
    subst h
    go_enter Tryd.func27, Tryd.ntmps27
    go_wp2
    go_ret
    exact ⟨rfl, rfl⟩
  · rw [if_neg h]
    have h1 := empty_no h
    go_enter Tryd.func27, Tryd.ntmps27
    go_wp2
    go_ret
    exact ⟨rfl, rfl⟩
end Go.Proofs.YtgjjkllngopboaaDoor
