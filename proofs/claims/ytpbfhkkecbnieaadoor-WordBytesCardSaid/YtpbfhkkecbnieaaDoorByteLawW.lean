/- The law WordBytes: its walks. -/
import Derived.Test.YtpbfhkkecbnieaaDoorRefWordB
import Derived.Test.YtpbfhkkecbnieaaDoorWord4
import Derived.Test.YtpbfhkkecbnieaaDoorLaidEnv
import Derived.Test.YtpbfhkkecbnieaaDoorTextP
namespace Go.Proofs.YtpbfhkkecbnieaaDoor
open Go.ChangeShapes Go.WideShapes Go.ChangeAt Go.RowKit
set_option linter.unusedVariables false
set_option linter.unusedSimpArgs false

theorem byteLaw_big (s : ByteArray) (n : Int) (hs : 2000 < s.size) (w : World) :
    Calls Tryd.prog 8 #[.string s, .int .i64 n] w fun e w' => e = .returned (.bool true) ∧ Ext w w' := by
  go_enter Tryd.func8, Tryd.ntmps8
  go_wp2_with (first
    | (go_at_call 20; refine (five_any _).mono ?_; rintro e w' ⟨rfl, rfl⟩))
  go_ret
  exact ⟨rfl, Ext.refl _⟩

/-- The cells of the words of a text. -/
theorem bytes_cell {w : World} {base b : Nat} {e : TypeId} {s : ByteArray} (h : w.ownsRow base e 1 (.slice (some ⟨b, 0, none⟩) ((s.size + 7) / 8) ((s.size + 7) / 8)) ((s.size + 7) / 8) (wcellsB (bytesW (bnums s)))) (j : Nat) (hj : j < (s.size + 7) / 8) :
    w.cell? ⟨b, j, none⟩ = some (.int .u64 (byteW (bnums s) j)) := by
  rw [h.cellAt j (by omega), wcellsB, bytesW, List.getElem?_map, List.getElem?_map, List.getElem?_range (by rw [bnums_len]; exact hj)]
  rfl
theorem bytes_lt {w : World} {base b : Nat} {e : TypeId} {s : ByteArray} (h : w.ownsRow base e 1 (.slice (some ⟨b, 0, none⟩) ((s.size + 7) / 8) ((s.size + 7) / 8)) ((s.size + 7) / 8) (wcellsB (bytesW (bnums s)))) : b < w.heap.size := (h.lt b rfl).2
theorem bytesW_in (s : ByteArray) (x : Int) (hx : x ∈ bytesW (bnums s)) : 0 ≤ x ∧ x ≤ 18446744073709551615 := by
  obtain ⟨i, _, rfl⟩ := List.mem_map.1 hx
  exact byteW_bound _ (bnums_bound s) i
theorem textN_walk (s : ByteArray) (q b c : Nat) (hs : s.size ≤ 2000) (hz : q ≤ 8 * ((s.size + 7) / 8)) (w : World) (hb : b < w.heap.size) (hc : ∀ j, j < (s.size + 7) / 8 → w.cell? ⟨b, j, none⟩ = some (.int .u64 (byteW (bnums s) j))) :
    Calls Tryd.prog 49 #[.slice (some ⟨b, 0, none⟩) ((s.size + 7) / 8) c, .int .i64 q] w fun e w' => e = .returned (.tuple #[.string (textN s q), .nilIface]) ∧ Ext w w' :=
  text_yes b 0 _ c (bytesW (bnums s)) q (by omega) hz (fun x hx => bytesW_in s x hx) w hb (fun j hj => by rw [Nat.zero_add, bytesW_getD _ _ (by rw [bnums_len]; exact hj)]; exact hc j hj)
theorem byte_in (s : ByteArray) (k : Nat) (hk : k < s.size) : byteW (bnums s) (k / 8) / 2 ^ (k % 8 * 8) % 256 = (s[k].toNat : Int) := by
  have := byteW_byte (bnums s) (bnums_bound s) k
  rw [bnums_at s k hk] at this
  rw [← this, p8, Nat.mul_comm]
theorem byte_out (s : ByteArray) (k : Nat) (hk : s.size ≤ k) : byteW (bnums s) (k / 8) / 2 ^ (k % 8 * 8) % 256 = 0 := by
  have := byteW_byte (bnums s) (bnums_bound s) k
  rw [List.getD_eq_getElem?_getD, List.getElem?_eq_none (by rw [bnums_len]; exact hk)] at this
  rw [p8, Nat.mul_comm] at this
  exact this

set_option maxRecDepth 100000 in
set_option maxHeartbeats 4000000 in
theorem byteLaw_no (s : ByteArray) (n : Int) (hs : s.size ≤ 2000) (hn : n < 0) (w : World) (E : Nat → Addr) (h : ErrEnv E w) :
    Calls Tryd.prog 8 #[.string s, .int .i64 n] w fun e w' => e = .returned (.bool true) ∧ Ext w w' := by
  have H := Lib.hid h
  clear h
  have hb := Ext.refl w
  go_enter Tryd.func8, Tryd.ntmps8
  go_wp2_with (first
    | (go_at_call 20; refine (five_any _).mono ?_; rintro e w' ⟨rfl, rfl⟩)
    | (go_at_call 48; refine (bytes_walk _ (by omega) _).mono ?_; rintro e wn ⟨rfl, hrow, hq⟩; have hlt := Lib.hid (bytes_lt hrow); replace hb := hb.trans_ hq; clear hq))
  have hcells := Lib.hid (fun j hj => bytes_cell hrow j hj)
  clear hrow
  go_loop [7] (fun i => ∃ k : Nat, k ≤ 8 * ((s.size + 7) / 8) ∧ i = .int .i64 k)
    (fun i => 8 * ((s.size + 7) / 8) - (intOf i).toNat)
  case atStart => exact ⟨0, Nat.zero_le _, rfl⟩
  case round =>
    obtain ⟨k, hk, rfl⟩ := hrel
    by_cases hlast : k < 8 * ((s.size + 7) / 8)
    · have hcell := hcells.out (k / 8) (by omega)
      have hbt := byteW_bound (bnums s) (bnums_bound s) (k / 8)
      have hk8 : k / 8 < (s.size + 7) / 8 := by omega
      by_cases hin : k < s.size
      · have ht : (byteW (bnums s) (k / 8) / 2 ^ (k % 8 * 8) % 256 != (s[k].toNat : Int)) = false := by rw [byte_in s k hin]; simp
        go_wp2
        refine ⟨⟨k + 1, by omega, by go_num⟩, by simp [intOf]; omega⟩
      · have hge : s.size ≤ k := by omega
        have ht : (byteW (bnums s) (k / 8) / 2 ^ (k % 8 * 8) % 256 != 0) = false := by rw [byte_out s k hge]; simp
        go_wp2
        refine ⟨⟨k + 1, by omega, by go_num⟩, by simp [intOf]; omega⟩
    · obtain rfl : k = 8 * ((s.size + 7) / 8) := by omega
      clear hk hlast
      go_wp2_with (first
        | (go_at_call 49; refine (text_no _ _ _ n (by omega) (Or.inl hn) _ _ (hb.cell_ H.out.bound)).mono ?_; rintro e wt ⟨rfl, hq⟩; replace hb := hb.trans_ hq; clear hq)
        | (go_at_call 43; refine (coded_env (H.out.ext hb) _ (by omega) _).mono ?_; rintro e wc ⟨rfl, hq⟩; replace hb := hb.trans_ hq; clear hq))
      go_ret
      exact ⟨rfl, hb⟩

set_option maxRecDepth 100000 in
set_option maxHeartbeats 4000000 in
theorem byteLaw_over (s : ByteArray) (n : Int) (hs : s.size ≤ 2000) (hn : 8 * (((s.size + 7) / 8 : Nat) : Int) < n) (w : World) (E : Nat → Addr) (h : ErrEnv E w) :
    Calls Tryd.prog 8 #[.string s, .int .i64 n] w fun e w' => e = .returned (.bool true) ∧ Ext w w' := by
  have H := Lib.hid h
  clear h
  have hb := Ext.refl w
  go_enter Tryd.func8, Tryd.ntmps8
  go_wp2_with (first
    | (go_at_call 20; refine (five_any _).mono ?_; rintro e w' ⟨rfl, rfl⟩)
    | (go_at_call 48; refine (bytes_walk _ (by omega) _).mono ?_; rintro e wn ⟨rfl, hrow, hq⟩; have hlt := Lib.hid (bytes_lt hrow); replace hb := hb.trans_ hq; clear hq))
  have hcells := Lib.hid (fun j hj => bytes_cell hrow j hj)
  clear hrow
  go_loop [7] (fun i => ∃ k : Nat, k ≤ 8 * ((s.size + 7) / 8) ∧ i = .int .i64 k)
    (fun i => 8 * ((s.size + 7) / 8) - (intOf i).toNat)
  case atStart => exact ⟨0, Nat.zero_le _, rfl⟩
  case round =>
    obtain ⟨k, hk, rfl⟩ := hrel
    by_cases hlast : k < 8 * ((s.size + 7) / 8)
    · have hcell := hcells.out (k / 8) (by omega)
      have hbt := byteW_bound (bnums s) (bnums_bound s) (k / 8)
      have hk8 : k / 8 < (s.size + 7) / 8 := by omega
      by_cases hin : k < s.size
      · have ht : (byteW (bnums s) (k / 8) / 2 ^ (k % 8 * 8) % 256 != (s[k].toNat : Int)) = false := by rw [byte_in s k hin]; simp
        go_wp2
        refine ⟨⟨k + 1, by omega, by go_num⟩, by simp [intOf]; omega⟩
      · have hge : s.size ≤ k := by omega
        have ht : (byteW (bnums s) (k / 8) / 2 ^ (k % 8 * 8) % 256 != 0) = false := by rw [byte_out s k hge]; simp
        go_wp2
        refine ⟨⟨k + 1, by omega, by go_num⟩, by simp [intOf]; omega⟩
    · obtain rfl : k = 8 * ((s.size + 7) / 8) := by omega
      clear hk hlast
      go_wp2_with (first
        | (go_at_call 49; refine (text_no _ _ _ n (by omega) (Or.inr (by omega)) _ _ (hb.cell_ H.out.bound)).mono ?_; rintro e wt ⟨rfl, hq⟩; replace hb := hb.trans_ hq; clear hq)
        | (go_at_call 43; refine (coded_env (H.out.ext hb) _ (by omega) _).mono ?_; rintro e wc ⟨rfl, hq⟩; replace hb := hb.trans_ hq; clear hq))
      go_ret
      exact ⟨rfl, hb⟩

set_option maxRecDepth 100000 in
set_option maxHeartbeats 4000000 in
theorem byteLaw_more (s : ByteArray) (n : Int) (hs : s.size ≤ 2000) (hn : (s.size : Int) < n ∧ n ≤ 8 * (((s.size + 7) / 8 : Nat) : Int)) (w : World) (E : Nat → Addr) (h : ErrEnv E w) :
    Calls Tryd.prog 8 #[.string s, .int .i64 n] w fun e w' => e = .returned (.bool true) ∧ Ext w w' := by
  obtain ⟨hn1, hn2⟩ := hn
  obtain ⟨q, rfl⟩ : ∃ q : Nat, n = q := ⟨n.toNat, by omega⟩
  have hz1 : s.size ≤ q := by omega
  have hz2 : q ≤ 8 * ((s.size + 7) / 8) := by omega
  have FT := Lib.hid (textN_extract s q s.size hz1 (Nat.le_refl _) hz2)
  have H := Lib.hid h
  clear h
  have hb := Ext.refl w
  go_enter Tryd.func8, Tryd.ntmps8
  go_wp2_with (first
    | (go_at_call 20; refine (five_any _).mono ?_; rintro e w' ⟨rfl, rfl⟩)
    | (go_at_call 48; refine (bytes_walk _ (by omega) _).mono ?_; rintro e wn ⟨rfl, hrow, hq⟩; have hlt := Lib.hid (bytes_lt hrow); replace hb := hb.trans_ hq; clear hq))
  have hcells := Lib.hid (fun j hj => bytes_cell hrow j hj)
  clear hrow
  go_loop [7] (fun i => ∃ k : Nat, k ≤ 8 * ((s.size + 7) / 8) ∧ i = .int .i64 k)
    (fun i => 8 * ((s.size + 7) / 8) - (intOf i).toNat)
  case atStart => exact ⟨0, Nat.zero_le _, rfl⟩
  case round =>
    obtain ⟨k, hk, rfl⟩ := hrel
    by_cases hlast : k < 8 * ((s.size + 7) / 8)
    · have hcell := hcells.out (k / 8) (by omega)
      have hbt := byteW_bound (bnums s) (bnums_bound s) (k / 8)
      have hk8 : k / 8 < (s.size + 7) / 8 := by omega
      by_cases hin : k < s.size
      · have ht : (byteW (bnums s) (k / 8) / 2 ^ (k % 8 * 8) % 256 != (s[k].toNat : Int)) = false := by rw [byte_in s k hin]; simp
        go_wp2
        refine ⟨⟨k + 1, by omega, by go_num⟩, by simp [intOf]; omega⟩
      · have hge : s.size ≤ k := by omega
        have ht : (byteW (bnums s) (k / 8) / 2 ^ (k % 8 * 8) % 256 != 0) = false := by rw [byte_out s k hge]; simp
        go_wp2
        refine ⟨⟨k + 1, by omega, by go_num⟩, by simp [intOf]; omega⟩
    · obtain rfl : k = 8 * ((s.size + 7) / 8) := by omega
      clear hk hlast
      have hsz := textN_size s q
      have hex := FT.out
      go_wp2_with (first
        | (go_at_call 49; refine (textN_walk s q _ _ (by omega) hz2 _ hlt.out hcells.out).mono ?_; rintro e wt ⟨rfl, hq⟩; replace hb := hb.trans_ hq; clear hq))
      go_ret
      exact ⟨rfl, hb⟩

set_option maxRecDepth 100000 in
set_option maxHeartbeats 4000000 in
theorem byteLaw_most (s : ByteArray) (n : Int) (hs : s.size ≤ 2000) (hn : 0 ≤ n ∧ n ≤ (s.size : Int)) (w : World) (E : Nat → Addr) (h : ErrEnv E w) :
    Calls Tryd.prog 8 #[.string s, .int .i64 n] w fun e w' => e = .returned (.bool true) ∧ Ext w w' := by
  obtain ⟨hn1, hn2⟩ := hn
  obtain ⟨q, rfl⟩ : ∃ q : Nat, n = q := ⟨n.toNat, by omega⟩
  have hz1 : q ≤ s.size := by omega
  have hz2 : q ≤ 8 * ((s.size + 7) / 8) := by omega
  have FT := Lib.hid (textN_extract s q q (Nat.le_refl _) hz1 hz2)
  have H := Lib.hid h
  clear h
  have hb := Ext.refl w
  go_enter Tryd.func8, Tryd.ntmps8
  go_wp2_with (first
    | (go_at_call 20; refine (five_any _).mono ?_; rintro e w' ⟨rfl, rfl⟩)
    | (go_at_call 48; refine (bytes_walk _ (by omega) _).mono ?_; rintro e wn ⟨rfl, hrow, hq⟩; have hlt := Lib.hid (bytes_lt hrow); replace hb := hb.trans_ hq; clear hq))
  have hcells := Lib.hid (fun j hj => bytes_cell hrow j hj)
  clear hrow
  go_loop [7] (fun i => ∃ k : Nat, k ≤ 8 * ((s.size + 7) / 8) ∧ i = .int .i64 k)
    (fun i => 8 * ((s.size + 7) / 8) - (intOf i).toNat)
  case atStart => exact ⟨0, Nat.zero_le _, rfl⟩
  case round =>
    obtain ⟨k, hk, rfl⟩ := hrel
    by_cases hlast : k < 8 * ((s.size + 7) / 8)
    · have hcell := hcells.out (k / 8) (by omega)
      have hbt := byteW_bound (bnums s) (bnums_bound s) (k / 8)
      have hk8 : k / 8 < (s.size + 7) / 8 := by omega
      by_cases hin : k < s.size
      · have ht : (byteW (bnums s) (k / 8) / 2 ^ (k % 8 * 8) % 256 != (s[k].toNat : Int)) = false := by rw [byte_in s k hin]; simp
        go_wp2
        refine ⟨⟨k + 1, by omega, by go_num⟩, by simp [intOf]; omega⟩
      · have hge : s.size ≤ k := by omega
        have ht : (byteW (bnums s) (k / 8) / 2 ^ (k % 8 * 8) % 256 != 0) = false := by rw [byte_out s k hge]; simp
        go_wp2
        refine ⟨⟨k + 1, by omega, by go_num⟩, by simp [intOf]; omega⟩
    · obtain rfl : k = 8 * ((s.size + 7) / 8) := by omega
      clear hk hlast
      have hsz := textN_size s q
      have FQ : Hid (textN s q = s.extract 0 q) := by
        have h1 : (textN s q).extract 0 (textN s q).size = textN s q := by simp
        rw [hsz, FT.out] at h1
        exact h1.symm
      go_wp2_with (first
        | (go_at_call 49; refine (textN_walk s q _ _ (by omega) hz2 _ hlt.out hcells.out).mono ?_; rintro e wt ⟨rfl, hq⟩; replace hb := hb.trans_ hq; clear hq))
      go_ret
      exact ⟨by rw [FQ.out]; simp, hb⟩
theorem byteLaw_any (s : ByteArray) (n : Int) (w : World) (E : Nat → Addr) (h : ErrEnv E w) :
    Calls Tryd.prog 8 #[.string s, .int .i64 n] w fun e w' => e = .returned (.bool true) ∧ Ext w w' := by
  by_cases hs : s.size ≤ 2000
  · by_cases h1 : n < 0
    · exact byteLaw_no s n hs h1 w E h
    · by_cases h2 : 8 * (((s.size + 7) / 8 : Nat) : Int) < n
      · exact byteLaw_over s n hs h2 w E h
      · by_cases h3 : (s.size : Int) < n
        · exact byteLaw_more s n hs ⟨h3, by omega⟩ w E h
        · exact byteLaw_most s n hs ⟨by omega, by omega⟩ w E h
  · exact byteLaw_big s n (by omega) w
end Go.Proofs.YtpbfhkkecbnieaaDoor
