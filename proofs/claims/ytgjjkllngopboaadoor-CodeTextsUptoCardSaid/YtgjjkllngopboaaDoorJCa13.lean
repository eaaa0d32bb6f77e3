/- Code's text, part by part: sizes, one part more. -/
import Derived.Test.YtgjjkllngopboaaDoorJCa12
import Derived.Test.YtgjjkllngopboaaDoorJCa05
import Derived.Lib.AppendStr
import Derived.Deep.LoopGhost
namespace Go.Proofs.YtgjjkllngopboaaDoor
set_option linter.unusedVariables false
set_option linter.unusedSimpArgs false

theorem eachP_mono {α : Type} (g : Nat → α → ByteArray) : ∀ (l : List α) (i : Nat) (out : ByteArray), out.size ≤ (eachP g i l out).size
  | [], _, _ => Nat.le_refl _
  | x :: r, i, out => by
    have := eachP_mono g r (i + 1) (out ++ g i x)
    rw [ByteArray.size_append] at this
    exact Nat.le_trans (by omega) this
theorem eachP_part {α : Type} (g : Nat → α → ByteArray) : ∀ (l : List α) (i : Nat) (out : ByteArray) (k : Nat), (eachP g i (l.take k) out).size ≤ (eachP g i l out).size
  | [], _, _, k => by simp
  | x :: r, i, out, 0 => eachP_mono g _ i out
  | x :: r, i, out, k + 1 => eachP_part g r (i + 1) _ k
theorem opsP_mono (l : List OpP) (k : Nat) (out : ByteArray) : out.size ≤ (opsP k l out).size := by rw [opsP_each]; exact eachP_mono _ _ _ _
theorem opsP_part (l : List OpP) (out : ByteArray) (j : Nat) : (opsP 0 (l.take j) out).size ≤ (opsP 0 l out).size := by rw [opsP_each, opsP_each]; exact eachP_part _ _ _ _ _
theorem opsP_snoc (l : List OpP) (j : Nat) (out : ByteArray) (hj : j < l.length) : opsP 0 (l.take (j + 1)) out = opsP 0 (l.take j) out ++ opLine j l[j] := by
  rw [opsP_each, opsP_each, eachP_snoc _ _ _ _ _ hj, Nat.zero_add]
theorem fnsP_mono : ∀ (l : List FnP) (i : Nat) (out : ByteArray), out.size ≤ (fnsP i l out).size
  | [], _, _ => Nat.le_refl _
  | f :: r, i, out => by
    have h1 := fnsP_mono r (i + 1) (opsP 0 f.ops (out ++ fnLine i f))
    have h2 := opsP_mono f.ops 0 (out ++ fnLine i f)
    rw [ByteArray.size_append] at h2
    exact Nat.le_trans (by omega) h1
theorem fnsP_part : ∀ (l : List FnP) (i : Nat) (out : ByteArray) (k : Nat), (fnsP i (l.take k) out).size ≤ (fnsP i l out).size
  | [], _, _, k => by simp
  | x :: r, i, out, 0 => fnsP_mono _ i out
  | x :: r, i, out, k + 1 => fnsP_part r (i + 1) _ k
theorem fnsP_snoc : ∀ (l : List FnP) (i k : Nat) (out : ByteArray) (hk : k < l.length), fnsP i (l.take (k + 1)) out = opsP 0 (l[k]).ops (fnsP i (l.take k) out ++ fnLine (i + k) l[k])
  | [], _, _, _, h => by simp at h
  | x :: l, i, 0, out, h => by simp [fnsP]
  | x :: l, i, k + 1, out, h => by
    have h' : k < l.length := by simpa using h
    have := fnsP_snoc l (i + 1) k (opsP 0 x.ops (out ++ fnLine i x)) h'
    simp only [List.take_succ_cons, fnsP, List.getElem_cons_succ]
    rw [this]
    congr 3
    omega
/-- The four parts, one behind the other. -/
def partA (c : CodeP) : ByteArray := fnsP 0 c.funcs ⟨#[]⟩
def partB (c : CodeP) : ByteArray := eachP intLine 0 c.ints (partA c)
def partC (c : CodeP) : ByteArray := eachP strLine 0 c.strs (partB c)
theorem parts_le (c : CodeP) : (partA c).size ≤ (partB c).size ∧ (partB c).size ≤ (partC c).size ∧ (partC c).size ≤ (textC c).size :=
  ⟨eachP_mono _ _ _ _, eachP_mono _ _ _ _, eachP_mono _ _ _ _⟩
/-- A function's lines within the first part. -/
theorem fn_part (c : CodeP) (k : Nat) (hk : k < c.funcs.length) : (fnsP 0 (c.funcs.take k) ⟨#[]⟩ ++ fnLine k c.funcs[k]).size ≤ (partA c).size ∧ ∀ j, (opsP 0 ((c.funcs[k]).ops.take j) (fnsP 0 (c.funcs.take k) ⟨#[]⟩ ++ fnLine k c.funcs[k])).size ≤ (partA c).size := by
  have h1 := fnsP_part c.funcs 0 ⟨#[]⟩ (k + 1)
  rw [fnsP_snoc c.funcs 0 k _ hk, Nat.zero_add] at h1
  refine ⟨Nat.le_trans (opsP_mono _ 0 _) h1, fun j => Nat.le_trans (opsP_part _ _ j) h1⟩
open Go.RowKit

theorem infoU8 : (Tryd.prog.info? 5).map (fun i => (i.zero, i.size, i.bytes)) = some (some (.int .u8 0), 1, 1) := by kernel_rfl
theorem undU8 : Tryd.prog.underlying 55 = some (.slice 5) := by kernel_rfl
/-- Bytes as cells. -/
def bcs (l : List UInt8) : List Value := l.map fun c => Value.int .u8 (c.toNat : Int)
theorem bcs_app (a b : List UInt8) : bcs (a ++ b) = bcs a ++ bcs b := by simp [bcs]
theorem bcs_len (l : List UInt8) : (bcs l).length = l.length := by simp [bcs]
theorem bcs_one (l : List UInt8) : ∀ u ∈ bcs l, u.oneCell' = true := by
  intro u hu
  obtain ⟨x, _, rfl⟩ := List.mem_map.1 hu
  rfl
theorem own_form {w : World} {B : Nat} {e : TypeId} {size : Nat} {v : Value} {n : Nat} {xs : List Value} (h : w.ownsRow B e size v n xs) : ∃ a c, v = .slice a n c := by
  rcases h.2 with ⟨rfl, rfl⟩ | ⟨g, cap, cur, rfl, _⟩
  · exact ⟨_, _, rfl⟩
  · exact ⟨_, _, rfl⟩
def nums8 (l : List UInt8) : List Int := l.map fun c => (c.toNat : Int)
theorem nums8_len (l : List UInt8) : (nums8 l).length = l.length := by simp [nums8]
theorem strOf_bytes (l : List UInt8) : strOfNums (nums8 l) = ⟨l.toArray⟩ := by
  unfold strOfNums nums8
  rw [List.map_map]
  congr 2
  conv => rhs; rw [← List.map_id l]
  apply List.map_congr_left
  intro x _
  simp
theorem own_bytes {w : World} {B : Nat} {a : Option Addr} {c n : Nat} {l : List UInt8} (h : w.ownsRow B 5 1 (.slice a n c) n (bcs l)) (hn : 0 < n) :
    n = l.length ∧ ∃ g, a = some ⟨g, 0, none⟩ ∧ ∀ i, i < n → w.cell? ⟨g, 0 + i, none⟩ = some (.int .u8 ((nums8 l).getD i 0)) := by
  have h1 := h.1
  rw [bcs_len] at h1
  rcases h.2 with ⟨_, h2⟩ | ⟨g, cap, cur, hv, _, hg, _, _, _, ht⟩
  · omega
  · injection hv with h3 _ h5
    subst h3
    refine ⟨by omega, g, rfl, fun i hi => ?_⟩
    rw [Nat.zero_add, cell_of_row w g i cur _ _ hg]
    have : (bcs l)[i]? = some (.int .u8 ((nums8 l).getD i 0)) := by
      have hil : i < l.length := by omega
      simp [bcs, nums8, List.getD_eq_getElem?_getD, hil]
    rw [← ht, List.getElem?_take] at this
    split at this
    · simpa using this
    · cases this
theorem rsl_cells (w : World) (e : TypeId) (a : Array Value) : RSl (w.alloc (.cells a e)) (some ⟨w.heap.size, 0, none⟩) a.toList := fun j u hu => by
  refine ⟨_, _, rfl, ?_⟩
  rw [Nat.zero_add, cell_of_row _ _ j a e (0, 0) (heap_alloc_new w _)]
  simpa using hu
theorem and8 : ∀ c : Fin 256, bits BinOp.and IntKind.u8 (c.val : Int) 15 = (c.val : Int) % 16 := by decide +kernel
abbrev hexLit : ByteArray := ⟨#[48, 49, 50, 51, 52, 53, 54, 55, 56, 57, 97, 98, 99, 100, 101, 102]⟩
theorem hex_byte : ∀ v : Fin 16, (hexLit[v.val]'(by have := v.isLt; exact this)).toNat = (hexDigP v.val).toNat := by decide +kernel
theorem hex_at (v : Nat) (hv : v < 16) (W : World) : (Instr.index 9 (.string hexLit) (.int .u8 (v : Int))).run Tryd.prog W = .ok (.int .u8 ((hexDigP v).toNat : Int)) W := by
  rw [← hex_byte ⟨v, hv⟩]
  rw [run_index_string (P := Tryd.prog) W 9 hexLit .u8 (v : Int) (Tryd.underlying9), dif_pos ⟨by omega, by show (v : Int) < 16; omega⟩]
  simp
theorem grown_extB {w w1 w2 : World} {r : Option Nat} (h : Ext w w1) (hg : w1.grownBy w2 r) (hr : ∀ k, r = some k → w.heap.size ≤ k) : Ext w w2 := Below.grown h hg h.size hr
theorem own_extB {w w' : World} {B : Nat} {e : TypeId} {size : Nat} {v : Value} {n : Nat} {xs : List Value} (h : w.ownsRow B e size v n xs) (hx : Ext w w') : w'.ownsRow B e size v n xs := by
  obtain ⟨h1, h2⟩ := h
  refine ⟨h1, ?_⟩
  rcases h2 with h2 | ⟨g, cap, cur, hv, hg, hh, r⟩
  · exact Or.inl h2
  · exact Or.inr ⟨g, cap, cur, hv, hg, by rw [Below.block hx g (lt_of_block hh)]; exact hh, r⟩
theorem own_made1 (W : World) (e : TypeId) (x : Value) : (W.alloc (.cells #[x] e)).ownsRow W.heap.size e 1 (.slice (some ⟨W.heap.size, 0, none⟩) 1 1) 1 [x] :=
  ⟨by simp, Or.inr ⟨W.heap.size, 1, #[x], rfl, Nat.le_refl _, heap_alloc_new W _, Nat.le_refl _, by unfold maxLen; omega, by simp, by simp⟩⟩
set_option maxRecDepth 100000 in
set_option maxHeartbeats 8000000 in
theorem quote_any (s : ByteArray) (w : World) (hs : s.size ≤ 17592186044416) :
    Calls Tryd.prog 24 #[.string s] w fun e w' => e = .returned (.string (quotedP s)) ∧ Ext w w' := by
  obtain ⟨i0, hii, hz0, hz1, hz2⟩ := info_parts infoU8
  have hdl : s.data.toList.length = s.size := by simp
  go_enter Tryd.func24, Tryd.ntmps24
  go_upto_region 3 with fail
  go_loopg [9, 3] (s.size) (fun r i v wr => ∃ (k : Nat) (a : Option Addr) (n cp : Nat) (L : List UInt8), k + r = s.size ∧ i = .int .i64 (k : Int) ∧ v = .slice a n cp ∧ Hid (wr.ownsRow w.heap.size 5 1 (.slice a n cp) n (bcs L)) ∧ Hid (L = 34 :: quotesP (s.data.toList.take k)) ∧ (1 ≤ n ∧ n ≤ 4 * k + 1) ∧ Hid (Ext w wr))
  case atStart => exact ⟨0, _, 1, 1, [34], by omega, rfl, rfl, own_made1 w _ _, rfl, by omega, (Ext.refl w).alloc_ _⟩
  case round =>
    obtain ⟨k, a, n, cp, L, hk, rfl, rfl, hO, hL, ⟨hn1, hn2⟩, hE⟩ := hrel
    have hsz : Hid (w.heap.size ≤ wr.heap.size) := hE.out.size
    cases gk with
    | zero =>
      obtain rfl : k = s.size := by omega
      have hltz : ¬ ((s.size : Nat) : Int) < (s.size : Int) := by omega
      have HK := Lib.hid hk
      have hLf : Hid (L = 34 :: quotesP s.data.toList) := by
        have := hL.out
        rw [← hdl, List.take_length] at this
        exact this
      clear hk
      go_wp2_with (at_builtin; refine wpList_append_src rfl _ _ 55 rfl w.heap.size 5 i0 (.int .u8 0) 1 1 undU8 hii hz0 hz1 hz2 rfl (by decide) (.slice a n cp) n (bcs L) rfl (own_extB hO.out ((Ext.refl _).alloc_ _)) (some ⟨wr.heap.size, 0, none⟩) 1 1 (bcs [34]) rfl (fun h => by cases h) (Nat.le_refl _) rfl (rsl_cells wr _ _) (bcs_one _) (by unfold maxLen; omega) (by omega) (by have := hsz.out; simp; omega) ?_; intro a2 c2 w2 hO2 hG2 hv2; have HX2 : Hid (Ext w w2) := grown_extB (hE.out.alloc_ _) hG2 (fun g hg => (hO.out.lt g hg).1); rw [← bcs_app] at hO2; obtain ⟨e1, g, e2, e3⟩ := own_bytes hO2 (by omega); subst e2; have e4 : (nums8 (L ++ [34])).length = n + 1 := (nums8_len _).trans e1.symm; have hconv := run_convert_bytes_arg (P := Tryd.prog) w2 55 5 undU8 (by kernel_rfl) g 0 (n + 1) c2 _ e4 e3 9 (by kernel_rfl); clear hO2 hG2 hv2 e3 e1 e4)
      go_ret
      refine ⟨?_, HX2.out⟩
      show Ending.returned (.string (strOfNums (nums8 (L ++ [34])))) = _
      rw [strOf_bytes, hLf.out]
      rfl
    | succ r =>
      have hlt : k < s.size := by omega
      have hltz : (k : Int) < (s.size : Int) := by omega
      have hc : s.data.toList[k]'(by rw [hdl]; exact hlt) = s[k] := by simp; rfl
      have hsn := quotesP_snoc s.data.toList k (by rw [hdl]; exact hlt)
      rw [hc] at hsn
      have hb := s[k].toNat_lt
      have HSN := Lib.hid hsn
      have HK := Lib.hid hk
      have hR2 : Hid (∀ (t : List UInt8) , t = quote1 s[k] → L ++ t = 34 :: quotesP (s.data.toList.take (k + 1))) := fun t ht => by rw [hL.out, ht, HSN.out]; rfl
      clear hsn hk hc
      by_cases c10 : s[k].toNat = 10
      · have z10 : ((s[k].toNat : Int) == 10) = true := by rw [c10]; rfl
        have hR3 := Lib.hid (hR2.out [92, 110] (by unfold quote1; rw [if_pos c10]))
        have C10 := Lib.hid c10
        clear c10
        go_wp2_with (at_builtin; refine Lib.wpList_append_own_string _ rfl _ _ 55 9 rfl w.heap.size 5 i0 undU8 (by kernel_rfl) hii hz0 hz1 hz2 (.slice a n cp) n (bcs L) rfl hO.out ⟨#[92, 110]⟩ rfl (by unfold maxLen; show n + 2 ≤ _; omega) (by show n + 2 ≤ _; omega) hsz.out ?_; intro v2 w2 hO2 hG2 hv2; obtain ⟨a2, c2, e2⟩ := own_form hO2; subst e2; have HX2 : Hid (Ext w w2) := grown_extB hE.out hG2 (fun g hg => (hO.out.lt g hg).1); have e3 : Lib.strCells ⟨#[92, 110]⟩ = bcs [92, 110] := (by rw [Lib.strCells_eq]; rfl); rw [e3, ← bcs_app] at hO2; have HO2 := Lib.hid hO2; clear hO2 hG2 hv2 e3)
        go_roundg r
        case measure => omega
        case rel => exact ⟨k + 1, a2, n + 2, c2, _, by have := HK.out; omega, by go_num, rfl, HO2.out, hR3.out, by omega, HX2.out⟩
      have z10 : ((s[k].toNat : Int) == 10) = false := by simp; omega
      by_cases c34 : s[k].toNat = 34 ∨ s[k].toNat = 92
      · have hR3 := Lib.hid (hR2.out [92, s[k]] (by unfold quote1; rw [if_neg c10, if_pos c34]))
        rcases c34 with c34 | c34
        · have z34 : ((s[k].toNat : Int) == 34) = true := by rw [c34]; rfl
          have C34 := Lib.hid c34
          clear c34 c10
          go_wp2_with (at_builtin; refine wpList_append_src rfl _ _ 55 rfl w.heap.size 5 i0 (.int .u8 0) 1 1 undU8 hii hz0 hz1 hz2 rfl (by decide) (.slice a n cp) n (bcs L) rfl (own_extB hO.out ((Ext.refl _).alloc_ _)) (some ⟨wr.heap.size, 0, none⟩) 2 2 (bcs [92, s[k]]) rfl (fun h => by cases h) (Nat.le_refl _) rfl (rsl_cells wr _ _) (bcs_one _) (by unfold maxLen; omega) (by omega) (by have := hsz.out; simp; omega) ?_; intro a2 c2 w2 hO2 hG2 hv2; have HX2 : Hid (Ext w w2) := grown_extB (hE.out.alloc_ _) hG2 (fun g hg => (hO.out.lt g hg).1); rw [← bcs_app] at hO2; have HO2 := Lib.hid hO2; clear hO2 hG2 hv2)
          go_roundg r
          case measure => omega
          case rel => exact ⟨k + 1, a2, n + 2, c2, _, by have := HK.out; omega, by go_num, rfl, HO2.out, hR3.out, by omega, HX2.out⟩
        · have z34 : ((s[k].toNat : Int) == 34) = false := by rw [c34]; rfl
          have z92 : ((s[k].toNat : Int) == 92) = true := by rw [c34]; rfl
          have C34 := Lib.hid c34
          clear c34 c10
          go_wp2_with (at_builtin; refine wpList_append_src rfl _ _ 55 rfl w.heap.size 5 i0 (.int .u8 0) 1 1 undU8 hii hz0 hz1 hz2 rfl (by decide) (.slice a n cp) n (bcs L) rfl (own_extB hO.out ((Ext.refl _).alloc_ _)) (some ⟨wr.heap.size, 0, none⟩) 2 2 (bcs [92, s[k]]) rfl (fun h => by cases h) (Nat.le_refl _) rfl (rsl_cells wr _ _) (bcs_one _) (by unfold maxLen; omega) (by omega) (by have := hsz.out; simp; omega) ?_; intro a2 c2 w2 hO2 hG2 hv2; have HX2 : Hid (Ext w w2) := grown_extB (hE.out.alloc_ _) hG2 (fun g hg => (hO.out.lt g hg).1); rw [← bcs_app] at hO2; have HO2 := Lib.hid hO2; clear hO2 hG2 hv2)
          go_roundg r
          case measure => omega
          case rel => exact ⟨k + 1, a2, n + 2, c2, _, by have := HK.out; omega, by go_num, rfl, HO2.out, hR3.out, by omega, HX2.out⟩
      have z34 : ((s[k].toNat : Int) == 34) = false := by simp; omega
      have z92 : ((s[k].toNat : Int) == 92) = false := by simp; omega
      by_cases c32 : s[k].toNat < 32 ∨ 126 < s[k].toNat
      · have hR3 := Lib.hid (hR2.out [92, 120, hexDigP (s[k].toNat / 16), hexDigP (s[k].toNat % 16)] (by unfold quote1; rw [if_neg c10, if_neg c34, if_pos c32]))
        have hsm : s[k].toNat < 256 := hb
        have b8 : bits BinOp.and IntKind.u8 (s[k].toNat : Int) 15 = (s[k].toNat : Int) % 16 := and8 ⟨s[k].toNat, hsm⟩
        have i1 : ∀ W : World, (Instr.index 9 (.string ⟨#[48, 49, 50, 51, 52, 53, 54, 55, 56, 57, 97, 98, 99, 100, 101, 102]⟩) (.int .u8 ((s[k].toNat : Int) / 16))).run Tryd.prog W = .ok (.int .u8 ((hexDigP (s[k].toNat / 16)).toNat : Int)) W := fun W => by
          have := hex_at (s[k].toNat / 16) (by omega) W
          rw [show ((s[k].toNat / 16 : Nat) : Int) = (s[k].toNat : Int) / 16 by omega] at this
          exact this
        have i2 : ∀ W : World, (Instr.index 9 (.string ⟨#[48, 49, 50, 51, 52, 53, 54, 55, 56, 57, 97, 98, 99, 100, 101, 102]⟩) (.int .u8 ((s[k].toNat : Int) % 16))).run Tryd.prog W = .ok (.int .u8 ((hexDigP (s[k].toNat % 16)).toNat : Int)) W := fun W => by
          have := hex_at (s[k].toNat % 16) (by omega) W
          rw [show ((s[k].toNat % 16 : Nat) : Int) = (s[k].toNat : Int) % 16 by omega] at this
          exact this
        have I1 := Lib.hid i1
        have I2 := Lib.hid i2
        generalize hexDigP (s[k].toNat / 16) = h1 at *
        generalize hexDigP (s[k].toNat % 16) = h2 at *
        clear c10 c34 i1 i2
        by_cases c33 : s[k].toNat < 32
        · have z32 : decide ((s[k].toNat : Int) < 32) = true := decide_eq_true (by omega)
          clear c32 c33
          go_upto_region 12 with fail
          refine wp_region_held_drew (S := fun W => True) (by kernel_rfl) ?_ (fun hHeld => ?_)
          · trivial
          refine tk 0 ⟨some 42, _, _, _, _, _⟩ ?_ rfl ?_ ?_
          rotate_left
          · (intro w hSw; (try dsimp only at hSw); go_simp; try with_reducible rfl)
          try simp only [tkS]
          refine tk 1 ⟨some 43, _, _, _, _, _⟩ ?_ rfl ?_ ?_
          rotate_left
          · (intro w hSw; (try dsimp only at hSw); go_simp; try with_reducible rfl)
          try simp only [tkS]
          refine tk 2 ⟨some 44, _, _, _, _, _⟩ ?_ rfl ?_ ?_
          rotate_left
          · (intro w hSw; (try dsimp only at hSw); go_simp; try with_reducible rfl)
          try simp only [tkS]
          refine tk 3 ⟨some 45, _, _, _, _, _⟩ ?_ rfl ?_ ?_
          rotate_left
          · (intro w hSw; have hlk := I1.out w; go_simp; try with_reducible rfl)
          try simp only [tkS]
          refine tk 4 ⟨some 46, _, _, _, _, _⟩ ?_ rfl ?_ ?_
          rotate_left
          · (intro w hSw; (try dsimp only at hSw); go_simp; try with_reducible rfl)
          try simp only [tkS]
          refine tk 5 ⟨some 47, _, _, _, _, _⟩ ?_ rfl ?_ ?_
          rotate_left
          · (intro w hSw; (try dsimp only at hSw); go_simp; try with_reducible rfl)
          try simp only [tkS]
          try rw [b8]
          refine tk 6 ⟨some 48, _, _, _, _, _⟩ ?_ rfl ?_ ?_
          rotate_left
          · (intro w hSw; have hlk := I2.out w; go_simp; try with_reducible rfl)
          try simp only [tkS]
          refine wpAnyH_ready (rs := [7]) (by kernel_rfl) (by simp) ?_
          refine AllReadyH.cons (o := ⟨some 49, _, _, _, _, _⟩) rfl (fun K hK => ?_) AllReadyH.nil
          go_simp
          skip
          refine hK.out _ _ ?_ (fun hHeld => ?_)
          · (try dsimp only); first | done | trivial
          clear hK K
          try simp only [tkS]
          refine wpAnyH_ready (rs := [8]) (by kernel_rfl) (by simp) ?_
          refine AllReadyH.cons (o := ⟨some 50, _, _, _, _, _⟩) rfl (fun K hK => ?_) AllReadyH.nil
          refine step_append_src (by rfl) _ _ 55 (by rfl) w.heap.size 5 i0 (.int .u8 0) 1 1 undU8 hii hz0 hz1 hz2 (by rfl) (by decide) (.slice a n cp) n (bcs L) (by rfl) (own_extB hO.out ((Ext.refl wr).drew_.alloc_ _)) (some ⟨wr.heap.size, 0, none⟩) 4 4 (bcs [92, 120, h1, h2]) (by rfl) (fun h => by cases h) (Nat.le_refl _) (by rfl) (rsl_cells wr.drew _ _) (bcs_one _) (by unfold maxLen; omega) (by omega) (by have h1 := hsz.out; have h2 : wr.drew.heap.size = wr.heap.size := rfl; simp; omega) ?_
          intro a2 c2 w2 hO2 hG2 hv2
          have HX2 : Hid (Ext w w2) := grown_extB (hE.out.drew_.alloc_ _) hG2 (fun g hg => (hO.out.lt g hg).1)
          rw [← bcs_app] at hO2
          have HO2 := Lib.hid hO2
          clear hO2 hG2 hv2
          refine hK.out _ _ ?_ (fun hHeld => ?_)
          · trivial
          clear hK K
          try simp only [tkS]
          refine tk 9 ⟨some 3, _, _, _, _, _⟩ ?_ rfl ?_ ?_
          rotate_left
          · (intro w hSw; (try dsimp only at hSw); go_simp; try with_reducible rfl)
          try simp only [tkS]
          refine wpAnyH_done (by kernel_rfl) ?_ _
          clear hHeld
          go_wp2
          go_roundg r
          case measure => omega
          case rel => exact ⟨k + 1, a2, n + 4, c2, _, by have := HK.out; omega, by go_num, rfl, HO2.out, hR3.out, by omega, HX2.out⟩
        · have z32 : decide ((s[k].toNat : Int) < 32) = false := decide_eq_false (by omega)
          have z126 : decide (126 < (s[k].toNat : Int)) = true := decide_eq_true (by omega)
          clear c32 c33
          go_upto_region 12 with fail
          refine wp_region_held_drew (S := fun W => True) (by kernel_rfl) ?_ (fun hHeld => ?_)
          · trivial
          refine tk 0 ⟨some 42, _, _, _, _, _⟩ ?_ rfl ?_ ?_
          rotate_left
          · (intro w hSw; (try dsimp only at hSw); go_simp; try with_reducible rfl)
          try simp only [tkS]
          refine tk 1 ⟨some 43, _, _, _, _, _⟩ ?_ rfl ?_ ?_
          rotate_left
          · (intro w hSw; (try dsimp only at hSw); go_simp; try with_reducible rfl)
          try simp only [tkS]
          refine tk 2 ⟨some 44, _, _, _, _, _⟩ ?_ rfl ?_ ?_
          rotate_left
          · (intro w hSw; (try dsimp only at hSw); go_simp; try with_reducible rfl)
          try simp only [tkS]
          refine tk 3 ⟨some 45, _, _, _, _, _⟩ ?_ rfl ?_ ?_
          rotate_left
          · (intro w hSw; have hlk := I1.out w; go_simp; try with_reducible rfl)
          try simp only [tkS]
          refine tk 4 ⟨some 46, _, _, _, _, _⟩ ?_ rfl ?_ ?_
          rotate_left
          · (intro w hSw; (try dsimp only at hSw); go_simp; try with_reducible rfl)
          try simp only [tkS]
          refine tk 5 ⟨some 47, _, _, _, _, _⟩ ?_ rfl ?_ ?_
          rotate_left
          · (intro w hSw; (try dsimp only at hSw); go_simp; try with_reducible rfl)
          try simp only [tkS]
          try rw [b8]
          refine tk 6 ⟨some 48, _, _, _, _, _⟩ ?_ rfl ?_ ?_
          rotate_left
          · (intro w hSw; have hlk := I2.out w; go_simp; try with_reducible rfl)
          try simp only [tkS]
          refine wpAnyH_ready (rs := [7]) (by kernel_rfl) (by simp) ?_
          refine AllReadyH.cons (o := ⟨some 49, _, _, _, _, _⟩) rfl (fun K hK => ?_) AllReadyH.nil
          go_simp
          skip
          refine hK.out _ _ ?_ (fun hHeld => ?_)
          · (try dsimp only); first | done | trivial
          clear hK K
          try simp only [tkS]
          refine wpAnyH_ready (rs := [8]) (by kernel_rfl) (by simp) ?_
          refine AllReadyH.cons (o := ⟨some 50, _, _, _, _, _⟩) rfl (fun K hK => ?_) AllReadyH.nil
          refine step_append_src (by rfl) _ _ 55 (by rfl) w.heap.size 5 i0 (.int .u8 0) 1 1 undU8 hii hz0 hz1 hz2 (by rfl) (by decide) (.slice a n cp) n (bcs L) (by rfl) (own_extB hO.out ((Ext.refl wr).drew_.alloc_ _)) (some ⟨wr.heap.size, 0, none⟩) 4 4 (bcs [92, 120, h1, h2]) (by rfl) (fun h => by cases h) (Nat.le_refl _) (by rfl) (rsl_cells wr.drew _ _) (bcs_one _) (by unfold maxLen; omega) (by omega) (by have h1 := hsz.out; have h2 : wr.drew.heap.size = wr.heap.size := rfl; simp; omega) ?_
          intro a2 c2 w2 hO2 hG2 hv2
          have HX2 : Hid (Ext w w2) := grown_extB (hE.out.drew_.alloc_ _) hG2 (fun g hg => (hO.out.lt g hg).1)
          rw [← bcs_app] at hO2
          have HO2 := Lib.hid hO2
          clear hO2 hG2 hv2
          refine hK.out _ _ ?_ (fun hHeld => ?_)
          · trivial
          clear hK K
          try simp only [tkS]
          refine tk 9 ⟨some 3, _, _, _, _, _⟩ ?_ rfl ?_ ?_
          rotate_left
          · (intro w hSw; (try dsimp only at hSw); go_simp; try with_reducible rfl)
          try simp only [tkS]
          refine wpAnyH_done (by kernel_rfl) ?_ _
          clear hHeld
          go_wp2
          go_roundg r
          case measure => omega
          case rel => exact ⟨k + 1, a2, n + 4, c2, _, by have := HK.out; omega, by go_num, rfl, HO2.out, hR3.out, by omega, HX2.out⟩
      · have hR3 := Lib.hid (hR2.out [s[k]] (by unfold quote1; rw [if_neg c10, if_neg c34, if_neg c32]))
        have z32 : decide ((s[k].toNat : Int) < 32) = false := decide_eq_false (by omega)
        have z126 : decide (126 < (s[k].toNat : Int)) = false := decide_eq_false (by omega)
        clear c10 c34 c32
        go_wp2_with (at_builtin; refine wpList_append_src rfl _ _ 55 rfl w.heap.size 5 i0 (.int .u8 0) 1 1 undU8 hii hz0 hz1 hz2 rfl (by decide) (.slice a n cp) n (bcs L) rfl (own_extB hO.out ((Ext.refl _).alloc_ _)) (some ⟨wr.heap.size, 0, none⟩) 1 1 (bcs [s[k]]) rfl (fun h => by cases h) (Nat.le_refl _) rfl (rsl_cells wr _ _) (bcs_one _) (by unfold maxLen; omega) (by omega) (by have := hsz.out; simp; omega) ?_; intro a2 c2 w2 hO2 hG2 hv2; have HX2 : Hid (Ext w w2) := grown_extB (hE.out.alloc_ _) hG2 (fun g hg => (hO.out.lt g hg).1); rw [← bcs_app] at hO2; have HO2 := Lib.hid hO2; clear hO2 hG2 hv2)
        go_roundg r
        case measure => omega
        case rel => exact ⟨k + 1, a2, n + 1, c2, _, by have := HK.out; omega, by go_num, rfl, HO2.out, hR3.out, by omega, HX2.out⟩
end Go.Proofs.YtgjjkllngopboaaDoor
