/- The checker's step at any op. -/
import Derived.Test.YtgjjkllngopboaaDoorJCa09
import Derived.Test.YtgjjkllngopboaaDoorJCa14
import Derived.Test.YtgjjkllngopboaaDoorJCa15
import Derived.Test.YtgjjkllngopboaaDoorJCa16
import Derived.Test.YtgjjkllngopboaaDoorJCa07
import Derived.Laws.OwnMore
namespace Go.Proofs.YtgjjkllngopboaaDoor
open Go.RowKit
set_option linter.unusedVariables false
set_option linter.unusedSimpArgs false

theorem step_any (B K sb mb : Nat) (c : CodeP) (V : CodeV) (f : FnP) (v : OpsV) (fb fo : Nat) (tv : Value) (g : GoP) (w : World) (h : OChk w B K sb mb c V f v fb fo tv g) (hT : TallP f.ops.length g) (h6 : f.ops.length ≤ 1000000)
    (i : Nat) (hi : i < f.ops.length) (x : StP) (hun : seenP g.s i = some x) (a0 : 0 ≤ (f.ops[i]).a) (a1 : (f.ops[i]).a ≤ 1000000) :
    Calls Tryd.prog 45 #[.pointer (some ⟨K, 0, none⟩), .int .i64 (i : Int)] w (StepV w B K sb mb c V f v fb fo tv (stepP f.ops.length (stepsP f.ops i) x g)) := by
  by_cases m0 : (f.ops[i]).name = n_call
  · exact step_call B K sb mb c V f v fb fo tv g w h hT h6 i hi x hun _ rfl a0 a1 m0
  by_cases m1 : (f.ops[i]).name = n_list
  · exact step_list B K sb mb c V f v fb fo tv g w h hT h6 i hi x hun _ rfl a0 a1 m1
  by_cases m2 : (f.ops[i]).name = n_dict
  · exact step_dict B K sb mb c V f v fb fo tv g w h hT h6 i hi x hun _ rfl a0 a1 m2
  by_cases m3 : (f.ops[i]).name = n_return
  · exact step_return B K sb mb c V f v fb fo tv g w h hT h6 i hi x hun _ rfl a0 a1 m3
  by_cases m4 : (f.ops[i]).name = n_halt
  · exact step_halt B K sb mb c V f v fb fo tv g w h hT h6 i hi x hun _ rfl a0 a1 m4
  by_cases m5 : (f.ops[i]).name = n_raise
  · exact step_raise B K sb mb c V f v fb fo tv g w h hT h6 i hi x hun _ rfl a0 a1 m5
  by_cases m6 : (f.ops[i]).name = n_jump
  · exact step_jump B K sb mb c V f v fb fo tv g w h hT h6 i hi x hun _ rfl a0 a1 m6
  by_cases m7 : (f.ops[i]).name = n_unless
  · exact step_unless B K sb mb c V f v fb fo tv g w h hT h6 i hi x hun _ rfl a0 a1 m7
  by_cases m8 : (f.ops[i]).name = n_next
  · exact step_next B K sb mb c V f v fb fo tv g w h hT h6 i hi x hun _ rfl a0 a1 m8
  by_cases m9 : (f.ops[i]).name = n_try
  · exact step_try B K sb mb c V f v fb fo tv g w h hT h6 i hi x hun _ rfl a0 a1 m9
  by_cases m10 : (f.ops[i]).name = n_end
  · exact step_end B K sb mb c V f v fb fo tv g w h hT h6 i hi x hun _ rfl a0 a1 m10
  exact step_other B K sb mb c V f v fb fo tv g w h hT h6 i hi x hun _ rfl a0 a1 m0 m1 m2 m3 m4 m5 m6 m7 m8 m9 m10
theorem infoState : (Tryd.prog.info? 97).map (fun i => (i.zero, i.size, i.bytes)) = some (some (.agg #[.bool false, .int .i64 0, .slice none 0 0]), 3, 40) := by kernel_rfl
theorem undStates : Tryd.prog.underlying 78 = some (.slice 97) := by kernel_rfl
abbrev z3 : Array Value := #[.bool false, .int .i64 0, .slice none 0 0]
theorem made_at (n i : Nat) (hi : i < n) : (madeCells z3 (n * 3))[i * 3]? = some (.bool false) ∧ (madeCells z3 (n * 3))[i * 3 + 1]? = some (.int .i64 0) ∧ (madeCells z3 (n * 3))[i * 3 + 2]? = some (.slice none 0 0) := by
  refine ⟨?_, ?_, ?_⟩
  · simp only [madeCells, Array.getElem?_map, Array.getElem?_range]
    rw [if_pos (by omega)]
    have e : i * 3 % z3.size = 0 := by simp
    simp [e]
  · simp only [madeCells, Array.getElem?_map, Array.getElem?_range]
    rw [if_pos (by omega)]
    have e : (i * 3 + 1) % z3.size = 1 := by simp
    simp only [Option.map_some, e]; rfl
  · simp only [madeCells, Array.getElem?_map, Array.getElem?_range]
    rw [if_pos (by omega)]
    have e : (i * 3 + 2) % z3.size = 2 := by simp
    simp only [Option.map_some, e]; rfl
/-- A checker ahead of its check. -/
structure NChk (w : World) (B K mb : Nat) (c : CodeP) (V : CodeV) (f : FnP) (v : OpsV) (fb fo : Nat) : Prop where
  R : RChk w K c V f v fb fo
  k5 : w.cell? ⟨K, 5, none⟩ = some (.map (some mb))
  k6 : w.cell? ⟨K, 6, none⟩ = some (.slice none 0 0)
  k7 : w.cell? ⟨K, 7, none⟩ = some (.slice none 0 0)
  k8 : w.cell? ⟨K, 8, none⟩ = some (.bool false)
  blkK : ∃ cur t, w.heap[K]? = some (.cells cur t (0, 0))
  map : MapS w mb shapeE
  ops : RSl w v.1 (opCells f.ops)
  hK : B ≤ K
  hB : B ≤ w.heap.size
  hf : fb < B
  hm : mb < B
  ho : ∀ y, v.1 = some y → y.block < B
theorem seen_rep (n i : Nat) : seenP (List.replicate n none) i = none := seen_none n i
/-- The states are made. -/
theorem NChk.made {w w2 : World} {B K mb : Nat} {c : CodeP} {V : CodeV} {f : FnP} {v : OpsV} {fb fo : Nat} (h : NChk w B K mb c V f v fb fo) (hx : Ext (w.setCell ⟨K, 8, none⟩ (.bool true)) w2) :
    OChk ((w2.alloc (.cells (madeCells z3 (f.ops.length * 3)) 97)).setCell ⟨K, 6, none⟩ (.slice (some ⟨w2.heap.size, 0, none⟩) f.ops.length f.ops.length)) B K w2.heap.size mb c V f v fb fo (.slice none 0 0) ⟨List.replicate f.ops.length none, [], true⟩ := by
  have hlK : K < w.heap.size := cell_lt h.k8
  have hs0 : (w.setCell ⟨K, 8, none⟩ (.bool true)).heap.size = w.heap.size := by simp [World.setCell]
  have hs1 := hx.size
  rw [hs0] at hs1
  have hsz : ((w2.alloc (.cells (madeCells z3 (f.ops.length * 3)) 97)).setCell ⟨K, 6, none⟩ (.slice (some ⟨w2.heap.size, 0, none⟩) f.ops.length f.ops.length)).heap.size = w2.heap.size + 1 := by simp [World.setCell]
  -- what lies below the heap's size, but for K, is as it was
  have hb : ∀ k, k < w.heap.size → k ≠ K → ((w2.alloc (.cells (madeCells z3 (f.ops.length * 3)) 97)).setCell ⟨K, 6, none⟩ (.slice (some ⟨w2.heap.size, 0, none⟩) f.ops.length f.ops.length)).heap[k]? = w.heap[k]? := fun k hk hn => by
    rw [heap_setCell_other _ ⟨K, 6, none⟩ k _ hn, Below.block ((Ext.refl w2).alloc_ _) k (by omega), Below.block hx k (by omega), heap_setCell_other _ ⟨K, 8, none⟩ k _ hn]
  have hc : ∀ b o u, b ≠ K → w.cell? ⟨b, o, none⟩ = some u → ((w2.alloc (.cells (madeCells z3 (f.ops.length * 3)) 97)).setCell ⟨K, 6, none⟩ (.slice (some ⟨w2.heap.size, 0, none⟩) f.ops.length f.ops.length)).cell? ⟨b, o, none⟩ = some u := fun b o u e q => by
    rw [World.cell?_of_block (w := w) (a := ⟨b, o, none⟩) (hb b (cell_lt q) e)]; exact q
  have hK1 : ∀ o u, (w.setCell ⟨K, 8, none⟩ (.bool true)).cell? ⟨K, o, none⟩ = some u → (w2.alloc (.cells (madeCells z3 (f.ops.length * 3)) 97)).cell? ⟨K, o, none⟩ = some u := fun o u q => ((Ext.refl w2).alloc_ _).cell_ (hx.cell_ q)
  have hK : ∀ o u, o ≠ 6 → o ≠ 8 → w.cell? ⟨K, o, none⟩ = some u → ((w2.alloc (.cells (madeCells z3 (f.ops.length * 3)) 97)).setCell ⟨K, 6, none⟩ (.slice (some ⟨w2.heap.size, 0, none⟩) f.ops.length f.ops.length)).cell? ⟨K, o, none⟩ = some u := fun o u e1 e2 q => by
    rw [cell_set_off (Ne.symm e1)]
    exact hK1 o u (by rw [cell_set_off (Ne.symm e2)]; exact q)
  have e1 : fb ≠ K := by have := h.hf; have := h.hK; omega
  have e2 : mb ≠ K := by have := h.hm; have := h.hK; omega
  have hblk : (w2.alloc (.cells (madeCells z3 (f.ops.length * 3)) 97)).heap[w2.heap.size]? = some (.cells (madeCells z3 (f.ops.length * 3)) 97 (0, 0)) := heap_alloc_new _ _
  have hbs : ((w2.alloc (.cells (madeCells z3 (f.ops.length * 3)) 97)).setCell ⟨K, 6, none⟩ (.slice (some ⟨w2.heap.size, 0, none⟩) f.ops.length f.ops.length)).heap[w2.heap.size]? = some (.cells (madeCells z3 (f.ops.length * 3)) 97 (0, 0)) := by
    rw [heap_setCell_other _ ⟨K, 6, none⟩ _ _ (by simp only; omega)]; exact hblk
  refine ⟨⟨hK _ _ (by omega) (by omega) h.R.kF, hK _ _ (by omega) (by omega) h.R.kI, hK _ _ (by omega) (by omega) h.R.kS, hK _ _ (by omega) (by omega) h.R.kN, hK _ _ (by omega) (by omega) h.R.kf,
    hc _ _ _ e1 h.R.f0, hc _ _ _ e1 h.R.f1, hc _ _ _ e1 h.R.f2, hc _ _ _ e1 h.R.f3, hc _ _ _ e1 h.R.f4, hc _ _ _ e1 h.R.f5⟩, hK _ _ (by omega) (by omega) h.k5, ?_, hK _ _ (by omega) (by omega) h.k7, ?_, ?_, ⟨_, _, hbs⟩,
    h.map.of_block (hb mb h.map.lt e2), fun j u hu => ?_, Tail.nil _ _ _, fun i hi => ?_, h.hK, by have := h.hB; omega, by rw [hsz]; have := h.hB; omega, by omega, by simp [Value.ownBlock], by simp [Value.ownBlock], h.hf, h.hm, h.ho⟩
  · simp only [List.length_replicate]
    exact cell_set_same (hK1 6 (.slice none 0 0) (by rw [cell_set_off (by omega)]; exact h.k6))
  · rw [cell_set_off (by omega)]
    exact hK1 8 _ (cell_set_same h.k8)
  · refine blk_set ?_
    obtain ⟨cur, t, hcur⟩ := blk_set (o := 8) (u := .bool true) h.blkK
    exact ⟨cur, t, by rw [Below.block ((Ext.refl w2).alloc_ _) K (by omega), Below.block hx K (by omega)]; exact hcur⟩
  · obtain ⟨b, o, e, q⟩ := h.ops j u hu
    have h1 : b < B := h.ho _ e
    have := h.hK
    exact ⟨b, o, e, hc _ _ _ (by omega) q⟩
  · simp only [List.length_replicate] at hi
    rw [seen_rep]
    obtain ⟨m0, m1, m2⟩ := made_at f.ops.length i hi
    refine ⟨none, 0, ⟨?_, ?_, ?_, RInts.nothing _⟩, fun y hy => by cases hy⟩
    · rw [cell_of_row _ _ _ _ _ _ hbs]; exact m0
    · rw [cell_of_row _ _ _ _ _ _ hbs]; exact m1
    · rw [cell_of_row _ _ _ _ _ _ hbs]; exact m2
theorem NChk.start {w : World} {B K mb : Nat} {c : CodeP} {V : CodeV} {f : FnP} {v : OpsV} {fb fo : Nat} (h : NChk w B K mb c V f v fb fo) (u : Value) :
    RChk (w.setCell ⟨K, 8, none⟩ u) K c V f v fb fo ∧ (w.setCell ⟨K, 8, none⟩ u).cell? ⟨K, 5, none⟩ = some (.map (some mb)) ∧ MapS (w.setCell ⟨K, 8, none⟩ u) mb shapeE ∧ RSl (w.setCell ⟨K, 8, none⟩ u) v.1 (opCells f.ops) := by
  have hb : ∀ k, k ≠ K → (w.setCell ⟨K, 8, none⟩ u).heap[k]? = w.heap[k]? := fun k hk => heap_setCell_other w ⟨K, 8, none⟩ k u hk
  have hc : ∀ b o x, b ≠ K → w.cell? ⟨b, o, none⟩ = some x → (w.setCell ⟨K, 8, none⟩ u).cell? ⟨b, o, none⟩ = some x := fun b o x e q => by
    rw [World.cell?_of_block (w := w) (a := ⟨b, o, none⟩) (hb b e)]; exact q
  have hK : ∀ o x, o ≠ 8 → w.cell? ⟨K, o, none⟩ = some x → (w.setCell ⟨K, 8, none⟩ u).cell? ⟨K, o, none⟩ = some x := fun o x e q => by
    rw [cell_set_off (Ne.symm e)]; exact q
  have e1 : fb ≠ K := by have := h.hf; have := h.hK; omega
  have e2 : mb ≠ K := by have := h.hm; have := h.hK; omega
  refine ⟨⟨hK _ _ (by omega) h.R.kF, hK _ _ (by omega) h.R.kI, hK _ _ (by omega) h.R.kS, hK _ _ (by omega) h.R.kN, hK _ _ (by omega) h.R.kf,
    hc _ _ _ e1 h.R.f0, hc _ _ _ e1 h.R.f1, hc _ _ _ e1 h.R.f2, hc _ _ _ e1 h.R.f3, hc _ _ _ e1 h.R.f4, hc _ _ _ e1 h.R.f5⟩, hK _ _ (by omega) h.k5, h.map.of_block (hb mb e2), fun j x hx => ?_⟩
  obtain ⟨b, o, e, q⟩ := h.ops j x hx
  have h1 : b < B := h.ho _ e
  have := h.hK
  exact ⟨b, o, e, hc _ _ _ (by omega) q⟩
theorem run_end {last : Bool} {n : Nat} {f : Nat → StepP} {k : Nat} {g : GoP} (h : g.todo = [] ∨ g.ok = false) : runP last n f k g = g := by
  cases k with
  | zero => rfl
  | succ k => unfold runP; rw [if_pos h]
theorem Tail.init {w : World} {B : Nat} {e : TypeId} {a : Option Addr} {n c : Nat} {l : List Value} {x : Value} (h : Tail w B e (.slice a n c) (l ++ [x])) : n = l.length + 1 ∧ l.length + 1 ≤ c ∧ (∃ g o, a = some ⟨g, o, none⟩ ∧ w.cell? ⟨g, o + l.length, none⟩ = some x) ∧ Tail w B e (.slice a l.length c) l := by
  rcases h with ⟨_, h⟩ | ⟨g, off, cap, cur, hv, q1, q2, q3, q4, q5, q6⟩
  · simp at h
  · injection hv with h1 h2 h3
    subst h1 h3
    simp only [List.length_append, List.length_singleton] at h2 q3 q6
    have ht : (cur.toList.drop off).take l.length = l := by
      have := congrArg (List.take l.length) q6
      rw [List.take_take, Nat.min_eq_left (by omega), List.take_left'] at this
      · exact this
      · rfl
    refine ⟨h2, by omega, ⟨g, off, rfl, ?_⟩, Or.inr ⟨g, off, c, cur, rfl, q1, q2, by omega, q4, q5, ht⟩⟩
    rw [cell_of_row w g _ cur e (0, 0) q2]
    have := congrArg (fun z => z[l.length]?) q6
    simp only [List.getElem?_take, List.getElem?_drop] at this
    rw [if_pos (by omega)] at this
    simpa using this
theorem OwnC.low {B K sb mb : Nat} {c : CodeP} {V : CodeV} {f : FnP} {v : OpsV} {fb fo : Nat} {tv : Value} {g : GoP} {w : World} (h : OChk w B K sb mb c V f v fb fo tv g) {k : Nat} (hk : OwnC K sb tv k) : B ≤ k := by
  rcases hk with q | q | q
  · exact q ▸ h.hK
  · exact q ▸ h.hS
  · exact (h.todo.lt q).1
theorem form_ops {c : CodeP} {f : FnP} (hf : FnOK c f) {first : Bool} : ∀ {ops : List OpP} {left : Int}, formP c f first left ops = true → ∀ op ∈ ops, 0 ≤ op.a ∧ op.a ≤ 1000000
  | [], _, _ => fun op h => by cases h
  | o :: r, left, h => fun op hm => by
    unfold formP at h
    rw [Bool.and_eq_true] at h
    rcases List.mem_cons.1 hm with rfl | hm
    · have h1 := h.1
      unfold form1 at h1
      simp only [Bool.and_eq_true, decide_eq_true_eq] at h1
      have := limit_le c f hf (kindP op)
      omega
    · exact form_ops hf h.2 op hm
set_option maxRecDepth 100000 in
set_option maxHeartbeats 8000000 in
theorem check_walk (K mb : Nat) (c : CodeP) (V : CodeV) (f : FnP) (v : OpsV) (fb fo : Nat) (w0 w : World) (h : NChk w w0.heap.size K mb c V f v fb fo) (hf : FnOK c f) (hR : RCode w0 c V) (hx : Ext w0 w) (hfr : ∀ x ∈ c.funcs, 0 ≤ x.frees ∧ x.frees ≤ 400) (first : Bool) :
    Calls Tryd.prog 31 #[.pointer (some ⟨K, 0, none⟩), .bool first] w fun e w' => e = .returned (.bool (funcA c f first)) ∧ Ext w0 w' := by
  obtain ⟨RES, hRES⟩ : ∃ RES, RES = funcA c f first := ⟨_, rfl⟩
  rw [← hRES]
  have k4 := h.R.kf
  have f5 := h.R.f5
  have k8 := h.k8
  have hlK := cell_lt h.k8
  have hlf := cell_lt h.R.f0
  simp only at hlK hlf
  have h6 := hf.ops
  have frK : ∀ j, w.frozen? ⟨K, j, none⟩ = false := fun j => by obtain ⟨cur, t, hc⟩ := h.blkK; simp [World.frozen?, hc]
  have fr8 := frK 8
  have hKf : ¬ fb = K := fun e => by have := h.hf; have := h.hK; omega
  have hBK := h.hK
  obtain ⟨st1, st2, st3, st4⟩ := h.start (.bool true)
  have H := Lib.hid h
  have HF := Lib.hid hf
  have HR := Lib.hid hR
  have HX := Lib.hid hx
  have HFR := Lib.hid hfr
  have HRES := Lib.hid hRES
  have ST1 := Lib.hid st1
  have ST2 := Lib.hid st2
  have ST3 := Lib.hid st3
  have ST4 := Lib.hid st4
  clear h hf hR hx hfr hRES st1 st2 st3 st4 frK
  go_enter Tryd.func31, Tryd.ntmps31
  go_upto_region 2 with fail
  obtain ⟨w1, hw1⟩ : ∃ w1, w1 = w.setCell ⟨K, 8, none⟩ (.bool true) := ⟨_, rfl⟩
  rw [← hw1] at ST1 ST2 ST3 ST4 ⊢
  have g4 := ST1.out.kf
  have g5 := ST1.out.f5
  have hX1 : Ext w0 w1 := by rw [hw1]; exact HX.out.set_ (p := ⟨K, 8, none⟩) hBK _
  have HX1 := Lib.hid hX1
  have hlK1 : K < w1.heap.size := by have : w1.heap.size = w.heap.size := by rw [hw1]; simp [World.setCell]
                                     omega
  have HW1 := Lib.hid hw1
  clear hw1 hX1 k4 f5 k8 fr8
  by_cases hn0 : f.ops.length = 0
  · have hops : f.ops = [] := List.eq_nil_of_length_eq_zero hn0
    obtain rfl : RES = false := by rw [HRES.out]; unfold funcA; rw [hops]; rfl
    have hz : ((f.ops.length : Int) == 0) = true := by rw [hn0]; rfl
    clear hops
    go_wp2
    go_ret
    exact ⟨rfl, HX1.out⟩
  · have hz : ((f.ops.length : Int) == 0) = false := by simpa using hn0
    have hz2 : ¬ ((f.ops.length : Int) = 0) := by omega
    have hem : f.ops.isEmpty = false := by cases hq : f.ops with
      | nil => rw [hq] at hn0; exact absurd rfl hn0
      | cons a l => rfl
    have HEM := Lib.hid hem
    clear hem
    have hform := form_walk K mb c V f v fb fo w1 ST1.out HF.out ST2.out ST3.out ST4.out (HR.out.ext HX1.out) HFR.out first
    have HFORM := Lib.hid hform
    clear hform
    cases hfm : formP c f first 0 f.ops with
    | false =>
      obtain rfl : RES = false := by rw [HRES.out]; unfold funcA; rw [hfm, HEM.out]; rfl
      rw [hfm] at HFORM
      clear hfm
      go_wp2_with (go_at_call 43; refine HFORM.out.mono ?_; rintro e w2 ⟨rfl, hE2⟩; have HE2 := Lib.hid hE2; clear hE2)
      go_ret
      exact ⟨rfl, HX1.out.trans_ HE2.out⟩
    | true =>
      have hres : RES = okP true f.ops.length (stepsP f.ops) := by rw [HRES.out]; unfold funcA; rw [hfm, HEM.out]; rfl
      have HRES2 := Lib.hid hres
      rw [hfm] at HFORM
      have HFM := Lib.hid hfm
      clear hfm hres
      go_upto_region 4 with (go_at_call 43; refine HFORM.out.mono ?_; rintro e w2 ⟨rfl, hE2⟩; have HE2 := Lib.hid hE2; clear hE2)
      have hmade := H.out.made (w2 := w2) (by rw [← HW1.out]; exact HE2.out)
      obtain ⟨i0, hii, hz0, hz1, hz2'⟩ := info_parts infoState
      have hmk : (Instr.makeSlice 78 (.int .i64 (f.ops.length : Int)) (.int .i64 (f.ops.length : Int))).run Tryd.prog w2 = .ok (.slice (some ⟨w2.heap.size, 0, none⟩) f.ops.length f.ops.length) (w2.alloc (.cells (madeCells z3 (f.ops.length * 3)) 97)) := by
        have := run_make (P := Tryd.prog) w2 78 97 i0 _ undStates hii hz0 .i64 .i64 (f.ops.length : Int) (f.ops.length : Int) (by omega) (Int.le_refl _) (by rw [hz2']; omega) (by omega)
        rw [hz1, Int.toNat_natCast] at this
        exact this
      have q4 := HE2.out.cell_ g4
      have q5 := HE2.out.cell_ g5
      have hls2 := HE2.out.size
      have hlK2 : K < w2.heap.size := by omega
      have hlf2 : fb < w2.heap.size := cell_lt q5
      have q6 : w2.cell? ⟨K, 6, none⟩ = some (.slice none 0 0) := HE2.out.cell_ (by rw [HW1.out, cell_set_off (by omega)]; exact H.out.k6)
      have fr6 : w2.frozen? ⟨K, 6, none⟩ = false := by
        rw [HE2.out.three.2.1 _ _ hlK1]
        obtain ⟨cur, t, hc⟩ := blk_set (o := 8) (u := .bool true) H.out.blkK
        rw [← HW1.out] at hc
        simp [World.frozen?, hc]
      have HMADE := Lib.hid hmade
      clear hmade hz0 hz1 hz2' hii
      go_upto_region 5 with fail
      have hweq : (w2.alloc (.cells (madeCells z3 (f.ops.length * 3)) 97)).setCell ⟨K, 6, none⟩ (.slice (some ⟨w2.heap.size, 0, none⟩) f.ops.length f.ops.length) = (w2.setCell ⟨K, 6, none⟩ (.slice (some ⟨w2.heap.size, 0, none⟩) f.ops.length f.ops.length)).alloc (.cells (madeCells z3 (f.ops.length * 3)) 97) := by simp [go_sem, hlK2]
      have hO3 := HMADE.out
      rw [hweq] at hO3
      have hX3 : Ext w0 ((w2.setCell ⟨K, 6, none⟩ (.slice (some ⟨w2.heap.size, 0, none⟩) f.ops.length f.ops.length)).alloc (.cells (madeCells z3 (f.ops.length * 3)) 97)) := ((HX1.out.trans_ HE2.out).set_ (p := ⟨K, 6, none⟩) hBK _).alloc_ _
      generalize (w2.setCell ⟨K, 6, none⟩ (.slice (some ⟨w2.heap.size, 0, none⟩) f.ops.length f.ops.length)).alloc (.cells (madeCells z3 (f.ops.length * 3)) 97) = w3 at hO3 hX3 ⊢
      generalize hsb : w2.heap.size = sb at *
      have HO3 := Lib.hid hO3
      have HX3 := Lib.hid hX3
      clear hmk HMADE hweq hO3 hX3 q4 q5 q6 fr6 g4 g5 hlK1 hlK2 hlf2 hls2
      have hcc := comeC_any w0.heap.size K sb mb c V f v fb fo (.slice none 0 0) _ w3 HO3.out (TallP.zero _) h6 0 (Int.le_refl _) false (0, []) (by simp) none 0 (RInts.nothing _)
      have HCC := Lib.hid hcc
      clear hcc
      go_upto_region 6 with (go_at_call 44; refine HCC.out.mono ?_; rintro e w4 ⟨rfl, tv4, ho4, hk4, hn4, hy4⟩; have HO4 := Lib.hid ho4; have HX4 := Lib.hid (HX3.out.keep hk4 (fun k hk => by rcases hk with q | q | q; exact q ▸ HO3.out.hK; exact q ▸ HO3.out.hS; exact (by cases q))); clear ho4 hk4 hn4 hy4)
      have HO4' : Hid (OChk w4 w0.heap.size K sb mb c V f v fb fo tv4 (startP f.ops.length)) := HO4.out
      clear HO4 HCC HO3 HX3
      go_loopg [5] (f.ops.length + 1) (fun r s5 wr => ∃ (tv : Value) (g : GoP), Hid (OChk wr w0.heap.size K sb mb c V f v fb fo tv g) ∧ Hid (TallP f.ops.length g) ∧ leftP g ≤ r ∧ Hid (RES = (runP true f.ops.length (stepsP f.ops) r g).ok) ∧ Hid (Ext w0 wr))
      case atStart => exact ⟨tv4, startP f.ops.length, HO4', TallP.start _, start_left _, HRES2.out, HX4⟩
      case round =>
        obtain ⟨tv, g, hO, hT, hl, hP, hE⟩ := hrel
        clear HX4 HO4' HRES2
        have k7 := hO.out.k7
        have k8 := hO.out.k8
        have fr7 := hO.out.froK 7
        have hlw := hO.out.lt.1
        obtain ⟨ta, tn, tc, htv⟩ := hO.out.todo.slice
        subst htv
        cases htd : g.todo with
        | nil =>
          have ht := hO.out.todo
          rw [htd] at ht
          obtain rfl : tn = 0 := by
            rcases ht with ⟨h1, _⟩ | ⟨_, _, _, _, h1, _⟩
            · injection h1
            · injection h1
          obtain rfl : RES = g.ok := by rw [hP.out, run_end (Or.inl htd)]
          clear ht htd hP hl
          go_wp2
          go_ret
          exact ⟨rfl, hE.out⟩
        | cons t0 tl =>
          obtain ⟨l, t, hlt⟩ : ∃ l t, g.todo = l ++ [t] := ⟨g.todo.dropLast, g.todo.getLast (by rw [htd]; simp), (List.dropLast_concat_getLast (by rw [htd]; simp)).symm⟩
          clear htd
          have ht := hO.out.todo
          rw [hlt, natsV_snoc] at ht
          obtain ⟨e1, e2, ⟨tb, to_, e3, e4⟩, e5⟩ := ht.init
          rw [natsV_len] at e1 e2 e4 e5
          subst e1 e3
          have HLT := Lib.hid hlt
          have HT5 := Lib.hid e5
          have hlen := hT.out.todoLen
          rw [hlt] at hlen
          simp only [List.length_append, List.length_singleton] at hlen
          clear ht hlt e5
          cases hok : g.ok with
          | false =>
            obtain rfl : RES = false := by rw [hP.out, run_end (Or.inr hok)]; exact hok
            rw [hok] at k8
            clear hok hP hl
            go_wp2
            go_ret
            exact ⟨rfl, hE.out⟩
          | true =>
            obtain ⟨r, hr⟩ : ∃ r', gk = r' + 1 := by
              cases gk with
              | zero => unfold leftP at hl; rw [HLT.out] at hl; simp at hl
              | succ r => exact ⟨r, rfl⟩
            subst hr
            obtain ⟨htn, hts⟩ := hT.out.todo t (by rw [HLT.out]; simp)
            obtain ⟨x, hx⟩ : ∃ x, seenP g.s t = some x := by
              cases q : seenP g.s t with
              | none => exact absurd q hts
              | some x => exact ⟨x, rfl⟩
            have hstep : RES = (runP true f.ops.length (stepsP f.ops) r (stepP f.ops.length (stepsP f.ops t) x { g with todo := l })).ok := by
              rw [hP.out]
              conv => lhs; unfold runP
              rw [if_neg (by rw [HLT.out, hok]; simp)]
              have p1 : pickP true g.todo = t := by unfold pickP; rw [HLT.out]; simp
              have p2 : leaveP true g.todo = l := by unfold leaveP; rw [HLT.out]; simp
              rw [p1, p2, hx]
              rfl
            have hrs : ∀ W : World, (Instr.slice 75 (.slice (some ⟨tb, to_, none⟩) (l.length + 1) tc) none (some (.int .i64 (l.length : Int))) none).run Tryd.prog W = .ok (.slice (some ⟨tb, to_, none⟩) l.length tc) W := fun W => by
              have hu : Tryd.prog.elem 75 = 3 := by simp [Program.elem, undInts]
              rw [run_slice_h W 75 _ (l.length + 1) tc (by rw [hu]; exact undInts) .i64 (l.length : Int) (by omega) (by omega), hu, show (sizeOf 3).run Tryd.prog W = .ok 1 W from by kernel_rfl]
              have h0 : ∀ ad : Addr, ad.add 0 = ad := fun ad => by cases ad; unfold Addr.add; split <;> simp_all
              simp [sliced, Result.andThen, h0]
            rw [hok] at k8
            have HX := Lib.hid hx
            have HSTEP := Lib.hid hstep
            have HOK := Lib.hid hok
            clear hok hP hx hts hstep
            have htl : l.length ≤ 1000001 := by omega
            go_upto_region 7 with fail
            go_region
            obtain ⟨w5, hw5⟩ : ∃ w5, w5 = wr.drew := ⟨_, rfl⟩
            rw [← hw5]
            have hX5 : Ext wr w5 := by rw [hw5]; exact (Ext.refl _).drew_
            have k7 := hX5.cell_ k7
            have fr7 : w5.frozen? ⟨K, 7, none⟩ = false := by rw [hX5.three.2.1 _ _ hlw]; exact fr7
            have hlw5 : K < w5.heap.size := cell_lt k7
            have HO5 := Lib.hid (hO.out.ext hX5)
            have HE5 := Lib.hid (hE.out.trans_ hX5)
            have HT5 := Lib.hid (HT5.out.ext hX5)
            clear hw5 hX5 k8 e4 hO hE hlw
            go_upto_region 8 with fail
            go_region
            obtain ⟨w6, hw6⟩ : ∃ w6, w6 = (w5.setCell ⟨K, 7, none⟩ (.slice (some ⟨tb, to_, none⟩) l.length tc)).drew := ⟨_, rfl⟩
            rw [← hw6]
            have hO6 : OChk w6 w0.heap.size K sb mb c V f v fb fo (.slice (some ⟨tb, to_, none⟩) l.length tc) { g with todo := l } := by
              rw [hw6]
              exact (OChk.setTodo HO5.out HT5.out rfl).ext (Ext.refl _).drew_
            have hT6 : TallP f.ops.length { g with todo := l } := by
              have := hT.out.leave true (by rw [HLT.out]; simp)
              have p2 : leaveP true g.todo = l := by unfold leaveP; rw [HLT.out]; simp
              rw [p2] at this
              exact this
            have hl6 : leftP { g with todo := l } ≤ r := by
              have hh := hl
              unfold leftP at hh ⊢
              rw [HLT.out] at hh
              simp only [List.length_append, List.length_singleton] at hh ⊢
              omega
            obtain ⟨oa0, oa1⟩ := form_ops HF.out HFM.out (f.ops[t]) (List.getElem_mem htn)
            have hcc := step_any w0.heap.size K sb mb c V f v fb fo (.slice (some ⟨tb, to_, none⟩) l.length tc) { g with todo := l } w6 hO6 hT6 h6 t htn x HX.out oa0 oa1
            have HCC := Lib.hid hcc
            have HO6 := Lib.hid hO6
            have hE6 : Ext w0 w6 := by rw [hw6]; exact (HE5.out.set_ (p := ⟨K, 7, none⟩) hBK _).drew_
            have HE6 := Lib.hid hE6
            have HT6 := Lib.hid hT6
            clear hw6 hcc hO6 hE6 hT6 oa0 oa1 k7 fr7 hlw5
            go_wp2_with (go_at_call 45; refine HCC.out.mono ?_; rintro e w7 ⟨rfl, tv7, ho7, hk7, hn7⟩; have HO7 := Lib.hid ho7; have HE7 := Lib.hid (HE6.out.keep hk7 (fun k hk => OwnC.low HO6.out hk)); clear ho7 hk7 hn7)
            go_roundg r
            case measure => omega
            case rel =>
              obtain ⟨q1, q2⟩ := stepP_keep f.ops.length (stepsP f.ops t) x { g with todo := l } HT6.out.len
              exact ⟨tv7, _, HO7.out, HT6.out.step f.ops htn HX.out, by rw [q2]; exact hl6, HSTEP.out, HE7.out⟩
end Go.Proofs.YtgjjkllngopboaaDoor
