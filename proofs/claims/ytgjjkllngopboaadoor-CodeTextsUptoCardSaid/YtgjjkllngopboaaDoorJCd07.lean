/- The walk of the document's funcOK. -/
import Derived.Test.YtgjjkllngopboaaDoorJCd06
import Derived.Test.YtgjjkllngopboaaDoorJCa17
import Derived.Test.YtgjjkllngopboaaDoorJCc01
namespace Go.Proofs.YtgjjkllngopboaaDoor
open Go.RowKit
set_option linter.unusedVariables false
set_option linter.unusedSimpArgs false

theorem most_any (c : CodeP) (V : CodeV) (f : FnP) (v : OpsV) (h : FnOK c f) (nm : ByteArray) (w : World) :
    Calls Tryd.prog 46 #[codeV c V, fnV f v, .string (shK nm)] w fun e w' => e = .returned (.int .i64 (limitP c f (shK nm) - 1)) ∧ Ext w w' := by
  have hk : ∀ x ∈ shapeTab, x.2.2.2 = a_const ∨ x.2.2.2 = a_int ∨ x.2.2.2 = a_str ∨ x.2.2.2 = a_name ∨ x.2.2.2 = a_local ∨ x.2.2.2 = a_cell ∨ x.2.2.2 = a_func ∨ x.2.2.2 = a_op ∨ x.2.2.2 = a_many ∨ x.2.2.2 = ⟨#[]⟩ := by decide
  have h1 : shK nm = a_const ∨ shK nm = a_int ∨ shK nm = a_str ∨ shK nm = a_name ∨ shK nm = a_local ∨ shK nm = a_cell ∨ shK nm = a_func ∨ shK nm = a_op ∨ shK nm = a_many ∨ shK nm = ⟨#[]⟩ := by
    unfold shK shapeP
    cases hq : shapeTab.find? (fun x => decide (x.1 = nm)) with
    | none => simp
    | some y => simpa using hk y (List.mem_of_find?_eq_some hq)
  generalize shK nm = k at h1
  rcases h1 with rfl | rfl | rfl | rfl | rfl | rfl | rfl | rfl | rfl | rfl
  · exact most_const c V f v h w
  · exact most_int c V f v h w
  · exact most_str c V f v h w
  · exact most_name c V f v h w
  · exact most_local c V f v h w
  · exact most_cell c V f v h w
  · exact most_func c V f v h w
  · exact most_op c V f v h w
  · exact most_many c V f v h w
  · exact most_none c V f v h w
theorem limit_ge (c : CodeP) (f : FnP) (h : FnOK c f) (k : ByteArray) : 0 ≤ limitP c f k := by
  obtain ⟨⟨l0, l1⟩, ⟨c0, c1⟩, ⟨f0, f1⟩, o1, i1, s1, n1, u1⟩ := h
  unfold limitP
  repeat' split
  all_goals omega
/-- A round of form: what is told of the rest. -/
theorem formP_no {c : CodeP} {f : FnP} {first : Bool} {left : Int} {op : OpP} {r : List OpP} (h : form1 c f first left op = false) : formP c f first left (op :: r) = false := by
  unfold formP; rw [h]; rfl
theorem formP_yes {c : CodeP} {f : FnP} {first : Bool} {left : Int} {op : OpP} {r : List OpP} (h : form1 c f first left op = true) : formP c f first left (op :: r) = formP c f first (leftN c left op) r := by
  show (form1 c f first left op && formP c f first (leftN c left op) r) = _
  rw [h]; rfl
theorem bad_no {c : CodeP} {f : FnP} {first : Bool} {left : Int} {op : OpP} (h : badB c f first op = true) : form1 c f first left op = false := by
  rw [form1_eq, h]; rfl
/-- The two worklists' states as they are made. -/
theorem made_go {w : World} {B K sb : Nat} {f : FnP} {v : OpsV} (hKc : w.heap[K]? = some (.cells #[.string f.name, .int .i64 f.params, .int .i64 f.locals, .int .i64 f.cells, .int .i64 f.frees, .slice v.1 f.ops.length v.2, .slice (some ⟨sb, 0, none⟩) f.ops.length f.ops.length, .slice none 0 0, .bool false] 102 (0, 0)))
    (hSc : w.heap[sb]? = some (.cells (madeCells z3 (f.ops.length * 3)) 132 (0, 0))) (hops : RSl w v.1 (opCells f.ops)) (hK : B ≤ K) (hS : B ≤ sb) (hne : K ≠ sb) (ho : f.ops ≠ [] → ∀ y, v.1 = some y → y.block < B) :
    OGo w B K sb f v (.slice none 0 0) ⟨List.replicate f.ops.length none, [], true⟩ := by
  have hl := lt_of_block hKc
  refine ⟨⟨cellRow hKc 0 _ rfl, cellRow hKc 1 _ rfl, cellRow hKc 2 _ rfl, cellRow hKc 3 _ rfl, cellRow hKc 4 _ rfl, cellRow hKc 5 _ rfl⟩, ?_, cellRow hKc 7 _ rfl, cellRow hKc 8 _ rfl, ⟨_, _, hKc⟩, ⟨_, _, hSc⟩, hops, Tail.nil _ _ _, fun i hi => ?_, hK, hS, by omega, hne, by simp [Value.ownBlock], by simp [Value.ownBlock], ho⟩
  · simp only [List.length_replicate]; exact cellRow hKc 6 _ rfl
  · simp only [List.length_replicate] at hi
    rw [seen_rep]
    obtain ⟨m0, m1, m2⟩ := made_at f.ops.length i hi
    refine ⟨none, 0, ⟨?_, ?_, ?_, RInts.nothing _⟩, fun y hy => by cases hy⟩
    · rw [cell_of_row _ _ _ _ _ _ hSc]; exact m0
    · rw [cell_of_row _ _ _ _ _ _ hSc]; exact m1
    · rw [cell_of_row _ _ _ _ _ _ hSc]; exact m2
theorem goLow {B K sb : Nat} {f : FnP} {v : OpsV} {tv : Value} {g : GoP} {w : World} (h : OGo w B K sb f v tv g) {k : Nat} (hk : OwnC K sb tv k) : B ≤ k := by
  rcases hk with q | q | q
  · exact q ▸ h.hK
  · exact q ▸ h.hS
  · exact (h.todo.lt q).1
theorem tail_nat {w : World} {B : Nat} {tv : Value} {t : Nat} {tl : List Nat} (h : Tail w B 3 tv (.int .i64 (t : Int) :: natsV tl)) :
    ∃ tb to_ cp A, tv = .slice (some ⟨tb, to_, none⟩) (tl.length + 1) (cp + 1) ∧ w.cell? ⟨tb, to_, none⟩ = some (.int .i64 (t : Int)) ∧
      Hid ((∀ W : World, (Instr.slice 75 (.slice (some ⟨tb, to_, none⟩) (tl.length + 1) (cp + 1)) (some (.int .i64 1)) none none).run Tryd.prog W = .ok (.slice A tl.length cp) W) ∧ Tail w B 3 (.slice A tl.length cp) (natsV tl) ∧ (Value.slice A tl.length cp).ownBlock = tv.ownBlock) := by
  obtain ⟨g, off, cp, A, hv, hc, hr, ht, ho⟩ := h.rest (P := Tryd.prog) (t := 75) undInts (fun w => by kernel_rfl)
  rw [natsV_len] at hv hr ht ho
  exact ⟨g, off, cp, A, hv, hc, hr, ht, by rw [ho, hv]; rfl⟩
theorem infoState3 : (Tryd.prog.info? 132).map (fun i => (i.zero, i.size, i.bytes)) = some (some (.agg #[.bool false, .int .i64 0, .slice none 0 0]), 3, 40) := by kernel_rfl
theorem undStates3 : Tryd.prog.underlying 100 = some (.slice 132) := by kernel_rfl
set_option maxRecDepth 100000 in
set_option maxHeartbeats 40000000 in
theorem funcOK_walk (c : CodeP) (V : CodeV) (i : Nat) (hi : i < c.funcs.length) (w : World) (hR : RCode w c V) (hf : FnOK c c.funcs[i]) (hfr : ∀ x ∈ c.funcs, 0 ≤ x.frees ∧ x.frees ≤ 400) :
    Calls Tryd.prog 33 #[codeV c V, .int .i64 (i : Int)] w fun e w' => e = .returned (.bool (funcB c c.funcs[i] (i == 0))) ∧ Ext w w' := by
  obtain ⟨fb, fo, va, vc, hfa, k0, k1, k2, k3, k4, k5, hops, hvin⟩ := fn_cells hR hi
  obtain ⟨fn, hfn⟩ : ∃ fn, fn = c.funcs[i] := ⟨_, rfl⟩
  rw [← hfn] at k0 k1 k2 k3 k4 k5 hops hf ⊢
  obtain ⟨first, hfirst⟩ : ∃ first, first = (i == 0) := ⟨_, rfl⟩
  rw [← hfirst]
  obtain ⟨RES, hRES⟩ : ∃ RES, RES = funcB c fn first := ⟨_, rfl⟩
  rw [← hRES]
  have HRES := Lib.hid hRES
  have h6 := hf.ops
  have h7 := hf.funcs
  have hmo : ∀ nm W, Calls Tryd.prog 46 #[codeV c V, fnV fn (va, vc), .string (shK nm)] W fun e w' => e = .returned (.int .i64 (limitP c fn (shK nm) - 1)) ∧ Ext W w' := fun nm W => most_any c V fn (va, vc) hf nm W
  obtain ⟨⟨fa, fcp⟩, ⟨ia, icp⟩, ⟨sa, scp⟩, ⟨na, ncp⟩, fs⟩ := V
  unfold codeV fnV at hmo
  unfold codeV
  simp only at hfa hmo ⊢
  subst hfa
  have HMOST := Lib.hid hmo
  have HR := Lib.hid hR
  have HF := Lib.hid hf
  have HFR := Lib.hid hfr
  have HFN := Lib.hid hfn
  have HOPS := Lib.hid hops
  have HFI := Lib.hid hfirst
  have hiz : (i : Int) < (c.funcs.length : Int) := by omega
  have hlfb : fb < w.heap.size := cell_lt k0
  have HOB : Hid (fn.ops ≠ [] → ∀ y, va = some y → y.block < w.heap.size) := fun hne y hy => by
    obtain ⟨b, o', e, hc⟩ := hops 0 _ ((opCells_at fn.ops 0 (List.length_pos_iff.2 hne)).1)
    rw [e] at hy
    injection hy with hy
    subst hy
    exact cell_lt hc
  clear hRES hmo hR hf hfr hfn hops hfirst hvin
  go_enter Tryd.func33, Tryd.ntmps33
  go_upto_region 1 with fail
  obtain ⟨P2, hP2⟩ : ∃ P2, P2 = w.heap.size := ⟨_, rfl⟩
  refine namedW (fun w0 hw0 => ?_)
  have p0 : w0.cell? ⟨P2, 0, none⟩ = some (.slice (some ⟨fb, fo, none⟩) c.funcs.length fcp) := by rw [hw0, hP2]; simp [go_sem]
  have p1 : w0.cell? ⟨P2, 1, none⟩ = some (.slice ia c.ints.length icp) := by rw [hw0, hP2]; simp [go_sem]
  have p2 : w0.cell? ⟨P2, 2, none⟩ = some (.slice sa c.strs.length scp) := by rw [hw0, hP2]; simp [go_sem]
  have p3 : w0.cell? ⟨P2, 3, none⟩ = some (.slice na c.names.length ncp) := by rw [hw0, hP2]; simp [go_sem]
  have hX0 : Ext w w0 := by rw [hw0]; exact (Ext.refl w).alloc_ _
  rw [← hP2]
  have k0 := hX0.cell_ k0
  have k1 := hX0.cell_ k1
  have k2 := hX0.cell_ k2
  have k3 := hX0.cell_ k3
  have k4 := hX0.cell_ k4
  have k5 := hX0.cell_ k5
  have hs0 := hX0.size
  have HX0 := Lib.hid hX0
  have lP2 : P2 < w0.heap.size := cell_lt p0
  clear hw0 hP2 hX0
  go_upto_region 2 with fail
  obtain ⟨P5, hP5⟩ : ∃ P5, P5 = w0.heap.size := ⟨_, rfl⟩
  refine namedW (fun w1 hw1 => ?_)
  have q0 : w1.cell? ⟨P5, 0, none⟩ = some (.string fn.name) := by rw [hw1, hP5]; simp [go_sem]
  have q1 : w1.cell? ⟨P5, 1, none⟩ = some (.int .i64 fn.params) := by rw [hw1, hP5]; simp [go_sem]
  have q2 : w1.cell? ⟨P5, 2, none⟩ = some (.int .i64 fn.locals) := by rw [hw1, hP5]; simp [go_sem]
  have q3 : w1.cell? ⟨P5, 3, none⟩ = some (.int .i64 fn.cells) := by rw [hw1, hP5]; simp [go_sem]
  have q4 : w1.cell? ⟨P5, 4, none⟩ = some (.int .i64 fn.frees) := by rw [hw1, hP5]; simp [go_sem]
  have q5 : w1.cell? ⟨P5, 5, none⟩ = some (.slice va fn.ops.length vc) := by rw [hw1, hP5]; simp [go_sem]
  have hX1 : Ext w0 w1 := by rw [hw1]; exact (Ext.refl w0).alloc_ _
  rw [← hP5]
  have p0 := hX1.cell_ p0
  have p1 := hX1.cell_ p1
  have p2 := hX1.cell_ p2
  have p3 := hX1.cell_ p3
  have HX1 := Lib.hid (HX0.out.trans_ hX1)
  have hs1 := HX1.out.size
  clear hw1 hP5 hX1 k0 k1 k2 k3 k4 k5 lP2 HX0 hs0
  go_upto_region 4 with fail
  go_loopg [6, 7] (fn.ops.length) (fun r l kk wr => ∃ (k : Nat) (left : Int), k + r = fn.ops.length ∧ l = .int .i64 left ∧ kk = .int .i64 (k : Int) ∧ (0 ≤ left ∧ left ≤ 400) ∧ Hid (formP c fn first 0 fn.ops = formP c fn first left (fn.ops.drop k)) ∧ Hid (Ext w1 wr))
  case atStart => exact ⟨0, 0, by omega, rfl, rfl, by omega, by show _ = _; rw [List.drop_zero], Ext.refl w1⟩
  case round =>
    obtain ⟨k, left, hk, rfl, rfl, ⟨hl0, hl1⟩, hP, hE⟩ := hrel
    have p0 := hE.out.cell_ p0
    have p1 := hE.out.cell_ p1
    have p2 := hE.out.cell_ p2
    have p3 := hE.out.cell_ p3
    have q0 := hE.out.cell_ q0
    have q1 := hE.out.cell_ q1
    have q2 := hE.out.cell_ q2
    have q3 := hE.out.cell_ q3
    have q4 := hE.out.cell_ q4
    have q5 := hE.out.cell_ q5
    have lP2 : P2 < wr.heap.size := cell_lt p0
    have lP5 : P5 < wr.heap.size := cell_lt q0
    have hsr := hE.out.size
    cases gk with
    | succ r =>
      have hlt : k < fn.ops.length := by omega
      have hltz : (k : Int) < (fn.ops.length : Int) := by omega
      have hat := opCells_at fn.ops k hlt
      have hR1 := HOPS.out.ext (HX1.out.trans_ hE.out)
      obtain ⟨ob, oo, hov, o0⟩ := hR1 _ _ hat.1
      subst hov
      have o1 := hR1.at_ hat.2
      rw [← Nat.add_assoc] at o1
      have hlo : ob < wr.heap.size := cell_lt o0
      have hdr : fn.ops.drop k = fn.ops[k] :: fn.ops.drop (k + 1) := List.drop_eq_getElem_cons hlt
      have hPk := hP.out
      rw [hdr] at hPk
      obtain ⟨op, hop⟩ : ∃ op, op = fn.ops[k] := ⟨_, rfl⟩
      rw [← hop] at o0 o1 hPk
      have HOP := Lib.hid hop
      have HPK := Lib.hid hPk
      have HK := Lib.hid hk
      have HNO : Hid (form1 c fn first left op = false → RES = false) := fun q => by
        rw [HRES.out]; unfold funcB; rw [HPK.out, formP_no q]; rfl
      have HYES : Hid (form1 c fn first left op = true → formP c fn first 0 fn.ops = formP c fn first (leftN c left op) (fn.ops.drop (k + 1))) := fun q => by rw [HPK.out, formP_yes q]
      have hlim := limit_le c fn HF.out (shK op.name)
      have hsh := kShape_any op.name op.a
      obtain ⟨nm, ax⟩ := op
      simp only at o0 o1 hlim hsh
      have HSH := Lib.hid hsh
      have hmo2 := HMOST.out nm
      have HMO := Lib.hid hmo2
      obtain ⟨kd, hkd⟩ : ∃ kd, kd = shK nm := ⟨_, rfl⟩
      obtain ⟨lim, hlm⟩ : ∃ lim, lim = limitP c fn (shK nm) := ⟨_, rfl⟩
      rw [← hlm] at hlim HMO
      rw [← hkd] at HMO
      have HKD := Lib.hid hkd
      have HLM := Lib.hid hlm
      obtain ⟨kn, hkn⟩ : ∃ kn, kn = (shapeP nm).isSome := ⟨_, rfl⟩
      have HKN := Lib.hid hkn
      clear hP hat hR1 hdr hPk hop hk hsh hmo2 hkd hlm hkn
      go_upto_region 7 with fail
      obtain ⟨P8, hP8⟩ : ∃ P8, P8 = wr.heap.size := ⟨_, rfl⟩
      refine namedW (fun w2 hw2 => ?_)
      have p80 : w2.cell? ⟨P8, 0, none⟩ = some (.string nm) := by rw [hw2, hP8]; simp [go_sem]
      have p81 : w2.cell? ⟨P8, 1, none⟩ = some (.int .i64 ax) := by rw [hw2, hP8]; simp [go_sem]
      have hX2 : Ext wr w2 := by rw [hw2]; exact (Ext.refl wr).alloc_ _
      rw [← hP8]
      have HX2 := Lib.hid hX2
      clear hw2 hP8 hX2 o0 o1
      go_upto_region 8 with (go_at_call 28; refine (HSH.out _).mono ?_; rintro e w3 ⟨⟨t, rfl, ht⟩, hq⟩; have p80 := hq.cell_ p80; have p81 := hq.cell_ p81; have HX3 := Lib.hid (HX2.out.trans_ hq); clear hq ht)
      have e1 : kindP ⟨nm, ax⟩ = kd := HKD.out.symm
      have e2 : (shapeP nm).isSome = kn := HKN.out.symm
      rw [e1, e2]
      have p0 := HX3.out.cell_ p0
      have p1 := HX3.out.cell_ p1
      have p2 := HX3.out.cell_ p2
      have p3 := HX3.out.cell_ p3
      have q0 := HX3.out.cell_ q0
      have q1 := HX3.out.cell_ q1
      have q2 := HX3.out.cell_ q2
      have q3 := HX3.out.cell_ q3
      have q4 := HX3.out.cell_ q4
      have q5 := HX3.out.cell_ q5
      have HE3 := Lib.hid (hE.out.trans_ HX3.out)
      have hs3 := HE3.out.size
      have lP2 : P2 < w3.heap.size := cell_lt p0
      have lP5 : P5 < w3.heap.size := cell_lt q0
      have lP8 : P8 < w3.heap.size := cell_lt p80
      have lob : ob < w3.heap.size := by have := HX3.out.size; omega
      clear e1 e2 HX2 hsr
      cases kn with
      | false =>
        obtain rfl : RES = false := HNO.out (bad_no (by unfold badB; rw [show (shapeP nm).isSome = false from HKN.out.symm]; rfl))
        clear HNO HYES
        refine wp_region_held_drew (S := fun W => W.cell? ⟨P8, 1, none⟩ = some (.int .i64 ax) ∧ (W.cell? ⟨P2, 0, none⟩ = some (.slice (some ⟨fb, fo, none⟩) c.funcs.length fcp) ∧ W.cell? ⟨P2, 1, none⟩ = some (.slice ia c.ints.length icp) ∧ W.cell? ⟨P2, 2, none⟩ = some (.slice sa c.strs.length scp) ∧ W.cell? ⟨P2, 3, none⟩ = some (.slice na c.names.length ncp)) ∧ W.cell? ⟨P5, 0, none⟩ = some (.string fn.name) ∧ W.cell? ⟨P5, 1, none⟩ = some (.int .i64 fn.params) ∧ W.cell? ⟨P5, 2, none⟩ = some (.int .i64 fn.locals) ∧ W.cell? ⟨P5, 3, none⟩ = some (.int .i64 fn.cells) ∧ W.cell? ⟨P5, 4, none⟩ = some (.int .i64 fn.frees) ∧ W.cell? ⟨P5, 5, none⟩ = some (.slice (some ⟨ob, oo, none⟩) fn.ops.length vc)) (by kernel_rfl) ?_ (fun hHeld => ?_)
        · exact ⟨p81, ⟨p0, p1, p2, p3⟩, q0, q1, q2, q3, q4, q5⟩
        refine tk 0 ⟨some 39, _, _, _, _, _⟩ ?_ rfl ?_ ?_
        rotate_left
        · (intro w hSw; (try dsimp only at hSw); go_simp; try with_reducible rfl)
        try simp only [tkS]
        refine tk 1 ⟨some 40, _, _, _, _, _⟩ ?_ rfl ?_ ?_
        rotate_left
        · (intro w hSw; (try dsimp only at hSw); go_simp; try with_reducible rfl)
        try simp only [tkS]
        refine tk 2 ⟨some 41, _, _, _, _, _⟩ ?_ rfl ?_ ?_
        rotate_left
        · (intro w hSw; (try dsimp only at hSw); go_simp; try with_reducible rfl)
        try simp only [tkS]
        refine tn 3 ⟨some 42, _, _, _, _, _⟩ rfl ?_
        try simp only [tkS]
        refine tn 4 ⟨some 43, _, _, _, _, _⟩ rfl ?_
        try simp only [tkS]
        refine tn 5 ⟨some 44, _, _, _, _, _⟩ rfl ?_
        try simp only [tkS]
        refine tk 6 ⟨some 45, _, _, _, _, _⟩ ?_ rfl ?_ ?_
        rotate_left
        · (intro w hSw; (try dsimp only at hSw); go_simp; try with_reducible rfl)
        try simp only [tkS]
        refine tk 7 ⟨some 46, _, _, _, _, _⟩ ?_ rfl ?_ ?_
        rotate_left
        · (intro w hSw; (try dsimp only at hSw); go_simp; try with_reducible rfl)
        try simp only [tkS]
        refine tn 8 ⟨some 47, _, _, _, _, _⟩ rfl ?_
        try simp only [tkS]
        refine tn 9 ⟨some 48, _, _, _, _, _⟩ rfl ?_
        try simp only [tkS]
        refine tn 10 ⟨some 49, _, _, _, _, _⟩ rfl ?_
        try simp only [tkS]
        refine tn 11 ⟨some 50, _, _, _, _, _⟩ rfl ?_
        try simp only [tkS]
        refine tn 12 ⟨some 51, _, _, _, _, _⟩ rfl ?_
        try simp only [tkS]
        refine tn 13 ⟨some 52, _, _, _, _, _⟩ rfl ?_
        try simp only [tkS]
        refine tn 14 ⟨some 53, _, _, _, _, _⟩ rfl ?_
        try simp only [tkS]
        refine tk 15 ⟨some 54, _, _, _, _, _⟩ ?_ rfl ?_ ?_
        rotate_left
        · (intro w hSw; (try dsimp only at hSw); go_simp; try with_reducible rfl)
        try simp only [tkS]
        refine wpAnyH_done (by kernel_rfl) ?_ _
        clear hHeld
        go_wp2
        go_ret
        exact ⟨rfl, HX1.out.trans_ (HE3.out.trans_ (by first | exact Ext.refl _ | exact (Ext.refl _).drew_ | exact (Ext.refl _).drewN_ _))⟩
      | true =>
        by_cases ha : ax < 0
        · obtain rfl : RES = false := HNO.out (bad_no (by unfold badB; rw [decide_eq_true ha]; simp))
          have hd : decide (ax < 0) = true := decide_eq_true ha
          clear HNO HYES
          refine wp_region_held_drew (S := fun W => W.cell? ⟨P8, 1, none⟩ = some (.int .i64 ax) ∧ (W.cell? ⟨P2, 0, none⟩ = some (.slice (some ⟨fb, fo, none⟩) c.funcs.length fcp) ∧ W.cell? ⟨P2, 1, none⟩ = some (.slice ia c.ints.length icp) ∧ W.cell? ⟨P2, 2, none⟩ = some (.slice sa c.strs.length scp) ∧ W.cell? ⟨P2, 3, none⟩ = some (.slice na c.names.length ncp)) ∧ W.cell? ⟨P5, 0, none⟩ = some (.string fn.name) ∧ W.cell? ⟨P5, 1, none⟩ = some (.int .i64 fn.params) ∧ W.cell? ⟨P5, 2, none⟩ = some (.int .i64 fn.locals) ∧ W.cell? ⟨P5, 3, none⟩ = some (.int .i64 fn.cells) ∧ W.cell? ⟨P5, 4, none⟩ = some (.int .i64 fn.frees) ∧ W.cell? ⟨P5, 5, none⟩ = some (.slice (some ⟨ob, oo, none⟩) fn.ops.length vc)) (by kernel_rfl) ?_ (fun hHeld => ?_)
          · exact ⟨p81, ⟨p0, p1, p2, p3⟩, q0, q1, q2, q3, q4, q5⟩
          refine tk 0 ⟨some 39, _, _, _, _, _⟩ ?_ rfl ?_ ?_
          rotate_left
          · (intro w hSw; (try dsimp only at hSw); go_simp; try with_reducible rfl)
          try simp only [tkS]
          refine tk 1 ⟨some 40, _, _, _, _, _⟩ ?_ rfl ?_ ?_
          rotate_left
          · (intro w hSw; (try dsimp only at hSw); go_simp; try with_reducible rfl)
          try simp only [tkS]
          refine tk 2 ⟨some 41, _, _, _, _, _⟩ ?_ rfl ?_ ?_
          rotate_left
          · (intro w hSw; (try dsimp only at hSw); go_simp; try with_reducible rfl)
          try simp only [tkS]
          refine tk 3 ⟨some 42, _, _, _, _, _⟩ ?_ rfl ?_ ?_
          rotate_left
          · (intro w hSw; (try dsimp only at hSw); go_simp; try with_reducible rfl)
          try simp only [tkS]
          refine tk 4 ⟨some 43, _, _, _, _, _⟩ ?_ rfl ?_ ?_
          rotate_left
          · (intro w hSw; (try dsimp only at hSw); go_simp; try with_reducible rfl)
          try simp only [tkS]
          refine tk 5 ⟨some 44, _, _, _, _, _⟩ ?_ rfl ?_ ?_
          rotate_left
          · (intro w hSw; (try dsimp only at hSw); go_simp; try with_reducible rfl)
          try simp only [tkS]
          refine tk 6 ⟨some 45, _, _, _, _, _⟩ ?_ rfl ?_ ?_
          rotate_left
          · (intro w hSw; (try dsimp only at hSw); go_simp; try with_reducible rfl)
          try simp only [tkS]
          refine tk 7 ⟨some 46, _, _, _, _, _⟩ ?_ rfl ?_ ?_
          rotate_left
          · (intro w hSw; (try dsimp only at hSw); go_simp; try with_reducible rfl)
          try simp only [tkS]
          refine tn 8 ⟨some 47, _, _, _, _, _⟩ rfl ?_
          try simp only [tkS]
          refine tn 9 ⟨some 48, _, _, _, _, _⟩ rfl ?_
          try simp only [tkS]
          refine tn 10 ⟨some 49, _, _, _, _, _⟩ rfl ?_
          try simp only [tkS]
          refine tn 11 ⟨some 50, _, _, _, _, _⟩ rfl ?_
          try simp only [tkS]
          refine tn 12 ⟨some 51, _, _, _, _, _⟩ rfl ?_
          try simp only [tkS]
          refine tn 13 ⟨some 52, _, _, _, _, _⟩ rfl ?_
          try simp only [tkS]
          refine tn 14 ⟨some 53, _, _, _, _, _⟩ rfl ?_
          try simp only [tkS]
          refine tk 15 ⟨some 54, _, _, _, _, _⟩ ?_ rfl ?_ ?_
          rotate_left
          · (intro w hSw; (try dsimp only at hSw); go_simp; try with_reducible rfl)
          try simp only [tkS]
          refine wpAnyH_done (by kernel_rfl) ?_ _
          clear hHeld
          go_wp2
          go_ret
          exact ⟨rfl, HX1.out.trans_ (HE3.out.trans_ (by first | exact Ext.refl _ | exact (Ext.refl _).drew_ | exact (Ext.refl _).drewN_ _))⟩
        have hd : decide (ax < 0) = false := decide_eq_false ha
        have ew : IntKind.i64.wrap (lim - 1) = lim - 1 := IntWalk.i64_in _ (by have := HLM.out; have := limit_ge c fn HF.out (shK nm); omega)
        by_cases hm : lim - 1 < ax
        · obtain rfl : RES = false := HNO.out (bad_no (by unfold badB; rw [show decide (limitP c fn (shK nm) ≤ ax) = true from decide_eq_true (by rw [← HLM.out]; omega)]; simp))
          have hd2 : decide (lim - 1 < ax) = true := decide_eq_true hm
          clear HNO HYES
          refine wp_region_held_drew (S := fun W => W.cell? ⟨P8, 1, none⟩ = some (.int .i64 ax) ∧ (W.cell? ⟨P2, 0, none⟩ = some (.slice (some ⟨fb, fo, none⟩) c.funcs.length fcp) ∧ W.cell? ⟨P2, 1, none⟩ = some (.slice ia c.ints.length icp) ∧ W.cell? ⟨P2, 2, none⟩ = some (.slice sa c.strs.length scp) ∧ W.cell? ⟨P2, 3, none⟩ = some (.slice na c.names.length ncp)) ∧ W.cell? ⟨P5, 0, none⟩ = some (.string fn.name) ∧ W.cell? ⟨P5, 1, none⟩ = some (.int .i64 fn.params) ∧ W.cell? ⟨P5, 2, none⟩ = some (.int .i64 fn.locals) ∧ W.cell? ⟨P5, 3, none⟩ = some (.int .i64 fn.cells) ∧ W.cell? ⟨P5, 4, none⟩ = some (.int .i64 fn.frees) ∧ W.cell? ⟨P5, 5, none⟩ = some (.slice (some ⟨ob, oo, none⟩) fn.ops.length vc)) (by kernel_rfl) ?_ (fun hHeld => ?_)
          · exact ⟨p81, ⟨p0, p1, p2, p3⟩, q0, q1, q2, q3, q4, q5⟩
          refine tk 0 ⟨some 39, _, _, _, _, _⟩ ?_ rfl ?_ ?_
          rotate_left
          · (intro w hSw; (try dsimp only at hSw); go_simp; try with_reducible rfl)
          try simp only [tkS]
          refine tk 1 ⟨some 40, _, _, _, _, _⟩ ?_ rfl ?_ ?_
          rotate_left
          · (intro w hSw; (try dsimp only at hSw); go_simp; try with_reducible rfl)
          try simp only [tkS]
          refine tk 2 ⟨some 41, _, _, _, _, _⟩ ?_ rfl ?_ ?_
          rotate_left
          · (intro w hSw; (try dsimp only at hSw); go_simp; try with_reducible rfl)
          try simp only [tkS]
          refine tk 3 ⟨some 42, _, _, _, _, _⟩ ?_ rfl ?_ ?_
          rotate_left
          · (intro w hSw; (try dsimp only at hSw); go_simp; try with_reducible rfl)
          try simp only [tkS]
          refine tk 4 ⟨some 43, _, _, _, _, _⟩ ?_ rfl ?_ ?_
          rotate_left
          · (intro w hSw; (try dsimp only at hSw); go_simp; try with_reducible rfl)
          try simp only [tkS]
          refine tk 5 ⟨some 44, _, _, _, _, _⟩ ?_ rfl ?_ ?_
          rotate_left
          · (intro w hSw; (try dsimp only at hSw); go_simp; try with_reducible rfl)
          try simp only [tkS]
          refine tk 6 ⟨some 45, _, _, _, _, _⟩ ?_ rfl ?_ ?_
          rotate_left
          · (intro w hSw; (try dsimp only at hSw); go_simp; try with_reducible rfl)
          try simp only [tkS]
          refine tk 7 ⟨some 46, _, _, _, _, _⟩ ?_ rfl ?_ ?_
          rotate_left
          · (intro w hSw; (try dsimp only at hSw); go_simp; try with_reducible rfl)
          try simp only [tkS]
          refine tk 8 ⟨some 47, _, _, _, _, _⟩ ?_ rfl ?_ ?_
          rotate_left
          · (intro w hSw; (try dsimp only at hSw); go_simp; try with_reducible rfl)
          try simp only [tkS]
          refine tk 9 ⟨some 48, _, _, _, _, _⟩ ?_ rfl ?_ ?_
          rotate_left
          · (intro w hSw; (try dsimp only at hSw); go_simp; try with_reducible rfl)
          try simp only [tkS]
          refine tk 10 ⟨some 49, _, _, _, _, _⟩ ?_ rfl ?_ ?_
          rotate_left
          · (intro w hSw; (try dsimp only at hSw); go_simp; try with_reducible rfl)
          try simp only [tkS]
          refine tk 11 ⟨some 50, _, _, _, _, _⟩ ?_ rfl ?_ ?_
          rotate_left
          · (intro w hSw; (try dsimp only at hSw); go_simp; try with_reducible rfl)
          try simp only [tkS]
          refine tk 12 ⟨some 51, _, _, _, _, _⟩ ?_ rfl ?_ ?_
          rotate_left
          · (intro w hSw; (try dsimp only at hSw); go_simp; try with_reducible rfl)
          try simp only [tkS]
          refine wpAnyH_ready (rs := [13]) (by kernel_rfl) (by simp) ?_
          refine AllReadyH.cons (o := ⟨some 52, _, _, _, _, _⟩) rfl (fun K hK => ?_) AllReadyH.nil
          go_simp
          refine (HMO.out _).mono ?_
          rintro e w4 ⟨rfl, hE4⟩
          have HX4 : Hid (Ext w3 w4) := Ext.trans_ (by first | exact Ext.refl _ | exact (Ext.refl _).drew_ | exact (Ext.refl _).drewN_ _) hE4
          clear hE4
          refine hK.out _ _ ?_ (fun hHeld => ?_)
          · (try dsimp only); exact ⟨HX4.out.cell_ p81, ⟨HX4.out.cell_ p0, HX4.out.cell_ p1, HX4.out.cell_ p2, HX4.out.cell_ p3⟩, HX4.out.cell_ q0, HX4.out.cell_ q1, HX4.out.cell_ q2, HX4.out.cell_ q3, HX4.out.cell_ q4, HX4.out.cell_ q5⟩
          clear hK K
          try simp only [tkS]
          refine tk 14 ⟨some 53, _, _, _, _, _⟩ ?_ rfl ?_ ?_
          rotate_left
          · (intro w hSw; (try dsimp only at hSw); go_simp; try with_reducible rfl)
          try simp only [tkS]
          refine tk 15 ⟨some 54, _, _, _, _, _⟩ ?_ rfl ?_ ?_
          rotate_left
          · (intro w hSw; (try dsimp only at hSw); go_simp; try with_reducible rfl)
          try simp only [tkS]
          refine wpAnyH_done (by kernel_rfl) ?_ _
          clear hHeld
          go_wp2
          go_ret
          exact ⟨rfl, HX1.out.trans_ ((HE3.out.trans_ HX4.out).trans_ (by first | exact Ext.refl _ | exact (Ext.refl _).drew_ | exact (Ext.refl _).drewN_ _))⟩
        have hd2 : decide (lim - 1 < ax) = false := decide_eq_false hm
        refine wp_region_held_drew (S := fun W => W.cell? ⟨P8, 1, none⟩ = some (.int .i64 ax) ∧ (W.cell? ⟨P2, 0, none⟩ = some (.slice (some ⟨fb, fo, none⟩) c.funcs.length fcp) ∧ W.cell? ⟨P2, 1, none⟩ = some (.slice ia c.ints.length icp) ∧ W.cell? ⟨P2, 2, none⟩ = some (.slice sa c.strs.length scp) ∧ W.cell? ⟨P2, 3, none⟩ = some (.slice na c.names.length ncp)) ∧ W.cell? ⟨P5, 0, none⟩ = some (.string fn.name) ∧ W.cell? ⟨P5, 1, none⟩ = some (.int .i64 fn.params) ∧ W.cell? ⟨P5, 2, none⟩ = some (.int .i64 fn.locals) ∧ W.cell? ⟨P5, 3, none⟩ = some (.int .i64 fn.cells) ∧ W.cell? ⟨P5, 4, none⟩ = some (.int .i64 fn.frees) ∧ W.cell? ⟨P5, 5, none⟩ = some (.slice (some ⟨ob, oo, none⟩) fn.ops.length vc)) (by kernel_rfl) ?_ (fun hHeld => ?_)
        · exact ⟨p81, ⟨p0, p1, p2, p3⟩, q0, q1, q2, q3, q4, q5⟩
        refine tk 0 ⟨some 39, _, _, _, _, _⟩ ?_ rfl ?_ ?_
        rotate_left
        · (intro w hSw; (try dsimp only at hSw); go_simp; try with_reducible rfl)
        try simp only [tkS]
        refine tk 1 ⟨some 40, _, _, _, _, _⟩ ?_ rfl ?_ ?_
        rotate_left
        · (intro w hSw; (try dsimp only at hSw); go_simp; try with_reducible rfl)
        try simp only [tkS]
        refine tk 2 ⟨some 41, _, _, _, _, _⟩ ?_ rfl ?_ ?_
        rotate_left
        · (intro w hSw; (try dsimp only at hSw); go_simp; try with_reducible rfl)
        try simp only [tkS]
        refine tk 3 ⟨some 42, _, _, _, _, _⟩ ?_ rfl ?_ ?_
        rotate_left
        · (intro w hSw; (try dsimp only at hSw); go_simp; try with_reducible rfl)
        try simp only [tkS]
        refine tk 4 ⟨some 43, _, _, _, _, _⟩ ?_ rfl ?_ ?_
        rotate_left
        · (intro w hSw; (try dsimp only at hSw); go_simp; try with_reducible rfl)
        try simp only [tkS]
        refine tk 5 ⟨some 44, _, _, _, _, _⟩ ?_ rfl ?_ ?_
        rotate_left
        · (intro w hSw; (try dsimp only at hSw); go_simp; try with_reducible rfl)
        try simp only [tkS]
        refine tk 6 ⟨some 45, _, _, _, _, _⟩ ?_ rfl ?_ ?_
        rotate_left
        · (intro w hSw; (try dsimp only at hSw); go_simp; try with_reducible rfl)
        try simp only [tkS]
        refine tk 7 ⟨some 46, _, _, _, _, _⟩ ?_ rfl ?_ ?_
        rotate_left
        · (intro w hSw; (try dsimp only at hSw); go_simp; try with_reducible rfl)
        try simp only [tkS]
        refine tk 8 ⟨some 47, _, _, _, _, _⟩ ?_ rfl ?_ ?_
        rotate_left
        · (intro w hSw; (try dsimp only at hSw); go_simp; try with_reducible rfl)
        try simp only [tkS]
        refine tk 9 ⟨some 48, _, _, _, _, _⟩ ?_ rfl ?_ ?_
        rotate_left
        · (intro w hSw; (try dsimp only at hSw); go_simp; try with_reducible rfl)
        try simp only [tkS]
        refine tk 10 ⟨some 49, _, _, _, _, _⟩ ?_ rfl ?_ ?_
        rotate_left
        · (intro w hSw; (try dsimp only at hSw); go_simp; try with_reducible rfl)
        try simp only [tkS]
        refine tk 11 ⟨some 50, _, _, _, _, _⟩ ?_ rfl ?_ ?_
        rotate_left
        · (intro w hSw; (try dsimp only at hSw); go_simp; try with_reducible rfl)
        try simp only [tkS]
        refine tk 12 ⟨some 51, _, _, _, _, _⟩ ?_ rfl ?_ ?_
        rotate_left
        · (intro w hSw; (try dsimp only at hSw); go_simp; try with_reducible rfl)
        try simp only [tkS]
        refine wpAnyH_ready (rs := [13]) (by kernel_rfl) (by simp) ?_
        refine AllReadyH.cons (o := ⟨some 52, _, _, _, _, _⟩) rfl (fun K hK => ?_) AllReadyH.nil
        go_simp
        refine (HMO.out _).mono ?_
        rintro e w4 ⟨rfl, hE4⟩
        have HX4 : Hid (Ext w3 w4) := Ext.trans_ (by first | exact Ext.refl _ | exact (Ext.refl _).drew_ | exact (Ext.refl _).drewN_ _) hE4
        clear hE4
        refine hK.out _ _ ?_ (fun hHeld => ?_)
        · (try dsimp only); exact ⟨HX4.out.cell_ p81, ⟨HX4.out.cell_ p0, HX4.out.cell_ p1, HX4.out.cell_ p2, HX4.out.cell_ p3⟩, HX4.out.cell_ q0, HX4.out.cell_ q1, HX4.out.cell_ q2, HX4.out.cell_ q3, HX4.out.cell_ q4, HX4.out.cell_ q5⟩
        clear hK K
        try simp only [tkS]
        refine tk 14 ⟨some 53, _, _, _, _, _⟩ ?_ rfl ?_ ?_
        rotate_left
        · (intro w hSw; (try dsimp only at hSw); go_simp; try with_reducible rfl)
        try simp only [tkS]
        refine tk 15 ⟨some 54, _, _, _, _, _⟩ ?_ rfl ?_ ?_
        rotate_left
        · (intro w hSw; (try dsimp only at hSw); go_simp; try with_reducible rfl)
        try simp only [tkS]
        refine wpAnyH_done (by kernel_rfl) ?_ _
        clear hHeld
        go_upto_region 10 with fail
        obtain ⟨w5, hw5⟩ : ∃ w5, w5 = w4 := ⟨_, rfl⟩
        rw [← hw5]
        have hX5 : Ext w3 w5 := by rw [hw5]; exact HX4.out.trans_ (by first | exact Ext.refl _ | exact (Ext.refl _).drew_ | exact (Ext.refl _).drewN_ _)
        have p0 := hX5.cell_ p0
        have q4 := hX5.cell_ q4
        have q5 := hX5.cell_ q5
        have p80 := hX5.cell_ p80
        have p81 := hX5.cell_ p81
        have HE5 := Lib.hid (HE3.out.trans_ hX5)
        have lP2 : P2 < w5.heap.size := cell_lt p0
        have lP5 : P5 < w5.heap.size := cell_lt q5
        have lP8 : P8 < w5.heap.size := cell_lt p80
        have hs5 := HE5.out.size
        have hBAD : ∀ b, ((decide (nm = n_halt) && !first) || (decide (nm = n_return) && first)) = b → badB c fn first ⟨nm, ax⟩ = b := fun b hb => by
          unfold badB
          rw [show (shapeP nm).isSome = true from HKN.out.symm, show decide (limitP c fn (shK nm) ≤ ax) = false from decide_eq_false (by rw [← HLM.out]; omega)]
          simp only at hb ⊢
          rw [hd, hb]
          rfl
        have HBAD := Lib.hid hBAD
        clear hw5 hX5 hBAD p1 p2 p3 q0 q1 q2 q3 HE3 HX3 hs3 HX4 ew hd hd2
        by_cases m_halt : nm = n_halt
        · have hnm := m_halt
          have t_halt : (nm.toList == [104, 97, 108, 116]) = true := by rw [show nm = n_halt from hnm]; decide +kernel
          have t_return : (nm.toList == [114, 101, 116, 117, 114, 110]) = false := by rw [show nm = n_halt from hnm]; decide +kernel
          have t_take : (nm.toList == [116, 97, 107, 101]) = false := by rw [show nm = n_halt from hnm]; decide +kernel
          have t_closure : (nm.toList == [99, 108, 111, 115, 117, 114, 101]) = false := by rw [show nm = n_halt from hnm]; decide +kernel
          have t_op : (kd.toList == [111, 112]) = false := by rw [HKD.out, hnm]; decide +kernel
          have dT : decide (nm = n_take) = false := by rw [hnm]; decide
          have dO : decide (shK nm = a_op) = false := by rw [hnm]; decide
          by_cases hi0 : i = 0
          · subst hi0
            obtain rfl : first = true := HFI.out
            have hb := HBAD.out false (by rw [hnm]; rfl)
            by_cases hl : 0 < left
            · obtain rfl : RES = false := HNO.out (by rw [form1_eq, hb]; simp only [dT, dO, decide_eq_true hl]; rfl)
              clear m_halt hnm
              clear HNO HYES dT dO hb
              clear HBAD
              go_wp2
              go_ret
              exact ⟨rfl, HX1.out.trans_ HE5.out⟩
            · have hf1 : form1 c fn true left ⟨nm, ax⟩ = true := by rw [form1_eq, hb]; simp only [dT, dO, decide_eq_false hl]; rfl
              have hln : leftN c left ⟨nm, ax⟩ = left := by unfold leftN; simp only; rw [hnm, if_neg (by decide), if_neg (by decide)]
              clear m_halt hnm
              clear dT dO hb
              have hnext := HYES.out (hf1)
              rw [show leftN c left ⟨nm, ax⟩ = left from hln] at hnext
              have HNX := Lib.hid hnext
              clear hnext HYES HNO HBAD
              go_wp2
              go_roundg r
              case measure => omega
              case rel => exact ⟨k + 1, left, by have := HK.out; omega, by first | rfl | go_num, by go_num, by omega, HNX.out, HE5.out⟩
          · have hiz0 : (0 : Int) < (i : Int) := by omega
            obtain rfl : first = false := by rw [HFI.out]; simp; omega
            obtain rfl : RES = false := HNO.out (bad_no (HBAD.out true (by rw [hnm]; rfl)))
            clear HNO HYES m_halt hnm hi0 t_op dT dO
            clear HBAD
            go_wp2
            go_ret
            exact ⟨rfl, HX1.out.trans_ HE5.out⟩
        by_cases m_return : nm = n_return
        · have hnm := m_return
          have t_halt : (nm.toList == [104, 97, 108, 116]) = false := by rw [show nm = n_return from hnm]; decide +kernel
          have t_return : (nm.toList == [114, 101, 116, 117, 114, 110]) = true := by rw [show nm = n_return from hnm]; decide +kernel
          have t_take : (nm.toList == [116, 97, 107, 101]) = false := by rw [show nm = n_return from hnm]; decide +kernel
          have t_closure : (nm.toList == [99, 108, 111, 115, 117, 114, 101]) = false := by rw [show nm = n_return from hnm]; decide +kernel
          have t_op : (kd.toList == [111, 112]) = false := by rw [HKD.out, hnm]; decide +kernel
          have dT : decide (nm = n_take) = false := by rw [hnm]; decide
          have dO : decide (shK nm = a_op) = false := by rw [hnm]; decide
          by_cases hi0 : i = 0
          · subst hi0
            obtain rfl : first = true := HFI.out
            obtain rfl : RES = false := HNO.out (bad_no (HBAD.out true (by rw [hnm]; rfl)))
            clear HNO HYES m_return hnm t_op dT dO
            clear HBAD
            go_wp2
            go_ret
            exact ⟨rfl, HX1.out.trans_ HE5.out⟩
          · have hiz0 : ((i : Int) == 0) = false := by simp; omega
            obtain rfl : first = false := by rw [HFI.out]; simp; omega
            have hb := HBAD.out false (by rw [hnm]; rfl)
            by_cases hl : 0 < left
            · obtain rfl : RES = false := HNO.out (by rw [form1_eq, hb]; simp only [dT, dO, decide_eq_true hl]; rfl)
              clear m_return hnm
              clear HNO HYES dT dO hb
              clear HBAD
              go_wp2
              go_ret
              exact ⟨rfl, HX1.out.trans_ HE5.out⟩
            · have hf1 : form1 c fn false left ⟨nm, ax⟩ = true := by rw [form1_eq, hb]; simp only [dT, dO, decide_eq_false hl]; rfl
              have hln : leftN c left ⟨nm, ax⟩ = left := by unfold leftN; simp only; rw [hnm, if_neg (by decide), if_neg (by decide)]
              clear m_return hnm
              clear dT dO hb
              have hnext := HYES.out (hf1)
              rw [show leftN c left ⟨nm, ax⟩ = left from hln] at hnext
              have HNX := Lib.hid hnext
              clear hnext HYES HNO HBAD
              go_wp2
              go_roundg r
              case measure => omega
              case rel => exact ⟨k + 1, left, by have := HK.out; omega, by first | rfl | go_num, by go_num, by omega, HNX.out, HE5.out⟩
        by_cases m_take : nm = n_take
        · have hnm := m_take
          have t_halt : (nm.toList == [104, 97, 108, 116]) = false := by rw [show nm = n_take from hnm]; decide +kernel
          have t_return : (nm.toList == [114, 101, 116, 117, 114, 110]) = false := by rw [show nm = n_take from hnm]; decide +kernel
          have t_take : (nm.toList == [116, 97, 107, 101]) = true := by rw [show nm = n_take from hnm]; decide +kernel
          have t_closure : (nm.toList == [99, 108, 111, 115, 117, 114, 101]) = false := by rw [show nm = n_take from hnm]; decide +kernel
          have t_op : (kd.toList == [111, 112]) = false := by rw [HKD.out, hnm]; decide +kernel
          have dT : decide (nm = n_take) = true := by rw [hnm]; decide
          have dO : decide (shK nm = a_op) = false := by rw [hnm]; decide
          have hb := HBAD.out false (by rw [hnm]; cases first <;> rfl)
          by_cases hl : 0 < left
          · have hf1 : form1 c fn first left ⟨nm, ax⟩ = true := by rw [form1_eq, hb]; simp only [dT, dO, decide_eq_true hl]; rfl
            have hln : leftN c left ⟨nm, ax⟩ = left - 1 := by unfold leftN; simp only; rw [hnm, if_neg (by decide), if_pos rfl]
            clear m_take hnm
            clear dT dO hb
            have hnext := HYES.out (hf1)
            rw [show leftN c left ⟨nm, ax⟩ = (left - 1) from hln] at hnext
            have HNX := Lib.hid hnext
            clear hnext HYES HNO HBAD
            go_wp2
            go_roundg r
            case measure => omega
            case rel => exact ⟨k + 1, (left - 1), by have := HK.out; omega, by first | rfl | go_num, by go_num, by omega, HNX.out, HE5.out⟩
          · obtain rfl : RES = false := HNO.out (by rw [form1_eq, hb]; simp only [dT, dO, decide_eq_false hl]; rfl)
            clear m_take hnm
            clear HNO HYES dT dO hb
            clear HBAD
            go_wp2
            go_ret
            exact ⟨rfl, HX1.out.trans_ HE5.out⟩
        by_cases m_closure : nm = n_closure
        · have hnm := m_closure
          have t_halt : (nm.toList == [104, 97, 108, 116]) = false := by rw [show nm = n_closure from hnm]; decide +kernel
          have t_return : (nm.toList == [114, 101, 116, 117, 114, 110]) = false := by rw [show nm = n_closure from hnm]; decide +kernel
          have t_take : (nm.toList == [116, 97, 107, 101]) = false := by rw [show nm = n_closure from hnm]; decide +kernel
          have t_closure : (nm.toList == [99, 108, 111, 115, 117, 114, 101]) = true := by rw [show nm = n_closure from hnm]; decide +kernel
          have t_op : (kd.toList == [111, 112]) = false := by rw [HKD.out, hnm]; decide +kernel
          have dT : decide (nm = n_take) = false := by rw [hnm]; decide
          have dO : decide (shK nm = a_op) = false := by rw [hnm]; decide
          have hb := HBAD.out false (by rw [hnm]; cases first <;> rfl)
          by_cases hl : 0 < left
          · obtain rfl : RES = false := HNO.out (by rw [form1_eq, hb]; simp only [dT, dO, decide_eq_true hl]; rfl)
            clear m_closure hnm
            clear HNO HYES dT dO hb
            clear HBAD
            go_wp2
            go_ret
            exact ⟨rfl, HX1.out.trans_ HE5.out⟩
          · have hf1 : form1 c fn first left ⟨nm, ax⟩ = true := by rw [form1_eq, hb]; simp only [dT, dO, decide_eq_false hl]; rfl
            have hlf : lim = (c.funcs.length : Int) := by rw [HLM.out, hnm]; rfl
            obtain ⟨a, rfl⟩ : ∃ a : Nat, ax = (a : Int) := ⟨ax.toNat, by omega⟩
            have haf : a < c.funcs.length := by omega
            have haz : (a : Int) < (c.funcs.length : Int) := by omega
            obtain ⟨fb2, fo2, -, -, hfa2, -, -, -, -, c4, -, -, -⟩ := fn_cells (HR.out.ext (HX1.out.trans_ HE5.out)) haf
            simp only [Option.some.injEq, Addr.mk.injEq, and_true] at hfa2
            obtain ⟨rfl, rfl⟩ := hfa2
            obtain ⟨r0, r1⟩ := HFR.out _ (List.getElem_mem haf)
            have hln : leftN c left ⟨nm, (a : Int)⟩ = (c.funcs[a]).frees := by unfold leftN; simp only; rw [hnm, if_pos rfl]; simp [haf]
            have hlfb2 : fb < w5.heap.size := cell_lt c4
            generalize (c.funcs[a]).frees = fr at *
            clear m_closure hnm
            clear dT dO hb hlf
            have hnext := HYES.out (hf1)
            rw [show leftN c left ⟨nm, (a : Int)⟩ = fr from hln] at hnext
            have HNX := Lib.hid hnext
            clear hnext HYES HNO HBAD
            go_wp2
            go_roundg r
            case measure => omega
            case rel => exact ⟨k + 1, fr, by have := HK.out; omega, by first | rfl | go_num, by go_num, by omega, HNX.out, HE5.out⟩
        have t_halt : (nm.toList == [104, 97, 108, 116]) = false := str_no (l := [104, 97, 108, 116]) m_halt
        have t_return : (nm.toList == [114, 101, 116, 117, 114, 110]) = false := str_no (l := [114, 101, 116, 117, 114, 110]) m_return
        have t_take : (nm.toList == [116, 97, 107, 101]) = false := str_no (l := [116, 97, 107, 101]) m_take
        have t_closure : (nm.toList == [99, 108, 111, 115, 117, 114, 101]) = false := str_no (l := [99, 108, 111, 115, 117, 114, 101]) m_closure
        have dT : decide (nm = n_take) = false := decide_eq_false m_take
        have hb := HBAD.out false (by rw [decide_eq_false m_halt, decide_eq_false m_return]; rfl)
        have hln : leftN c left ⟨nm, ax⟩ = left := by unfold leftN; simp only; rw [if_neg m_closure, if_neg m_take]
        clear m_halt m_return m_take m_closure
        by_cases hl : 0 < left
        · obtain rfl : RES = false := HNO.out (by rw [form1_eq, hb]; simp only [dT, decide_eq_true hl]; rfl)
          clear HNO HYES dT hb hln
          clear HBAD
          go_wp2
          go_ret
          exact ⟨rfl, HX1.out.trans_ HE5.out⟩
        by_cases hko : kd = a_op
        · have t_op : (kd.toList == [111, 112]) = true := by rw [hko]; decide +kernel
          have dO : decide (shK nm = a_op) = true := by rw [← HKD.out, hko]; rfl
          have hlf : lim = (fn.ops.length : Int) := by rw [HLM.out, ← HKD.out, hko]; rfl
          obtain ⟨a, rfl⟩ : ∃ a : Nat, ax = (a : Int) := ⟨ax.toNat, by omega⟩
          have haf : a < fn.ops.length := by omega
          have haz : (a : Int) < (fn.ops.length : Int) := by omega
          have c0 := (HOPS.out.ext (HX1.out.trans_ HE5.out)).at_ (opCells_at fn.ops a haf).1
          have hoa : opAt fn.ops a = fn.ops[a] := by unfold opAt; rw [List.getD_eq_getElem?_getD, List.getElem?_eq_getElem haf]; rfl
          have lob5 : ob < w5.heap.size := cell_lt c0
          have HOA := Lib.hid hoa
          generalize fn.ops[a] = op2 at *
          obtain ⟨nm2, ax2⟩ := op2
          simp only at c0
          clear hoa hko hlf
          by_cases m2 : nm2 = n_take
          · have t2 : (nm2.toList == [116, 97, 107, 101]) = true := by rw [m2]; decide +kernel
            obtain rfl : RES = false := HNO.out (by rw [form1_eq, hb]; simp only [dT, dO, decide_eq_false hl, Int.toNat_natCast, HOA.out]; simp [m2])
            clear HNO HYES dT dO hb hln m2
            clear HBAD
            go_wp2
            go_ret
            exact ⟨rfl, HX1.out.trans_ HE5.out⟩
          have t2 : (nm2.toList == [116, 97, 107, 101]) = false := str_no (l := [116, 97, 107, 101]) m2
          have hf1 : form1 c fn first left ⟨nm, (a : Int)⟩ = true := by rw [form1_eq, hb]; simp only [dT, dO, decide_eq_false hl, Int.toNat_natCast, HOA.out]; simp [m2]
          clear dT dO hb m2
          have hnext := HYES.out (hf1)
          rw [show leftN c left ⟨nm, (a : Int)⟩ = left from hln] at hnext
          have HNX := Lib.hid hnext
          clear hnext HYES HNO HBAD
          go_wp2
          go_roundg r
          case measure => omega
          case rel => exact ⟨k + 1, left, by have := HK.out; omega, by first | rfl | go_num, by go_num, by omega, HNX.out, HE5.out⟩
        have t_op : (kd.toList == [111, 112]) = false := str_no (l := [111, 112]) hko
        have dO : decide (shK nm = a_op) = false := by rw [← HKD.out]; exact decide_eq_false hko
        have hf1 : form1 c fn first left ⟨nm, ax⟩ = true := by rw [form1_eq, hb]; simp only [dT, dO, decide_eq_false hl]; rfl
        clear dT dO hb hko
        have hnext := HYES.out (hf1)
        rw [show leftN c left ⟨nm, ax⟩ = left from hln] at hnext
        have HNX := Lib.hid hnext
        clear hnext HYES HNO HBAD
        go_wp2
        go_roundg r
        case measure => omega
        case rel => exact ⟨k + 1, left, by have := HK.out; omega, by first | rfl | go_num, by go_num, by omega, HNX.out, HE5.out⟩
    | zero =>
      obtain rfl : k = fn.ops.length := by omega
      have hltz : ¬ ((fn.ops.length : Nat) : Int) < (fn.ops.length : Int) := by omega
      have hP2 : formP c fn first 0 fn.ops = (left == 0) := by have := hP.out; rw [List.drop_length] at this; exact this
      clear hP hk
      by_cases hleft : 0 < left
      · obtain rfl : RES = false := by rw [HRES.out]; unfold funcB; rw [hP2, show (left == 0) = false by simp; omega]; rfl
        clear hP2
        go_wp2
        go_ret
        exact ⟨rfl, HX1.out.trans_ hE.out⟩
      have hform : formP c fn first 0 fn.ops = true := by rw [hP2]; simp; omega
      have hres : RES = okP false fn.ops.length (stepsP fn.ops) := by rw [HRES.out]; unfold funcB; rw [hform]; rfl
      have HFM := Lib.hid hform
      have HRES2 := Lib.hid hres
      have HEW := Lib.hid (HX1.out.trans_ hE.out)
      clear hP2 hform hres HRES
      obtain ⟨i0, hii, hz0, hz1, hz2'⟩ := info_parts infoState3
      go_upto_region 22 with fail
      obtain ⟨w5, hw5⟩ : ∃ w5, w5 = wr := ⟨_, rfl⟩
      rw [← hw5] at HEW p0 p1 p2 p3 q0 q1 q2 q3 q4 q5 lP2 lP5 hsr ⊢
      have HO5 := HOPS.out.ext HEW.out
      have hsw := HEW.out.size
      have HOPS5 := Lib.hid HO5
      clear hw5 HO5 hE
      have hmk : ∀ W : World, (Instr.makeSlice 100 (.int .i64 (fn.ops.length : Int)) (.int .i64 (fn.ops.length : Int))).run Tryd.prog W = .ok (.slice (some ⟨W.heap.size, 0, none⟩) fn.ops.length fn.ops.length) (W.alloc (.cells (madeCells z3 (fn.ops.length * 3)) 132)) := fun W => by
        have := run_make (P := Tryd.prog) W 100 132 i0 _ undStates3 hii hz0 .i64 .i64 (fn.ops.length : Int) (fn.ops.length : Int) (by omega) (Int.le_refl _) (by rw [hz2']; omega) (by omega)
        rw [hz1, Int.toNat_natCast] at this
        exact this
      go_cut [13] from 103 to 111 (fun p wx => ∃ (K sb : Nat), p = .pointer (some ⟨K, 0, none⟩) ∧ Hid (OGo wx w.heap.size K sb fn (va, vc) (.slice none 0 0) ⟨List.replicate fn.ops.length none, [], true⟩) ∧ Hid (Ext w5 wx))
      case first =>
        go_region
        all_goals
          go_wp2_with fail
          go_meet
          case rel =>
            refine ⟨_, _, rfl, made_go (K := w5.heap.size + 1) (sb := w5.heap.size) ?_ ?_ ?_ ?_ ?_ ?_ ?_, ?_⟩
            · exact (two_blk w5 _ _).2
            · exact (two_blk w5 _ _).1
            · exact HOPS5.out.ext (((Ext.refl w5).alloc_ _).alloc_ _).drew_
            · omega
            · omega
            · omega
            · exact HOB.out
            · exact (((Ext.refl w5).alloc_ _).alloc_ _).drew_
      case rest =>
        obtain ⟨K, sb, rfl, hO, hX6⟩ := hcut
        clear hmk hii hz0 hz1 hz2'
        obtain ⟨w6, hw6⟩ : ∃ w6, w6 = wc := ⟨_, rfl⟩
        rw [← hw6] at hO hX6 ⊢
        have HX6 := Lib.hid (HEW.out.trans_ hX6.out)
        have hlK := hO.out.lt.1
        clear hw6 hX6 p0 p1 p2 p3 q0 q1 q2 q3 q4 q5
        have hcc := goC_any w.heap.size K sb fn (va, vc) (.slice none 0 0) _ w6 hO.out (TallP.zero _) h6 0 (Int.le_refl _) (0, []) (by simp) none 0 (RInts.nothing _)
        have HCC := Lib.hid hcc
        clear hcc
        go_upto_region 24 with (go_at_call 47; refine HCC.out.mono ?_; rintro e w7 ⟨rfl, tv7, ho7, hk7, hn7⟩; have HO7 := Lib.hid ho7; have HX7 := Lib.hid (HX6.out.keep hk7 (fun k hk => by rcases hk with q | q | q; exact q ▸ hO.out.hK; exact q ▸ hO.out.hS; exact (by cases q))); clear ho7 hk7 hn7)
        have HO7' : Hid (OGo w7 w.heap.size K sb fn (va, vc) tv7 (startP fn.ops.length)) := HO7.out
        clear HO7 HCC hO HX6 hlK
        go_loopg [14] (fn.ops.length + 1) (fun r s14 wr => ∃ (tv : Value) (g : GoP), Hid (OGo wr w.heap.size K sb fn (va, vc) tv g) ∧ Hid (TallP fn.ops.length g) ∧ leftP g ≤ r ∧ Hid (RES = (runP false fn.ops.length (stepsP fn.ops) r g).ok) ∧ Hid (Ext w wr))
        case atStart => exact ⟨tv7, startP fn.ops.length, HO7', TallP.start _, start_left _, HRES2.out, HX7⟩
        case round =>
          obtain ⟨tv, g, hO, hT, hl, hP, hE⟩ := hrel
          clear HX7 HO7' HRES2
          have k7 := hO.out.k7
          have k8 := hO.out.k8
          have fr7 := hO.out.froK 7
          have hlw := hO.out.lt.1
          cases htd : g.todo with
          | nil =>
            have ht := hO.out.todo
            rw [htd] at ht
            obtain ⟨ta, tc, rfl⟩ : ∃ ta tc, tv = .slice ta 0 tc := by
              rcases ht with ⟨h1, _⟩ | ⟨_, _, _, _, h1, _⟩
              · exact ⟨_, _, h1⟩
              · exact ⟨_, _, h1⟩
            obtain rfl : RES = g.ok := by rw [hP.out, run_end (Or.inl htd)]
            clear ht htd hP hl
            cases hok : g.ok with
            | false =>
              rw [hok] at k8
              go_wp2
              go_ret
              exact ⟨by rw [hok]; rfl, hE.out⟩
            | true =>
              rw [hok] at k8
              go_wp2
              go_ret
              exact ⟨by rw [hok]; rfl, hE.out⟩
          | cons t tl =>
            have ht := hO.out.todo
            rw [htd] at ht
            have ht2 : Tail wr w.heap.size 3 tv (.int .i64 (t : Int) :: natsV tl) := ht
            obtain ⟨tb, to_, tc, A, rfl, c0, hrest⟩ := tail_nat ht2
            cases hok : g.ok with
            | false =>
              obtain rfl : RES = false := by rw [hP.out, run_end (Or.inr hok)]; exact hok
              rw [hok] at k8
              clear hok hP hl htd ht ht2 hrest
              go_wp2
              go_ret
              exact ⟨rfl, hE.out⟩
            | true =>
              obtain ⟨r, hr⟩ : ∃ r', gk = r' + 1 := by
                cases gk with
                | zero => unfold leftP at hl; rw [htd] at hl; simp at hl
                | succ r => exact ⟨r, rfl⟩
              subst hr
              obtain ⟨htn, hts⟩ := hT.out.todo t (by rw [htd]; simp)
              obtain ⟨x, hx⟩ : ∃ x, seenP g.s t = some x := by
                cases q : seenP g.s t with
                | none => exact absurd q hts
                | some x => exact ⟨x, rfl⟩
              have hstep : RES = (runP false fn.ops.length (stepsP fn.ops) r (stepP fn.ops.length (stepsP fn.ops t) x { g with todo := tl })).ok := by
                rw [hP.out]
                conv => lhs; unfold runP
                rw [if_neg (by rw [htd, hok]; simp)]
                have p1 : pickP false g.todo = t := by unfold pickP; rw [htd]; rfl
                have p2 : leaveP false g.todo = tl := by unfold leaveP; rw [htd]; rfl
                rw [p1, p2, hx]
                rfl
              have hlen := hT.out.todoLen
              rw [htd] at hlen
              simp only [List.length_cons] at hlen
              rw [hok] at k8
              have hl6 : leftP { g with todo := tl } ≤ r := by
                have hh := hl
                unfold leftP at hh ⊢
                rw [htd] at hh
                simp only [List.length_cons] at hh ⊢
                omega
              have hT6 : TallP fn.ops.length { g with todo := tl } := by
                have := hT.out.leave false (by rw [htd]; simp)
                have p2 : leaveP false g.todo = tl := by unfold leaveP; rw [htd]; rfl
                rw [p2] at this
                exact this
              have HX := Lib.hid hx
              have HSTEP := Lib.hid hstep
              have HT6 := Lib.hid hT6
              have HREST := hrest
              clear hok hP hx hts hstep htd ht ht2 hT6
              have hrs := HREST.out.1
              go_upto_region 27 with fail
              have hO6 : OGo (wr.setCell ⟨K, 7, none⟩ (.slice A tl.length tc)) w.heap.size K sb fn (va, vc) (.slice A tl.length tc) { g with todo := tl } := OGo.setTodo hO.out HREST.out.2.1 HREST.out.2.2
              have hE6 : Ext w (wr.setCell ⟨K, 7, none⟩ (.slice A tl.length tc)) := hE.out.set_ (p := ⟨K, 7, none⟩) hO.out.hK _
              generalize wr.setCell ⟨K, 7, none⟩ (.slice A tl.length tc) = w8 at hO6 hE6 ⊢
              obtain ⟨oa0, oa1⟩ := form_ops HF.out HFM.out (fn.ops[t]) (List.getElem_mem htn)
              have hcc := gop_any w.heap.size K sb fn (va, vc) (.slice A tl.length tc) { g with todo := tl } w8 hO6 HT6.out h6 t htn x HX.out oa0 oa1
              have HCC := Lib.hid hcc
              have HO6 := Lib.hid hO6
              have HE6 := Lib.hid hE6
              clear hcc hO6 hE6 oa0 oa1 k7 k8 fr7 c0 hrs hO hE
              go_wp2_with (go_at_call 48; refine HCC.out.mono ?_; rintro e w9 ⟨rfl, tv9, ho9, hk9, hn9⟩; have HO9 := Lib.hid ho9; have HE9 := Lib.hid (HE6.out.keep hk9 (fun k hk => goLow HO6.out hk)); clear ho9 hk9 hn9)
              go_roundg r
              case measure => omega
              case rel =>
                obtain ⟨q1, q2⟩ := stepP_keep fn.ops.length (stepsP fn.ops t) x { g with todo := tl } HT6.out.len
                exact ⟨tv9, _, HO9.out, HT6.out.step fn.ops htn HX.out, by rw [q2]; exact hl6, HSTEP.out, HE9.out⟩
end Go.Proofs.YtgjjkllngopboaaDoor
