/- The walk of the checker's form. -/
import Derived.Test.YtgjjkllngopboaaDoorJCa06
namespace Go.Proofs.YtgjjkllngopboaaDoor
open Go.RowKit
set_option linter.unusedVariables false
set_option linter.unusedSimpArgs false

set_option maxRecDepth 100000 in
set_option maxHeartbeats 16000000 in
theorem form_walk (Kb mb : Nat) (c : CodeP) (V : CodeV) (f : FnP) (v : OpsV) (fb fo : Nat) (w : World) (hK : RChk w Kb c V f v fb fo) (hf : FnOK c f) (k5 : w.cell? ⟨Kb, 5, none⟩ = some (.map (some mb))) (hm : MapS w mb shapeE)
    (hops : RSl w v.1 (opCells f.ops)) (hR : RCode w c V) (hfr : ∀ x ∈ c.funcs, 0 ≤ x.frees ∧ x.frees ≤ 400) (first : Bool) :
    Calls Tryd.prog 43 #[.pointer (some ⟨Kb, 0, none⟩), .bool first] w fun e w' => e = .returned (.bool (formP c f first 0 f.ops)) ∧ Ext w w' := by
  have k4 := hK.kf
  have f5 := hK.f5
  have kF := hK.kF
  have hlK := cell_lt k4
  have hlf := cell_lt f5
  have hlm := hm.lt
  simp only at hlK hlf
  have h6 := hf.ops
  have h7 := hf.funcs
  obtain ⟨va, hva⟩ : ∃ va, v.1 = va := ⟨_, rfl⟩
  rw [hva] at f5 hops
  have HK := Lib.hid hK
  have HF := Lib.hid hf
  have HM := Lib.hid hm
  have HOPS := Lib.hid hops
  clear hva
  have HR := Lib.hid hR
  have HFR := Lib.hid hfr
  obtain ⟨RES, hRES⟩ : ∃ RES, RES = formP c f first 0 f.ops := ⟨_, rfl⟩
  rw [← hRES]
  have HRES := Lib.hid hRES
  clear hK hf hm hops hR hfr hRES
  go_enter Tryd.func43, Tryd.ntmps43
  go_upto_region 3 with fail
  go_loopg [5, 18] (f.ops.length) (fun r l i wr => ∃ (k : Nat) (left : Int), k + r = f.ops.length ∧ l = .int .i64 left ∧ i = .int .i64 (k : Int) ∧ (0 ≤ left ∧ left ≤ 400) ∧ Hid (RES = formP c f first left (f.ops.drop k)) ∧ Hid (Ext w wr))
  case atStart => exact ⟨0, 0, by omega, rfl, rfl, by omega, by show _ = _; rw [List.drop_zero]; exact HRES.out, Ext.refl w⟩
  case round =>
    obtain ⟨k, left, hk, rfl, rfl, ⟨hl0, hl1⟩, hP, hE⟩ := hrel
    cases gk with
    | zero =>
      obtain rfl : k = f.ops.length := by omega
      have hP' : RES = (left == 0) := by
        have := hP.out
        rw [List.drop_length] at this
        exact this
      have HP := Lib.hid hP'
      have hltz : ¬ ((f.ops.length : Nat) : Int) < (f.ops.length : Int) := by omega
      clear hP hP' hk
      go_wp2
      go_ret
      exact ⟨by rw [HP.out]; rfl, hE.out⟩
    | succ r =>
      have hlt : k < f.ops.length := by omega
      have hltz : (k : Int) < (f.ops.length : Int) := by omega
      have hat := opCells_at f.ops k hlt
      obtain ⟨ob, oo, hov, o0⟩ := (HOPS.out.ext hE.out) _ _ hat.1
      subst hov
      have o1r := HOPS.out.ext hE.out
      have o1 := o1r.at_ hat.2
      rw [← Nat.add_assoc] at o1
      clear o1r
      have hdrop : f.ops.drop k = f.ops[k] :: f.ops.drop (k + 1) := List.drop_eq_getElem_cons hlt
      have hP' : RES = (form1 c f first left f.ops[k] && formP c f first (leftN c left f.ops[k]) (f.ops.drop (k + 1))) := by
        have := hP.out
        rw [hdrop] at this
        exact this
      obtain ⟨op, hop⟩ : ∃ op, op = f.ops[k] := ⟨_, rfl⟩
      rw [← hop] at hP' o0 o1
      rw [form1_eq] at hP'
      obtain ⟨nm, ax⟩ := op
      simp only at hP' o0 o1
      have HP := Lib.hid hP'
      have HK2 := Lib.hid hk
      clear hP hP' hop hat hdrop hk
      have g4 := hE.out.cell_ k4
      have g5 := hE.out.cell_ f5
      have q5 := hE.out.cell_ k5
      have qm := HM.out.ext hE.out
      have hsz := hE.out.size
      have lob : ob < wr.heap.size := cell_lt o0
      go_upto_region 5 with fail
      obtain ⟨P7, hP7⟩ : ∃ P7, P7 = wr.heap.size := ⟨_, rfl⟩
      refine namedW (fun w1 hw1 => ?_)
      have p70 : w1.cell? ⟨P7, 0, none⟩ = some (.string nm) := by rw [hw1, hP7]; simp [go_sem]
      have p71 : w1.cell? ⟨P7, 1, none⟩ = some (.int .i64 ax) := by rw [hw1, hP7]; simp [go_sem]
      have hX1 : Ext wr w1 := by rw [hw1]; exact (Ext.refl wr).alloc_ _
      rw [← hP7]
      have q5 := hX1.cell_ q5
      have qm := qm.ext hX1
      have lP7 : P7 < w1.heap.size := cell_lt p70
      have HE1 := Lib.hid (hE.out.trans_ hX1)
      have hlook := shape_look nm
      have HLOOK : Hid (∀ W : World, MapS W mb shapeE → (Instr.lookup 64 (.map (some mb)) (.string nm) true).run Tryd.prog W = .ok (.tuple #[.agg #[.int .i64 (shT nm), .int .i64 (shP nm), .string (shK nm)], .bool (shapeP nm).isSome]) W) := fun W hW => by
        have := run_lookup_maps (P := Tryd.prog) (w := W) (Tryd.underlying64) (Tryd.underlying9) (z := .agg #[.int .i64 0, .int .i64 0, .string ⟨#[]⟩]) (by kernel_rfl) hW nm true
        rw [hlook.1, hlook.2] at this
        exact this
      clear hw1 hP7 hX1 o0 o1 g4 g5 hlook hE
      refine wp_region_held_drew (S := fun W => W.cell? ⟨Kb, 5, none⟩ = some (.map (some mb)) ∧ MapS W mb shapeE ∧ W.cell? ⟨P7, 0, none⟩ = some (.string nm)) (by kernel_rfl) ?_ (fun hHeld => ?_)
      · exact ⟨q5, qm, p70⟩
      refine tk 0 ⟨some 24, _, _, _, _, _⟩ ?_ rfl ?_ ?_
      rotate_left
      · (intro w hSw; (try dsimp only at hSw); go_simp; try with_reducible rfl)
      try simp only [tkS]
      refine tk 1 ⟨some 25, _, _, _, _, _⟩ ?_ rfl ?_ ?_
      rotate_left
      · (intro w hSw; (try dsimp only at hSw); go_simp; try with_reducible rfl)
      try simp only [tkS]
      refine tk 2 ⟨some 26, _, _, _, _, _⟩ ?_ rfl ?_ ?_
      rotate_left
      · (intro w hSw; (try dsimp only at hSw); go_simp; try with_reducible rfl)
      try simp only [tkS]
      refine tk 3 ⟨some 27, _, _, _, _, _⟩ ?_ rfl ?_ ?_
      rotate_left
      · (intro w hSw; (try dsimp only at hSw); go_simp; try with_reducible rfl)
      try simp only [tkS]
      refine tk 4 ⟨some 28, _, _, _, _, _⟩ ?_ rfl ?_ ?_
      rotate_left
      · (intro w hSw; (try dsimp only at hSw); go_simp; try with_reducible rfl)
      try simp only [tkS]
      refine tk 5 ⟨some 29, _, _, _, _, _⟩ ?_ rfl ?_ ?_
      rotate_left
      · (intro w hSw; (try dsimp only at hSw); go_simp; try with_reducible rfl)
      try simp only [tkS]
      refine tk 6 ⟨some 30, _, _, _, _, _⟩ ?_ rfl ?_ ?_
      rotate_left
      · (intro w hSw; (try dsimp only at hSw); have hlk := HLOOK.out w hSw.2.1; go_simp; try with_reducible rfl)
      try simp only [tkS]
      refine tk 7 ⟨some 23, _, _, _, _, _⟩ ?_ rfl ?_ ?_
      rotate_left
      · (intro w hSw; (try dsimp only at hSw); go_simp; try with_reducible rfl)
      try simp only [tkS]
      refine tk 8 ⟨some 31, _, _, _, _, _⟩ ?_ rfl ?_ ?_
      rotate_left
      · (intro w hSw; (try dsimp only at hSw); go_simp; try with_reducible rfl)
      try simp only [tkS]
      refine tk 9 ⟨some 32, _, _, _, _, _⟩ ?_ rfl ?_ ?_
      rotate_left
      · (intro w hSw; (try dsimp only at hSw); go_simp; try with_reducible rfl)
      try simp only [tkS]
      refine wpAnyH_ready (rs := [10]) (by kernel_rfl) (by simp) ?_
      refine AllReadyH.cons (o := ⟨some 8, _, _, _, _, _⟩) rfl (fun K hK => ?_) AllReadyH.nil
      go_simp
      skip
      refine hK.out _ _ ?_ (fun hHeld => ?_)
      · (try dsimp only); exact ⟨(((Ext.refl _).alloc_ _).drew_).cell_ q5, MapS.ext qm (((Ext.refl _).alloc_ _).drew_), (((Ext.refl _).alloc_ _).drew_).cell_ p70⟩
      clear hK K
      try simp only [tkS]
      refine wpAnyH_ready (rs := [11]) (by kernel_rfl) (by simp) ?_
      refine AllReadyH.cons (o := ⟨none, _, _, _, _, _⟩) rfl (fun K hK => ?_) AllReadyH.nil
      go_simp
      skip
      refine hK.out _ _ ?_ (fun hHeld => ?_)
      · (try dsimp only); exact ⟨(((Ext.refl _).alloc_ _).drew_).cell_ q5, MapS.ext qm (((Ext.refl _).alloc_ _).drew_), (((Ext.refl _).alloc_ _).drew_).cell_ p70⟩
      clear hK K
      try simp only [tkS]
      refine tk 12 ⟨some 9, _, _, _, _, _⟩ ?_ rfl ?_ ?_
      rotate_left
      · (intro w hSw; (try dsimp only at hSw); go_simp; try with_reducible rfl)
      try simp only [tkS]
      refine wpAnyH_done (by kernel_rfl) ?_ _
      clear hHeld
      obtain ⟨P8, hP8⟩ : ∃ P8, P8 = w1.heap.size := ⟨_, rfl⟩
      obtain ⟨w2, hw2⟩ : ∃ w2, w2 = (w1.alloc (.cells #[.int .i64 (shT nm), .int .i64 (shP nm), .string (shK nm)] 67)).drew := ⟨_, rfl⟩
      rw [← hP8, ← hw2]
      have p82 : w2.cell? ⟨P8, 2, none⟩ = some (.string (shK nm)) := by rw [hw2, hP8]; simp [go_sem]
      have hX2 : Ext w1 w2 := by rw [hw2]; exact ((Ext.refl w1).alloc_ _).drew_
      have p70 := hX2.cell_ p70
      have p71 := hX2.cell_ p71
      have lP7 : P7 < w2.heap.size := cell_lt p70
      have lP8 : P8 < w2.heap.size := cell_lt p82
      have HE2 := Lib.hid (HE1.out.trans_ hX2)
      have hsz2 := HE2.out.size
      clear hw2 hP8 hX2 HE1 q5 qm hsz
      obtain ⟨b1, hb1⟩ : ∃ b1, b1 = badB c f first ⟨nm, ax⟩ := ⟨_, rfl⟩
      rw [← hb1] at HP
      have HB1 := Lib.hid hb1
      clear hb1
      go_upto_region 6 with fail
      obtain ⟨kn, hkn⟩ : ∃ kn, (shapeP nm).isSome = kn := ⟨_, rfl⟩
      rw [hkn]
      clear HLOOK
      go_cut [68] from 33 to 68 (fun s68 wx => s68 = .bool b1 ∧ Hid (Ext w2 wx))
      case first =>
        cases kn with
        | false =>
          have HW : Hid (badB c f first ⟨nm, ax⟩ = true) := by show badB c f first ⟨nm, ax⟩ = true; unfold badB; simp [hkn]
          obtain rfl : b1 = true := HB1.out.trans HW.out
          refine wp_region_held_drew (S := fun W => W.cell? ⟨P7, 0, none⟩ = some (.string nm) ∧ W.cell? ⟨P7, 1, none⟩ = some (.int .i64 ax) ∧ W.cell? ⟨P8, 2, none⟩ = some (.string (shK nm))) (by kernel_rfl) ?_ (fun hHeld => ?_)
          · exact ⟨p70, p71, p82⟩
          refine tk 0 ⟨some 33, _, _, _, _, _⟩ ?_ rfl ?_ ?_
          rotate_left
          · (intro w hSw; (try dsimp only at hSw); go_simp; try with_reducible rfl)
          try simp only [tkS]
          refine tk 1 ⟨some 34, _, _, _, _, _⟩ ?_ rfl ?_ ?_
          rotate_left
          · (intro w hSw; (try dsimp only at hSw); go_simp; try with_reducible rfl)
          try simp only [tkS]
          refine tk 2 ⟨some 35, _, _, _, _, _⟩ ?_ rfl ?_ ?_
          rotate_left
          · (intro w hSw; (try dsimp only at hSw); go_simp; try with_reducible rfl)
          try simp only [tkS]
          refine tn 3 ⟨some 36, _, _, _, _, _⟩ rfl ?_
          try simp only [tkS]
          refine tn 4 ⟨some 37, _, _, _, _, _⟩ rfl ?_
          try simp only [tkS]
          refine tn 5 ⟨some 38, _, _, _, _, _⟩ rfl ?_
          try simp only [tkS]
          refine tk 6 ⟨some 39, _, _, _, _, _⟩ ?_ rfl ?_ ?_
          rotate_left
          · (intro w hSw; (try dsimp only at hSw); go_simp; try with_reducible rfl)
          try simp only [tkS]
          refine tk 7 ⟨some 40, _, _, _, _, _⟩ ?_ rfl ?_ ?_
          rotate_left
          · (intro w hSw; (try dsimp only at hSw); go_simp; try with_reducible rfl)
          try simp only [tkS]
          refine tn 8 ⟨some 41, _, _, _, _, _⟩ rfl ?_
          try simp only [tkS]
          refine tn 9 ⟨some 42, _, _, _, _, _⟩ rfl ?_
          try simp only [tkS]
          refine tn 10 ⟨some 43, _, _, _, _, _⟩ rfl ?_
          try simp only [tkS]
          refine tn 11 ⟨some 44, _, _, _, _, _⟩ rfl ?_
          try simp only [tkS]
          refine tn 12 ⟨some 45, _, _, _, _, _⟩ rfl ?_
          try simp only [tkS]
          refine tn 13 ⟨some 46, _, _, _, _, _⟩ rfl ?_
          try simp only [tkS]
          refine tn 14 ⟨some 47, _, _, _, _, _⟩ rfl ?_
          try simp only [tkS]
          refine tk 15 ⟨some 48, _, _, _, _, _⟩ ?_ rfl ?_ ?_
          rotate_left
          · (intro w hSw; (try dsimp only at hSw); go_simp; try with_reducible rfl)
          try simp only [tkS]
          refine tk 16 ⟨some 49, _, _, _, _, _⟩ ?_ rfl ?_ ?_
          rotate_left
          · (intro w hSw; (try dsimp only at hSw); go_simp; try with_reducible rfl)
          try simp only [tkS]
          refine tn 17 ⟨some 50, _, _, _, _, _⟩ rfl ?_
          try simp only [tkS]
          refine tn 18 ⟨some 51, _, _, _, _, _⟩ rfl ?_
          try simp only [tkS]
          refine tn 19 ⟨some 52, _, _, _, _, _⟩ rfl ?_
          try simp only [tkS]
          refine tn 20 ⟨some 53, _, _, _, _, _⟩ rfl ?_
          try simp only [tkS]
          refine tn 21 ⟨some 54, _, _, _, _, _⟩ rfl ?_
          try simp only [tkS]
          refine tn 22 ⟨some 55, _, _, _, _, _⟩ rfl ?_
          try simp only [tkS]
          refine tn 23 ⟨some 56, _, _, _, _, _⟩ rfl ?_
          try simp only [tkS]
          refine tn 24 ⟨some 57, _, _, _, _, _⟩ rfl ?_
          try simp only [tkS]
          refine tn 25 ⟨some 58, _, _, _, _, _⟩ rfl ?_
          try simp only [tkS]
          refine tn 26 ⟨some 59, _, _, _, _, _⟩ rfl ?_
          try simp only [tkS]
          refine tn 27 ⟨some 60, _, _, _, _, _⟩ rfl ?_
          try simp only [tkS]
          refine tn 28 ⟨some 61, _, _, _, _, _⟩ rfl ?_
          try simp only [tkS]
          refine tn 29 ⟨some 62, _, _, _, _, _⟩ rfl ?_
          try simp only [tkS]
          refine tn 30 ⟨some 63, _, _, _, _, _⟩ rfl ?_
          try simp only [tkS]
          refine tn 31 ⟨some 64, _, _, _, _, _⟩ rfl ?_
          try simp only [tkS]
          refine tn 32 ⟨some 65, _, _, _, _, _⟩ rfl ?_
          try simp only [tkS]
          refine tn 33 ⟨some 66, _, _, _, _, _⟩ rfl ?_
          try simp only [tkS]
          refine tn 34 ⟨some 67, _, _, _, _, _⟩ rfl ?_
          try simp only [tkS]
          refine tk 35 ⟨some 68, _, _, _, _, _⟩ ?_ rfl ?_ ?_
          rotate_left
          · (intro w hSw; (try dsimp only at hSw); go_simp; try with_reducible rfl)
          try simp only [tkS]
          refine wpAnyH_done (by kernel_rfl) ?_ _
          go_wp2_with fail
          go_meet
          case rel => exact ⟨rfl, by first | exact HX4.out | exact (Ext.refl _).drew_ | exact HX4.out.drew_ | exact Ext.refl _⟩
        | true =>
          by_cases ha : ax < 0
          · have hd : decide (ax < 0) = true := decide_eq_true ha
            have HW : Hid (badB c f first ⟨nm, ax⟩ = true) := by show badB c f first ⟨nm, ax⟩ = true; unfold badB; simp [ha]
            obtain rfl : b1 = true := HB1.out.trans HW.out
            refine wp_region_held_drew (S := fun W => W.cell? ⟨P7, 0, none⟩ = some (.string nm) ∧ W.cell? ⟨P7, 1, none⟩ = some (.int .i64 ax) ∧ W.cell? ⟨P8, 2, none⟩ = some (.string (shK nm))) (by kernel_rfl) ?_ (fun hHeld => ?_)
            · exact ⟨p70, p71, p82⟩
            refine tk 0 ⟨some 33, _, _, _, _, _⟩ ?_ rfl ?_ ?_
            rotate_left
            · (intro w hSw; (try dsimp only at hSw); go_simp; try with_reducible rfl)
            try simp only [tkS]
            refine tk 1 ⟨some 34, _, _, _, _, _⟩ ?_ rfl ?_ ?_
            rotate_left
            · (intro w hSw; (try dsimp only at hSw); go_simp; try with_reducible rfl)
            try simp only [tkS]
            refine tk 2 ⟨some 35, _, _, _, _, _⟩ ?_ rfl ?_ ?_
            rotate_left
            · (intro w hSw; (try dsimp only at hSw); go_simp; try with_reducible rfl)
            try simp only [tkS]
            refine tk 3 ⟨some 36, _, _, _, _, _⟩ ?_ rfl ?_ ?_
            rotate_left
            · (intro w hSw; (try dsimp only at hSw); go_simp; try with_reducible rfl)
            try simp only [tkS]
            refine tk 4 ⟨some 37, _, _, _, _, _⟩ ?_ rfl ?_ ?_
            rotate_left
            · (intro w hSw; (try dsimp only at hSw); go_simp; try with_reducible rfl)
            try simp only [tkS]
            refine tk 5 ⟨some 38, _, _, _, _, _⟩ ?_ rfl ?_ ?_
            rotate_left
            · (intro w hSw; (try dsimp only at hSw); go_simp; try with_reducible rfl)
            try simp only [tkS]
            refine tk 6 ⟨some 39, _, _, _, _, _⟩ ?_ rfl ?_ ?_
            rotate_left
            · (intro w hSw; (try dsimp only at hSw); go_simp; try with_reducible rfl)
            try simp only [tkS]
            refine tk 7 ⟨some 40, _, _, _, _, _⟩ ?_ rfl ?_ ?_
            rotate_left
            · (intro w hSw; (try dsimp only at hSw); go_simp; try with_reducible rfl)
            try simp only [tkS]
            refine tn 8 ⟨some 41, _, _, _, _, _⟩ rfl ?_
            try simp only [tkS]
            refine tn 9 ⟨some 42, _, _, _, _, _⟩ rfl ?_
            try simp only [tkS]
            refine tn 10 ⟨some 43, _, _, _, _, _⟩ rfl ?_
            try simp only [tkS]
            refine tn 11 ⟨some 44, _, _, _, _, _⟩ rfl ?_
            try simp only [tkS]
            refine tn 12 ⟨some 45, _, _, _, _, _⟩ rfl ?_
            try simp only [tkS]
            refine tn 13 ⟨some 46, _, _, _, _, _⟩ rfl ?_
            try simp only [tkS]
            refine tn 14 ⟨some 47, _, _, _, _, _⟩ rfl ?_
            try simp only [tkS]
            refine tk 15 ⟨some 48, _, _, _, _, _⟩ ?_ rfl ?_ ?_
            rotate_left
            · (intro w hSw; (try dsimp only at hSw); go_simp; try with_reducible rfl)
            try simp only [tkS]
            refine tk 16 ⟨some 49, _, _, _, _, _⟩ ?_ rfl ?_ ?_
            rotate_left
            · (intro w hSw; (try dsimp only at hSw); go_simp; try with_reducible rfl)
            try simp only [tkS]
            refine tn 17 ⟨some 50, _, _, _, _, _⟩ rfl ?_
            try simp only [tkS]
            refine tn 18 ⟨some 51, _, _, _, _, _⟩ rfl ?_
            try simp only [tkS]
            refine tn 19 ⟨some 52, _, _, _, _, _⟩ rfl ?_
            try simp only [tkS]
            refine tn 20 ⟨some 53, _, _, _, _, _⟩ rfl ?_
            try simp only [tkS]
            refine tn 21 ⟨some 54, _, _, _, _, _⟩ rfl ?_
            try simp only [tkS]
            refine tn 22 ⟨some 55, _, _, _, _, _⟩ rfl ?_
            try simp only [tkS]
            refine tn 23 ⟨some 56, _, _, _, _, _⟩ rfl ?_
            try simp only [tkS]
            refine tn 24 ⟨some 57, _, _, _, _, _⟩ rfl ?_
            try simp only [tkS]
            refine tn 25 ⟨some 58, _, _, _, _, _⟩ rfl ?_
            try simp only [tkS]
            refine tn 26 ⟨some 59, _, _, _, _, _⟩ rfl ?_
            try simp only [tkS]
            refine tn 27 ⟨some 60, _, _, _, _, _⟩ rfl ?_
            try simp only [tkS]
            refine tn 28 ⟨some 61, _, _, _, _, _⟩ rfl ?_
            try simp only [tkS]
            refine tn 29 ⟨some 62, _, _, _, _, _⟩ rfl ?_
            try simp only [tkS]
            refine tn 30 ⟨some 63, _, _, _, _, _⟩ rfl ?_
            try simp only [tkS]
            refine tn 31 ⟨some 64, _, _, _, _, _⟩ rfl ?_
            try simp only [tkS]
            refine tn 32 ⟨some 65, _, _, _, _, _⟩ rfl ?_
            try simp only [tkS]
            refine tn 33 ⟨some 66, _, _, _, _, _⟩ rfl ?_
            try simp only [tkS]
            refine tn 34 ⟨some 67, _, _, _, _, _⟩ rfl ?_
            try simp only [tkS]
            refine tk 35 ⟨some 68, _, _, _, _, _⟩ ?_ rfl ?_ ?_
            rotate_left
            · (intro w hSw; (try dsimp only at hSw); go_simp; try with_reducible rfl)
            try simp only [tkS]
            refine wpAnyH_done (by kernel_rfl) ?_ _
            go_wp2_with fail
            go_meet
            case rel => exact ⟨rfl, by first | exact HX4.out | exact (Ext.refl _).drew_ | exact HX4.out.drew_ | exact Ext.refl _⟩
          · have hd : decide (ax < 0) = false := decide_eq_false ha
            generalize hlim : limitP c f (shK nm) = lm at *
            by_cases hb : lm ≤ ax
            · have hd2 : decide (lm ≤ ax) = true := decide_eq_true hb
              have HW : Hid (badB c f first ⟨nm, ax⟩ = true) := by show badB c f first ⟨nm, ax⟩ = true; unfold badB; simp [hlim, hb]
              obtain rfl : b1 = true := HB1.out.trans HW.out
              have HLIM := Lib.hid hlim
              clear hlim
              refine wp_region_held_drew (S := fun W => W.cell? ⟨P7, 0, none⟩ = some (.string nm) ∧ W.cell? ⟨P7, 1, none⟩ = some (.int .i64 ax) ∧ W.cell? ⟨P8, 2, none⟩ = some (.string (shK nm))) (by kernel_rfl) ?_ (fun hHeld => ?_)
              · exact ⟨p70, p71, p82⟩
              refine tk 0 ⟨some 33, _, _, _, _, _⟩ ?_ rfl ?_ ?_
              rotate_left
              · (intro w hSw; (try dsimp only at hSw); go_simp; try with_reducible rfl)
              try simp only [tkS]
              refine tk 1 ⟨some 34, _, _, _, _, _⟩ ?_ rfl ?_ ?_
              rotate_left
              · (intro w hSw; (try dsimp only at hSw); go_simp; try with_reducible rfl)
              try simp only [tkS]
              refine tk 2 ⟨some 35, _, _, _, _, _⟩ ?_ rfl ?_ ?_
              rotate_left
              · (intro w hSw; (try dsimp only at hSw); go_simp; try with_reducible rfl)
              try simp only [tkS]
              refine tk 3 ⟨some 36, _, _, _, _, _⟩ ?_ rfl ?_ ?_
              rotate_left
              · (intro w hSw; (try dsimp only at hSw); go_simp; try with_reducible rfl)
              try simp only [tkS]
              refine tk 4 ⟨some 37, _, _, _, _, _⟩ ?_ rfl ?_ ?_
              rotate_left
              · (intro w hSw; (try dsimp only at hSw); go_simp; try with_reducible rfl)
              try simp only [tkS]
              refine tk 5 ⟨some 38, _, _, _, _, _⟩ ?_ rfl ?_ ?_
              rotate_left
              · (intro w hSw; (try dsimp only at hSw); go_simp; try with_reducible rfl)
              try simp only [tkS]
              refine tk 6 ⟨some 39, _, _, _, _, _⟩ ?_ rfl ?_ ?_
              rotate_left
              · (intro w hSw; (try dsimp only at hSw); go_simp; try with_reducible rfl)
              try simp only [tkS]
              refine tk 7 ⟨some 40, _, _, _, _, _⟩ ?_ rfl ?_ ?_
              rotate_left
              · (intro w hSw; (try dsimp only at hSw); go_simp; try with_reducible rfl)
              try simp only [tkS]
              refine tk 8 ⟨some 41, _, _, _, _, _⟩ ?_ rfl ?_ ?_
              rotate_left
              · (intro w hSw; (try dsimp only at hSw); go_simp; try with_reducible rfl)
              try simp only [tkS]
              refine tk 9 ⟨some 42, _, _, _, _, _⟩ ?_ rfl ?_ ?_
              rotate_left
              · (intro w hSw; (try dsimp only at hSw); go_simp; try with_reducible rfl)
              try simp only [tkS]
              refine tk 10 ⟨some 43, _, _, _, _, _⟩ ?_ rfl ?_ ?_
              rotate_left
              · (intro w hSw; (try dsimp only at hSw); go_simp; try with_reducible rfl)
              try simp only [tkS]
              refine tk 11 ⟨some 44, _, _, _, _, _⟩ ?_ rfl ?_ ?_
              rotate_left
              · (intro w hSw; (try dsimp only at hSw); go_simp; try with_reducible rfl)
              try simp only [tkS]
              refine tk 12 ⟨some 45, _, _, _, _, _⟩ ?_ rfl ?_ ?_
              rotate_left
              · (intro w hSw; (try dsimp only at hSw); go_simp; try with_reducible rfl)
              try simp only [tkS]
              refine wpAnyH_ready (rs := [13]) (by kernel_rfl) (by simp) ?_
              refine AllReadyH.cons (o := ⟨some 46, _, _, _, _, _⟩) rfl (fun K hK => ?_) AllReadyH.nil
              go_simp
              refine (limit_any Kb c V f v fb fo HF.out nm _ ((HK.out.ext HE2.out).ext (by first | exact Ext.refl _ | exact (Ext.refl _).drew_ | exact (Ext.refl _).drewN_ _))).mono ?_
              rintro e w4 ⟨he4, hE4⟩
              rw [HLIM.out] at he4
              subst he4
              have HX4 : Hid (Ext w2 w4) := Ext.trans_ (by first | exact Ext.refl _ | exact (Ext.refl _).drew_ | exact (Ext.refl _).drewN_ _) hE4
              clear hE4
              refine hK.out _ _ ?_ (fun hHeld => ?_)
              · (try dsimp only); exact ⟨HX4.out.cell_ p70, HX4.out.cell_ p71, HX4.out.cell_ p82⟩
              clear hK K
              try simp only [tkS]
              refine tk 14 ⟨some 47, _, _, _, _, _⟩ ?_ rfl ?_ ?_
              rotate_left
              · (intro w hSw; (try dsimp only at hSw); go_simp; try with_reducible rfl)
              try simp only [tkS]
              refine tk 15 ⟨some 48, _, _, _, _, _⟩ ?_ rfl ?_ ?_
              rotate_left
              · (intro w hSw; (try dsimp only at hSw); go_simp; try with_reducible rfl)
              try simp only [tkS]
              refine tk 16 ⟨some 49, _, _, _, _, _⟩ ?_ rfl ?_ ?_
              rotate_left
              · (intro w hSw; (try dsimp only at hSw); go_simp; try with_reducible rfl)
              try simp only [tkS]
              refine tn 17 ⟨some 50, _, _, _, _, _⟩ rfl ?_
              try simp only [tkS]
              refine tn 18 ⟨some 51, _, _, _, _, _⟩ rfl ?_
              try simp only [tkS]
              refine tn 19 ⟨some 52, _, _, _, _, _⟩ rfl ?_
              try simp only [tkS]
              refine tn 20 ⟨some 53, _, _, _, _, _⟩ rfl ?_
              try simp only [tkS]
              refine tn 21 ⟨some 54, _, _, _, _, _⟩ rfl ?_
              try simp only [tkS]
              refine tn 22 ⟨some 55, _, _, _, _, _⟩ rfl ?_
              try simp only [tkS]
              refine tn 23 ⟨some 56, _, _, _, _, _⟩ rfl ?_
              try simp only [tkS]
              refine tn 24 ⟨some 57, _, _, _, _, _⟩ rfl ?_
              try simp only [tkS]
              refine tn 25 ⟨some 58, _, _, _, _, _⟩ rfl ?_
              try simp only [tkS]
              refine tn 26 ⟨some 59, _, _, _, _, _⟩ rfl ?_
              try simp only [tkS]
              refine tn 27 ⟨some 60, _, _, _, _, _⟩ rfl ?_
              try simp only [tkS]
              refine tn 28 ⟨some 61, _, _, _, _, _⟩ rfl ?_
              try simp only [tkS]
              refine tn 29 ⟨some 62, _, _, _, _, _⟩ rfl ?_
              try simp only [tkS]
              refine tn 30 ⟨some 63, _, _, _, _, _⟩ rfl ?_
              try simp only [tkS]
              refine tn 31 ⟨some 64, _, _, _, _, _⟩ rfl ?_
              try simp only [tkS]
              refine tn 32 ⟨some 65, _, _, _, _, _⟩ rfl ?_
              try simp only [tkS]
              refine tn 33 ⟨some 66, _, _, _, _, _⟩ rfl ?_
              try simp only [tkS]
              refine tn 34 ⟨some 67, _, _, _, _, _⟩ rfl ?_
              try simp only [tkS]
              refine tk 35 ⟨some 68, _, _, _, _, _⟩ ?_ rfl ?_ ?_
              rotate_left
              · (intro w hSw; (try dsimp only at hSw); go_simp; try with_reducible rfl)
              try simp only [tkS]
              refine wpAnyH_done (by kernel_rfl) ?_ _
              go_wp2_with fail
              go_meet
              case rel => exact ⟨rfl, by first | exact HX4.out | exact (Ext.refl _).drew_ | exact HX4.out.drew_ | exact Ext.refl _⟩
            · have hd2 : decide (lm ≤ ax) = false := decide_eq_false hb
              have HLIM := Lib.hid hlim
              have HKN := Lib.hid hkn
              have HA := Lib.hid ha
              have HBB := Lib.hid hb
              have HW : Hid (badB c f first ⟨nm, ax⟩ = ((decide (nm = n_halt) && !first) || (decide (nm = n_return) && first))) := by
                show badB c f first ⟨nm, ax⟩ = _
                unfold badB
                rw [HKN.out, HLIM.out]
                simp only [decide_eq_false HA.out, decide_eq_false HBB.out]
                rfl
              clear hlim
              cases first with
              | true =>
                by_cases hH : nm = n_halt
                · skip
                  have tH : (nm.toList == [104, 97, 108, 116]) = true := by rw [hH]; decide +kernel
                  obtain rfl : b1 = false := by rw [HB1.out, HW.out]; simp [hH, show ¬ n_halt = n_return by decide]
                  have HH := Lib.hid hH
                  clear hH
                  refine wp_region_held_drew (S := fun W => W.cell? ⟨P7, 0, none⟩ = some (.string nm) ∧ W.cell? ⟨P7, 1, none⟩ = some (.int .i64 ax) ∧ W.cell? ⟨P8, 2, none⟩ = some (.string (shK nm))) (by kernel_rfl) ?_ (fun hHeld => ?_)
                  · exact ⟨p70, p71, p82⟩
                  refine tk 0 ⟨some 33, _, _, _, _, _⟩ ?_ rfl ?_ ?_
                  rotate_left
                  · (intro w hSw; (try dsimp only at hSw); go_simp; try with_reducible rfl)
                  try simp only [tkS]
                  refine tk 1 ⟨some 34, _, _, _, _, _⟩ ?_ rfl ?_ ?_
                  rotate_left
                  · (intro w hSw; (try dsimp only at hSw); go_simp; try with_reducible rfl)
                  try simp only [tkS]
                  refine tk 2 ⟨some 35, _, _, _, _, _⟩ ?_ rfl ?_ ?_
                  rotate_left
                  · (intro w hSw; (try dsimp only at hSw); go_simp; try with_reducible rfl)
                  try simp only [tkS]
                  refine tk 3 ⟨some 36, _, _, _, _, _⟩ ?_ rfl ?_ ?_
                  rotate_left
                  · (intro w hSw; (try dsimp only at hSw); go_simp; try with_reducible rfl)
                  try simp only [tkS]
                  refine tk 4 ⟨some 37, _, _, _, _, _⟩ ?_ rfl ?_ ?_
                  rotate_left
                  · (intro w hSw; (try dsimp only at hSw); go_simp; try with_reducible rfl)
                  try simp only [tkS]
                  refine tk 5 ⟨some 38, _, _, _, _, _⟩ ?_ rfl ?_ ?_
                  rotate_left
                  · (intro w hSw; (try dsimp only at hSw); go_simp; try with_reducible rfl)
                  try simp only [tkS]
                  refine tk 6 ⟨some 39, _, _, _, _, _⟩ ?_ rfl ?_ ?_
                  rotate_left
                  · (intro w hSw; (try dsimp only at hSw); go_simp; try with_reducible rfl)
                  try simp only [tkS]
                  refine tk 7 ⟨some 40, _, _, _, _, _⟩ ?_ rfl ?_ ?_
                  rotate_left
                  · (intro w hSw; (try dsimp only at hSw); go_simp; try with_reducible rfl)
                  try simp only [tkS]
                  refine tk 8 ⟨some 41, _, _, _, _, _⟩ ?_ rfl ?_ ?_
                  rotate_left
                  · (intro w hSw; (try dsimp only at hSw); go_simp; try with_reducible rfl)
                  try simp only [tkS]
                  refine tk 9 ⟨some 42, _, _, _, _, _⟩ ?_ rfl ?_ ?_
                  rotate_left
                  · (intro w hSw; (try dsimp only at hSw); go_simp; try with_reducible rfl)
                  try simp only [tkS]
                  refine tk 10 ⟨some 43, _, _, _, _, _⟩ ?_ rfl ?_ ?_
                  rotate_left
                  · (intro w hSw; (try dsimp only at hSw); go_simp; try with_reducible rfl)
                  try simp only [tkS]
                  refine tk 11 ⟨some 44, _, _, _, _, _⟩ ?_ rfl ?_ ?_
                  rotate_left
                  · (intro w hSw; (try dsimp only at hSw); go_simp; try with_reducible rfl)
                  try simp only [tkS]
                  refine tk 12 ⟨some 45, _, _, _, _, _⟩ ?_ rfl ?_ ?_
                  rotate_left
                  · (intro w hSw; (try dsimp only at hSw); go_simp; try with_reducible rfl)
                  try simp only [tkS]
                  refine wpAnyH_ready (rs := [13]) (by kernel_rfl) (by simp) ?_
                  refine AllReadyH.cons (o := ⟨some 46, _, _, _, _, _⟩) rfl (fun K hK => ?_) AllReadyH.nil
                  go_simp
                  refine (limit_any Kb c V f v fb fo HF.out nm _ ((HK.out.ext HE2.out).ext (by first | exact Ext.refl _ | exact (Ext.refl _).drew_ | exact (Ext.refl _).drewN_ _))).mono ?_
                  rintro e w4 ⟨he4, hE4⟩
                  rw [HLIM.out] at he4
                  subst he4
                  have HX4 : Hid (Ext w2 w4) := Ext.trans_ (by first | exact Ext.refl _ | exact (Ext.refl _).drew_ | exact (Ext.refl _).drewN_ _) hE4
                  clear hE4
                  refine hK.out _ _ ?_ (fun hHeld => ?_)
                  · (try dsimp only); exact ⟨HX4.out.cell_ p70, HX4.out.cell_ p71, HX4.out.cell_ p82⟩
                  clear hK K
                  try simp only [tkS]
                  refine tk 14 ⟨some 47, _, _, _, _, _⟩ ?_ rfl ?_ ?_
                  rotate_left
                  · (intro w hSw; (try dsimp only at hSw); go_simp; try with_reducible rfl)
                  try simp only [tkS]
                  refine tk 15 ⟨some 48, _, _, _, _, _⟩ ?_ rfl ?_ ?_
                  rotate_left
                  · (intro w hSw; (try dsimp only at hSw); go_simp; try with_reducible rfl)
                  try simp only [tkS]
                  refine tk 16 ⟨some 49, _, _, _, _, _⟩ ?_ rfl ?_ ?_
                  rotate_left
                  · (intro w hSw; (try dsimp only at hSw); go_simp; try with_reducible rfl)
                  try simp only [tkS]
                  refine tk 17 ⟨some 50, _, _, _, _, _⟩ ?_ rfl ?_ ?_
                  rotate_left
                  · (intro w hSw; (try dsimp only at hSw); go_simp; try with_reducible rfl)
                  try simp only [tkS]
                  refine tk 18 ⟨some 51, _, _, _, _, _⟩ ?_ rfl ?_ ?_
                  rotate_left
                  · (intro w hSw; (try dsimp only at hSw); go_simp; try with_reducible rfl)
                  try simp only [tkS]
                  refine tk 19 ⟨some 52, _, _, _, _, _⟩ ?_ rfl ?_ ?_
                  rotate_left
                  · (intro w hSw; (try dsimp only at hSw); go_simp; try with_reducible rfl)
                  try simp only [tkS]
                  refine tk 20 ⟨some 53, _, _, _, _, _⟩ ?_ rfl ?_ ?_
                  rotate_left
                  · (intro w hSw; (try dsimp only at hSw); go_simp; try with_reducible rfl)
                  try simp only [tkS]
                  refine tk 21 ⟨some 54, _, _, _, _, _⟩ ?_ rfl ?_ ?_
                  rotate_left
                  · (intro w hSw; (try dsimp only at hSw); go_simp; try with_reducible rfl)
                  try simp only [tkS]
                  refine tk 22 ⟨some 55, _, _, _, _, _⟩ ?_ rfl ?_ ?_
                  rotate_left
                  · (intro w hSw; (try dsimp only at hSw); go_simp; try with_reducible rfl)
                  try simp only [tkS]
                  refine tn 23 ⟨some 56, _, _, _, _, _⟩ rfl ?_
                  try simp only [tkS]
                  refine tn 24 ⟨some 57, _, _, _, _, _⟩ rfl ?_
                  try simp only [tkS]
                  refine tn 25 ⟨some 58, _, _, _, _, _⟩ rfl ?_
                  try simp only [tkS]
                  refine tn 26 ⟨some 59, _, _, _, _, _⟩ rfl ?_
                  try simp only [tkS]
                  refine tn 27 ⟨some 60, _, _, _, _, _⟩ rfl ?_
                  try simp only [tkS]
                  refine tn 28 ⟨some 61, _, _, _, _, _⟩ rfl ?_
                  try simp only [tkS]
                  refine tn 29 ⟨some 62, _, _, _, _, _⟩ rfl ?_
                  try simp only [tkS]
                  refine tn 30 ⟨some 63, _, _, _, _, _⟩ rfl ?_
                  try simp only [tkS]
                  refine tn 31 ⟨some 64, _, _, _, _, _⟩ rfl ?_
                  try simp only [tkS]
                  refine tn 32 ⟨some 65, _, _, _, _, _⟩ rfl ?_
                  try simp only [tkS]
                  refine tn 33 ⟨some 66, _, _, _, _, _⟩ rfl ?_
                  try simp only [tkS]
                  refine tk 34 ⟨some 67, _, _, _, _, _⟩ ?_ rfl ?_ ?_
                  rotate_left
                  · (intro w hSw; (try dsimp only at hSw); go_simp; try with_reducible rfl)
                  try simp only [tkS]
                  refine tk 35 ⟨some 68, _, _, _, _, _⟩ ?_ rfl ?_ ?_
                  rotate_left
                  · (intro w hSw; (try dsimp only at hSw); go_simp; try with_reducible rfl)
                  try simp only [tkS]
                  refine wpAnyH_done (by kernel_rfl) ?_ _
                  go_wp2_with fail
                  go_meet
                  case rel => exact ⟨rfl, by first | exact HX4.out | exact (Ext.refl _).drew_ | exact HX4.out.drew_ | exact Ext.refl _⟩
                · by_cases hR2 : nm = n_return
                  · skip
                    have tH : (nm.toList == [104, 97, 108, 116]) = false := by exact str_no hH
                    have tR : (nm.toList == [114, 101, 116, 117, 114, 110]) = true := by rw [hR2]; decide +kernel
                    obtain rfl : b1 = true := by rw [HB1.out, HW.out]; simp [hR2]
                    have HH := Lib.hid hH
                    clear hH
                    have HR2 := Lib.hid hR2
                    clear hR2
                    refine wp_region_held_drew (S := fun W => W.cell? ⟨P7, 0, none⟩ = some (.string nm) ∧ W.cell? ⟨P7, 1, none⟩ = some (.int .i64 ax) ∧ W.cell? ⟨P8, 2, none⟩ = some (.string (shK nm))) (by kernel_rfl) ?_ (fun hHeld => ?_)
                    · exact ⟨p70, p71, p82⟩
                    refine tk 0 ⟨some 33, _, _, _, _, _⟩ ?_ rfl ?_ ?_
                    rotate_left
                    · (intro w hSw; (try dsimp only at hSw); go_simp; try with_reducible rfl)
                    try simp only [tkS]
                    refine tk 1 ⟨some 34, _, _, _, _, _⟩ ?_ rfl ?_ ?_
                    rotate_left
                    · (intro w hSw; (try dsimp only at hSw); go_simp; try with_reducible rfl)
                    try simp only [tkS]
                    refine tk 2 ⟨some 35, _, _, _, _, _⟩ ?_ rfl ?_ ?_
                    rotate_left
                    · (intro w hSw; (try dsimp only at hSw); go_simp; try with_reducible rfl)
                    try simp only [tkS]
                    refine tk 3 ⟨some 36, _, _, _, _, _⟩ ?_ rfl ?_ ?_
                    rotate_left
                    · (intro w hSw; (try dsimp only at hSw); go_simp; try with_reducible rfl)
                    try simp only [tkS]
                    refine tk 4 ⟨some 37, _, _, _, _, _⟩ ?_ rfl ?_ ?_
                    rotate_left
                    · (intro w hSw; (try dsimp only at hSw); go_simp; try with_reducible rfl)
                    try simp only [tkS]
                    refine tk 5 ⟨some 38, _, _, _, _, _⟩ ?_ rfl ?_ ?_
                    rotate_left
                    · (intro w hSw; (try dsimp only at hSw); go_simp; try with_reducible rfl)
                    try simp only [tkS]
                    refine tk 6 ⟨some 39, _, _, _, _, _⟩ ?_ rfl ?_ ?_
                    rotate_left
                    · (intro w hSw; (try dsimp only at hSw); go_simp; try with_reducible rfl)
                    try simp only [tkS]
                    refine tk 7 ⟨some 40, _, _, _, _, _⟩ ?_ rfl ?_ ?_
                    rotate_left
                    · (intro w hSw; (try dsimp only at hSw); go_simp; try with_reducible rfl)
                    try simp only [tkS]
                    refine tk 8 ⟨some 41, _, _, _, _, _⟩ ?_ rfl ?_ ?_
                    rotate_left
                    · (intro w hSw; (try dsimp only at hSw); go_simp; try with_reducible rfl)
                    try simp only [tkS]
                    refine tk 9 ⟨some 42, _, _, _, _, _⟩ ?_ rfl ?_ ?_
                    rotate_left
                    · (intro w hSw; (try dsimp only at hSw); go_simp; try with_reducible rfl)
                    try simp only [tkS]
                    refine tk 10 ⟨some 43, _, _, _, _, _⟩ ?_ rfl ?_ ?_
                    rotate_left
                    · (intro w hSw; (try dsimp only at hSw); go_simp; try with_reducible rfl)
                    try simp only [tkS]
                    refine tk 11 ⟨some 44, _, _, _, _, _⟩ ?_ rfl ?_ ?_
                    rotate_left
                    · (intro w hSw; (try dsimp only at hSw); go_simp; try with_reducible rfl)
                    try simp only [tkS]
                    refine tk 12 ⟨some 45, _, _, _, _, _⟩ ?_ rfl ?_ ?_
                    rotate_left
                    · (intro w hSw; (try dsimp only at hSw); go_simp; try with_reducible rfl)
                    try simp only [tkS]
                    refine wpAnyH_ready (rs := [13]) (by kernel_rfl) (by simp) ?_
                    refine AllReadyH.cons (o := ⟨some 46, _, _, _, _, _⟩) rfl (fun K hK => ?_) AllReadyH.nil
                    go_simp
                    refine (limit_any Kb c V f v fb fo HF.out nm _ ((HK.out.ext HE2.out).ext (by first | exact Ext.refl _ | exact (Ext.refl _).drew_ | exact (Ext.refl _).drewN_ _))).mono ?_
                    rintro e w4 ⟨he4, hE4⟩
                    rw [HLIM.out] at he4
                    subst he4
                    have HX4 : Hid (Ext w2 w4) := Ext.trans_ (by first | exact Ext.refl _ | exact (Ext.refl _).drew_ | exact (Ext.refl _).drewN_ _) hE4
                    clear hE4
                    refine hK.out _ _ ?_ (fun hHeld => ?_)
                    · (try dsimp only); exact ⟨HX4.out.cell_ p70, HX4.out.cell_ p71, HX4.out.cell_ p82⟩
                    clear hK K
                    try simp only [tkS]
                    refine tk 14 ⟨some 47, _, _, _, _, _⟩ ?_ rfl ?_ ?_
                    rotate_left
                    · (intro w hSw; (try dsimp only at hSw); go_simp; try with_reducible rfl)
                    try simp only [tkS]
                    refine tk 15 ⟨some 48, _, _, _, _, _⟩ ?_ rfl ?_ ?_
                    rotate_left
                    · (intro w hSw; (try dsimp only at hSw); go_simp; try with_reducible rfl)
                    try simp only [tkS]
                    refine tk 16 ⟨some 49, _, _, _, _, _⟩ ?_ rfl ?_ ?_
                    rotate_left
                    · (intro w hSw; (try dsimp only at hSw); go_simp; try with_reducible rfl)
                    try simp only [tkS]
                    refine tk 17 ⟨some 50, _, _, _, _, _⟩ ?_ rfl ?_ ?_
                    rotate_left
                    · (intro w hSw; (try dsimp only at hSw); go_simp; try with_reducible rfl)
                    try simp only [tkS]
                    refine tk 18 ⟨some 51, _, _, _, _, _⟩ ?_ rfl ?_ ?_
                    rotate_left
                    · (intro w hSw; (try dsimp only at hSw); go_simp; try with_reducible rfl)
                    try simp only [tkS]
                    refine tk 19 ⟨some 52, _, _, _, _, _⟩ ?_ rfl ?_ ?_
                    rotate_left
                    · (intro w hSw; (try dsimp only at hSw); go_simp; try with_reducible rfl)
                    try simp only [tkS]
                    refine tk 20 ⟨some 53, _, _, _, _, _⟩ ?_ rfl ?_ ?_
                    rotate_left
                    · (intro w hSw; (try dsimp only at hSw); go_simp; try with_reducible rfl)
                    try simp only [tkS]
                    refine tk 21 ⟨some 54, _, _, _, _, _⟩ ?_ rfl ?_ ?_
                    rotate_left
                    · (intro w hSw; (try dsimp only at hSw); go_simp; try with_reducible rfl)
                    try simp only [tkS]
                    refine tk 22 ⟨some 55, _, _, _, _, _⟩ ?_ rfl ?_ ?_
                    rotate_left
                    · (intro w hSw; (try dsimp only at hSw); go_simp; try with_reducible rfl)
                    try simp only [tkS]
                    refine tk 23 ⟨some 56, _, _, _, _, _⟩ ?_ rfl ?_ ?_
                    rotate_left
                    · (intro w hSw; (try dsimp only at hSw); go_simp; try with_reducible rfl)
                    try simp only [tkS]
                    refine tk 24 ⟨some 57, _, _, _, _, _⟩ ?_ rfl ?_ ?_
                    rotate_left
                    · (intro w hSw; (try dsimp only at hSw); go_simp; try with_reducible rfl)
                    try simp only [tkS]
                    refine tk 25 ⟨some 58, _, _, _, _, _⟩ ?_ rfl ?_ ?_
                    rotate_left
                    · (intro w hSw; (try dsimp only at hSw); go_simp; try with_reducible rfl)
                    try simp only [tkS]
                    refine tk 26 ⟨some 59, _, _, _, _, _⟩ ?_ rfl ?_ ?_
                    rotate_left
                    · (intro w hSw; (try dsimp only at hSw); go_simp; try with_reducible rfl)
                    try simp only [tkS]
                    refine tk 27 ⟨some 60, _, _, _, _, _⟩ ?_ rfl ?_ ?_
                    rotate_left
                    · (intro w hSw; (try dsimp only at hSw); go_simp; try with_reducible rfl)
                    try simp only [tkS]
                    refine tk 28 ⟨some 61, _, _, _, _, _⟩ ?_ rfl ?_ ?_
                    rotate_left
                    · (intro w hSw; (try dsimp only at hSw); go_simp; try with_reducible rfl)
                    try simp only [tkS]
                    refine tk 29 ⟨some 62, _, _, _, _, _⟩ ?_ rfl ?_ ?_
                    rotate_left
                    · (intro w hSw; (try dsimp only at hSw); go_simp; try with_reducible rfl)
                    try simp only [tkS]
                    refine tk 30 ⟨some 63, _, _, _, _, _⟩ ?_ rfl ?_ ?_
                    rotate_left
                    · (intro w hSw; (try dsimp only at hSw); go_simp; try with_reducible rfl)
                    try simp only [tkS]
                    refine tk 31 ⟨some 64, _, _, _, _, _⟩ ?_ rfl ?_ ?_
                    rotate_left
                    · (intro w hSw; (try dsimp only at hSw); go_simp; try with_reducible rfl)
                    try simp only [tkS]
                    refine tk 32 ⟨some 65, _, _, _, _, _⟩ ?_ rfl ?_ ?_
                    rotate_left
                    · (intro w hSw; (try dsimp only at hSw); go_simp; try with_reducible rfl)
                    try simp only [tkS]
                    refine tk 33 ⟨some 66, _, _, _, _, _⟩ ?_ rfl ?_ ?_
                    rotate_left
                    · (intro w hSw; (try dsimp only at hSw); go_simp; try with_reducible rfl)
                    try simp only [tkS]
                    refine tk 34 ⟨some 67, _, _, _, _, _⟩ ?_ rfl ?_ ?_
                    rotate_left
                    · (intro w hSw; (try dsimp only at hSw); go_simp; try with_reducible rfl)
                    try simp only [tkS]
                    refine tk 35 ⟨some 68, _, _, _, _, _⟩ ?_ rfl ?_ ?_
                    rotate_left
                    · (intro w hSw; (try dsimp only at hSw); go_simp; try with_reducible rfl)
                    try simp only [tkS]
                    refine wpAnyH_done (by kernel_rfl) ?_ _
                    go_wp2_with fail
                    go_meet
                    case rel => exact ⟨rfl, by first | exact HX4.out | exact (Ext.refl _).drew_ | exact HX4.out.drew_ | exact Ext.refl _⟩
                  · skip
                    have tH : (nm.toList == [104, 97, 108, 116]) = false := by exact str_no hH
                    have tR : (nm.toList == [114, 101, 116, 117, 114, 110]) = false := by exact str_no hR2
                    obtain rfl : b1 = false := by rw [HB1.out, HW.out]; simp [hH, hR2]
                    have HH := Lib.hid hH
                    clear hH
                    have HR2 := Lib.hid hR2
                    clear hR2
                    refine wp_region_held_drew (S := fun W => W.cell? ⟨P7, 0, none⟩ = some (.string nm) ∧ W.cell? ⟨P7, 1, none⟩ = some (.int .i64 ax) ∧ W.cell? ⟨P8, 2, none⟩ = some (.string (shK nm))) (by kernel_rfl) ?_ (fun hHeld => ?_)
                    · exact ⟨p70, p71, p82⟩
                    refine tk 0 ⟨some 33, _, _, _, _, _⟩ ?_ rfl ?_ ?_
                    rotate_left
                    · (intro w hSw; (try dsimp only at hSw); go_simp; try with_reducible rfl)
                    try simp only [tkS]
                    refine tk 1 ⟨some 34, _, _, _, _, _⟩ ?_ rfl ?_ ?_
                    rotate_left
                    · (intro w hSw; (try dsimp only at hSw); go_simp; try with_reducible rfl)
                    try simp only [tkS]
                    refine tk 2 ⟨some 35, _, _, _, _, _⟩ ?_ rfl ?_ ?_
                    rotate_left
                    · (intro w hSw; (try dsimp only at hSw); go_simp; try with_reducible rfl)
                    try simp only [tkS]
                    refine tk 3 ⟨some 36, _, _, _, _, _⟩ ?_ rfl ?_ ?_
                    rotate_left
                    · (intro w hSw; (try dsimp only at hSw); go_simp; try with_reducible rfl)
                    try simp only [tkS]
                    refine tk 4 ⟨some 37, _, _, _, _, _⟩ ?_ rfl ?_ ?_
                    rotate_left
                    · (intro w hSw; (try dsimp only at hSw); go_simp; try with_reducible rfl)
                    try simp only [tkS]
                    refine tk 5 ⟨some 38, _, _, _, _, _⟩ ?_ rfl ?_ ?_
                    rotate_left
                    · (intro w hSw; (try dsimp only at hSw); go_simp; try with_reducible rfl)
                    try simp only [tkS]
                    refine tk 6 ⟨some 39, _, _, _, _, _⟩ ?_ rfl ?_ ?_
                    rotate_left
                    · (intro w hSw; (try dsimp only at hSw); go_simp; try with_reducible rfl)
                    try simp only [tkS]
                    refine tk 7 ⟨some 40, _, _, _, _, _⟩ ?_ rfl ?_ ?_
                    rotate_left
                    · (intro w hSw; (try dsimp only at hSw); go_simp; try with_reducible rfl)
                    try simp only [tkS]
                    refine tk 8 ⟨some 41, _, _, _, _, _⟩ ?_ rfl ?_ ?_
                    rotate_left
                    · (intro w hSw; (try dsimp only at hSw); go_simp; try with_reducible rfl)
                    try simp only [tkS]
                    refine tk 9 ⟨some 42, _, _, _, _, _⟩ ?_ rfl ?_ ?_
                    rotate_left
                    · (intro w hSw; (try dsimp only at hSw); go_simp; try with_reducible rfl)
                    try simp only [tkS]
                    refine tk 10 ⟨some 43, _, _, _, _, _⟩ ?_ rfl ?_ ?_
                    rotate_left
                    · (intro w hSw; (try dsimp only at hSw); go_simp; try with_reducible rfl)
                    try simp only [tkS]
                    refine tk 11 ⟨some 44, _, _, _, _, _⟩ ?_ rfl ?_ ?_
                    rotate_left
                    · (intro w hSw; (try dsimp only at hSw); go_simp; try with_reducible rfl)
                    try simp only [tkS]
                    refine tk 12 ⟨some 45, _, _, _, _, _⟩ ?_ rfl ?_ ?_
                    rotate_left
                    · (intro w hSw; (try dsimp only at hSw); go_simp; try with_reducible rfl)
                    try simp only [tkS]
                    refine wpAnyH_ready (rs := [13]) (by kernel_rfl) (by simp) ?_
                    refine AllReadyH.cons (o := ⟨some 46, _, _, _, _, _⟩) rfl (fun K hK => ?_) AllReadyH.nil
                    go_simp
                    refine (limit_any Kb c V f v fb fo HF.out nm _ ((HK.out.ext HE2.out).ext (by first | exact Ext.refl _ | exact (Ext.refl _).drew_ | exact (Ext.refl _).drewN_ _))).mono ?_
                    rintro e w4 ⟨he4, hE4⟩
                    rw [HLIM.out] at he4
                    subst he4
                    have HX4 : Hid (Ext w2 w4) := Ext.trans_ (by first | exact Ext.refl _ | exact (Ext.refl _).drew_ | exact (Ext.refl _).drewN_ _) hE4
                    clear hE4
                    refine hK.out _ _ ?_ (fun hHeld => ?_)
                    · (try dsimp only); exact ⟨HX4.out.cell_ p70, HX4.out.cell_ p71, HX4.out.cell_ p82⟩
                    clear hK K
                    try simp only [tkS]
                    refine tk 14 ⟨some 47, _, _, _, _, _⟩ ?_ rfl ?_ ?_
                    rotate_left
                    · (intro w hSw; (try dsimp only at hSw); go_simp; try with_reducible rfl)
                    try simp only [tkS]
                    refine tk 15 ⟨some 48, _, _, _, _, _⟩ ?_ rfl ?_ ?_
                    rotate_left
                    · (intro w hSw; (try dsimp only at hSw); go_simp; try with_reducible rfl)
                    try simp only [tkS]
                    refine tk 16 ⟨some 49, _, _, _, _, _⟩ ?_ rfl ?_ ?_
                    rotate_left
                    · (intro w hSw; (try dsimp only at hSw); go_simp; try with_reducible rfl)
                    try simp only [tkS]
                    refine tk 17 ⟨some 50, _, _, _, _, _⟩ ?_ rfl ?_ ?_
                    rotate_left
                    · (intro w hSw; (try dsimp only at hSw); go_simp; try with_reducible rfl)
                    try simp only [tkS]
                    refine tk 18 ⟨some 51, _, _, _, _, _⟩ ?_ rfl ?_ ?_
                    rotate_left
                    · (intro w hSw; (try dsimp only at hSw); go_simp; try with_reducible rfl)
                    try simp only [tkS]
                    refine tk 19 ⟨some 52, _, _, _, _, _⟩ ?_ rfl ?_ ?_
                    rotate_left
                    · (intro w hSw; (try dsimp only at hSw); go_simp; try with_reducible rfl)
                    try simp only [tkS]
                    refine tk 20 ⟨some 53, _, _, _, _, _⟩ ?_ rfl ?_ ?_
                    rotate_left
                    · (intro w hSw; (try dsimp only at hSw); go_simp; try with_reducible rfl)
                    try simp only [tkS]
                    refine tk 21 ⟨some 54, _, _, _, _, _⟩ ?_ rfl ?_ ?_
                    rotate_left
                    · (intro w hSw; (try dsimp only at hSw); go_simp; try with_reducible rfl)
                    try simp only [tkS]
                    refine tk 22 ⟨some 55, _, _, _, _, _⟩ ?_ rfl ?_ ?_
                    rotate_left
                    · (intro w hSw; (try dsimp only at hSw); go_simp; try with_reducible rfl)
                    try simp only [tkS]
                    refine tk 23 ⟨some 56, _, _, _, _, _⟩ ?_ rfl ?_ ?_
                    rotate_left
                    · (intro w hSw; (try dsimp only at hSw); go_simp; try with_reducible rfl)
                    try simp only [tkS]
                    refine tk 24 ⟨some 57, _, _, _, _, _⟩ ?_ rfl ?_ ?_
                    rotate_left
                    · (intro w hSw; (try dsimp only at hSw); go_simp; try with_reducible rfl)
                    try simp only [tkS]
                    refine tk 25 ⟨some 58, _, _, _, _, _⟩ ?_ rfl ?_ ?_
                    rotate_left
                    · (intro w hSw; (try dsimp only at hSw); go_simp; try with_reducible rfl)
                    try simp only [tkS]
                    refine tk 26 ⟨some 59, _, _, _, _, _⟩ ?_ rfl ?_ ?_
                    rotate_left
                    · (intro w hSw; (try dsimp only at hSw); go_simp; try with_reducible rfl)
                    try simp only [tkS]
                    refine tk 27 ⟨some 60, _, _, _, _, _⟩ ?_ rfl ?_ ?_
                    rotate_left
                    · (intro w hSw; (try dsimp only at hSw); go_simp; try with_reducible rfl)
                    try simp only [tkS]
                    refine tk 28 ⟨some 61, _, _, _, _, _⟩ ?_ rfl ?_ ?_
                    rotate_left
                    · (intro w hSw; (try dsimp only at hSw); go_simp; try with_reducible rfl)
                    try simp only [tkS]
                    refine tk 29 ⟨some 62, _, _, _, _, _⟩ ?_ rfl ?_ ?_
                    rotate_left
                    · (intro w hSw; (try dsimp only at hSw); go_simp; try with_reducible rfl)
                    try simp only [tkS]
                    refine tk 30 ⟨some 63, _, _, _, _, _⟩ ?_ rfl ?_ ?_
                    rotate_left
                    · (intro w hSw; (try dsimp only at hSw); go_simp; try with_reducible rfl)
                    try simp only [tkS]
                    refine tn 31 ⟨some 64, _, _, _, _, _⟩ rfl ?_
                    try simp only [tkS]
                    refine tk 32 ⟨some 65, _, _, _, _, _⟩ ?_ rfl ?_ ?_
                    rotate_left
                    · (intro w hSw; (try dsimp only at hSw); go_simp; try with_reducible rfl)
                    try simp only [tkS]
                    refine tk 33 ⟨some 66, _, _, _, _, _⟩ ?_ rfl ?_ ?_
                    rotate_left
                    · (intro w hSw; (try dsimp only at hSw); go_simp; try with_reducible rfl)
                    try simp only [tkS]
                    refine tk 34 ⟨some 67, _, _, _, _, _⟩ ?_ rfl ?_ ?_
                    rotate_left
                    · (intro w hSw; (try dsimp only at hSw); go_simp; try with_reducible rfl)
                    try simp only [tkS]
                    refine tk 35 ⟨some 68, _, _, _, _, _⟩ ?_ rfl ?_ ?_
                    rotate_left
                    · (intro w hSw; (try dsimp only at hSw); go_simp; try with_reducible rfl)
                    try simp only [tkS]
                    refine wpAnyH_done (by kernel_rfl) ?_ _
                    go_wp2_with fail
                    go_meet
                    case rel => exact ⟨rfl, by first | exact HX4.out | exact (Ext.refl _).drew_ | exact HX4.out.drew_ | exact Ext.refl _⟩
              | false =>
                by_cases hH : nm = n_halt
                · skip
                  have tH : (nm.toList == [104, 97, 108, 116]) = true := by rw [hH]; decide +kernel
                  obtain rfl : b1 = true := by rw [HB1.out, HW.out]; simp [hH, show ¬ n_halt = n_return by decide]
                  have HH := Lib.hid hH
                  clear hH
                  refine wp_region_held_drew (S := fun W => W.cell? ⟨P7, 0, none⟩ = some (.string nm) ∧ W.cell? ⟨P7, 1, none⟩ = some (.int .i64 ax) ∧ W.cell? ⟨P8, 2, none⟩ = some (.string (shK nm))) (by kernel_rfl) ?_ (fun hHeld => ?_)
                  · exact ⟨p70, p71, p82⟩
                  refine tk 0 ⟨some 33, _, _, _, _, _⟩ ?_ rfl ?_ ?_
                  rotate_left
                  · (intro w hSw; (try dsimp only at hSw); go_simp; try with_reducible rfl)
                  try simp only [tkS]
                  refine tk 1 ⟨some 34, _, _, _, _, _⟩ ?_ rfl ?_ ?_
                  rotate_left
                  · (intro w hSw; (try dsimp only at hSw); go_simp; try with_reducible rfl)
                  try simp only [tkS]
                  refine tk 2 ⟨some 35, _, _, _, _, _⟩ ?_ rfl ?_ ?_
                  rotate_left
                  · (intro w hSw; (try dsimp only at hSw); go_simp; try with_reducible rfl)
                  try simp only [tkS]
                  refine tk 3 ⟨some 36, _, _, _, _, _⟩ ?_ rfl ?_ ?_
                  rotate_left
                  · (intro w hSw; (try dsimp only at hSw); go_simp; try with_reducible rfl)
                  try simp only [tkS]
                  refine tk 4 ⟨some 37, _, _, _, _, _⟩ ?_ rfl ?_ ?_
                  rotate_left
                  · (intro w hSw; (try dsimp only at hSw); go_simp; try with_reducible rfl)
                  try simp only [tkS]
                  refine tk 5 ⟨some 38, _, _, _, _, _⟩ ?_ rfl ?_ ?_
                  rotate_left
                  · (intro w hSw; (try dsimp only at hSw); go_simp; try with_reducible rfl)
                  try simp only [tkS]
                  refine tk 6 ⟨some 39, _, _, _, _, _⟩ ?_ rfl ?_ ?_
                  rotate_left
                  · (intro w hSw; (try dsimp only at hSw); go_simp; try with_reducible rfl)
                  try simp only [tkS]
                  refine tk 7 ⟨some 40, _, _, _, _, _⟩ ?_ rfl ?_ ?_
                  rotate_left
                  · (intro w hSw; (try dsimp only at hSw); go_simp; try with_reducible rfl)
                  try simp only [tkS]
                  refine tk 8 ⟨some 41, _, _, _, _, _⟩ ?_ rfl ?_ ?_
                  rotate_left
                  · (intro w hSw; (try dsimp only at hSw); go_simp; try with_reducible rfl)
                  try simp only [tkS]
                  refine tk 9 ⟨some 42, _, _, _, _, _⟩ ?_ rfl ?_ ?_
                  rotate_left
                  · (intro w hSw; (try dsimp only at hSw); go_simp; try with_reducible rfl)
                  try simp only [tkS]
                  refine tk 10 ⟨some 43, _, _, _, _, _⟩ ?_ rfl ?_ ?_
                  rotate_left
                  · (intro w hSw; (try dsimp only at hSw); go_simp; try with_reducible rfl)
                  try simp only [tkS]
                  refine tk 11 ⟨some 44, _, _, _, _, _⟩ ?_ rfl ?_ ?_
                  rotate_left
                  · (intro w hSw; (try dsimp only at hSw); go_simp; try with_reducible rfl)
                  try simp only [tkS]
                  refine tk 12 ⟨some 45, _, _, _, _, _⟩ ?_ rfl ?_ ?_
                  rotate_left
                  · (intro w hSw; (try dsimp only at hSw); go_simp; try with_reducible rfl)
                  try simp only [tkS]
                  refine wpAnyH_ready (rs := [13]) (by kernel_rfl) (by simp) ?_
                  refine AllReadyH.cons (o := ⟨some 46, _, _, _, _, _⟩) rfl (fun K hK => ?_) AllReadyH.nil
                  go_simp
                  refine (limit_any Kb c V f v fb fo HF.out nm _ ((HK.out.ext HE2.out).ext (by first | exact Ext.refl _ | exact (Ext.refl _).drew_ | exact (Ext.refl _).drewN_ _))).mono ?_
                  rintro e w4 ⟨he4, hE4⟩
                  rw [HLIM.out] at he4
                  subst he4
                  have HX4 : Hid (Ext w2 w4) := Ext.trans_ (by first | exact Ext.refl _ | exact (Ext.refl _).drew_ | exact (Ext.refl _).drewN_ _) hE4
                  clear hE4
                  refine hK.out _ _ ?_ (fun hHeld => ?_)
                  · (try dsimp only); exact ⟨HX4.out.cell_ p70, HX4.out.cell_ p71, HX4.out.cell_ p82⟩
                  clear hK K
                  try simp only [tkS]
                  refine tk 14 ⟨some 47, _, _, _, _, _⟩ ?_ rfl ?_ ?_
                  rotate_left
                  · (intro w hSw; (try dsimp only at hSw); go_simp; try with_reducible rfl)
                  try simp only [tkS]
                  refine tk 15 ⟨some 48, _, _, _, _, _⟩ ?_ rfl ?_ ?_
                  rotate_left
                  · (intro w hSw; (try dsimp only at hSw); go_simp; try with_reducible rfl)
                  try simp only [tkS]
                  refine tk 16 ⟨some 49, _, _, _, _, _⟩ ?_ rfl ?_ ?_
                  rotate_left
                  · (intro w hSw; (try dsimp only at hSw); go_simp; try with_reducible rfl)
                  try simp only [tkS]
                  refine tk 17 ⟨some 50, _, _, _, _, _⟩ ?_ rfl ?_ ?_
                  rotate_left
                  · (intro w hSw; (try dsimp only at hSw); go_simp; try with_reducible rfl)
                  try simp only [tkS]
                  refine tk 18 ⟨some 51, _, _, _, _, _⟩ ?_ rfl ?_ ?_
                  rotate_left
                  · (intro w hSw; (try dsimp only at hSw); go_simp; try with_reducible rfl)
                  try simp only [tkS]
                  refine tk 19 ⟨some 52, _, _, _, _, _⟩ ?_ rfl ?_ ?_
                  rotate_left
                  · (intro w hSw; (try dsimp only at hSw); go_simp; try with_reducible rfl)
                  try simp only [tkS]
                  refine tk 20 ⟨some 53, _, _, _, _, _⟩ ?_ rfl ?_ ?_
                  rotate_left
                  · (intro w hSw; (try dsimp only at hSw); go_simp; try with_reducible rfl)
                  try simp only [tkS]
                  refine tk 21 ⟨some 54, _, _, _, _, _⟩ ?_ rfl ?_ ?_
                  rotate_left
                  · (intro w hSw; (try dsimp only at hSw); go_simp; try with_reducible rfl)
                  try simp only [tkS]
                  refine tk 22 ⟨some 55, _, _, _, _, _⟩ ?_ rfl ?_ ?_
                  rotate_left
                  · (intro w hSw; (try dsimp only at hSw); go_simp; try with_reducible rfl)
                  try simp only [tkS]
                  refine tk 23 ⟨some 56, _, _, _, _, _⟩ ?_ rfl ?_ ?_
                  rotate_left
                  · (intro w hSw; (try dsimp only at hSw); go_simp; try with_reducible rfl)
                  try simp only [tkS]
                  refine tk 24 ⟨some 57, _, _, _, _, _⟩ ?_ rfl ?_ ?_
                  rotate_left
                  · (intro w hSw; (try dsimp only at hSw); go_simp; try with_reducible rfl)
                  try simp only [tkS]
                  refine tk 25 ⟨some 58, _, _, _, _, _⟩ ?_ rfl ?_ ?_
                  rotate_left
                  · (intro w hSw; (try dsimp only at hSw); go_simp; try with_reducible rfl)
                  try simp only [tkS]
                  refine tk 26 ⟨some 59, _, _, _, _, _⟩ ?_ rfl ?_ ?_
                  rotate_left
                  · (intro w hSw; (try dsimp only at hSw); go_simp; try with_reducible rfl)
                  try simp only [tkS]
                  refine tn 27 ⟨some 60, _, _, _, _, _⟩ rfl ?_
                  try simp only [tkS]
                  refine tn 28 ⟨some 61, _, _, _, _, _⟩ rfl ?_
                  try simp only [tkS]
                  refine tn 29 ⟨some 62, _, _, _, _, _⟩ rfl ?_
                  try simp only [tkS]
                  refine tn 30 ⟨some 63, _, _, _, _, _⟩ rfl ?_
                  try simp only [tkS]
                  refine tn 31 ⟨some 64, _, _, _, _, _⟩ rfl ?_
                  try simp only [tkS]
                  refine tn 32 ⟨some 65, _, _, _, _, _⟩ rfl ?_
                  try simp only [tkS]
                  refine tk 33 ⟨some 66, _, _, _, _, _⟩ ?_ rfl ?_ ?_
                  rotate_left
                  · (intro w hSw; (try dsimp only at hSw); go_simp; try with_reducible rfl)
                  try simp only [tkS]
                  refine tk 34 ⟨some 67, _, _, _, _, _⟩ ?_ rfl ?_ ?_
                  rotate_left
                  · (intro w hSw; (try dsimp only at hSw); go_simp; try with_reducible rfl)
                  try simp only [tkS]
                  refine tk 35 ⟨some 68, _, _, _, _, _⟩ ?_ rfl ?_ ?_
                  rotate_left
                  · (intro w hSw; (try dsimp only at hSw); go_simp; try with_reducible rfl)
                  try simp only [tkS]
                  refine wpAnyH_done (by kernel_rfl) ?_ _
                  go_wp2_with fail
                  go_meet
                  case rel => exact ⟨rfl, by first | exact HX4.out | exact (Ext.refl _).drew_ | exact HX4.out.drew_ | exact Ext.refl _⟩
                · skip
                  have tH : (nm.toList == [104, 97, 108, 116]) = false := by exact str_no hH
                  obtain rfl : b1 = false := by rw [HB1.out, HW.out]; simp [hH]
                  have HH := Lib.hid hH
                  clear hH
                  refine wp_region_held_drew (S := fun W => W.cell? ⟨P7, 0, none⟩ = some (.string nm) ∧ W.cell? ⟨P7, 1, none⟩ = some (.int .i64 ax) ∧ W.cell? ⟨P8, 2, none⟩ = some (.string (shK nm))) (by kernel_rfl) ?_ (fun hHeld => ?_)
                  · exact ⟨p70, p71, p82⟩
                  refine tk 0 ⟨some 33, _, _, _, _, _⟩ ?_ rfl ?_ ?_
                  rotate_left
                  · (intro w hSw; (try dsimp only at hSw); go_simp; try with_reducible rfl)
                  try simp only [tkS]
                  refine tk 1 ⟨some 34, _, _, _, _, _⟩ ?_ rfl ?_ ?_
                  rotate_left
                  · (intro w hSw; (try dsimp only at hSw); go_simp; try with_reducible rfl)
                  try simp only [tkS]
                  refine tk 2 ⟨some 35, _, _, _, _, _⟩ ?_ rfl ?_ ?_
                  rotate_left
                  · (intro w hSw; (try dsimp only at hSw); go_simp; try with_reducible rfl)
                  try simp only [tkS]
                  refine tk 3 ⟨some 36, _, _, _, _, _⟩ ?_ rfl ?_ ?_
                  rotate_left
                  · (intro w hSw; (try dsimp only at hSw); go_simp; try with_reducible rfl)
                  try simp only [tkS]
                  refine tk 4 ⟨some 37, _, _, _, _, _⟩ ?_ rfl ?_ ?_
                  rotate_left
                  · (intro w hSw; (try dsimp only at hSw); go_simp; try with_reducible rfl)
                  try simp only [tkS]
                  refine tk 5 ⟨some 38, _, _, _, _, _⟩ ?_ rfl ?_ ?_
                  rotate_left
                  · (intro w hSw; (try dsimp only at hSw); go_simp; try with_reducible rfl)
                  try simp only [tkS]
                  refine tk 6 ⟨some 39, _, _, _, _, _⟩ ?_ rfl ?_ ?_
                  rotate_left
                  · (intro w hSw; (try dsimp only at hSw); go_simp; try with_reducible rfl)
                  try simp only [tkS]
                  refine tk 7 ⟨some 40, _, _, _, _, _⟩ ?_ rfl ?_ ?_
                  rotate_left
                  · (intro w hSw; (try dsimp only at hSw); go_simp; try with_reducible rfl)
                  try simp only [tkS]
                  refine tk 8 ⟨some 41, _, _, _, _, _⟩ ?_ rfl ?_ ?_
                  rotate_left
                  · (intro w hSw; (try dsimp only at hSw); go_simp; try with_reducible rfl)
                  try simp only [tkS]
                  refine tk 9 ⟨some 42, _, _, _, _, _⟩ ?_ rfl ?_ ?_
                  rotate_left
                  · (intro w hSw; (try dsimp only at hSw); go_simp; try with_reducible rfl)
                  try simp only [tkS]
                  refine tk 10 ⟨some 43, _, _, _, _, _⟩ ?_ rfl ?_ ?_
                  rotate_left
                  · (intro w hSw; (try dsimp only at hSw); go_simp; try with_reducible rfl)
                  try simp only [tkS]
                  refine tk 11 ⟨some 44, _, _, _, _, _⟩ ?_ rfl ?_ ?_
                  rotate_left
                  · (intro w hSw; (try dsimp only at hSw); go_simp; try with_reducible rfl)
                  try simp only [tkS]
                  refine tk 12 ⟨some 45, _, _, _, _, _⟩ ?_ rfl ?_ ?_
                  rotate_left
                  · (intro w hSw; (try dsimp only at hSw); go_simp; try with_reducible rfl)
                  try simp only [tkS]
                  refine wpAnyH_ready (rs := [13]) (by kernel_rfl) (by simp) ?_
                  refine AllReadyH.cons (o := ⟨some 46, _, _, _, _, _⟩) rfl (fun K hK => ?_) AllReadyH.nil
                  go_simp
                  refine (limit_any Kb c V f v fb fo HF.out nm _ ((HK.out.ext HE2.out).ext (by first | exact Ext.refl _ | exact (Ext.refl _).drew_ | exact (Ext.refl _).drewN_ _))).mono ?_
                  rintro e w4 ⟨he4, hE4⟩
                  rw [HLIM.out] at he4
                  subst he4
                  have HX4 : Hid (Ext w2 w4) := Ext.trans_ (by first | exact Ext.refl _ | exact (Ext.refl _).drew_ | exact (Ext.refl _).drewN_ _) hE4
                  clear hE4
                  refine hK.out _ _ ?_ (fun hHeld => ?_)
                  · (try dsimp only); exact ⟨HX4.out.cell_ p70, HX4.out.cell_ p71, HX4.out.cell_ p82⟩
                  clear hK K
                  try simp only [tkS]
                  refine tk 14 ⟨some 47, _, _, _, _, _⟩ ?_ rfl ?_ ?_
                  rotate_left
                  · (intro w hSw; (try dsimp only at hSw); go_simp; try with_reducible rfl)
                  try simp only [tkS]
                  refine tk 15 ⟨some 48, _, _, _, _, _⟩ ?_ rfl ?_ ?_
                  rotate_left
                  · (intro w hSw; (try dsimp only at hSw); go_simp; try with_reducible rfl)
                  try simp only [tkS]
                  refine tk 16 ⟨some 49, _, _, _, _, _⟩ ?_ rfl ?_ ?_
                  rotate_left
                  · (intro w hSw; (try dsimp only at hSw); go_simp; try with_reducible rfl)
                  try simp only [tkS]
                  refine tk 17 ⟨some 50, _, _, _, _, _⟩ ?_ rfl ?_ ?_
                  rotate_left
                  · (intro w hSw; (try dsimp only at hSw); go_simp; try with_reducible rfl)
                  try simp only [tkS]
                  refine tk 18 ⟨some 51, _, _, _, _, _⟩ ?_ rfl ?_ ?_
                  rotate_left
                  · (intro w hSw; (try dsimp only at hSw); go_simp; try with_reducible rfl)
                  try simp only [tkS]
                  refine tk 19 ⟨some 52, _, _, _, _, _⟩ ?_ rfl ?_ ?_
                  rotate_left
                  · (intro w hSw; (try dsimp only at hSw); go_simp; try with_reducible rfl)
                  try simp only [tkS]
                  refine tk 20 ⟨some 53, _, _, _, _, _⟩ ?_ rfl ?_ ?_
                  rotate_left
                  · (intro w hSw; (try dsimp only at hSw); go_simp; try with_reducible rfl)
                  try simp only [tkS]
                  refine tk 21 ⟨some 54, _, _, _, _, _⟩ ?_ rfl ?_ ?_
                  rotate_left
                  · (intro w hSw; (try dsimp only at hSw); go_simp; try with_reducible rfl)
                  try simp only [tkS]
                  refine tk 22 ⟨some 55, _, _, _, _, _⟩ ?_ rfl ?_ ?_
                  rotate_left
                  · (intro w hSw; (try dsimp only at hSw); go_simp; try with_reducible rfl)
                  try simp only [tkS]
                  refine tn 23 ⟨some 56, _, _, _, _, _⟩ rfl ?_
                  try simp only [tkS]
                  refine tn 24 ⟨some 57, _, _, _, _, _⟩ rfl ?_
                  try simp only [tkS]
                  refine tn 25 ⟨some 58, _, _, _, _, _⟩ rfl ?_
                  try simp only [tkS]
                  refine tn 26 ⟨some 59, _, _, _, _, _⟩ rfl ?_
                  try simp only [tkS]
                  refine tn 27 ⟨some 60, _, _, _, _, _⟩ rfl ?_
                  try simp only [tkS]
                  refine tn 28 ⟨some 61, _, _, _, _, _⟩ rfl ?_
                  try simp only [tkS]
                  refine tn 29 ⟨some 62, _, _, _, _, _⟩ rfl ?_
                  try simp only [tkS]
                  refine tn 30 ⟨some 63, _, _, _, _, _⟩ rfl ?_
                  try simp only [tkS]
                  refine tn 31 ⟨some 64, _, _, _, _, _⟩ rfl ?_
                  try simp only [tkS]
                  refine tn 32 ⟨some 65, _, _, _, _, _⟩ rfl ?_
                  try simp only [tkS]
                  refine tn 33 ⟨some 66, _, _, _, _, _⟩ rfl ?_
                  try simp only [tkS]
                  refine tk 34 ⟨some 67, _, _, _, _, _⟩ ?_ rfl ?_ ?_
                  rotate_left
                  · (intro w hSw; (try dsimp only at hSw); go_simp; try with_reducible rfl)
                  try simp only [tkS]
                  refine tk 35 ⟨some 68, _, _, _, _, _⟩ ?_ rfl ?_ ?_
                  rotate_left
                  · (intro w hSw; (try dsimp only at hSw); go_simp; try with_reducible rfl)
                  try simp only [tkS]
                  refine wpAnyH_done (by kernel_rfl) ?_ _
                  go_wp2_with fail
                  go_meet
                  case rel => exact ⟨rfl, by first | exact HX4.out | exact (Ext.refl _).drew_ | exact HX4.out.drew_ | exact Ext.refl _⟩
      case rest =>
        obtain ⟨rfl, hX3⟩ := hcut
        have p70 := hX3.out.cell_ p70
        have p71 := hX3.out.cell_ p71
        have p82 := hX3.out.cell_ p82
        have HE3 := Lib.hid (HE2.out.trans_ hX3.out)
        have hsz3 := HE3.out.size
        have lP7 : P7 < wc.heap.size := cell_lt p70
        have lP8 : P8 < wc.heap.size := cell_lt p82
        clear hX3 HE2
        cases b1 with
        | true =>
          obtain rfl : RES = false := by rw [HP.out]; rfl
          go_wp2
          go_ret
          exact ⟨rfl, HE3.out⟩
        | false =>
          have hbad : badB c f first ⟨nm, ax⟩ = false := HB1.out.symm
          unfold badB at hbad
          simp only [Bool.or_eq_false_iff, decide_eq_false_iff_not] at hbad
          obtain ⟨⟨⟨-, hax⟩, hlim⟩, -⟩ := hbad
          have hax0 : 0 ≤ ax := by omega
          have HLIM := Lib.hid hlim
          clear hax hlim
          by_cases hT : nm = n_take
          · have tT : (nm.toList == [116, 97, 107, 101]) = true := by rw [hT]; decide +kernel
            have tC : (nm.toList == [99, 108, 111, 115, 117, 114, 101]) = false := by rw [hT]; decide +kernel
            have tO : ((shK nm).toList == [111, 112]) = false := by rw [hT]; decide +kernel
            have HT := Lib.hid hT
            clear hT
            by_cases hl : 0 < left
            · have hd : decide (0 < left) = true := decide_eq_true hl
              have hP2 : Hid (RES = formP c f first (left - 1) (f.ops.drop (k + 1))) := by
                show RES = _
                rw [HP.out, hd, decide_eq_true HT.out]
                have e1 : leftN c left ⟨nm, ax⟩ = left - 1 := by unfold leftN; rw [HT.out]; rfl
                have e2 : ¬ shK nm = a_op := by rw [HT.out]; decide
                rw [e1, decide_eq_false e2]
                rfl
              clear hl
              go_upto_region 14 with fail
              go_quiet (fail)
              go_wp2
              go_roundg r
              case measure => omega
              case rel => exact ⟨k + 1, left - 1, by have := HK2.out; omega, by go_num, by go_num, by have := of_decide_eq_true hd; omega, hP2.out, by first | exact HE3.out | exact HE3.out.drewN_ _ | exact HE3.out.drew_⟩
            · have hd : decide (0 < left) = false := decide_eq_false hl
              obtain rfl : RES = false := by rw [HP.out, hd, decide_eq_true HT.out]; rfl
              clear hl
              go_wp2
              go_ret
              exact ⟨rfl, HE3.out⟩
          · have tT : (nm.toList == [116, 97, 107, 101]) = false := str_no hT
            have HT := Lib.hid hT
            clear hT
            by_cases hl : 0 < left
            · have hd : decide (0 < left) = true := decide_eq_true hl
              obtain rfl : RES = false := by rw [HP.out, hd, decide_eq_false HT.out]; rfl
              clear hl
              go_wp2
              go_ret
              exact ⟨rfl, HE3.out⟩
            · have hd : decide (0 < left) = false := decide_eq_false hl
              obtain rfl : left = 0 := by omega
              by_cases hC : nm = n_closure
              · have tC : (nm.toList == [99, 108, 111, 115, 117, 114, 101]) = true := by rw [hC]; decide +kernel
                have tO : ((shK nm).toList == [111, 112]) = false := by rw [hC]; decide +kernel
                have HC := Lib.hid hC
                have hxl : ax < c.funcs.length := by
                  have := HLIM.out
                  rw [hC] at this
                  have e : limitP c f (shK n_closure) = c.funcs.length := by
                    rw [show shK n_closure = a_func by decide]; rfl
                  rw [e] at this
                  omega
                clear hC
                obtain ⟨A, rfl⟩ : ∃ A : Nat, ax = (A : Int) := ⟨ax.toNat, by omega⟩
                have hAl : A < c.funcs.length := by omega
                have hfa := fnCells_at (withV c V) A (by rw [withV_len HR.out]; exact hAl)
                have hfs := withV_fst HR.out A hAl
                obtain ⟨Fb, Fo, hFV⟩ := HR.out.F.some_ (by rw [fnCells_len, withV_len HR.out]; omega)
                have hFr := HR.out.F
                rw [hFV] at hFr
                have cfr := (hFr.ext HE3.out).at_ hfa.2.2.2.2.1
                rw [hfs, ← Nat.add_assoc] at cfr
                have kF3 := HE3.out.cell_ kF
                rw [hFV] at kF3
                obtain ⟨fr0, fr1⟩ := HFR.out _ (List.getElem_mem hAl)
                have hP2 : Hid (RES = formP c f first (c.funcs[A]).frees (f.ops.drop (k + 1))) := by
                  show RES = _
                  rw [HP.out, hd, decide_eq_false HT.out]
                  have e1 : leftN c 0 ⟨nm, (A : Int)⟩ = (c.funcs[A]).frees := by unfold leftN; rw [HC.out]; simp [hAl]
                  have e2 : ¬ shK nm = a_op := by rw [HC.out]; decide
                  rw [e1, decide_eq_false e2]
                  rfl
                generalize (c.funcs[A]).frees = fr at *
                have g4 := HE3.out.cell_ k4
                clear hfa hfs hFr hFV hl
                go_upto_region 13 with fail
                go_quiet (fail)
                go_upto_region 14 with fail
                go_quiet (fail)
                go_wp2
                go_roundg r
                case measure => omega
                case rel => exact ⟨k + 1, fr, by have := HK2.out; omega, rfl, by go_num, ⟨fr0, fr1⟩, hP2.out, by first | exact HE3.out | exact HE3.out.drew_ | exact HE3.out.drew_.drew_ | exact HE3.out.drewN_ _⟩
              · have tC : (nm.toList == [99, 108, 111, 115, 117, 114, 101]) = false := str_no hC
                have HC := Lib.hid hC
                clear hC
                have e1 : leftN c 0 ⟨nm, ax⟩ = 0 := by unfold leftN; rw [if_neg HC.out, if_neg HT.out]
                have HE1' := Lib.hid e1
                clear e1
                by_cases hO : shK nm = a_op
                · have tO : ((shK nm).toList == [111, 112]) = true := by rw [hO]; decide +kernel
                  have hxl : ax < f.ops.length := by
                    have := HLIM.out
                    rw [hO] at this
                    have e : limitP c f a_op = f.ops.length := rfl
                    rw [e] at this
                    omega
                  have HO := Lib.hid hO
                  clear hO
                  obtain ⟨A, rfl⟩ : ∃ A : Nat, ax = (A : Int) := ⟨ax.toNat, by omega⟩
                  have hAl : A < f.ops.length := by omega
                  have hta := opCells_at f.ops A hAl
                  have hor := HOPS.out
                  have ct := (hor.ext HE3.out).at_ hta.1
                  have eT : opAt f.ops ((A : Int)).toNat = f.ops[A] := by unfold opAt; simp [List.getD_eq_getElem?_getD, hAl]
                  have g4 := HE3.out.cell_ k4
                  have g5 := HE3.out.cell_ f5
                  generalize hta' : (f.ops[A]).name = ta at *
                  by_cases hX : ta = n_take
                  · have tX : (ta.toList == [116, 97, 107, 101]) = true := by rw [hX]; decide +kernel
                    obtain rfl : RES = false := by rw [HP.out, hd, decide_eq_false HT.out, decide_eq_true HO.out, eT, hta', decide_eq_true hX]; rfl
                    clear hX hta hor eT hta' hl
                    go_upto_region 14 with fail
                    go_quiet (fail)
                    go_wp2
                    go_ret
                    exact ⟨rfl, by first | exact HE3.out | exact HE3.out.drew_ | exact HE3.out.drewN_ _⟩
                  · have tX : (ta.toList == [116, 97, 107, 101]) = false := str_no hX
                    have hP2 : Hid (RES = formP c f first 0 (f.ops.drop (k + 1))) := by
                      show RES = _
                      rw [HP.out, hd, decide_eq_false HT.out, decide_eq_true HO.out, eT, hta', decide_eq_false hX, HE1'.out]
                      rfl
                    clear hX hta hor eT hta' hl
                    go_upto_region 14 with fail
                    go_quiet (fail)
                    go_wp2
                    go_roundg r
                    case measure => omega
                    case rel => exact ⟨k + 1, 0, by have := HK2.out; omega, rfl, by go_num, by omega, hP2.out, by first | exact HE3.out | exact HE3.out.drew_ | exact HE3.out.drewN_ _⟩
                · have tO : ((shK nm).toList == [111, 112]) = false := str_no hO
                  have hP2 : Hid (RES = formP c f first 0 (f.ops.drop (k + 1))) := by
                    show RES = _
                    rw [HP.out, hd, decide_eq_false HT.out, decide_eq_false hO, HE1'.out]
                    rfl
                  clear hO hl
                  go_upto_region 14 with fail
                  go_quiet (fail)
                  go_wp2
                  go_roundg r
                  case measure => omega
                  case rel => exact ⟨k + 1, 0, by have := HK2.out; omega, rfl, by go_num, by omega, hP2.out, by first | exact HE3.out | exact HE3.out.drew_ | exact HE3.out.drewN_ _⟩
end Go.Proofs.YtgjjkllngopboaaDoor
