/- The table of shapes as the code lays it: a map of its own. -/
import Derived.Test.YtgjjkllngopboaaDoorJCa06
import Derived.Carry
namespace Go.Proofs.YtgjjkllngopboaaDoor
open Go.RowKit
set_option linter.unusedVariables false
set_option linter.unusedSimpArgs false

theorem But.keepAll {b : Nat} {w w1 w2 : World} (h : Ext w w1) (hb : w.heap.size ≤ b) (k : But b w1 w2) : Ext w w2 :=
  Below.trans h ⟨k.os, k.tape, k.output, Nat.le_of_eq k.size.symm, fun i hi => k.block i (by omega)⟩
theorem put_shape {W w : World} {k : Nat} (hE : Ext w W) (hM : MapS W w.heap.size (shapeE.take k)) (n : ByteArray) (x : Int × Int × ByteArray) (hk : shapeTab[k]? = some (n, x)) (hn : (sget (shapeE.take k) n).isNone = true) :
    ∃ w', (Instr.mapUpdate 64 (.map (some w.heap.size)) (.string n) (.agg #[.int .i64 x.1, .int .i64 x.2.1, .string x.2.2])).run Tryd.prog W = .ok () w' ∧ Ext w w' ∧ MapS w' w.heap.size (shapeE.take (k + 1)) := by
  obtain ⟨w', h1, h2, h3⟩ := run_update_maps (P := Tryd.prog) (Tryd.underlying64) (Tryd.underlying9) hM n (shapeV x) (by simpa using hn)
  refine ⟨w', h1, But.keepAll hE (Nat.le_refl _) h3, ?_⟩
  have e : shapeE.take (k + 1) = shapeE.take k ++ [(n, shapeV x)] := by
    have : shapeE[k]? = some (n, shapeV x) := by unfold shapeE; rw [List.getElem?_map, hk]; rfl
    rw [List.take_add_one, this]; rfl
  rw [e]
  exact h2
set_option maxRecDepth 100000 in
set_option maxHeartbeats 8000000 in
theorem shapes_walk (w : World) : Calls Tryd.prog 22 #[] w fun e w' => e = .returned (.map (some w.heap.size)) ∧ MapS w' w.heap.size shapeE ∧ Ext w w' := by
  have hmm := @run_makeMap Tryd.prog
  have m0 : MapS (w.alloc (.map #[] 0)) w.heap.size (shapeE.take 0) := MapS.made w
  have e0 : Ext w (w.alloc (.map #[] 0)) := (Ext.refl w).alloc_ _
  obtain ⟨w1, h1, e1, m1⟩ := put_shape e0 m0 ⟨#[99, 111, 110, 115, 116]⟩ (0, 1, ⟨#[99, 111, 110, 115, 116]⟩) (by rfl) (by decide +kernel)
  simp only at h1
  clear e0 m0
  obtain ⟨w2, h2, e2, m2⟩ := put_shape e1 m1 ⟨#[105, 110, 116]⟩ (0, 1, ⟨#[105, 110, 116]⟩) (by rfl) (by decide +kernel)
  simp only at h2
  clear e1 m1
  obtain ⟨w3, h3, e3, m3⟩ := put_shape e2 m2 ⟨#[115, 116, 114]⟩ (0, 1, ⟨#[115, 116, 114]⟩) (by rfl) (by decide +kernel)
  simp only at h3
  clear e2 m2
  obtain ⟨w4, h4, e4, m4⟩ := put_shape e3 m3 ⟨#[108, 111, 97, 100]⟩ (0, 1, ⟨#[108, 111, 99, 97, 108]⟩) (by rfl) (by decide +kernel)
  simp only at h4
  clear e3 m3
  obtain ⟨w5, h5, e5, m5⟩ := put_shape e4 m4 ⟨#[115, 116, 111, 114, 101]⟩ (1, 0, ⟨#[108, 111, 99, 97, 108]⟩) (by rfl) (by decide +kernel)
  simp only at h5
  clear e4 m4
  obtain ⟨w6, h6, e6, m6⟩ := put_shape e5 m5 ⟨#[99, 101, 108, 108]⟩ (0, 1, ⟨#[99, 101, 108, 108]⟩) (by rfl) (by decide +kernel)
  simp only at h6
  clear e5 m5
  obtain ⟨w7, h7, e7, m7⟩ := put_shape e6 m6 ⟨#[102, 105, 108, 108]⟩ (1, 0, ⟨#[99, 101, 108, 108]⟩) (by rfl) (by decide +kernel)
  simp only at h7
  clear e6 m6
  obtain ⟨w8, h8, e8, m8⟩ := put_shape e7 m7 ⟨#[103, 108, 111, 98, 97, 108]⟩ (0, 1, ⟨#[110, 97, 109, 101]⟩) (by rfl) (by decide +kernel)
  simp only at h8
  clear e7 m7
  obtain ⟨w9, h9, e9, m9⟩ := put_shape e8 m8 ⟨#[110, 97, 109, 101]⟩ (1, 0, ⟨#[110, 97, 109, 101]⟩) (by rfl) (by decide +kernel)
  simp only at h9
  clear e8 m8
  obtain ⟨w10, h10, e10, m10⟩ := put_shape e9 m9 ⟨#[110, 101, 103]⟩ (1, 1, ⟨#[]⟩) (by rfl) (by decide +kernel)
  simp only at h10
  clear e9 m9
  obtain ⟨w11, h11, e11, m11⟩ := put_shape e10 m10 ⟨#[110, 111, 116]⟩ (1, 1, ⟨#[]⟩) (by rfl) (by decide +kernel)
  simp only at h11
  clear e10 m10
  obtain ⟨w12, h12, e12, m12⟩ := put_shape e11 m11 ⟨#[99, 97, 108, 108]⟩ (1, 1, ⟨#[109, 97, 110, 121]⟩) (by rfl) (by decide +kernel)
  simp only at h12
  clear e11 m11
  obtain ⟨w13, h13, e13, m13⟩ := put_shape e12 m12 ⟨#[105, 110, 100, 101, 120]⟩ (2, 1, ⟨#[]⟩) (by rfl) (by decide +kernel)
  simp only at h13
  clear e12 m12
  obtain ⟨w14, h14, e14, m14⟩ := put_shape e13 m13 ⟨#[112, 117, 116]⟩ (3, 0, ⟨#[]⟩) (by rfl) (by decide +kernel)
  simp only at h14
  clear e13 m13
  obtain ⟨w15, h15, e15, m15⟩ := put_shape e14 m14 ⟨#[100, 101, 108]⟩ (2, 0, ⟨#[]⟩) (by rfl) (by decide +kernel)
  simp only at h15
  clear e14 m14
  obtain ⟨w16, h16, e16, m16⟩ := put_shape e15 m15 ⟨#[108, 105, 115, 116]⟩ (0, 1, ⟨#[109, 97, 110, 121]⟩) (by rfl) (by decide +kernel)
  simp only at h16
  clear e15 m15
  obtain ⟨w17, h17, e17, m17⟩ := put_shape e16 m16 ⟨#[100, 105, 99, 116]⟩ (0, 1, ⟨#[109, 97, 110, 121]⟩) (by rfl) (by decide +kernel)
  simp only at h17
  clear e16 m16
  obtain ⟨w18, h18, e18, m18⟩ := put_shape e17 m17 ⟨#[99, 108, 111, 115, 117, 114, 101]⟩ (0, 1, ⟨#[102, 117, 110, 99]⟩) (by rfl) (by decide +kernel)
  simp only at h18
  clear e17 m17
  obtain ⟨w19, h19, e19, m19⟩ := put_shape e18 m18 ⟨#[116, 97, 107, 101]⟩ (0, 0, ⟨#[99, 101, 108, 108]⟩) (by rfl) (by decide +kernel)
  simp only at h19
  clear e18 m18
  obtain ⟨w20, h20, e20, m20⟩ := put_shape e19 m19 ⟨#[112, 111, 112]⟩ (1, 0, ⟨#[]⟩) (by rfl) (by decide +kernel)
  simp only at h20
  clear e19 m19
  obtain ⟨w21, h21, e21, m21⟩ := put_shape e20 m20 ⟨#[100, 117, 112]⟩ (1, 2, ⟨#[]⟩) (by rfl) (by decide +kernel)
  simp only at h21
  clear e20 m20
  obtain ⟨w22, h22, e22, m22⟩ := put_shape e21 m21 ⟨#[106, 117, 109, 112]⟩ (0, 0, ⟨#[111, 112]⟩) (by rfl) (by decide +kernel)
  simp only at h22
  clear e21 m21
  obtain ⟨w23, h23, e23, m23⟩ := put_shape e22 m22 ⟨#[117, 110, 108, 101, 115, 115]⟩ (1, 0, ⟨#[111, 112]⟩) (by rfl) (by decide +kernel)
  simp only at h23
  clear e22 m22
  obtain ⟨w24, h24, e24, m24⟩ := put_shape e23 m23 ⟨#[105, 116, 101, 114]⟩ (1, 1, ⟨#[]⟩) (by rfl) (by decide +kernel)
  simp only at h24
  clear e23 m23
  obtain ⟨w25, h25, e25, m25⟩ := put_shape e24 m24 ⟨#[110, 101, 120, 116]⟩ (1, 2, ⟨#[111, 112]⟩) (by rfl) (by decide +kernel)
  simp only at h25
  clear e24 m24
  obtain ⟨w26, h26, e26, m26⟩ := put_shape e25 m25 ⟨#[116, 114, 121]⟩ (0, 0, ⟨#[111, 112]⟩) (by rfl) (by decide +kernel)
  simp only at h26
  clear e25 m25
  obtain ⟨w27, h27, e27, m27⟩ := put_shape e26 m26 ⟨#[101, 110, 100]⟩ (0, 0, ⟨#[]⟩) (by rfl) (by decide +kernel)
  simp only at h27
  clear e26 m26
  obtain ⟨w28, h28, e28, m28⟩ := put_shape e27 m27 ⟨#[114, 97, 105, 115, 101]⟩ (1, 0, ⟨#[]⟩) (by rfl) (by decide +kernel)
  simp only at h28
  clear e27 m27
  obtain ⟨w29, h29, e29, m29⟩ := put_shape e28 m28 ⟨#[114, 101, 116, 117, 114, 110]⟩ (1, 0, ⟨#[]⟩) (by rfl) (by decide +kernel)
  simp only at h29
  clear e28 m28
  obtain ⟨w30, h30, e30, m30⟩ := put_shape e29 m29 ⟨#[115, 116, 101, 112]⟩ (0, 0, ⟨#[]⟩) (by rfl) (by decide +kernel)
  simp only at h30
  clear e29 m29
  obtain ⟨w31, h31, e31, m31⟩ := put_shape e30 m30 ⟨#[104, 97, 108, 116]⟩ (0, 0, ⟨#[]⟩) (by rfl) (by decide +kernel)
  simp only at h31
  clear e30 m30
  obtain ⟨w32, h32, e32, m32⟩ := put_shape e31 m31 ⟨#[97, 100, 100]⟩ (2, 1, ⟨#[]⟩) (by rfl) (by decide +kernel)
  simp only at h32
  clear e31 m31
  obtain ⟨w33, h33, e33, m33⟩ := put_shape e32 m32 ⟨#[115, 117, 98]⟩ (2, 1, ⟨#[]⟩) (by rfl) (by decide +kernel)
  simp only at h33
  clear e32 m32
  obtain ⟨w34, h34, e34, m34⟩ := put_shape e33 m33 ⟨#[109, 117, 108]⟩ (2, 1, ⟨#[]⟩) (by rfl) (by decide +kernel)
  simp only at h34
  clear e33 m33
  obtain ⟨w35, h35, e35, m35⟩ := put_shape e34 m34 ⟨#[100, 105, 118]⟩ (2, 1, ⟨#[]⟩) (by rfl) (by decide +kernel)
  simp only at h35
  clear e34 m34
  obtain ⟨w36, h36, e36, m36⟩ := put_shape e35 m35 ⟨#[109, 111, 100]⟩ (2, 1, ⟨#[]⟩) (by rfl) (by decide +kernel)
  simp only at h36
  clear e35 m35
  obtain ⟨w37, h37, e37, m37⟩ := put_shape e36 m36 ⟨#[101, 113]⟩ (2, 1, ⟨#[]⟩) (by rfl) (by decide +kernel)
  simp only at h37
  clear e36 m36
  obtain ⟨w38, h38, e38, m38⟩ := put_shape e37 m37 ⟨#[110, 101]⟩ (2, 1, ⟨#[]⟩) (by rfl) (by decide +kernel)
  simp only at h38
  clear e37 m37
  obtain ⟨w39, h39, e39, m39⟩ := put_shape e38 m38 ⟨#[108, 116]⟩ (2, 1, ⟨#[]⟩) (by rfl) (by decide +kernel)
  simp only at h39
  clear e38 m38
  obtain ⟨w40, h40, e40, m40⟩ := put_shape e39 m39 ⟨#[108, 101]⟩ (2, 1, ⟨#[]⟩) (by rfl) (by decide +kernel)
  simp only at h40
  clear e39 m39
  obtain ⟨w41, h41, e41, m41⟩ := put_shape e40 m40 ⟨#[103, 116]⟩ (2, 1, ⟨#[]⟩) (by rfl) (by decide +kernel)
  simp only at h41
  clear e40 m40
  obtain ⟨w42, h42, e42, m42⟩ := put_shape e41 m41 ⟨#[103, 101]⟩ (2, 1, ⟨#[]⟩) (by rfl) (by decide +kernel)
  simp only at h42
  clear e41 m41
  obtain ⟨w43, h43, e43, m43⟩ := put_shape e42 m42 ⟨#[105, 115]⟩ (2, 1, ⟨#[]⟩) (by rfl) (by decide +kernel)
  simp only at h43
  clear e42 m42
  obtain ⟨w44, h44, e44, m44⟩ := put_shape e43 m43 ⟨#[105, 110]⟩ (2, 1, ⟨#[]⟩) (by rfl) (by decide +kernel)
  simp only at h44
  clear e43 m43
  have HE := Lib.hid e44
  have HM := Lib.hid m44
  clear e44 m44
  go_enter Tryd.func22, Tryd.ntmps22
  go_wp2
  go_ret
  exact ⟨rfl, HM.out, HE.out⟩
end Go.Proofs.YtgjjkllngopboaaDoor
