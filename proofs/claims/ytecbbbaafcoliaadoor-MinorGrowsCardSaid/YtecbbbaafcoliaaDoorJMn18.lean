/- The walk of Memory.Object. -/
import Derived.Test.YtecbbbaafcoliaaDoorJMn13
import Derived.Test.YtecbbbaafcoliaaDoorJMn09
namespace Go.Proofs.YtecbbbaafcoliaaDoor
open Go.RowKit
set_option linter.unusedVariables false
set_option linter.unusedSimpArgs false

/-- Does a word point to an object? -/
def ptB (st : List Int) (a : Int) : Bool := (kindW a == 0) && (a != 0) && inSt st (placeW a)
abbrev head0 : Value := .agg #[.int .i64 0, .int .i64 0, .int .i64 0, .int .i64 0]
theorem head_block {w w2 : World} {t : TypeId} (h : Ext (w.alloc (.cells #[.int .i64 0, .int .i64 0, .int .i64 0, .int .i64 0] t)) w2) :
    w2.cell? ⟨w.heap.size, 0, none⟩ = some (.int .i64 0) ∧ w2.cell? ⟨w.heap.size, 1, none⟩ = some (.int .i64 0) ∧ w2.cell? ⟨w.heap.size, 2, none⟩ = some (.int .i64 0) ∧ w2.cell? ⟨w.heap.size, 3, none⟩ = some (.int .i64 0) ∧
    w2.frozen? ⟨w.heap.size, 0, none⟩ = false ∧ w2.frozen? ⟨w.heap.size, 1, none⟩ = false ∧ w2.frozen? ⟨w.heap.size, 2, none⟩ = false ∧ w2.frozen? ⟨w.heap.size, 3, none⟩ = false := by
  refine ⟨h.cell_ (by simp [go_sem]), h.cell_ (by simp [go_sem]), h.cell_ (by simp [go_sem]), h.cell_ (by simp [go_sem]), ?_, ?_, ?_, ?_⟩ <;> (rw [h.three.2.1 _ _ (by simp)]; simp [go_sem])
/-- Four cells of a block are stored. -/
theorem head_set {w3 : World} {B : Nat} (hz : B < w3.heap.size) {a0 a1 a2 a3 : Value} (t0 : w3.cell? ⟨B, 0, none⟩ = some a0) (t1 : w3.cell? ⟨B, 1, none⟩ = some a1) (t2 : w3.cell? ⟨B, 2, none⟩ = some a2) (t3 : w3.cell? ⟨B, 3, none⟩ = some a3)
    (u0 : w3.frozen? ⟨B, 0, none⟩ = false) (u1 : w3.frozen? ⟨B, 1, none⟩ = false) (u2 : w3.frozen? ⟨B, 2, none⟩ = false) (u3 : w3.frozen? ⟨B, 3, none⟩ = false) (k a m s : Int) :
    let w4 := (((w3.setCell ⟨B, 0, none⟩ (.int .i64 k)).setCell ⟨B, 1, none⟩ (.int .i64 a)).setCell ⟨B, 2, none⟩ (.int .i64 m)).setCell ⟨B, 3, none⟩ (.int .i64 s)
    w4.cell? ⟨B, 0, none⟩ = some (.int .i64 k) ∧ w4.cell? ⟨B, 1, none⟩ = some (.int .i64 a) ∧ w4.cell? ⟨B, 2, none⟩ = some (.int .i64 m) ∧ w4.cell? ⟨B, 3, none⟩ = some (.int .i64 s) ∧
    w4.frozen? ⟨B, 0, none⟩ = false ∧ w4.frozen? ⟨B, 1, none⟩ = false ∧ w4.frozen? ⟨B, 2, none⟩ = false ∧ w4.frozen? ⟨B, 3, none⟩ = false ∧ Below B w3 w4 := by
  intro w4
  refine ⟨?_, ?_, ?_, ?_, ?_, ?_, ?_, ?_, ?_⟩
  · show (((( _ : World)).setCell _ _).setCell _ _).cell? _ = _
    rw [cell_set_off (by decide), cell_set_off (by decide), cell_set_off (by decide)]
    exact cell_set_same t0
  · show (((( _ : World)).setCell _ _).setCell _ _).cell? _ = _
    rw [cell_set_off (by decide), cell_set_off (by decide)]
    exact cell_set_same (by rw [cell_set_off (by decide)]; exact t1)
  · show (((( _ : World)).setCell _ _).setCell _ _).cell? _ = _
    rw [cell_set_off (by decide)]
    exact cell_set_same (by rw [cell_set_off (by decide), cell_set_off (by decide)]; exact t2)
  · exact cell_set_same (by rw [cell_set_off (by decide), cell_set_off (by decide), cell_set_off (by decide)]; exact t3)
  · simp [w4, go_sem, u0]
  · simp [w4, go_sem, u1]
  · simp [w4, go_sem, u2]
  · simp [w4, go_sem, u3]
  · have q0 : Below B w3 (w3.setCell ⟨B, 0, none⟩ (.int .i64 k)) := Below.setCell (p := ⟨B, 0, none⟩) (Below.refl B w3) (Nat.le_refl B) _
    have q1 := Below.setCell (p := ⟨B, 1, none⟩) q0 (Nat.le_refl B) (.int .i64 a)
    have q2 := Below.setCell (p := ⟨B, 2, none⟩) q1 (Nat.le_refl B) (.int .i64 m)
    exact Below.setCell (p := ⟨B, 3, none⟩) q2 (Nat.le_refl B) (.int .i64 s)
theorem named_body {P : Program} {f : Func} {Q : Ending → World → Prop} {x : Exit} {a : Act} {W : World} (h : ∀ W9, W9 = W → bodyPost P f Q x a W9) : bodyPost P f Q x a W := h W rfl
set_option maxRecDepth 100000 in
set_option maxHeartbeats 4000000 in
theorem object_no (b o : Nat) (M : Mem) (S : Sls) (E : Nat → Addr) (a : Int) (h0 : 0 ≤ a) (h1 : a ≤ 18446744073709551615) (w : World) (hM : RMem w b o M S) (hE : G3 E w) (hg : goodB M = true) (hp : ptB (startsM M) a = false) :
    Calls Tryd.prog 89 #[.pointer (some ⟨b, o, none⟩), .int .u64 a] w fun e w' => e = .returned (.tuple #[.int .i64 0, .agg #[.int .i64 0, .int .i64 0, .int .i64 0, .int .i64 0], errV (E 4)]) ∧ Ext w w' := by
  obtain ⟨hs, hob, -⟩ := good_parts hg
  have HM := Lib.hid hM
  have HE := Lib.hid hE
  have HS := Lib.hid hs
  have HOB := Lib.hid (objs_true hob)
  have hlp := cell_lt hE.place
  simp only at hlp
  have k1 := ((hE.ext ((Ext.refl w).alloc_ (.cells #[.int .i64 0, .int .i64 0, .int .i64 0, .int .i64 0] 88)))).place
  clear hM hE hs hob hg
  by_cases hk : kindW a = 0
  · have k0 : (kindW a != 0) = false := by simpa using hk
    by_cases hz : a = 0
    · have k2 : (a == 0) = true := by simpa using hz
      clear hk hz hp
      go_enter Tryd.func89, Tryd.ntmps89
      go_wp2_with (go_at_call 63; refine (kind_any _ h0 h1 _).mono ?_; rintro e w' ⟨rfl, rfl⟩)
      go_region
      go_wp2
      exact bodyPost_ret (v := .tuple #[.int .i64 0, .agg #[.int .i64 0, .int .i64 0, .int .i64 0, .int .i64 0], errV (E 4)]) (by simp [results, Tryd.results89, go_sem]) rfl ⟨rfl, by repeat (first | exact Ext.refl _ | (refine Ext.set_ ?_ (by simp) _) | (refine Ext.drew_ ?_) | (refine Ext.drewN_ ?_ _) | (refine Ext.alloc_ ?_ _))⟩
    · have k2 : (a == 0) = false := by simpa using hz
      have HIN : Hid (inSt (startsM M) (placeW a) = false) := by
        have e1 : (kindW a == 0) = true := by simpa using hk
        have e2 : (a != 0) = true := by simpa using hz
        unfold ptB at hp
        rw [e1, e2] at hp
        show inSt (startsM M) (placeW a) = false
        simpa using hp
      clear hk hz hp k1
      go_enter Tryd.func89, Tryd.ntmps89
      go_wp2_with (first
        | (go_at_call 63; refine (kind_any _ h0 h1 _).mono ?_; rintro e w' ⟨rfl, rfl⟩)
        | (go_at_call 81; refine (place_any _ h0 h1 _).mono ?_; rintro e w' ⟨rfl, rfl⟩)
        | (go_at_call 39; refine (starts_any b o M S HS.out (E 1) (E 2) _ (HM.out.ext ((Ext.refl w).alloc_ _)) (HE.out.ext ((Ext.refl w).alloc_ _)).bound (HE.out.ext ((Ext.refl w).alloc_ _)).shape).mono ?_; rintro e w2 ⟨bm, rfl, hsm, hq⟩; have hlk := smap_look (hsm HOB.out) (placeW a); rw [HIN.out] at hlk; have HQ2 := Lib.hid hq; have HX2 : Hid (Ext w w2) := Ext.trans_ ((Ext.refl w).alloc_ _) hq; obtain ⟨g0, g1, g2, g3, r0, r1, r2, r3⟩ := head_block hq; have hz2 : w.heap.size < w2.heap.size := cell_lt g0; clear hq hsm))
      have k1 := (HE.out.ext HX2.out).place
      go_region
      go_wp2
      exact bodyPost_ret (v := .tuple #[.int .i64 0, .agg #[.int .i64 0, .int .i64 0, .int .i64 0, .int .i64 0], errV (E 4)]) (by simp [results, Tryd.results89, go_sem, g0, g1, g2, g3]) rfl ⟨rfl, by repeat (first | exact HX2.out | (refine Ext.set_ ?_ (by simp) _) | (refine Ext.drew_ ?_) | (refine Ext.drewN_ ?_ _) | (refine Ext.alloc_ ?_ _))⟩
  · have k0 : (kindW a != 0) = true := by simpa using hk
    clear hk hp
    go_enter Tryd.func89, Tryd.ntmps89
    go_wp2_with (go_at_call 63; refine (kind_any _ h0 h1 _).mono ?_; rintro e w' ⟨rfl, rfl⟩)
    go_region
    go_wp2
    exact bodyPost_ret (v := .tuple #[.int .i64 0, .agg #[.int .i64 0, .int .i64 0, .int .i64 0, .int .i64 0], errV (E 4)]) (by simp [results, Tryd.results89, go_sem]) rfl ⟨rfl, by repeat (first | exact Ext.refl _ | (refine Ext.set_ ?_ (by simp) _) | (refine Ext.drew_ ?_) | (refine Ext.drewN_ ?_ _) | (refine Ext.alloc_ ?_ _))⟩
theorem pt_ob {M : Mem} {a : Int} (h : ptB (startsM M) a = true) : kindW a = 0 ∧ a ≠ 0 ∧ ∃ x, x ∈ objsAll M ∧ placeW a = (x.a : Int) ∧ inSt (startsM M) (x.a : Int) = true := by
  simp only [ptB, Bool.and_eq_true, beq_iff_eq, bne_iff_ne] at h
  obtain ⟨⟨h1, h2⟩, h3⟩ := h
  obtain ⟨x, hx, e⟩ := List.mem_map.1 (List.contains_iff_mem.1 h3)
  exact ⟨h1, h2, x, hx, e.symm, by rw [e]; exact h3⟩
set_option maxRecDepth 100000 in
set_option maxHeartbeats 4000000 in
theorem object_yes (b o : Nat) (M : Mem) (S : Sls) (E : Nat → Addr) (a : Int) (h0 : 0 ≤ a) (h1 : a ≤ 18446744073709551615) (w : World) (hM : RMem w b o M S) (hE : G3 E w) (hg : goodB M = true) (hk : kindW a = 0) (hz : a ≠ 0) (x : Ob) (hx : x ∈ objsAll M) (hpl : placeW a = (x.a : Int)) (hin : inSt (startsM M) (x.a : Int) = true) :
    Calls Tryd.prog 89 #[.pointer (some ⟨b, o, none⟩), .int .u64 a] w fun e w' => e = .returned (.tuple #[.int .i64 (x.a : Int), headV x.w, .nilIface]) ∧ Ext w w' := by
  obtain ⟨hs, hob, -⟩ := good_parts hg
  have hxm := obM_of hx
  have hlt : x.a < M.W.length := by
    have h1 := hs.h1; have h2 := hs.t2; have h3 := hs.p2; have h4 := hs.w; have h5 := hs.base; have h6 := hs.o2; have h7 := hs.t1; have h8 := hs.p1
    rcases hxm with h | h
    · have := h.to; omega
    · have := h.to; omega
  have hxw : x.w = wat M.W x.a ∧ isHd x.w = true := by rcases hxm with h | h <;> exact ⟨h.w, h.hd⟩
  obtain ⟨hxw, hhd⟩ := hxw
  have hin2 := wat_in hM.ok x.a
  rw [← hxw] at hin2
  obtain ⟨wb, wo, hWa, hcell⟩ := hM.rW x.a _ (wcells_at M.W x.a hlt)
  have n3 := hM.W
  rw [hWa] at n3
  have hcell' : w.cell? ⟨wb, wo + x.a, none⟩ = some (.int .u64 x.w) := by rw [hcell, hxw]; rfl
  have k0 : (kindW a != 0) = false := by simpa using hk
  have k2 : (a == 0) = false := by simpa using hz
  have hltz : (x.a : Int) < (M.W.length : Int) := by omega
  have hlen := hM.ok.lenW
  have hwl := cell_lt hcell'
  have HM := Lib.hid hM
  have HE := Lib.hid hE
  have HS := Lib.hid hs
  have HOB := Lib.hid (objs_true hob)
  have HPL := Lib.hid hpl
  have HIN := Lib.hid hin
  clear hM hE hs hob hg hx hxm hWa hcell hxw hk hz hpl hin
  go_enter Tryd.func89, Tryd.ntmps89
  go_wp2_with (first
    | (go_at_call 63; refine (kind_any _ h0 h1 _).mono ?_; rintro e w' ⟨rfl, rfl⟩)
    | (go_at_call 81; refine (place_any _ h0 h1 _).mono ?_; rintro e w' ⟨he, rfl⟩; rw [HPL.out] at he; subst he)
    | (go_at_call 39; refine (starts_any b o M S HS.out (E 1) (E 2) _ (HM.out.ext ((Ext.refl w).alloc_ _)) (HE.out.ext ((Ext.refl w).alloc_ _)).bound (HE.out.ext ((Ext.refl w).alloc_ _)).shape).mono ?_; rintro e w2 ⟨bm, rfl, hsm, hq⟩; have hlk := smap_look (hsm HOB.out) (x.a : Int); rw [HIN.out] at hlk; have HQ2 := Lib.hid hq; have HX2 : Hid (Ext w w2) := Ext.trans_ ((Ext.refl w).alloc_ _) hq; obtain ⟨g0, g1, g2, g3, r0, r1, r2, r3⟩ := head_block hq; have hz2 : w.heap.size < w2.heap.size := cell_lt g0; have m3 := HX2.out.cell_ n3; have mc := HX2.out.cell_ hcell'; clear hq hsm))
  refine (toHead_yes x.w hin2.1 hin2.2 hhd _).mono ?_
  rintro e w3 ⟨rfl, hq⟩
  have HX3 : Hid (Ext w w3) := Ext.trans_ HX2.out hq
  obtain ⟨t0, t1, t2, t3, u0, u1, u2, u3⟩ := head_block (Ext.trans_ HQ2.out hq)
  have hz3 : w.heap.size < w3.heap.size := cell_lt t0
  clear hq m3 mc g0 g1 g2 g3 r0 r1 r2 r3 hlk
  go_wp2
  refine named_world' (fun W4 hW4 => ?_)
  obtain ⟨v0, v1, v2, v3, f0, f1, f2, f3, hE4⟩ := head_set hz3 t0 t1 t2 t3 u0 u1 u2 u3 (hKind x.w) (hAge x.w) (hMark x.w) (hSize x.w)
  rw [← hW4] at v0 v1 v2 v3 f0 f1 f2 f3 hE4
  have hz4 : w.heap.size < W4.heap.size := cell_lt v0
  have hX4 : Ext w W4 := Below.trans HX3.out hE4
  have HX4 := Lib.hid hX4
  clear hW4 hE4 hX4 t0 t1 t2 t3 u0 u1 u2 u3
  go_region
  go_wp2
  refine named_body (fun W5 hW5 => ?_)
  obtain ⟨z0, z1, z2, z3, -, -, -, -, hE5⟩ := head_set hz4 v0 v1 v2 v3 f0 f1 f2 f3 (hKind x.w) (hAge x.w) (hMark x.w) (hSize x.w)
  have hX5 : Ext w W5 := by rw [hW5]; exact Ext.drew_ (Below.trans HX4.out hE5)
  have HX5 := Lib.hid hX5
  have z0' : W5.cell? ⟨w.heap.size, 0, none⟩ = some (.int .i64 (hKind x.w)) := by rw [hW5]; exact z0
  have z1' : W5.cell? ⟨w.heap.size, 1, none⟩ = some (.int .i64 (hAge x.w)) := by rw [hW5]; exact z1
  have z2' : W5.cell? ⟨w.heap.size, 2, none⟩ = some (.int .i64 (hMark x.w)) := by rw [hW5]; exact z2
  have z3' : W5.cell? ⟨w.heap.size, 3, none⟩ = some (.int .i64 (hSize x.w)) := by rw [hW5]; exact z3
  clear hW5 hE5 hX5 z0 z1 z2 z3
  exact bodyPost_ret (v := .tuple #[.int .i64 (x.a : Int), .agg #[.int .i64 (hKind x.w), .int .i64 (hAge x.w), .int .i64 (hMark x.w), .int .i64 (hSize x.w)], .nilIface]) (by simp [results, Tryd.results89, go_sem, z0', z1', z2', z3']) rfl ⟨rfl, HX5.out⟩
end Go.Proofs.YtecbbbaafcoliaaDoor
/- The walk of Memory.find. -/
namespace Go.Proofs.YtecbbbaafcoliaaDoor
open Go.RowKit
set_option linter.unusedVariables false
set_option linter.unusedSimpArgs false

/-- What find answers: an error's number. -/
def findC (M : Mem) (p f : Int) : Int :=
  if chk M ≠ 0 then chk M else if ptB (startsM M) p = false then 5 else if f < 0 ∨ hSize (wat M.W (placeW p).toNat) ≤ f then 2 else 0
def FNo (w : World) (v : Value) (e : Ending) (w' : World) : Prop := e = .returned (.tuple #[.int .i64 0, head0, v]) ∧ Ext w w'
set_option maxRecDepth 100000 in
set_option maxHeartbeats 4000000 in
theorem find_chk (b o : Nat) (M : Mem) (S : Sls) (E : Nat → Addr) (p f : Int) (w : World) (hM : RMem w b o M S) (hE : G3 E w) (h : chk M ≠ 0) :
    Calls Tryd.prog 51 #[.pointer (some ⟨b, o, none⟩), .int .u64 p, .int .i64 f] w (FNo w (errC E (chk M))) := by
  obtain ⟨a, ha⟩ : ∃ a, errC E (chk M) = errV a := ⟨_, errC_pos E _ h⟩
  have HC := Lib.hid ha
  have HM := Lib.hid hM
  have HE := Lib.hid hE
  unfold FNo head0
  rw [ha]
  clear ha hM hE h
  go_enter Tryd.func51, Tryd.ntmps51
  go_wp2_with (go_at_call 24; refine (check_c b o M S E _ (HM.out.ext ((Ext.refl w).alloc_ _)) (HE.out.ext ((Ext.refl w).alloc_ _))).mono ?_; rintro e w1 ⟨he, hq⟩; rw [HC.out] at he; subst he; have HQ1 := Lib.hid hq; have HX1 : Hid (Ext w w1) := Ext.trans_ ((Ext.refl w).alloc_ _) hq; obtain ⟨t0, t1, t2, t3, u0, u1, u2, u3⟩ := head_block hq; have hz1 : w.heap.size < w1.heap.size := cell_lt t0; clear hq)
  refine named_body (fun W5 hW5 => ?_)
  obtain ⟨z0, z1, z2, z3, -, -, -, -, hE5⟩ := head_set hz1 t0 t1 t2 t3 u0 u1 u2 u3 (0) (0) (0) (0)
  have hX5 : Ext w W5 := by rw [hW5]; exact Below.trans HX1.out hE5
  have HX5 := Lib.hid hX5
  have z0' : W5.cell? ⟨w.heap.size, 0, none⟩ = some (.int .i64 (0)) := by rw [hW5]; exact z0
  have z1' : W5.cell? ⟨w.heap.size, 1, none⟩ = some (.int .i64 (0)) := by rw [hW5]; exact z1
  have z2' : W5.cell? ⟨w.heap.size, 2, none⟩ = some (.int .i64 (0)) := by rw [hW5]; exact z2
  have z3' : W5.cell? ⟨w.heap.size, 3, none⟩ = some (.int .i64 (0)) := by rw [hW5]; exact z3
  clear hW5 hE5 hX5 z0 z1 z2 z3
  exact bodyPost_ret (v := .tuple #[.int .i64 0, head0, errV a]) (by simp [results, Tryd.results51, go_sem, z0', z1', z2', z3']) rfl ⟨rfl, HX5.out⟩

set_option maxRecDepth 100000 in
set_option maxHeartbeats 4000000 in
theorem find_pt (b o : Nat) (M : Mem) (S : Sls) (E : Nat → Addr) (p f : Int) (h0 : 0 ≤ p) (h1 : p ≤ 18446744073709551615) (w : World) (hM : RMem w b o M S) (hE : G3 E w) (h : chk M = 0) (hp : ptB (startsM M) p = false) :
    Calls Tryd.prog 51 #[.pointer (some ⟨b, o, none⟩), .int .u64 p, .int .i64 f] w (FNo w (errV (E 4))) := by
  have HC : Hid (errC E (chk M) = .nilIface) := by rw [Hid, h]; rfl
  have HG := Lib.hid (chk_zero h).1
  have HP := Lib.hid hp
  have HM := Lib.hid hM
  have HE := Lib.hid hE
  clear hM hE h hp
  unfold FNo head0
  go_enter Tryd.func51, Tryd.ntmps51
  go_wp2_with (first
    | (go_at_call 24; refine (check_c b o M S E _ (HM.out.ext ((Ext.refl w).alloc_ _)) (HE.out.ext ((Ext.refl w).alloc_ _))).mono ?_; rintro e w1 ⟨he, hq⟩; rw [HC.out] at he; subst he; have HQ1 := Lib.hid hq; have HX1 : Hid (Ext w w1) := Ext.trans_ ((Ext.refl w).alloc_ _) hq; obtain ⟨t0, t1, t2, t3, u0, u1, u2, u3⟩ := head_block hq; have hz1 : w.heap.size < w1.heap.size := cell_lt t0; clear hq)
    | (go_at_call 89; refine (object_no b o M S E p h0 h1 _ (HM.out.ext HX1.out) (HE.out.ext HX1.out) HG.out HP.out).mono ?_; rintro e w2 ⟨rfl, hq⟩; have HX2 : Hid (Ext w w2) := Ext.trans_ HX1.out hq; obtain ⟨g0, g1, g2, g3, r0, r1, r2, r3⟩ := head_block (Ext.trans_ HQ1.out hq); have hz2 : w.heap.size < w2.heap.size := cell_lt g0; clear hq t0 t1 t2 t3 u0 u1 u2 u3))
  obtain ⟨v0, v1, v2, v3, f0, f1, f2, f3, hE4⟩ := head_set hz2 g0 g1 g2 g3 r0 r1 r2 r3 (0) (0) (0) (0)
  have hX4 : Ext w _ := Below.trans HX2.out hE4
  have HX4 := Lib.hid hX4
  refine named_body (fun W5 hW5 => ?_)
  obtain ⟨z0, z1, z2, z3, -, -, -, -, hE5⟩ := head_set (cell_lt v0) v0 v1 v2 v3 f0 f1 f2 f3 (0) (0) (0) (0)
  have hX5 : Ext w W5 := by rw [hW5]; exact Below.trans HX4.out hE5
  have HX5 := Lib.hid hX5
  have z0' : W5.cell? ⟨w.heap.size, 0, none⟩ = some (.int .i64 (0)) := by rw [hW5]; exact z0
  have z1' : W5.cell? ⟨w.heap.size, 1, none⟩ = some (.int .i64 (0)) := by rw [hW5]; exact z1
  have z2' : W5.cell? ⟨w.heap.size, 2, none⟩ = some (.int .i64 (0)) := by rw [hW5]; exact z2
  have z3' : W5.cell? ⟨w.heap.size, 3, none⟩ = some (.int .i64 (0)) := by rw [hW5]; exact z3
  clear hW5 hE5 hX5 z0 z1 z2 z3
  exact bodyPost_ret (v := .tuple #[.int .i64 0, head0, errV (E 4)]) (by simp [results, Tryd.results51, go_sem, z0', z1', z2', z3']) rfl ⟨rfl, HX5.out⟩

set_option maxRecDepth 100000 in
set_option maxHeartbeats 4000000 in
theorem find_bound (b o : Nat) (M : Mem) (S : Sls) (E : Nat → Addr) (p f : Int) (h0 : 0 ≤ p) (h1 : p ≤ 18446744073709551615) (w : World) (hM : RMem w b o M S) (hE : G3 E w) (h : chk M = 0) (hk : kindW p = 0) (hz : p ≠ 0) (x : Ob) (hx : x ∈ objsAll M) (hpl : placeW p = (x.a : Int)) (hin : inSt (startsM M) (x.a : Int) = true)
    (hb : f < 0 ∨ (¬ f < 0 ∧ hSize x.w ≤ f)) :
    Calls Tryd.prog 51 #[.pointer (some ⟨b, o, none⟩), .int .u64 p, .int .i64 f] w (FNo w (errV (E 1))) := by
  have HC : Hid (errC E (chk M) = .nilIface) := by rw [Hid, h]; rfl
  have hlb := cell_lt hE.bound
  simp only at hlb
  have HG := Lib.hid (chk_zero h).1
  have HXM := Lib.hid hx
  have HIN := Lib.hid hin
  have HK := Lib.hid hk
  have HZ := Lib.hid hz
  have HPL := Lib.hid hpl
  have HM := Lib.hid hM
  have HE := Lib.hid hE
  clear hM hE h hx hin hk hz hpl
  unfold FNo head0
  rcases hb with hb | ⟨hb, hb2⟩
  · go_enter Tryd.func51, Tryd.ntmps51
    go_wp2_with (first
      | (go_at_call 24; refine (check_c b o M S E _ (HM.out.ext ((Ext.refl w).alloc_ _)) (HE.out.ext ((Ext.refl w).alloc_ _))).mono ?_; rintro e w1 ⟨he, hq⟩; rw [HC.out] at he; subst he; have HQ1 := Lib.hid hq; have HX1 : Hid (Ext w w1) := Ext.trans_ ((Ext.refl w).alloc_ _) hq; obtain ⟨t0, t1, t2, t3, u0, u1, u2, u3⟩ := head_block hq; have hz1 : w.heap.size < w1.heap.size := cell_lt t0; clear hq)
      | (go_at_call 89; refine (object_yes b o M S E p h0 h1 _ (HM.out.ext HX1.out) (HE.out.ext HX1.out) HG.out HK.out HZ.out x HXM.out HPL.out HIN.out).mono ?_; rintro e w2 ⟨he, hq⟩; unfold headV at he; subst he; have HX2 : Hid (Ext w w2) := Ext.trans_ HX1.out hq; obtain ⟨g0, g1, g2, g3, r0, r1, r2, r3⟩ := head_block (Ext.trans_ HQ1.out hq); have hz2 : w.heap.size < w2.heap.size := cell_lt g0; clear hq t0 t1 t2 t3 u0 u1 u2 u3))
    refine named_world' (fun W4 hW4 => ?_)
    obtain ⟨v0, v1, v2, v3, f0, f1, f2, f3, hE4⟩ := head_set hz2 g0 g1 g2 g3 r0 r1 r2 r3 (hKind x.w) (hAge x.w) (hMark x.w) (hSize x.w)
    rw [← hW4] at v0 v1 v2 v3 f0 f1 f2 f3 hE4
    have hz4 : w.heap.size < W4.heap.size := cell_lt v0
    have hX4 : Ext w W4 := Below.trans HX2.out hE4
    have HX4 := Lib.hid hX4
    clear hW4 hE4 hX4 g0 g1 g2 g3 r0 r1 r2 r3

    have k1 := (HE.out.ext HX4.out).bound
    go_region
    go_wp2
    refine named_body (fun W5 hW5 => ?_)
    obtain ⟨z0, z1, z2, z3, -, -, -, -, hE5⟩ := head_set hz4 v0 v1 v2 v3 f0 f1 f2 f3 (0) (0) (0) (0)
    have hX5 : Ext w W5 := by rw [hW5]; exact Ext.drew_ (Below.trans HX4.out hE5)
    have HX5 := Lib.hid hX5
    have z0' : W5.cell? ⟨w.heap.size, 0, none⟩ = some (.int .i64 (0)) := by rw [hW5]; exact z0
    have z1' : W5.cell? ⟨w.heap.size, 1, none⟩ = some (.int .i64 (0)) := by rw [hW5]; exact z1
    have z2' : W5.cell? ⟨w.heap.size, 2, none⟩ = some (.int .i64 (0)) := by rw [hW5]; exact z2
    have z3' : W5.cell? ⟨w.heap.size, 3, none⟩ = some (.int .i64 (0)) := by rw [hW5]; exact z3
    clear hW5 hE5 hX5 z0 z1 z2 z3
    exact bodyPost_ret (v := .tuple #[.int .i64 0, head0, errV (E 1)]) (by simp [results, Tryd.results51, go_sem, z0', z1', z2', z3']) rfl ⟨rfl, HX5.out⟩

  · go_enter Tryd.func51, Tryd.ntmps51
    go_wp2_with (first
      | (go_at_call 24; refine (check_c b o M S E _ (HM.out.ext ((Ext.refl w).alloc_ _)) (HE.out.ext ((Ext.refl w).alloc_ _))).mono ?_; rintro e w1 ⟨he, hq⟩; rw [HC.out] at he; subst he; have HQ1 := Lib.hid hq; have HX1 : Hid (Ext w w1) := Ext.trans_ ((Ext.refl w).alloc_ _) hq; obtain ⟨t0, t1, t2, t3, u0, u1, u2, u3⟩ := head_block hq; have hz1 : w.heap.size < w1.heap.size := cell_lt t0; clear hq)
      | (go_at_call 89; refine (object_yes b o M S E p h0 h1 _ (HM.out.ext HX1.out) (HE.out.ext HX1.out) HG.out HK.out HZ.out x HXM.out HPL.out HIN.out).mono ?_; rintro e w2 ⟨he, hq⟩; unfold headV at he; subst he; have HX2 : Hid (Ext w w2) := Ext.trans_ HX1.out hq; obtain ⟨g0, g1, g2, g3, r0, r1, r2, r3⟩ := head_block (Ext.trans_ HQ1.out hq); have hz2 : w.heap.size < w2.heap.size := cell_lt g0; clear hq t0 t1 t2 t3 u0 u1 u2 u3))
    refine named_world' (fun W4 hW4 => ?_)
    obtain ⟨v0, v1, v2, v3, f0, f1, f2, f3, hE4⟩ := head_set hz2 g0 g1 g2 g3 r0 r1 r2 r3 (hKind x.w) (hAge x.w) (hMark x.w) (hSize x.w)
    rw [← hW4] at v0 v1 v2 v3 f0 f1 f2 f3 hE4
    have hz4 : w.heap.size < W4.heap.size := cell_lt v0
    have hX4 : Ext w W4 := Below.trans HX2.out hE4
    have HX4 := Lib.hid hX4
    clear hW4 hE4 hX4 g0 g1 g2 g3 r0 r1 r2 r3

    have k1 := (HE.out.ext HX4.out).bound
    go_region
    go_wp2
    refine named_body (fun W5 hW5 => ?_)
    obtain ⟨z0, z1, z2, z3, -, -, -, -, hE5⟩ := head_set hz4 v0 v1 v2 v3 f0 f1 f2 f3 (0) (0) (0) (0)
    have hX5 : Ext w W5 := by rw [hW5]; exact Ext.drew_ (Below.trans HX4.out hE5)
    have HX5 := Lib.hid hX5
    have z0' : W5.cell? ⟨w.heap.size, 0, none⟩ = some (.int .i64 (0)) := by rw [hW5]; exact z0
    have z1' : W5.cell? ⟨w.heap.size, 1, none⟩ = some (.int .i64 (0)) := by rw [hW5]; exact z1
    have z2' : W5.cell? ⟨w.heap.size, 2, none⟩ = some (.int .i64 (0)) := by rw [hW5]; exact z2
    have z3' : W5.cell? ⟨w.heap.size, 3, none⟩ = some (.int .i64 (0)) := by rw [hW5]; exact z3
    clear hW5 hE5 hX5 z0 z1 z2 z3
    exact bodyPost_ret (v := .tuple #[.int .i64 0, head0, errV (E 1)]) (by simp [results, Tryd.results51, go_sem, z0', z1', z2', z3']) rfl ⟨rfl, HX5.out⟩

/-- What find gives. -/
def FYes (w : World) (x : Ob) (f : Int) (e : Ending) (w' : World) : Prop := e = .returned (.tuple #[.int .i64 ((x.a : Int) + 1 + f), headV x.w, .nilIface]) ∧ Ext w w'
set_option maxRecDepth 100000 in
set_option maxHeartbeats 4000000 in
theorem find_yes (b o : Nat) (M : Mem) (S : Sls) (E : Nat → Addr) (p f : Int) (h0 : 0 ≤ p) (h1 : p ≤ 18446744073709551615) (w : World) (hM : RMem w b o M S) (hE : G3 E w) (h : chk M = 0) (hk : kindW p = 0) (hz : p ≠ 0) (x : Ob) (hx : x ∈ objsAll M) (hpl : placeW p = (x.a : Int)) (hin : inSt (startsM M) (x.a : Int) = true)
    (hb1 : ¬ f < 0) (hb2 : ¬ hSize x.w ≤ f) (hlt : (x.a : Int) ≤ 1099511627776) (hsz : hSize x.w ≤ 4096) :
    Calls Tryd.prog 51 #[.pointer (some ⟨b, o, none⟩), .int .u64 p, .int .i64 f] w (FYes w x f) := by
  have e1 : IntKind.i64.wrap ((x.a : Int) + 1) = (x.a : Int) + 1 := IntWalk.i64_in _ (by omega)
  have e2 : IntKind.i64.wrap ((x.a : Int) + 1 + f) = (x.a : Int) + 1 + f := IntWalk.i64_in _ (by omega)
  have HC : Hid (errC E (chk M) = .nilIface) := by rw [Hid, h]; rfl
  have HG := Lib.hid (chk_zero h).1
  have HXM := Lib.hid hx
  have HIN := Lib.hid hin
  have HK := Lib.hid hk
  have HZ := Lib.hid hz
  have HPL := Lib.hid hpl
  have HM := Lib.hid hM
  have HE := Lib.hid hE
  clear hM hE h hx hin hk hz hpl
  unfold FYes headV
  go_enter Tryd.func51, Tryd.ntmps51
  go_wp2_with (first
    | (go_at_call 24; refine (check_c b o M S E _ (HM.out.ext ((Ext.refl w).alloc_ _)) (HE.out.ext ((Ext.refl w).alloc_ _))).mono ?_; rintro e w1 ⟨he, hq⟩; rw [HC.out] at he; subst he; have HQ1 := Lib.hid hq; have HX1 : Hid (Ext w w1) := Ext.trans_ ((Ext.refl w).alloc_ _) hq; obtain ⟨t0, t1, t2, t3, u0, u1, u2, u3⟩ := head_block hq; have hz1 : w.heap.size < w1.heap.size := cell_lt t0; clear hq)
    | (go_at_call 89; refine (object_yes b o M S E p h0 h1 _ (HM.out.ext HX1.out) (HE.out.ext HX1.out) HG.out HK.out HZ.out x HXM.out HPL.out HIN.out).mono ?_; rintro e w2 ⟨he, hq⟩; unfold headV at he; subst he; have HX2 : Hid (Ext w w2) := Ext.trans_ HX1.out hq; obtain ⟨g0, g1, g2, g3, r0, r1, r2, r3⟩ := head_block (Ext.trans_ HQ1.out hq); have hz2 : w.heap.size < w2.heap.size := cell_lt g0; clear hq t0 t1 t2 t3 u0 u1 u2 u3))
  refine named_world' (fun W4 hW4 => ?_)
  obtain ⟨v0, v1, v2, v3, f0, f1, f2, f3, hE4⟩ := head_set hz2 g0 g1 g2 g3 r0 r1 r2 r3 (hKind x.w) (hAge x.w) (hMark x.w) (hSize x.w)
  rw [← hW4] at v0 v1 v2 v3 f0 f1 f2 f3 hE4
  have hz4 : w.heap.size < W4.heap.size := cell_lt v0
  have hX4 : Ext w W4 := Below.trans HX2.out hE4
  have HX4 := Lib.hid hX4
  clear hW4 hE4 hX4 g0 g1 g2 g3 r0 r1 r2 r3

  go_region
  go_wp2
  refine named_body (fun W5 hW5 => ?_)
  obtain ⟨z0, z1, z2, z3, -, -, -, -, hE5⟩ := head_set hz4 v0 v1 v2 v3 f0 f1 f2 f3 (hKind x.w) (hAge x.w) (hMark x.w) (hSize x.w)
  have hX5 : Ext w W5 := by rw [hW5]; exact Ext.drew_ (Below.trans HX4.out hE5)
  have HX5 := Lib.hid hX5
  have z0' : W5.cell? ⟨w.heap.size, 0, none⟩ = some (.int .i64 (hKind x.w)) := by rw [hW5]; exact z0
  have z1' : W5.cell? ⟨w.heap.size, 1, none⟩ = some (.int .i64 (hAge x.w)) := by rw [hW5]; exact z1
  have z2' : W5.cell? ⟨w.heap.size, 2, none⟩ = some (.int .i64 (hMark x.w)) := by rw [hW5]; exact z2
  have z3' : W5.cell? ⟨w.heap.size, 3, none⟩ = some (.int .i64 (hSize x.w)) := by rw [hW5]; exact z3
  clear hW5 hE5 hX5 z0 z1 z2 z3
  exact bodyPost_ret (v := .tuple #[.int .i64 ((x.a : Int) + 1 + f), .agg #[.int .i64 (hKind x.w), .int .i64 (hAge x.w), .int .i64 (hMark x.w), .int .i64 (hSize x.w)], .nilIface]) (by simp [results, Tryd.results51, go_sem, z0', z1', z2', z3']) rfl ⟨rfl, HX5.out⟩

end Go.Proofs.YtecbbbaafcoliaaDoor
/- The walk of Memory.Get. -/
namespace Go.Proofs.YtecbbbaafcoliaaDoor
open Go.RowKit
set_option linter.unusedVariables false
set_option linter.unusedSimpArgs false

/-- Whatever find answers that is an error. -/
def FErr (M : Mem) (E : Nat → Addr) (p f : Int) (w : World) (e : Ending) (w' : World) : Prop := ∃ a, errC E (findC M p f) = errV a ∧ e = .returned (.tuple #[.int .i64 0, head0, errV a]) ∧ Ext w w'
theorem find_err (b o : Nat) (M : Mem) (S : Sls) (E : Nat → Addr) (p f : Int) (h0 : 0 ≤ p) (h1 : p ≤ 18446744073709551615) (w : World) (hM : RMem w b o M S) (hE : G3 E w) (h : findC M p f ≠ 0) :
    Calls Tryd.prog 51 #[.pointer (some ⟨b, o, none⟩), .int .u64 p, .int .i64 f] w (FErr M E p f w) := by
  by_cases hc : chk M = 0
  · cases hp : ptB (startsM M) p with
    | false =>
      have e : findC M p f = 5 := by unfold findC; rw [if_neg (by simp [hc]), if_pos hp]
      refine (find_pt b o M S E p f h0 h1 w hM hE hc hp).mono fun en w' ⟨he, hx⟩ => ⟨E 4, by rw [e]; rfl, he, hx⟩
    | true =>
      obtain ⟨hk, hz, x, hx, hpl, hin⟩ := pt_ob hp
      have hxw : wat M.W (placeW p).toNat = x.w := by
        rw [hpl, Int.toNat_natCast]
        rcases obM_of hx with g | g <;> exact g.w.symm
      by_cases hb : f < 0 ∨ hSize x.w ≤ f
      · have e : findC M p f = 2 := by unfold findC; rw [if_neg (by simp [hc]), if_neg (by simp [hp]), hxw, if_pos hb]
        refine (find_bound b o M S E p f h0 h1 w hM hE hc hk hz x hx hpl hin (by rcases hb with g | g; exact Or.inl g; by_cases g2 : f < 0; exact Or.inl g2; exact Or.inr ⟨g2, g⟩)).mono fun en w' ⟨he, hx⟩ => ⟨E 1, by rw [e]; rfl, he, hx⟩
      · exact absurd (by unfold findC; rw [if_neg (by simp [hc]), if_neg (by simp [hp]), hxw, if_neg hb]) h
  · have e : findC M p f = chk M := by unfold findC; rw [if_pos hc]
    refine (find_chk b o M S E p f w hM hE hc).mono fun en w' ⟨he, hx⟩ => ⟨_, by rw [e]; exact errC_pos E _ hc, by rw [he, errC_pos E _ hc], hx⟩
/-- Where find finds. -/
structure Found (M : Mem) (p f : Int) (x : Ob) (k : Nat) : Prop where
  chk : chk M = 0
  kind : kindW p = 0
  nz : p ≠ 0
  mem : x ∈ objsAll M
  place : placeW p = (x.a : Int)
  inst : inSt (startsM M) (x.a : Int) = true
  fld : f = (k : Int)
  lt : k < x.n
  size : (x.n : Int) = hSize x.w
  small : hSize x.w ≤ 4096
  word : x.w = wat M.W x.a
  into : x.a + 1 + k < M.W.length
theorem find_found {M : Mem} (hok : M.Ok) {p f : Int} (h : findC M p f = 0) : ∃ x k, Found M p f x k := by
  unfold findC at h
  by_cases hc : chk M = 0
  · rw [if_neg (by simp [hc])] at h
    cases hp : ptB (startsM M) p with
    | false => rw [hp] at h; simp at h
    | true =>
      rw [if_neg (by simp [hp])] at h
      obtain ⟨hk, hz, x, hx, hpl, hin⟩ := pt_ob hp
      obtain ⟨hs, -⟩ := good_parts (chk_zero hc).1
      have hob := obM_of hx
      have hxw : x.w = wat M.W x.a ∧ isHd x.w = true := by rcases hob with g | g <;> exact ⟨g.w, g.hd⟩
      have hsz := ((isHd_iff x.w).1 hxw.2).2.2
      have h00 := (hd_in x.w (by rw [hxw.1]; exact (wat_in hok _).1)).2.2.2.2.2.2
      rw [hpl, Int.toNat_natCast, ← hxw.1] at h
      by_cases hb : f < 0 ∨ hSize x.w ≤ f
      · rw [if_pos hb] at h; simp at h
      · have hn : (x.n : Int) = hSize x.w := by unfold Ob.n; omega
        have hto : x.a + 1 + x.n ≤ M.W.length := by
          have h1 := hs.h1; have h2 := hs.t2; have h3 := hs.p2; have h4 := hs.w; have h5 := hs.base; have h6 := hs.o2; have h7 := hs.t1; have h8 := hs.p1
          rcases hob with g | g
          · have := g.to; omega
          · have := g.to; omega
        refine ⟨x, f.toNat, hc, hk, hz, hx, hpl, hin, by omega, by omega, hn, hsz, hxw.1, by omega⟩
  · rw [if_pos hc] at h; exact absurd h hc
theorem Found.calls {M : Mem} {p f : Int} {x : Ob} {k : Nat} (h : Found M p f x k) (b o : Nat) (S : Sls) (E : Nat → Addr) (h0 : 0 ≤ p) (h1 : p ≤ 18446744073709551615) (w : World) (hM : RMem w b o M S) (hE : G3 E w) :
    Calls Tryd.prog 51 #[.pointer (some ⟨b, o, none⟩), .int .u64 p, .int .i64 f] w fun e w' => e = .returned (.tuple #[.int .i64 ((x.a + 1 + k : Nat) : Int), headV x.w, .nilIface]) ∧ Ext w w' := by
  have hl := hM.ok.lenW
  have hs := (good_parts (chk_zero h.chk).1).1
  have q1 := hs.h2; have q2 := hs.o2; have q3 := hs.w; have q4 := h.into; have q5 := h.size; have q6 := h.lt; have q7 := h.fld
  refine (find_yes b o M S E p f h0 h1 w hM hE h.chk h.kind h.nz x h.mem h.place h.inst (by omega) (by omega) (by omega) h.small).mono fun en w' ⟨he, hx⟩ => ⟨?_, hx⟩
  rw [he, q7]
  rfl
set_option maxRecDepth 100000 in
set_option maxHeartbeats 4000000 in
theorem get_no (b o : Nat) (M : Mem) (S : Sls) (E : Nat → Addr) (p f : Int) (h0 : 0 ≤ p) (h1 : p ≤ 18446744073709551615) (w : World) (hM : RMem w b o M S) (hE : G3 E w) (h : findC M p f ≠ 0) :
    Calls Tryd.prog 20 #[.pointer (some ⟨b, o, none⟩), .int .u64 p, .int .i64 f] w fun e w' => e = .returned (.tuple #[.int .u64 0, errC E (findC M p f)]) ∧ Ext w w' := by
  have HC := Lib.hid (find_err b o M S E p f h0 h1 w hM hE h)
  clear hM hE h
  go_enter Tryd.func20, Tryd.ntmps20
  go_wp2_with fail
  refine HC.out.mono ?_
  rintro e w1 ⟨a, ha, rfl, hq⟩
  have HA := Lib.hid ha
  have HX1 := Lib.hid hq
  clear ha hq
  go_wp2
  go_ret2
  exact ⟨by rw [HA.out]; rfl, by repeat (first | exact HX1.out | (refine Ext.set_ ?_ (by have := HX1.out.size; simp; omega) _) | (refine Ext.alloc_ ?_ _))⟩
set_option maxRecDepth 100000 in
set_option maxHeartbeats 4000000 in
theorem get_yes (b o : Nat) (M : Mem) (S : Sls) (E : Nat → Addr) (p f : Int) (h0 : 0 ≤ p) (h1 : p ≤ 18446744073709551615) (w : World) (hM : RMem w b o M S) (hE : G3 E w) (x : Ob) (k : Nat) (h : Found M p f x k) :
    Calls Tryd.prog 20 #[.pointer (some ⟨b, o, none⟩), .int .u64 p, .int .i64 f] w fun e w' => e = .returned (.tuple #[.int .u64 (wat M.W (x.a + 1 + k)), .nilIface]) ∧ Ext w w' := by
  have HC := Lib.hid (h.calls b o S E h0 h1 w hM hE)
  have hl := hM.ok.lenW
  obtain ⟨wb, wo, hWa, hcell⟩ := hM.rW (x.a + 1 + k) _ (wcells_at M.W (x.a + 1 + k) h.into)
  have n3 := hM.W
  rw [hWa] at n3
  have hi := h.into
  generalize hat : x.a + 1 + k = at_ at *
  have hltz : (at_ : Int) < (M.W.length : Int) := by omega
  have hltb := hM.lt
  have hltw := cell_lt hcell
  simp only at hltw
  have HV : Hid (M.W.getD at_ 0 = wat M.W at_) := rfl
  generalize M.W.getD at_ 0 = v at *
  clear hM hE h hWa
  go_enter Tryd.func20, Tryd.ntmps20
  go_wp2_with fail
  refine HC.out.mono ?_
  rintro e w1 ⟨he, hq⟩
  unfold headV at he
  subst he
  have m3 := hq.cell_ n3
  have mc := hq.cell_ hcell
  have hz1 := hq.size
  have hzb : b < w1.heap.size := by omega
  have hzw : wb < w1.heap.size := by omega
  have HX1 := Lib.hid hq
  clear hq
  go_wp2
  go_ret2
  exact ⟨by rw [← HV.out]; rfl, by repeat (first | exact HX1.out | (refine Ext.set_ ?_ (by have := HX1.out.size; simp; omega) _) | (refine Ext.alloc_ ?_ _))⟩
end Go.Proofs.YtecbbbaafcoliaaDoor
/- The walk of Memory.Put. -/
namespace Go.Proofs.YtecbbbaafcoliaaDoor
open Go.RowKit
set_option linter.unusedVariables false
set_option linter.unusedSimpArgs false

set_option maxRecDepth 100000 in
set_option maxHeartbeats 4000000 in
theorem put_no (b o : Nat) (M : Mem) (S : Sls) (E : Nat → Addr) (p f v : Int) (h0 : 0 ≤ p) (h1 : p ≤ 18446744073709551615) (w : World) (hM : RMem w b o M S) (hE : G3 E w) (h : findC M p f ≠ 0) :
    Calls Tryd.prog 22 #[.pointer (some ⟨b, o, none⟩), .int .u64 p, .int .i64 f, .int .u64 v] w fun e w' => e = .returned (errC E (findC M p f)) ∧ Ext w w' := by
  have HC := Lib.hid (find_err b o M S E p f h0 h1 w hM hE h)
  clear hM hE h
  go_enter Tryd.func22, Tryd.ntmps22
  go_wp2_with fail
  refine HC.out.mono ?_
  rintro e w1 ⟨a, ha, rfl, hq⟩
  have HA := Lib.hid ha
  have HX1 := Lib.hid hq
  clear ha hq
  go_wp2
  go_ret
  exact ⟨by rw [HA.out]; rfl, by repeat (first | exact HX1.out | (refine Ext.set_ ?_ (by have := HX1.out.size; simp; omega) _) | (refine Ext.alloc_ ?_ _))⟩
set_option maxRecDepth 100000 in
set_option maxHeartbeats 4000000 in
theorem put_shape (b o : Nat) (M : Mem) (S : Sls) (E : Nat → Addr) (p f v : Int) (h0 : 0 ≤ p) (h1 : p ≤ 18446744073709551615) (v0 : 0 ≤ v) (v1 : v ≤ 18446744073709551615) (w : World) (hM : RMem w b o M S) (hE : G3 E w) (x : Ob) (k : Nat) (h : Found M p f x k)
    (hb : rawB (hKind x.w) = true ∨ (rawB (hKind x.w) = false ∧ fldB (startsM M) v = false)) :
    Calls Tryd.prog 22 #[.pointer (some ⟨b, o, none⟩), .int .u64 p, .int .i64 f, .int .u64 v] w fun e w' => e = .returned (errV (E 2)) ∧ Ext w w' := by
  obtain ⟨hs, hob, -⟩ := good_parts (chk_zero h.chk).1
  have HC := Lib.hid (h.calls b o S E h0 h1 w hM hE)
  have HM := Lib.hid hM
  have HE := Lib.hid hE
  have HS := Lib.hid hs
  have HOB := Lib.hid (objs_true hob)
  clear hM hE h hs hob
  rcases hb with hr | ⟨hr, hf⟩
  · have HR := Lib.hid hr
    clear hr
    go_enter Tryd.func22, Tryd.ntmps22
    go_wp2_with (first
      | (go_at_call 51; refine HC.out.mono ?_; rintro e w1 ⟨he, hq⟩; unfold headV at he; subst he; have HX1 := Lib.hid hq; have k1 : _ = _ := (HE.out.ext hq).shape; have hgs := cell_lt k1; simp only at hgs; clear hq)
      | (go_at_call 40; refine (raw_any _ _).mono ?_; rintro e w' ⟨he, hw9⟩; have hw9 := hw9.symm; subst hw9; rw [HR.out] at he; subst he))
    go_ret
    exact ⟨rfl, by repeat (first | exact HX1.out | (refine Ext.set_ ?_ (by have := HX1.out.size; simp; omega) _) | (refine Ext.alloc_ ?_ _))⟩
  · have HR := Lib.hid hr
    have HF := Lib.hid hf
    clear hr hf
    go_enter Tryd.func22, Tryd.ntmps22
    go_wp2_with (first
      | (go_at_call 51; refine HC.out.mono ?_; rintro e w1 ⟨he, hq⟩; unfold headV at he; subst he; have HX1 := Lib.hid hq; have k1 : _ = _ := (HE.out.ext hq).shape; have hgs := cell_lt k1; simp only at hgs; clear hq)
      | (go_at_call 40; refine (raw_any _ _).mono ?_; rintro e w' ⟨he, hw9⟩; have hw9 := hw9.symm; subst hw9; rw [HR.out] at he; subst he)
      | (go_at_call 39; refine (starts_any b o M S HS.out (E 1) (E 2) _ (HM.out.ext (Ext.trans_ HX1.out ((Ext.refl w1).alloc_ _))) (HE.out.ext (Ext.trans_ HX1.out ((Ext.refl w1).alloc_ _))).bound (HE.out.ext (Ext.trans_ HX1.out ((Ext.refl w1).alloc_ _))).shape).mono ?_; rintro e w2 ⟨bm, rfl, hsm, hq⟩; have HX2 : Hid (Ext w w2) := Ext.trans_ (Ext.trans_ HX1.out ((Ext.refl w1).alloc_ _)) hq; have HSM := Lib.hid (hsm HOB.out); have k2 : _ = _ := (HE.out.ext HX2.out).shape; clear hq hsm)
      | (go_at_call 43; refine (field_any v v0 v1 bm (startsM M) _ HSM.out).mono ?_; rintro e w' ⟨he, hw9⟩; have hw9 := hw9.symm; subst hw9; rw [HF.out] at he; subst he))
    go_ret
    exact ⟨rfl, HX2.out⟩
set_option maxRecDepth 100000 in
set_option maxHeartbeats 4000000 in
theorem put_yes (B b : Nat) (M : Mem) (S : Sls) (E : Nat → Addr) (p f v : Int) (h0 : 0 ≤ p) (h1 : p ≤ 18446744073709551615) (v0 : 0 ≤ v) (v1 : v ≤ 18446744073709551615) (w : World) (hO : OMem w B b 72 M S) (hok : M.Ok) (hE : G3 E w) (x : Ob) (k : Nat) (h : Found M p f x k)
    (hr : rawB (hKind x.w) = false) (hf : fldB (startsM M) v = true) :
    Calls Tryd.prog 22 #[.pointer (some ⟨b, 0, none⟩), .int .u64 p, .int .i64 f, .int .u64 v] w (KeptPost w B b (storeM M (x.a + 1 + k) v) S .nilIface) := by
  obtain ⟨hs, hob, -⟩ := good_parts (chk_zero h.chk).1
  have hM := hO.mem hok
  have HC := Lib.hid (h.calls b 0 S E h0 h1 w hM hE)
  have HIN := Lib.hid h.into
  have HO := Lib.hid hO
  have HM := Lib.hid hM
  have HE := Lib.hid hE
  have HS := Lib.hid hs
  have HOK := Lib.hid hok
  have HOB := Lib.hid (objs_true hob)
  have HR := Lib.hid hr
  have HF := Lib.hid hf
  generalize x.a + 1 + k = at_ at *
  clear hM hE h hs hob hr hf hO hok
  go_enter Tryd.func22, Tryd.ntmps22
  go_wp2_with (first
    | (go_at_call 51; refine HC.out.mono ?_; rintro e w1 ⟨he, hq⟩; unfold headV at he; subst he; have HX1 := Lib.hid hq; have k1 : _ = _ := (HE.out.ext hq).shape; have hgs := cell_lt k1; simp only at hgs; clear hq)
    | (go_at_call 40; refine (raw_any _ _).mono ?_; rintro e w' ⟨he, hw9⟩; have hw9 := hw9.symm; subst hw9; rw [HR.out] at he; subst he)
    | (go_at_call 39; refine (starts_any b 0 M S HS.out (E 1) (E 2) _ (HM.out.ext (Ext.trans_ HX1.out ((Ext.refl w1).alloc_ _))) (HE.out.ext (Ext.trans_ HX1.out ((Ext.refl w1).alloc_ _))).bound (HE.out.ext (Ext.trans_ HX1.out ((Ext.refl w1).alloc_ _))).shape).mono ?_; rintro e w2 ⟨bm, rfl, hsm, hq⟩; have HX2 : Hid (Ext w w2) := Ext.trans_ (Ext.trans_ HX1.out ((Ext.refl w1).alloc_ _)) hq; have HSM := Lib.hid (hsm HOB.out); have k2 : _ = _ := (HE.out.ext HX2.out).shape; clear hq hsm)
    | (go_at_call 43; refine (field_any v v0 v1 bm (startsM M) _ HSM.out).mono ?_; rintro e w' ⟨he, hw9⟩; have hw9 := hw9.symm; subst hw9; rw [HF.out] at he; subst he)
    | (go_at_call 52; refine (store_obj B b M S _ (OM.ext HO.out HX2.out) HOK.out HS.out at_ HIN.out v v0 v1).mono ?_; rintro e w3 ⟨rfl, hq1, hq2⟩; have HO3 := Lib.hid hq1; have HK3 := Lib.hid hq2; clear hq1 hq2))
  go_ret
  exact ⟨rfl, HO3.out, Keep.trans (Keep.of_ext HX2.out) HK3.out⟩
end Go.Proofs.YtecbbbaafcoliaaDoor
