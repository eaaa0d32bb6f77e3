/- The document's model of a heap whose roots are all none: NewModel, Reach, Show. -/
import Derived.Test.YtelhoppfidibiaaGreatDoorJOa39
import Derived.Test.YtelhoppfidibiaaGreatDoorJOb03
import Derived.Deep.LoopGhost
import Derived.Laws.OwnMore
import Derived.Deep.Cut
import Derived.Deep.CutRange
import Derived.Test.YtelhoppfidibiaaGreatDoorJOa20
import Derived.Test.YtelhoppfidibiaaGreatDoorJOa28
import Derived.Test.YtelhoppfidibiaaGreatDoorJOa29
namespace Go.Proofs.YtelhoppfidibiaaGreatDoor
open Go.RowKit
set_option linter.unusedVariables false
set_option linter.unusedSimpArgs false

theorem made_at (z : Array Value) (n j : Nat) (h : j < n) : (madeCells z n)[j]? = some (z[j % z.size]!) := by
  simp [madeCells, h]
/-- A model with so many roots, all none. -/
structure NilM (w : World) (mb n G : Nat) : Prop where
  rt : w.cell? ⟨mb, 0, none⟩ = some (.slice (some ⟨G, 0, none⟩) n n)
  c0 : ∀ i, i < n → w.cell? ⟨G, i * 3, none⟩ = some (.int .i64 0)
  c1 : ∀ i, i < n → w.cell? ⟨G, i * 3 + 1, none⟩ = some (.int .i64 0)
  c2 : ∀ i, i < n → w.cell? ⟨G, i * 3 + 2, none⟩ = some (.pointer none)
theorem NilM.ext {w w' : World} {mb n G : Nat} (h : NilM w mb n G) (hx : Ext w w') : NilM w' mb n G :=
  ⟨hx.cell_ h.rt, fun i hi => hx.cell_ (h.c0 i hi), fun i hi => hx.cell_ (h.c1 i hi), fun i hi => hx.cell_ (h.c2 i hi)⟩
/-! The text. -/
/-! The heap's text is the same. -/
def validH (half old card ten roots : Int) : Bool := newOK half old card && decide (0 ≤ ten) && decide (ten ≤ 15) && decide (0 ≤ roots) && decide (roots ≤ 5000)
set_option maxRecDepth 100000 in
set_option maxHeartbeats 4000000 in
theorem hnew_no (half old card ten roots : Int) (h : validH half old card ten roots = false) (w : World) (E : Nat → Addr) (hE : G4 E w) :
    Calls Tryz.prog 10 #[.agg #[.int .i64 half, .int .i64 old, .int .i64 card, .int .i64 ten], .int .i64 roots] w fun e w' => e = .returned (.tuple #[.pointer none, errV (E 1)]) ∧ Ext w w' := by
  have HE := Lib.hid hE
  have h5 : newOK half old card = false ∨ (newOK half old card = true ∧ (ten < 0 ∨ (¬ ten < 0 ∧ 15 < ten) ∨ (¬ ten < 0 ∧ ¬ 15 < ten ∧ roots < 0) ∨ (¬ ten < 0 ∧ ¬ 15 < ten ∧ ¬ roots < 0 ∧ 5000 < roots))) := by
    cases hn : newOK half old card with
    | false => exact Or.inl rfl
    | true =>
      right
      refine ⟨rfl, ?_⟩
      unfold validH at h
      rw [hn] at h
      simp only [Bool.true_and, Bool.and_eq_false_iff, decide_eq_false_iff_not] at h
      omega
  clear h
  rcases h5 with hn | ⟨hn, hr⟩
  · have hG := Lib.hid (new_no half old card hn (w.alloc (.cells #[.int .i64 half, .int .i64 old, .int .i64 card, .int .i64 ten] 30)) (E 1) (HE.out.ext ((Ext.refl _).alloc_ _)).bound)
    clear hE
    go_enter Tryz.func10, Tryz.ntmps10
    go_upto_region 3 with (go_at_call 37; refine hG.out.mono ?_; rintro e w1 ⟨rfl, hq⟩; have HX1 : Hid (Ext w w1) := ((Ext.refl w).alloc_ _).trans_ hq; clear hq; have k1 := (HE.out.ext HX1.out).bound)
    go_region
    go_wp2
    go_ret2
    exact ⟨rfl, HX1.out.drew_⟩
  · have hG := Lib.hid (new_yes half old card hn (w.alloc (.cells #[.int .i64 half, .int .i64 old, .int .i64 card, .int .i64 ten] 30)))
    clear hE
    rcases hr with b1 | ⟨b1, b2⟩ | ⟨b1, b2, b3⟩ | ⟨b1, b2, b3, b4⟩
    all_goals
      go_enter Tryz.func10, Tryz.ntmps10
      go_upto_region 3 with (go_at_call 37; refine hG.out.mono ?_; rintro e w1 ⟨bb, SS, rfl, hom, hq⟩; have c3 : w1.cell? ⟨w.heap.size, 3, none⟩ = some (.int .i64 ten) := hq.cell_ (by rw [World.cell?, heap_alloc_new]; rfl); have HX1 : Hid (Ext w w1) := ((Ext.refl w).alloc_ _).trans_ hq; clear hq hom; have k1 := (HE.out.ext HX1.out).bound)
      go_region
      go_wp2
      go_ret2
      exact ⟨rfl, HX1.out.drew_⟩
set_option maxRecDepth 100000 in
set_option maxHeartbeats 4000000 in
theorem words_walk (w : World) {B hb b : Nat} {M : Mem} {S : Sls} {ten nx : Int} (hH : OHeap w B hb b M S ten nx) :
    Calls Tryz.prog 23 #[.pointer (some ⟨hb, 0, none⟩)] w fun e w' => e = .returned (.tuple #[.int .i64 M.top, .int .i64 M.oldTop]) ∧ Ext w w' := by
  have q0 := hH.ptr
  have c5 : w.cell? ⟨b, 5, none⟩ = some (.int .i64 M.top) := hH.mem.num (5, M.top) (by simp [memNums])
  have c6 : w.cell? ⟨b, 6, none⟩ = some (.int .i64 M.oldTop) := hH.mem.num (6, M.oldTop) (by simp [memNums])
  clear hH
  go_enter Tryz.func23, Tryz.ntmps23
  go_wp2
  go_region
  go_wp2
  go_ret2
  exact ⟨rfl, (Ext.refl _).drew_⟩
/-- Where an object went. -/
def goC (M0 : Mem) (C : Col) (a : Nat) : Nat := if a ∈ (partO M0).1.map (·.a) then a else ((mlook C.mv (a : Int)).getD 0).toNat
def DomC (M0 : Mem) (C : Col) (a : Nat) : Prop := ∃ b, Img M0 C.mv a b
section
variable {M0 : Mem} {ten : Int} {C : Col}
theorem Fin_.go (h : Fin_ M0 ten C) (hr : Ready M0 ten) {a b : Nat} (hi : Img M0 C.mv a b) : goC M0 C a = b := by
  obtain ⟨D, hv⟩ := h.inv
  unfold goC
  rcases hi with ⟨rfl, hm⟩ | hm
  · rw [if_pos hm]
  · have hn : ¬ a ∈ (partO M0).1.map (·.a) := fun q => by
      obtain ⟨x, hx, ex⟩ := List.mem_map.1 q
      obtain ⟨y, hy, ey⟩ := hv.keyN hm
      have r1 := hr.inO hx
      have r2 := hr.inN hy
      obtain ⟨hh, e1, e2, e3, e4, e5, e6, e7, e8, e9, e10, e11, e12⟩ := hr.shp.nums
      rcases e3 with ⟨u1, u2, u3⟩ | ⟨u1, u2, u3⟩ <;> omega
    rw [if_neg hn, mlook_of hv.nodupI hm]; simp
theorem Fin_.img (h : Fin_ M0 ten C) (hr : Ready M0 ten) {a : Nat} (hd : DomC M0 C a) : Img M0 C.mv a (goC M0 C a) := by
  obtain ⟨b, hi⟩ := hd
  rw [h.go hr hi]; exact hi
theorem Fin_.corr (h : Fin_ M0 ten C) (hr : Ready M0 ten) {u v : Int} (hf : fldB (startsM M0) u = true) (hv : Fol M0 C.mv u v) : Cor (goC M0 C) (DomC M0 C) u v := by
  rcases h.cor hr hf hv with ⟨q, e⟩ | ⟨a, b, q1, q2, q3, q4, q5, q6, q7, ⟨x, hx, ex⟩, q8⟩
  · left
    refine ⟨?_, e⟩
    unfold ptsW
    rw [if_neg (fun r => by rcases q with q | q; exact q r.1; exact r.2.1 q)]; omega
  · right
    have hb := h.small hr q4
    have ha : a ≤ 1000000 := by
      have := (mem_in hr.shp hx).1
      have := len_small hr.shp
      omega
    have e1 : ptsW u = (a : Int) := by unfold ptsW; rw [if_pos ⟨q1, q2, by unfold placeW at q3; omega⟩]; exact q3
    have e2 : ptsW v = (b : Int) := by unfold ptsW; rw [if_pos ⟨q5, q6, by unfold placeW at q7; omega⟩]; exact q7
    exact ⟨a, e1, ⟨b, q4⟩, by rw [h.go hr q4]; exact e2, q1, q2, q5, q6⟩
theorem Fin_.morph (h : Fin_ M0 ten C) (hr : Ready M0 ten) : Morph M0.W (finM M0 C).W (DomC M0 C) (goC M0 C) := by
  obtain ⟨D, hv⟩ := h.inv
  refine ⟨fun a b ha hb e => ?_, fun a ha => (hv.hd hr (h.img hr ha)).2.2.1, fun a ha => ?_, fun a ha hq k hk => ?_, fun a ha hq k hk => (h.fld (h.img hr ha) hk).1 hq⟩
  · have h1 := h.img hr ha
    have h2 := h.img hr hb
    rw [e] at h1
    exact hv.inj hr h1 h2
  · obtain ⟨d1, d2, d3, d4, d5⟩ := hv.hd hr (h.img hr ha)
    have z1 := (hd_in (wat M0.W a) (wat_in hr.ok a).1).2.2.2.2.2.2
    have z2 := (hd_in (wat C.M.W (goC M0 C a)) (wat_in hv.ok _).1).2.2.2.2.2.2
    unfold szW at d4
    show hSize (wat C.M.W (goC M0 C a)) = _
    omega
  · exact h.corr hr (hv.fldB_ hr (h.img hr ha) hq hk) ((h.fld (h.img hr ha) hk).2 hq)
theorem Fin_.reach (h : Fin_ M0 ten C) (hr : Ready M0 ten) : reachP (finM M0 C) = (reachP M0).map (fun o => obW C.M.W (goC M0 C o.a)) ∧ InD M0.W (DomC M0 C) (reachP M0) := by
  have hg := (good_parts (chk_zero hr.chk).1).2.2.1
  unfold fieldsB at hg
  rw [List.all_eq_true] at hg
  have hl : (finM M0 C).W.length = M0.W.length := by obtain ⟨D, hv⟩ := h.inv; exact hv.like.lenW
  exact reach_sim (h.morph hr) hl h.rootsL.symm fun i hi => h.corr hr (getD_in hg hi) (h.roots i hi)
/-- WHAT BECOMES OF AN OBJECT. -/
theorem Fin_.ages (h : Fin_ M0 ten C) (hr : Ready M0 ten) {a : Nat} (hd : DomC M0 C a) :
    hKind (wat C.M.W (goC M0 C a)) = hKind (wat M0.W a) ∧ hSize (wat C.M.W (goC M0 C a)) = hSize (wat M0.W a) ∧
    ((hbM M0 ≤ a ∧ goC M0 C a = a) ∨ (a < hbM M0 ∧ (hbM M0 ≤ goC M0 C a ↔ ten ≤ hAge (wat M0.W a)) ∧ (goC M0 C a < hbM M0 → hAge (wat C.M.W (goC M0 C a)) = min 15 (hAge (wat M0.W a) + 1)))) := by
  have hm := h.morph hr
  obtain ⟨D, hv⟩ := h.inv
  refine ⟨hm.kind a hd, hm.size a hd, ?_⟩
  have hi := h.img hr hd
  rcases hi with ⟨e, hm⟩ | hm
  · left
    obtain ⟨x, hx, ex⟩ := List.mem_map.1 hm
    have := hr.inO hx
    exact ⟨by omega, e.symm⟩
  · right
    obtain ⟨y, hy, ey⟩ := hv.keyN hm
    have r2 := hr.inN hy
    obtain ⟨hh, e1, e2, e3, e4, e5, e6, e7, e8, e9, e10, e11, e12⟩ := hr.shp.nums
    have hs := hv.side _ hm
    simp only [Int.toNat_natCast] at hs
    have hlt : a < hbM M0 := by rcases e3 with ⟨u1, u2, u3⟩ | ⟨u1, u2, u3⟩ <;> omega
    refine ⟨hlt, by rw [← hs]; omega, fun q => ?_⟩
    have e := hv.head _ hm
    simp only [Int.toNat_natCast] at e
    have hd0 : isHd (wat M0.W a) = true := by rw [← ey]; exact r2.2.1
    rw [e, (newHd_hd (ten := ten) (wat_in hr.ok a).1 hd0).2.2.1, if_neg (by rw [← hs]; omega)]
/-- What lies in the nursery, in words; no more than before. -/
theorem Fin_.words (h : Fin_ M0 ten C) (hr : Ready M0 ten) : (((objsAll (finM M0 C)).filter fun o => decide ((o.a : Int) < 2 * M0.half)).map fun o => 1 + o.n).sum = C.top.toNat ∧ 0 ≤ C.top ∧ C.top ≤ M0.top := by
  obtain ⟨p1, p2⟩ := h.parts hr
  obtain ⟨D, hv⟩ := h.inv
  have ht := hv.totle hr
  have h0 := hv.top0
  have h1 := hv.oldT
  refine ⟨?_, h0, by omega⟩
  obtain ⟨hh, e1, e2, e3, e4, e5, e6, e7, e8, e9, e10, e11, e12⟩ := hr.shp.nums
  unfold objsAll
  rw [p1, p2]
  simp only
  have f1 : ((LNl M0 C.mv).map (obW C.M.W)).filter (fun o => decide ((o.a : Int) < 2 * M0.half)) = (LNl M0 C.mv).map (obW C.M.W) := List.filter_eq_self.2 fun o ho => by
    obtain ⟨b, hb, rfl⟩ := List.mem_map.1 ho
    have := hv.layN.mem b hb
    refine decide_eq_true ?_
    show (b : Int) < _
    rcases e3 with ⟨u1, u2, u3⟩ | ⟨u1, u2, u3⟩ <;> omega
  have f2 : (((partO M0).1.map (·.a) ++ LOl M0 C.mv).map (obW C.M.W)).filter (fun o => decide ((o.a : Int) < 2 * M0.half)) = [] := List.filter_eq_nil_iff.2 fun o ho => by
    obtain ⟨b, hb, rfl⟩ := List.mem_map.1 ho
    have := (hv.olds hr).mem b hb
    rw [decide_eq_true_eq]
    show ¬ (b : Int) < _
    omega
  rw [List.filter_append, f1, f2, List.append_nil, List.map_map]
  have := hv.layN.sum
  have e : (LNl M0 C.mv).map ((fun o : Ob => 1 + o.n) ∘ obW C.M.W) = (LNl M0 C.mv).map fun b => 1 + szW C.M.W b := rfl
  rw [e]; omega
end
section
variable {M : Mem} {ten : Int}
theorem collectC_few (hr : Ready M ten) (hf : Few M) : Few (collectC M ten) := by
  obtain ⟨_, _, _, _, _, _, D, h1, h2, h3, h4⟩ := collect_inv hr
  refine ⟨?_, ?_, ?_, ?_, ?_⟩
  · show (col4 M ten).M.W.length ≤ _
    rw [h1.like.lenW]; exact hf.W
  · show (col4 M ten).M.roots.length ≤ _
    rw [h3]; exact hf.R
  · show (weakC (col4 M ten)).length ≤ _
    unfold weakC
    rw [List.length_map, h1.like.weak]; exact hf.K
  · show (idsC (col4 M ten)).length ≤ _
    refine Nat.le_trans (List.length_filterMap_le _ _) ?_
    rw [h1.like.ids]; exact hf.I
  · show (col4 M ten).M.cards.length ≤ _
    rw [h1.like.lenC]; exact hf.C
theorem collectC_ok (hr : Ready M ten) : (collectC M ten).Ok := by rw [collectC_fin]; exact (collect_fin hr).ok hr
theorem collectC_chk (hr : Ready M ten) : chk (collectC M ten) = 0 := by rw [collectC_fin]; exact (collect_fin hr).chk hr
end
section
variable {M : Mem} {ten : Int}
theorem collectC_graph (hr : Ready M ten) : graphS (collectC M ten) = graphS M := by
  have hf := collect_fin hr
  rw [collectC_fin]
  have hg := (good_parts (chk_zero hr.chk).1).2.2.1
  unfold fieldsB at hg
  rw [List.all_eq_true] at hg
  have hl : (finM M (col4 M ten)).W.length = M.W.length := by obtain ⟨D, hv⟩ := hf.inv; exact hv.like.lenW
  exact graph_map (hf.morph hr) hl hf.rootsL.symm fun i hi => hf.corr hr (getD_in hg hi) (hf.roots i hi)
/-- Those that are young behind it: a time older, none was too old. -/
theorem collectC_young (hr : Ready M ten) : ∀ y ∈ (partN (collectC M ten)).1, ∃ x ∈ (partN M).1, hAge x.w < ten ∧ hAge y.w = hAge x.w + 1 := by
  have hf := collect_fin hr
  rw [collectC_fin]
  intro y hy
  rw [(hf.parts hr).1] at hy
  obtain ⟨D, hv⟩ := hf.inv
  obtain ⟨b, hb, rfl⟩ := List.mem_map.1 hy
  obtain ⟨p, hp, rfl⟩ := List.mem_map.1 hb
  obtain ⟨hp1, hp2⟩ := List.mem_filter.1 hp
  have hp3 : p.2 < 2 * M.half := of_decide_eq_true hp2
  have e := hv.head p hp1
  have sd := hv.side p hp1
  obtain ⟨x, hx, ex⟩ := hv.keys p hp1
  have ea : p.1.toNat = x.a := by omega
  rw [ea] at e sd
  obtain ⟨q1, q2, -⟩ := hr.inN hx
  have hlt : hAge (wat M.W x.a) < ten := by
    rcases Int.lt_or_le (hAge (wat M.W x.a)) ten with q | q
    · exact q
    · have := sd.2 q; omega
  refine ⟨x, hx, by rw [q1]; exact hlt, ?_⟩
  show hAge (wat (col4 M ten).M.W p.2.toNat) = _
  rw [e, (newHd_hd (ten := ten) (wat_in hr.ok _).1 q2).2.2.1, if_neg (by omega), q1]
  have := hr.ten
  omega
end
theorem partN_empty {N : Mem} (hs : Shp N) (hob : objsB N (okHd N) = true) (h : ∀ y ∈ (partN N).1, False) : N.top = 0 := by
  have hl : Laid N.W N.base ((partN N).1.map (·.a)) (N.base + N.top.toNat) := laid_of_part (parts_true hob).1 (by omega)
  have e : (partN N).1 = [] := List.eq_nil_iff_forall_not_mem.2 fun y hy => h y hy
  rw [e] at hl
  have h2 : N.base = N.base + N.top.toNat := hl
  have := hs.t1
  omega
/-- So often collected. -/
structure Grown (M0 : Mem) (ten : Int) (k : Nat) (N : Mem) : Prop where
  ok : N.Ok
  chk : chk N = 0
  few : Few N
  graph : graphS N = graphS M0
  ages : ∀ x ∈ (partN N).1, (k : Int) ≤ hAge x.w
  lt : 0 < k → ∀ x ∈ (partN N).1, hAge x.w ≤ ten
theorem Grown.next {M0 N : Mem} {ten : Int} {k : Nat} (h : Grown M0 ten k N) (hr : Ready N ten) : Grown M0 ten (k + 1) (collectC N ten) :=
  ⟨collectC_ok hr, collectC_chk hr, collectC_few hr h.few, (collectC_graph hr).trans h.graph, fun y hy => by
    obtain ⟨x, hx, h1, h2⟩ := collectC_young hr y hy
    have := h.ages x hx
    omega, fun _ y hy => by
    obtain ⟨x, hx, h1, h2⟩ := collectC_young hr y hy
    omega⟩
theorem Grown.done {M0 N : Mem} {ten : Int} {k : Nat} (h : Grown M0 ten k N) (hk : ten < (k : Int)) (t0 : 0 ≤ ten) : N.top = 0 := by
  obtain ⟨hs, hob, -⟩ := good_parts (chk_zero h.chk).1
  refine partN_empty hs hob fun y hy => ?_
  have h1 := h.ages y hy
  have h2 := h.lt (by omega) y hy
  omega
end Go.Proofs.YtelhoppfidibiaaGreatDoor
