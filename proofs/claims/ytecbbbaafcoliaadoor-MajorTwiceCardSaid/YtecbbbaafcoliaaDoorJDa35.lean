/- The law MinorAges: what is asked of its objects: plainly. -/
import Derived.Test.YtecbbbaafcoliaaDoorJDa34
import Derived.Test.YtecbbbaafcoliaaDoorJDa29
import Derived.Test.YtecbbbaafcoliaaDoorJDa28
namespace Go.Proofs.YtecbbbaafcoliaaDoor
open Go.RowKit
set_option linter.unusedVariables false
set_option linter.unusedSimpArgs false

theorem ob_cells4 {W : World} {la : Option Addr} {l : List Ob} (h : RSl W la (ocells l)) {k : Nat} (hk : k < l.length) :
    ∃ ob oo, la = some ⟨ob, oo, none⟩ ∧ W.cell? ⟨ob, oo + k * 4, none⟩ = some (.int .i64 (l[k].a : Int)) ∧ W.cell? ⟨ob, oo + k * 4 + 1, none⟩ = some (.int .i64 (hKind l[k].w)) ∧ W.cell? ⟨ob, oo + k * 4 + 2, none⟩ = some (.int .i64 (hAge l[k].w)) ∧ W.cell? ⟨ob, oo + k * 4 + 3, none⟩ = some (.int .i64 (hSize l[k].w)) := by
  obtain ⟨p0, p1, p2, p3⟩ := ocells_at l k hk
  obtain ⟨ob, oo, rfl, c0⟩ := h _ _ p0
  have c1 := h.at_ p1
  have c2 := h.at_ p2
  have c3 := h.at_ p3
  rw [← Nat.add_assoc] at c1 c2 c3
  exact ⟨ob, oo, rfl, c0, c1, c2, c3⟩
section
variable {M : Mem} {ten : Int}
theorem collectC_few (hr : Ready M ten) (hf : Few M) : Few (collectC M ten) := by
  obtain ⟨_, _, _, _, _, _, D, h1, h2, h3, h4⟩ := collect_inv hr
  refine ⟨?_, ?_, ?_, ?_, ?_⟩
  · show (col4 M ten).M.W.length ≤ _
    rw [h1.like.lenW]; exact hf.W
  · show (col4 M ten).M.roots.length ≤ _
    rw [h3]; exact hf.R
  · show (weakC (col4 M ten)).length ≤ _
    unfold weakC
    rw [List.length_map, h1.like.weak]; exact hf.K
  · show (idsC (col4 M ten)).length ≤ _
    refine Nat.le_trans (List.length_filterMap_le _ _) ?_
    rw [h1.like.ids]; exact hf.I
  · show (col4 M ten).M.cards.length ≤ _
    rw [h1.like.lenC]; exact hf.C
theorem collectC_ok (hr : Ready M ten) : (collectC M ten).Ok := by rw [collectC_fin]; exact (collect_fin hr).ok hr
theorem collectC_chk (hr : Ready M ten) : chk (collectC M ten) = 0 := by rw [collectC_fin]; exact (collect_fin hr).chk hr
end
section
variable {M : Mem} {ten : Int}
theorem collectC_graph (hr : Ready M ten) : graphS (collectC M ten) = graphS M := by
  have hf := collect_fin hr
  rw [collectC_fin]
  have hg := (good_parts (chk_zero hr.chk).1).2.2.1
  unfold fieldsB at hg
  rw [List.all_eq_true] at hg
  have hl : (finM M (col4 M ten)).W.length = M.W.length := by obtain ⟨D, hv⟩ := hf.inv; exact hv.like.lenW
  exact graph_map (hf.morph hr) hl hf.rootsL.symm fun i hi => hf.corr hr (getD_in hg hi) (hf.roots i hi)
/-- Those that are young behind it: a time older, none was too old. -/
theorem collectC_young (hr : Ready M ten) : ∀ y ∈ (partN (collectC M ten)).1, ∃ x ∈ (partN M).1, hAge x.w < ten ∧ hAge y.w = hAge x.w + 1 := by
  have hf := collect_fin hr
  rw [collectC_fin]
  intro y hy
  rw [(hf.parts hr).1] at hy
  obtain ⟨D, hv⟩ := hf.inv
  obtain ⟨b, hb, rfl⟩ := List.mem_map.1 hy
  obtain ⟨p, hp, rfl⟩ := List.mem_map.1 hb
  obtain ⟨hp1, hp2⟩ := List.mem_filter.1 hp
  have hp3 : p.2 < 2 * M.half := of_decide_eq_true hp2
  have e := hv.head p hp1
  have sd := hv.side p hp1
  obtain ⟨x, hx, ex⟩ := hv.keys p hp1
  have ea : p.1.toNat = x.a := by omega
  rw [ea] at e sd
  obtain ⟨q1, q2, -⟩ := hr.inN hx
  have hlt : hAge (wat M.W x.a) < ten := by
    rcases Int.lt_or_le (hAge (wat M.W x.a)) ten with q | q
    · exact q
    · have := sd.2 q; omega
  refine ⟨x, hx, by rw [q1]; exact hlt, ?_⟩
  show hAge (wat (col4 M ten).M.W p.2.toNat) = _
  rw [e, (newHd_hd (ten := ten) (wat_in hr.ok _).1 q2).2.2.1, if_neg (by omega), q1]
  have := hr.ten
  omega
end
theorem partN_empty {N : Mem} (hs : Shp N) (hob : objsB N (okHd N) = true) (h : ∀ y ∈ (partN N).1, False) : N.top = 0 := by
  have hl : Laid N.W N.base ((partN N).1.map (·.a)) (N.base + N.top.toNat) := laid_of_part (parts_true hob).1 (by omega)
  have e : (partN N).1 = [] := List.eq_nil_iff_forall_not_mem.2 fun y hy => h y hy
  rw [e] at hl
  have h2 : N.base = N.base + N.top.toNat := hl
  have := hs.t1
  omega
/-- So often collected. -/
structure Grown (M0 : Mem) (ten : Int) (k : Nat) (N : Mem) : Prop where
  ok : N.Ok
  chk : chk N = 0
  few : Few N
  graph : graphS N = graphS M0
  ages : ∀ x ∈ (partN N).1, (k : Int) ≤ hAge x.w
  lt : 0 < k → ∀ x ∈ (partN N).1, hAge x.w ≤ ten
theorem Grown.ready {M0 N : Mem} {ten : Int} {k : Nat} (h : Grown M0 ten k N) (t0 : 0 ≤ ten) (t1 : ten ≤ 15) (hf : ¬ N.old - N.oldTop < N.top) : Ready N ten := ⟨h.ok, h.chk, ⟨t0, t1⟩, by omega⟩
theorem Grown.next {M0 N : Mem} {ten : Int} {k : Nat} (h : Grown M0 ten k N) (hr : Ready N ten) : Grown M0 ten (k + 1) (collectC N ten) :=
  ⟨collectC_ok hr, collectC_chk hr, collectC_few hr h.few, (collectC_graph hr).trans h.graph, fun y hy => by
    obtain ⟨x, hx, h1, h2⟩ := collectC_young hr y hy
    have := h.ages x hx
    omega, fun _ y hy => by
    obtain ⟨x, hx, h1, h2⟩ := collectC_young hr y hy
    omega⟩
theorem Grown.done {M0 N : Mem} {ten : Int} {k : Nat} (h : Grown M0 ten k N) (hk : ten < (k : Int)) (t0 : 0 ≤ ten) : N.top = 0 := by
  obtain ⟨hs, hob, -⟩ := good_parts (chk_zero h.chk).1
  refine partN_empty hs hob fun y hy => ?_
  have h1 := h.ages y hy
  have h2 := h.lt (by omega) y hy
  omega
theorem minor_kept {M : Mem} {ten : Int} (hr : Ready M ten) : Kept false M (collectC M ten) (lastC (col4 M ten)) (DomC M (col4 M ten)) (goC M (col4 M ten)) := by
  have hf := collect_fin hr
  have hg := (chk_zero hr.chk).1
  have hgN := (chk_zero (collectC_chk hr)).1
  obtain ⟨D, hv⟩ := hf.inv
  have hro := (good_parts hg).2.2.1
  refine ⟨hf.morph hr, hv.like.lenW, hf.rootsL.symm, fun i hi => hf.corr hr (fieldsB_at hro hi) (hf.roots i hi), ?_, ?_, fun u hu hl => hf.corr hr hu (last_fol hv.like hl), fun u hu hl => ?_, (fun h => by cases h), hg, hgN⟩
  · show weakC (col4 M ten) = _
    unfold weakC
    rw [hv.like.weak]
  · show idsC (col4 M ten) = _
    unfold idsC
    rw [hv.like.ids]
  · unfold lastC at hl
    rw [hv.like.stays] at hl
    cases hs : stays M u with
    | true => rw [hs] at hl; simp at hl
    | false =>
      have hy : youngB M u = true := by unfold stays at hs; simpa using hs
      rw [hs] at hl
      have hyy := hy
      unfold youngB oldB at hyy
      simp only [Bool.and_eq_true, beq_iff_eq, bne_iff_ne, ne_eq, Bool.not_eq_true', decide_eq_false_iff_not] at hyy
      obtain ⟨⟨k1, k2⟩, k3⟩ := hyy
      have hp : pointedB u = true := by
        unfold kindW at k1
        unfold pointedB
        simp [k1, k2]
      refine ⟨hp, ?_⟩
      cases hm : mlook (col4 M ten).mv (placeW u) with
      | some tq => rw [hm] at hl; simp at hl
      | none =>
        cases hq : ledB M u with
        | false => rfl
        | true =>
          exfalso
          unfold ledB at hq
          simp only [Bool.and_eq_true, decide_eq_true_eq] at hq
          obtain ⟨q1, q2⟩ := hq
          obtain ⟨o, ho, e⟩ := List.mem_map.1 (List.contains_iff_mem.1 q2)
          have ep : ptsW u = placeW u := by
            unfold ptsW at q1 ⊢
            split at q1
            · rename_i hc; rw [if_pos hc]
            · omega
          obtain ⟨b, hi⟩ := ((hf.reach hr).2 o ho).1
          rcases hi with ⟨_, hm2⟩ | hm2
          · obtain ⟨x, hx, ex⟩ := List.mem_map.1 hm2
            have := (hr.inO hx).2.2.1
            unfold hbM at this
            omega
          · have := mlook_none hm _ hm2
            simp only at this
            omega
theorem filterMap_cong {α β : Type} {f g : α → Option β} : ∀ {l : List α}, (∀ x ∈ l, f x = g x) → l.filterMap f = l.filterMap g
  | [], _ => rfl
  | x :: l, h => by
    rw [List.filterMap_cons, List.filterMap_cons, h x (by simp), filterMap_cong fun y hy => h y (by simp [hy])]
theorem ltop {V W : List Int} : ∀ (l : List Nat) (t : Nat), (∀ p ∈ topsW V t l, szW W p.2 = szW V p.1) → topsW W t ((topsW V t l).map (·.2)) = (topsW V t l).map fun p => (p.2, p.2)
  | [], t, _ => rfl
  | a :: l, t, hp => by
    have h1 := hp (a, t) (by simp [topsW])
    simp only at h1
    rw [topsW, List.map_cons, List.map_cons, topsW, h1, ltop l _ fun p hpm => hp p (by rw [topsW]; exact List.mem_cons_of_mem _ hpm)]
section
variable {M : Mem}
theorem Full.reach_a (h : Full M) : (reachP (majM M)).map (·.a) = (reachP M).map fun o => toOf M o.a := by
  rw [h.reach, List.map_map]; rfl
theorem Full.dom_a (h : Full M) {b : Nat} : DomM (majM M) b ↔ ∃ a, DomM M a ∧ toOf M a = b := by
  unfold DomM
  rw [h.reach_a, List.mem_map]
  constructor
  · rintro ⟨o, ho, e⟩; exact ⟨o.a, List.mem_map_of_mem (f := (·.a)) ho, e⟩
  · rintro ⟨a, ha, e⟩
    obtain ⟨o, ho, rfl⟩ := List.mem_map.1 ha
    exact ⟨o, ho, e⟩
theorem Full.to_snd (h : Full M) : (toM M).map (·.2) = (ordP M).map (toOf M) := by
  have e : ordP M = (toM M).map (·.1) := (topsW_fst M.W (ordP M) (hbM M)).symm
  rw [e, List.map_map]
  refine List.map_congr_left fun p hp => ?_
  exact (toM_of h.good hp).symm
theorem Full.ord_a (h : Full M) : ordP (majM M) = (toM M).map (·.2) := by
  have hN := h.again
  have h1 := ordP_pair hN.good
  have h2 : ((toM M).map (·.2)).Pairwise (Ahead (hbM (majM M))) := by
    rw [List.pairwise_map]
    refine (List.Pairwise.imp_of_mem (S := fun p q => Ahead (hbM M) p.2 q.2) (R := fun p q : Nat × Nat => p.2 + 1 + szW M.W p.1 ≤ q.2) (fun hp hq hpq => ?_) (topsW_pair M.W (ordP M) (hbM M)))
    have g1 := topsW_ge M.W (ordP M) (hbM M) _ hp
    have g2 := topsW_ge M.W (ordP M) (hbM M) _ hq
    unfold Ahead
    omega
  refine List.Perm.eq_of_pairwise (le := Ahead (hbM (majM M))) (fun a b _ _ q1 q2 => ?_) h1 h2 ?_
  · unfold Ahead at q1 q2; omega
  · refine (List.mergeSort_perm _ _).trans ?_
    rw [h.reach_a, h.to_snd]
    have e : (reachP M).map (fun o => toOf M o.a) = ((reachP M).map (·.a)).map (toOf M) := by rw [List.map_map]; rfl
    rw [e]
    exact ((List.mergeSort_perm _ _).map _).symm
theorem Full.to_a (h : Full M) : toM (majM M) = (toM M).map fun p => (p.2, p.2) := by
  unfold toM
  rw [h.ord_a]
  refine ltop (ordP M) (hbM M) fun p hp => ?_
  have hd := toM_dom (M := M) hp
  have e := toM_of h.good (p := p) hp
  have := (h.hdN hd).2.2.2.2
  rw [e] at this
  exact this
theorem Full.stay_a (h : Full M) {b : Nat} (hb : DomM (majM M) b) : toOf (majM M) b = b := by
  have hN := h.again
  have hm := toOf_mem hb
  rw [h.to_a] at hm
  obtain ⟨p, hp, e⟩ := List.mem_map.1 hm
  injection e with e1 e2
  omega
theorem Full.fw_a (h : Full M) {u : Int} (h0 : U64 u) (hf : fldB (startsM (majM M)) u = true) : fwM (majM M) u = (u, true) := by
  have hN := h.again
  rcases hN.fw hf with ⟨q, e⟩ | ⟨a, k1, k2, k3, k4, ⟨x, hx, ex⟩, ⟨d, e⟩ | ⟨d, e⟩⟩
  · exact e
  · rw [e, h.stay_a d]
    have : addrW (a : Int) = u := by
      rw [← k3]
      have h1 := h0.1
      have h2 := h0.2
      unfold placeW kindW addrW at *
      omega
    rw [this]
  · exfalso
    apply d
    obtain ⟨c, hc, rfl⟩ := (h.mem x).1 hx
    rw [← ex]
    exact h.dom_a.2 ⟨c, hc, rfl⟩
theorem Full.fw1_a (h : Full M) {u : Int} (h0 : U64 u) (hf : fldB (startsM (majM M)) u = true) : fw1 (majM M) u = u := by
  unfold fw1; rw [h.fw_a h0 hf]
theorem wat_ext {V W : List Int} (hl : V.length = W.length) (h : ∀ i, wat V i = wat W i) : V = W := by
  refine List.ext_getElem hl fun i h1 h2 => ?_
  have := h i
  unfold wat at this
  rw [List.getD_eq_getElem?_getD, List.getD_eq_getElem?_getD, List.getElem?_eq_getElem h1, List.getElem?_eq_getElem h2] at this
  exact this
theorem Full.majWk_a (h : Full M) : ∀ k, k ≤ (ordP (majM M)).length → majWk (majM M) k = (majM M).W
  | 0, _ => rfl
  | k + 1, hk => by
    have hN := h.again
    have hlt : k < (ordP (majM M)).length := by omega
    have ih := h.majWk_a k (by omega)
    have hm : ((ordP (majM M))[k], topAt (majM M) k) ∈ toM (majM M) := by rw [← toM_at hlt]; exact List.getElem_mem _
    have hd := toM_dom hm
    have e := toM_of hN.good hm
    simp only at e hd
    rw [h.stay_a hd] at e
    have hfit := hN.fits _ hm
    have hs := hN.slidAt k
    rw [majWk_next hlt]
    rw [← e] at hfit hs ⊢
    generalize (ordP (majM M))[k] = a at *
    have hq := hs.wat1 hfit hN.hw
    have hl : (slide1 (hbM (majM M)) (fw1 (majM M)) ((majM M).W.take (hbM (majM M))) (majWk (majM M) k) (a, a)).length = (majM M).W.length := (hs.next hfit hN.hw).len
    refine wat_ext hl fun i => ?_
    rw [hq, ih]
    obtain ⟨c, hc, rfl⟩ := h.dom_a.1 hd
    obtain ⟨d1, d2, d3, d4, d5⟩ := h.hdN hc
    by_cases q1 : i = toOf M c
    · rw [if_pos q1, q1]
      show ageless (wat (majW M) (toOf M c)) = wat (majW M) (toOf M c)
      have := headW_back _ d1
      unfold ageless
      rw [d3] at this
      exact this
    · rw [if_neg q1]
      split
      · rename_i q2
        have ei : toOf M c + (i - toOf M c) = i := by omega
        split
        · rw [ei]
        · rename_i q3
          rw [ei]
          have hk2 : i - toOf M c - 1 < szW (majM M).W (toOf M c) := by omega
          have hr : rawB (hKind (wat (majM M).W (toOf M c))) = false := by simpa using q3
          have := (hN.fld_in hd hr hk2).1
          rw [show toOf M c + 1 + (i - toOf M c - 1) = i by omega] at this
          exact h.fw1_a (wat_u64 hN.ok.W i) this
      · rfl
/-- COLLECTED AGAIN NOTHING CHANGES. -/
theorem Full.twice (h : Full M) : majM (majM M) = majM M := by
  have hN := h.again
  have hg := good_parts hN.good
  have e1 : majW (majM M) = (majM M).W := by rw [← majWk_end]; exact h.majWk_a _ (Nat.le_refl _)
  have e2 : (majM M).roots.map (fw1 (majM M)) = (majM M).roots := by
    conv => rhs; rw [← List.map_id (majM M).roots]
    refine List.map_congr_left fun u hu => ?_
    have := hg.2.2.1
    unfold fieldsB at this
    rw [List.all_eq_true] at this
    exact h.fw1_a (hN.ok.roots u hu) (this u hu)
  have e3 : (majM M).weak.map (fw1 (majM M)) = (majM M).weak := by
    conv => rhs; rw [← List.map_id (majM M).weak]
    refine List.map_congr_left fun u hu => ?_
    have := hg.2.2.2.1
    unfold fieldsB at this
    rw [List.all_eq_true] at this
    exact h.fw1_a (hN.ok.weak u hu) (this u hu)
  have e4 : ((majM M).ids.filterMap fun x => if (fwM (majM M) x.1).2 then some ((fwM (majM M) x.1).1, x.2) else none) = (majM M).ids := by
    conv => rhs; rw [← List.filterMap_some (l := (majM M).ids)]
    refine filterMap_cong fun x hx => ?_
    obtain ⟨g1, g2, g3, g4⟩ := hN.ids_in x hx
    have hf : fldB (startsM (majM M)) x.1 = true := by unfold fldB; rw [if_pos g1, g3]; simp
    rw [h.fw_a (hN.ok.ids x hx).1 hf]; rfl
  have e5 : (liveM (majM M) : Int) = (majM M).oldTop := by rw [h.live]; rfl
  have e6 : List.replicate (majM M).cards.length false = (majM M).cards := by
    show List.replicate (List.replicate M.cards.length false).length false = List.replicate M.cards.length false
    rw [List.length_replicate]
  have e7 : (0 : Int) = (majM M).top := rfl
  show ({ majM M with W := majW (majM M), roots := (majM M).roots.map (fw1 (majM M)), weak := (majM M).weak.map (fw1 (majM M)), ids := (majM M).ids.filterMap fun x => if (fwM (majM M) x.1).2 then some ((fwM (majM M) x.1).1, x.2) else none, top := 0, oldTop := (liveM (majM M) : Int), cards := List.replicate (majM M).cards.length false } : Mem) = majM M
  rw [e1, e2, e3, e4, e5, e6, e7]
/-- ORDER. -/
theorem Full.order (h : Full M) {a b : Nat} (ha : DomM M a) (hb : DomM M b) (hab : Ahead (hbM M) a b) : toOf M a < toOf M b := by
  have hp : (toM M).Pairwise fun p q => Ahead (hbM M) p.1 q.1 ∧ p.2 < q.2 := by
    have h1 : (toM M).Pairwise fun p q => Ahead (hbM M) p.1 q.1 := by
      have := ordP_pair h.good
      rw [← topsW_fst M.W (ordP M) (hbM M), List.pairwise_map] at this
      exact this
    refine (h1.and (topsW_pair M.W (ordP M) (hbM M))).imp fun q => ⟨q.1, ?_⟩
    have := q.2
    omega
  have ma := toOf_mem ha
  have mb := toOf_mem hb
  obtain ⟨i, hi, ei⟩ := List.getElem_of_mem ma
  obtain ⟨j, hj, ej⟩ := List.getElem_of_mem mb
  rw [List.pairwise_iff_getElem] at hp
  rcases Nat.lt_trichotomy i j with q | q | q
  · have := (hp i j hi hj q).2
    rw [ei, ej] at this
    exact this
  · subst q
    rw [ei] at ej
    injection ej with e1 e2
    subst e1
    unfold Ahead at hab
    omega
  · have := (hp j i hj hi q).1
    rw [ei, ej] at this
    unfold Ahead at hab this
    simp only at this
    omega
/-- A MINOR COLLECTION AHEAD OF IT. -/
theorem Full.minor (h : Full M) {ten : Int} (hr : Ready M ten) : Full (collectC M ten) ∧ graphS (majM (collectC M ten)) = graphS (majM M) ∧ (majM (collectC M ten)).oldTop = (majM M).oldTop := by
  have hk := minor_kept hr
  have hl : liveM (collectC M ten) = liveM M := live_map hk.morph hk.lenW hk.lenR hk.roots
  have ho : (collectC M ten).old = M.old := by
    obtain ⟨_, _, _, _, _, _, D, h1, h2, h3, h4⟩ := collect_inv hr
    exact h1.like.old
  have hF : Full (collectC M ten) := ⟨(collect_fin hr).ok hr, collectC_chk hr, by rw [hl, ho]; exact h.room⟩
  refine ⟨hF, ?_, ?_⟩
  · rw [hF.graph, h.graph]
    exact graph_map hk.morph hk.lenW hk.lenR hk.roots
  · show (liveM (collectC M ten) : Int) = (liveM M : Int)
    rw [hl]
end
end Go.Proofs.YtecbbbaafcoliaaDoor
