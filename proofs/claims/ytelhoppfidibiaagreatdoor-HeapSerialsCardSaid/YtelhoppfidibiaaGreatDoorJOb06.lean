/- The minor collection keeps what it ought to: plainly. -/
import Derived.Test.YtelhoppfidibiaaGreatDoorJOa29
import Derived.Test.YtelhoppfidibiaaGreatDoorJOb05
import Derived.Test.YtelhoppfidibiaaGreatDoorJOa34
import Derived.Test.YtelhoppfidibiaaGreatDoorJOa36
import Derived.Test.YtelhoppfidibiaaGreatDoorJOa37
namespace Go.Proofs.YtelhoppfidibiaaGreatDoor
open Go.RowKit
set_option linter.unusedVariables false
set_option linter.unusedSimpArgs false

theorem minor_kept {M : Mem} {ten : Int} (hr : Ready M ten) : Kept false M (collectC M ten) (lastC (col4 M ten)) (DomC M (col4 M ten)) (goC M (col4 M ten)) := by
  have hf := collect_fin hr
  have hg := (chk_zero hr.chk).1
  have hgN := (chk_zero (collectC_chk hr)).1
  obtain ⟨D, hv⟩ := hf.inv
  have hro := (good_parts hg).2.2.1
  refine ⟨hf.morph hr, hv.like.lenW, hf.rootsL.symm, fun i hi => hf.corr hr (fieldsB_at hro hi) (hf.roots i hi), ?_, ?_, fun u hu hl => hf.corr hr hu (last_fol hv.like hl), fun u hu hl => ?_, (fun h => by cases h), hg, hgN⟩
  · show weakC (col4 M ten) = _
    unfold weakC
    rw [hv.like.weak]
  · show idsC (col4 M ten) = _
    unfold idsC
    rw [hv.like.ids]
  · unfold lastC at hl
    rw [hv.like.stays] at hl
    cases hs : stays M u with
    | true => rw [hs] at hl; simp at hl
    | false =>
      have hy : youngB M u = true := by unfold stays at hs; simpa using hs
      rw [hs] at hl
      have hyy := hy
      unfold youngB oldB at hyy
      simp only [Bool.and_eq_true, beq_iff_eq, bne_iff_ne, ne_eq, Bool.not_eq_true', decide_eq_false_iff_not] at hyy
      obtain ⟨⟨k1, k2⟩, k3⟩ := hyy
      have hp : pointedB u = true := by
        unfold kindW at k1
        unfold pointedB
        simp [k1, k2]
      refine ⟨hp, ?_⟩
      cases hm : mlook (col4 M ten).mv (placeW u) with
      | some tq => rw [hm] at hl; simp at hl
      | none =>
        cases hq : ledB M u with
        | false => rfl
        | true =>
          exfalso
          unfold ledB at hq
          simp only [Bool.and_eq_true, decide_eq_true_eq] at hq
          obtain ⟨q1, q2⟩ := hq
          obtain ⟨o, ho, e⟩ := List.mem_map.1 (List.contains_iff_mem.1 q2)
          have ep : ptsW u = placeW u := by
            unfold ptsW at q1 ⊢
            split at q1
            · rename_i hc; rw [if_pos hc]
            · omega
          obtain ⟨b, hi⟩ := ((hf.reach hr).2 o ho).1
          rcases hi with ⟨_, hm2⟩ | hm2
          · obtain ⟨x, hx, ex⟩ := List.mem_map.1 hm2
            have := (hr.inO hx).2.2.1
            unfold hbM at this
            omega
          · have := mlook_none hm _ hm2
            simp only at this
            omega
section
variable {M : Mem}
/-- ORDER. -/
theorem Full.order (h : Full M) {a b : Nat} (ha : DomM M a) (hb : DomM M b) (hab : Ahead (hbM M) a b) : toOf M a < toOf M b := by
  have hp : (toM M).Pairwise fun p q => Ahead (hbM M) p.1 q.1 ∧ p.2 < q.2 := by
    have h1 : (toM M).Pairwise fun p q => Ahead (hbM M) p.1 q.1 := by
      have := ordP_pair h.good
      rw [← topsW_fst M.W (ordP M) (hbM M), List.pairwise_map] at this
      exact this
    refine (h1.and (topsW_pair M.W (ordP M) (hbM M))).imp fun q => ⟨q.1, ?_⟩
    have := q.2
    omega
  have ma := toOf_mem ha
  have mb := toOf_mem hb
  obtain ⟨i, hi, ei⟩ := List.getElem_of_mem ma
  obtain ⟨j, hj, ej⟩ := List.getElem_of_mem mb
  rw [List.pairwise_iff_getElem] at hp
  rcases Nat.lt_trichotomy i j with q | q | q
  · have := (hp i j hi hj q).2
    rw [ei, ej] at this
    exact this
  · subst q
    rw [ei] at ej
    injection ej with e1 e2
    subst e1
    unfold Ahead at hab
    omega
  · have := (hp j i hj hi q).1
    rw [ei, ej] at this
    unfold Ahead at hab this
    simp only at this
    omega
/-- A MINOR COLLECTION AHEAD OF IT. -/
theorem Full.minor (h : Full M) {ten : Int} (hr : Ready M ten) : Full (collectC M ten) ∧ graphS (majM (collectC M ten)) = graphS (majM M) ∧ (majM (collectC M ten)).oldTop = (majM M).oldTop := by
  have hk := minor_kept hr
  have hl : liveM (collectC M ten) = liveM M := live_map hk.morph hk.lenW hk.lenR hk.roots
  have ho : (collectC M ten).old = M.old := by
    obtain ⟨_, _, _, _, _, _, D, h1, h2, h3, h4⟩ := collect_inv hr
    exact h1.like.old
  have hF : Full (collectC M ten) := ⟨(collect_fin hr).ok hr, collectC_chk hr, by rw [hl, ho]; exact h.room⟩
  refine ⟨hF, ?_, ?_⟩
  · rw [hF.graph, h.graph]
    exact graph_map hk.morph hk.lenW hk.lenR hk.roots
  · show (liveM (collectC M ten) : Int) = (liveM M : Int)
    rw [hl]
end
structure Moved (M N : Mem) (go : Int → Int × Bool) (D : Nat → Prop) (f : Nat → Nat) : Prop where
  kept : ∃ all, Kept all M N go D f
  back : ∀ u a, fldB (startsM M) u = true → ptsW u = ((a : Nat) : Int) → D a → (go u).2 = true
  obj : ∀ a, D a → f a ∈ (objsAll N).map (·.a)
theorem pts_at {u : Int} {a : Nat} (h : ptsW u = (a : Int)) : kindW u = 0 ∧ u ≠ 0 ∧ placeW u = (a : Int) := by
  unfold ptsW at h
  split at h
  · rename_i hc; exact ⟨hc.1, hc.2.1, h⟩
  · omega
theorem minor_moved {M : Mem} {ten : Int} (hr : Ready M ten) : Moved M (collectC M ten) (lastC (col4 M ten)) (DomC M (col4 M ten)) (goC M (col4 M ten)) := by
  have hf := collect_fin hr
  obtain ⟨p1, p2⟩ := hf.parts hr
  obtain ⟨Dn, hv⟩ := hf.inv
  refine ⟨⟨_, minor_kept hr⟩, fun u a hu hp ⟨b, hi⟩ => ?_, fun a hd => ?_⟩
  · obtain ⟨k1, k2, k3⟩ := pts_at hp
    unfold lastC
    rw [hv.like.stays]
    cases hs : stays M u with
    | true => rfl
    | false =>
      simp only [Bool.false_eq_true, if_false]
      rcases hi with ⟨rfl, hm⟩ | hm
      · exfalso
        obtain ⟨x, hx, ex⟩ := List.mem_map.1 hm
        have r1 := hr.inO hx
        obtain ⟨hh, e1, e2, e3, e4, e5, e6, e7, e8, e9, e10, e11, e12⟩ := hr.shp.nums
        unfold stays youngB oldB at hs
        rw [k3, k1] at hs
        simp [k2] at hs
        omega
      · rw [k3, mlook_of hv.nodupI hm]
  · have hi := hf.img hr hd
    show _ ∈ (objsAll (finM M (col4 M ten))).map (·.a)
    unfold objsAll
    rw [p1, p2, List.map_append]
    have hid : ∀ l : List Nat, (l.map (obW (col4 M ten).M.W)).map (·.a) = l := fun l => by
      rw [List.map_map]; exact (List.map_congr_left fun x _ => rfl).trans (List.map_id l)
    simp only [hid]
    rcases hi with ⟨e, hm⟩ | hm
    · rw [← e]; exact List.mem_append.2 (Or.inr (List.mem_append.2 (Or.inl hm)))
    · by_cases hsd : 2 * M.half ≤ (((goC M (col4 M ten) a : Nat)) : Int)
      · exact List.mem_append.2 (Or.inr (List.mem_append.2 (Or.inr (List.mem_map.2 ⟨_, List.mem_filter.2 ⟨hm, by simpa using hsd⟩, by simp⟩))))
      · exact List.mem_append.2 (Or.inl (List.mem_map.2 ⟨_, List.mem_filter.2 ⟨hm, by simpa using hsd⟩, by simp⟩))
theorem major_moved {M : Mem} (h : Full M) : Moved M (majM M) (fwM M) (DomM M) (toOf M) := by
  obtain ⟨p1, p2⟩ := h.parts
  refine ⟨⟨_, h.kept⟩, fun u a hu hp hd => ?_, fun a hd => ?_⟩
  · obtain ⟨k1, k2, k3⟩ := pts_at hp
    unfold fwM
    rw [if_neg (fun q => by rcases q with q | q; exact q k1; exact k2 q), if_pos]
    rw [k3]
    obtain ⟨o, ho, e⟩ := List.mem_map.1 hd
    exact List.contains_iff_mem.2 (List.mem_map.2 ⟨o, ho, by show (o.a : Int) = _; rw [← e]⟩)
  · unfold objsAll
    rw [p1, p2]
    have hid : ∀ l : List Nat, (l.map (obW (majW M))).map (·.a) = l := fun l => by
      rw [List.map_map]; exact (List.map_congr_left fun x _ => rfl).trans (List.map_id l)
    simp only [List.nil_append, hid]
    exact List.mem_map.2 ⟨_, toOf_mem hd, rfl⟩
theorem Cor.comp {f g : Nat → Nat} {D E : Nat → Prop} {u v w : Int} (h : Cor f D u v) (k : Cor g E v w) : Cor (fun a => g (f a)) (fun a => D a ∧ E (f a)) u w := by
  rcases h with ⟨h1, h2⟩ | ⟨a, h1, h2, h3, h4, h5, h6, h7⟩
  · subst h2
    rcases k with ⟨k1, k2⟩ | ⟨b, k1, _⟩
    · exact Or.inl ⟨h1, k2⟩
    · omega
  · rcases k with ⟨k1, k2⟩ | ⟨b, k1, k2, k3, k4, k5, k6, k7⟩
    · omega
    · obtain rfl : f a = b := by omega
      exact Or.inr ⟨a, h1, ⟨h2, k2⟩, k3, h4, h5, k6, k7⟩
theorem Cor.mono {f g : Nat → Nat} {D E : Nat → Prop} {u v : Int} (h : Cor f D u v) (k : ∀ a, D a → E a ∧ g a = f a) : Cor g E u v := by
  rcases h with h | ⟨a, h1, h2, h3, h4⟩
  · exact Or.inl h
  · exact Or.inr ⟨a, h1, (k a h2).1, by rw [(k a h2).2]; exact h3, h4⟩
theorem Morph.comp {U V W : List Int} {f g : Nat → Nat} {D E : Nat → Prop} (h : Morph U V D f) (k : Morph V W E g) : Morph U W (fun a => D a ∧ E (f a)) (fun a => g (f a)) := by
  refine ⟨fun a b ha hb e => h.inj a b ha.1 hb.1 (k.inj _ _ ha.2 hb.2 e), fun a ha => (k.kind _ ha.2).trans (h.kind a ha.1), fun a ha => (k.size _ ha.2).trans (h.size a ha.1), fun a ha hr i hi => ?_, fun a ha hr i hi => ?_⟩
  · have hs : szW V (f a) = szW U a := by unfold szW; rw [h.size a ha.1]
    exact (h.fld a ha.1 hr i hi).comp (k.fld (f a) ha.2 (by rw [h.kind a ha.1]; exact hr) i (by rw [hs]; exact hi))
  · have hs : szW V (f a) = szW U a := by unfold szW; rw [h.size a ha.1]
    rw [k.raw (f a) ha.2 (by rw [h.kind a ha.1]; exact hr) i (by rw [hs]; exact hi)]
    exact h.raw a ha.1 hr i hi
/-- How long it is gone through hangs on nothing, if it is long enough. -/
theorem reach_fuel (W : List Int) : ∀ (n n2 k : Nat) (out : List Ob), (reachG W n k out).length ≤ k + n → (reachG W n k out).length ≤ k + n2 → reachG W n2 k out = reachG W n k out
  | 0, n2, k, out, h1, h2 => by
    have hl : out.length ≤ k := by simpa [reachG] using h1
    have e : out[k]? = none := List.getElem?_eq_none hl
    cases n2 with
    | zero => rfl
    | succ n2 => show reachG W (n2 + 1) k out = out; unfold reachG; rw [e]
  | n + 1, n2, k, out, h1, h2 => by
    cases e : out[k]? with
    | none =>
      have q1 : reachG W (n + 1) k out = out := by unfold reachG; rw [e]
      rw [q1]
      cases n2 with
      | zero => rfl
      | succ n2 => unfold reachG; rw [e]
    | some o =>
      have q1 : reachG W (n + 1) k out = reachG W n (k + 1) (stepP W out o) := by conv => lhs; unfold reachG; rw [e]
      rw [q1] at h1 h2 ⊢
      cases n2 with
      | zero =>
        exfalso
        obtain ⟨hk, _⟩ := List.getElem?_eq_some_iff.1 e
        obtain ⟨t, ht⟩ := stepP_app W out o
        obtain ⟨s, hs⟩ := reachG_app W n (k + 1) (stepP W out o)
        rw [hs, ht, List.length_append, List.length_append] at h2
        omega
      | succ n2 =>
        have q2 : reachG W (n2 + 1) k out = reachG W n2 (k + 1) (stepP W out o) := by conv => lhs; unfold reachG; rw [e]
        rw [q2]
        exact reach_fuel W n n2 (k + 1) _ (by omega) (by omega)
/-- AN IDEAL MEMORY. -/
structure Ideal where
  V : List Int
  P : List Nat
  roots : List Int
  weak : List Int
  ids : List (Int × Int)
def reachI (I : Ideal) : List Ob := reachG I.V I.V.length 0 (comesP I.V [] I.roots)
def liveI (I : Ideal) : Nat := ((reachI I).map fun o => 1 + o.n).sum
structure Rep (I : Ideal) (M : Mem) (D : Nat → Prop) (f : Nat → Nat) : Prop where
  morph : Morph I.V M.W D f
  dom : ∀ a, D a → a + 1 + szW I.V a ≤ I.V.length
  apart : ∀ a b, D a → D b → a < b → a + 1 + szW I.V a ≤ b
  obj : ∀ a, D a → f a ∈ (objsAll M).map (·.a)
  lenR : I.roots.length = M.roots.length
  roots : ∀ i, i < I.roots.length → Cor f D (I.roots.getD i 0) (M.roots.getD i 0)
  lenK : I.weak.length = M.weak.length
  weak : ∀ i, i < I.weak.length → Cor f D (I.weak.getD i 0) (M.weak.getD i 0) ∨ (M.weak.getD i 0 = 2 ∧ ∃ a : Nat, ptsW (I.weak.getD i 0) = (a : Int) ∧ ¬ D a)
  ids1 : ∀ u s, (u, s) ∈ I.ids → ∀ a : Nat, ptsW u = (a : Int) → D a → ∃ v, Cor f D u v ∧ (v, s) ∈ M.ids
  ids2 : ∀ v s, (v, s) ∈ M.ids → ∃ u, (u, s) ∈ I.ids ∧ Cor f D u v
  wkV : ∀ i, i < I.weak.length → ptsW (I.weak.getD i 0) < (I.V.length : Int)
  idV : ∀ u s, (u, s) ∈ I.ids → ptsW u < (I.V.length : Int)
  nodes : ∀ a, D a → a ∈ I.P
theorem fld_pts {M : Mem} (hg : goodB M = true) {u : Int} (hf : fldB (startsM M) u = true) (h1 : kindW u = 0) (h2 : u ≠ 0) : ∃ a : Nat, ptsW u = (a : Int) ∧ a ∈ (objsAll M).map (·.a) := by
  have hs := (good_parts hg).1
  have hin : placeW u ∈ startsM M := by
    unfold fldB at hf
    rw [if_pos h1] at hf
    simp only [Bool.or_eq_true, beq_iff_eq] at hf
    rcases hf with q | q
    · exact absurd q h2
    · exact List.contains_iff_mem.1 q
  obtain ⟨x, hx, e⟩ := List.mem_map.1 hin
  have l1 := (mem_in hs hx).1
  have l2 := len_small hs
  refine ⟨x.a, ?_, List.mem_map.2 ⟨x, hx, rfl⟩⟩
  unfold ptsW
  rw [if_pos ⟨h1, h2, by unfold placeW at e; omega⟩]
  exact e.symm
theorem Moved.two {M N : Mem} {go : Int → Int × Bool} {E : Nat → Prop} {g : Nat → Nat} (hm : Moved M N go E g) : go 2 = (2, true) := by
  obtain ⟨all, hk⟩ := hm.kept
  have hf : fldB (startsM M) 2 = true := by unfold fldB; simp [kindW]
  have h2 : (go 2).2 = true := by
    cases hc : (go 2).2 with
    | true => rfl
    | false =>
      have := (hk.no 2 hf hc).1
      simp [pointedB] at this
  rcases hk.yes 2 hf h2 with ⟨_, e⟩ | ⟨a, h3, _⟩
  · exact Prod.ext e h2
  · simp [ptsW, kindW] at h3
theorem ids_fld {M : Mem} (hg : goodB M = true) {v s : Int} (h : (v, s) ∈ M.ids) : fldB (startsM M) v = true ∧ kindW v = 0 ∧ v ≠ 0 ∧ 1 ≤ s := by
  have h1 := (((idsB_iff _ _ _).1 (good_parts hg).2.2.2.2.2).1 _ h).1
  obtain ⟨a1, a2, a3, a4⟩ := h1
  refine ⟨?_, a1, a2, a4⟩
  unfold fldB
  rw [if_pos a1, a3]; simp
section
variable {I : Ideal} {M : Mem} {D : Nat → Prop} {f : Nat → Nat}
/-- WHAT IS COME TO. -/
theorem Rep.reach (h : Rep I M D f) (hg : goodB M = true) : reachP M = (reachI I).map (fun o => obW M.W (f o.a)) ∧ InD I.V D (reachI I) ∧ (reachI I).length ≤ I.V.length ∧ ((reachI I).map (·.a)).Nodup := by
  obtain ⟨s1, s2⟩ := comes_sim h.morph I.roots M.roots [] (fun o ho => by simp at ho) h.lenR h.roots
  have s1' : comesP M.W [] M.roots = (comesP I.V [] I.roots).map (fun o => obW M.W (f o.a)) := s1
  obtain ⟨r1, r2⟩ := reachG_sim h.morph M.W.length 0 _ s2
  have e1 : reachP M = (reachG I.V M.W.length 0 (comesP I.V [] I.roots)).map (fun o => obW M.W (f o.a)) := by unfold reachP; rw [s1', r1]
  have hga := reachP_gath hg
  have l1 : (reachP M).length ≤ M.W.length := Nat.le_trans hga.len (objs_len (good_parts hg).1)
  have l2 : (reachG I.V M.W.length 0 (comesP I.V [] I.roots)).length = (reachP M).length := by rw [e1, List.length_map]
  have hnd : ((reachG I.V M.W.length 0 (comesP I.V [] I.roots)).map (·.a)).Nodup := by
      have := hga.nodup
      rw [e1, List.map_map] at this
      unfold List.Nodup at this ⊢
      rw [List.pairwise_map] at this ⊢
      exact this.imp fun {a b} hab e => hab (by show f a.a = f b.a; rw [e])
  have l3 : (reachP M).length ≤ I.V.length := by
    rw [← l2]
    have hnd : ((reachG I.V M.W.length 0 (comesP I.V [] I.roots)).map (·.a)).Nodup := by
      have := hga.nodup
      rw [e1, List.map_map] at this
      unfold List.Nodup at this ⊢
      rw [List.pairwise_map] at this ⊢
      exact this.imp fun {a b} hab e => hab (by show f a.a = f b.a; rw [e])
    have := len_sub _ (List.range I.V.length) hnd fun a ha => by
      obtain ⟨o, ho, rfl⟩ := List.mem_map.1 ha
      exact List.mem_range.2 (by have := h.dom _ (r2 o ho).1; omega)
    simpa using this
  have e2 : reachI I = reachG I.V M.W.length 0 (comesP I.V [] I.roots) := reach_fuel I.V _ _ 0 _ (by omega) (by omega)
  rw [e2]
  exact ⟨e1, r2, by omega, hnd⟩
theorem Rep.live (h : Rep I M D f) (hg : goodB M = true) : liveM M = liveI I := by
  obtain ⟨e, hi, -⟩ := h.reach hg
  unfold liveM liveI
  rw [e, List.map_map]
  congr 1
  refine List.map_congr_left fun o ho => ?_
  obtain ⟨hd, eo⟩ := hi o ho
  show 1 + (obW M.W (f o.a)).n = 1 + o.n
  unfold Ob.n
  rw [eo]
  show 1 + (hSize (wat M.W (f o.a))).toNat = 1 + (hSize (wat I.V o.a)).toNat
  rw [h.morph.size _ hd]
/-- BEHIND A COLLECTION. -/
theorem Rep.moved {N : Mem} {go : Int → Int × Bool} {E : Nat → Prop} {g : Nat → Nat} (h : Rep I M D f) (hm : Moved M N go E g) : Rep I N (fun a => D a ∧ E (f a)) (fun a => g (f a)) := by
  obtain ⟨all, hk⟩ := hm.kept
  obtain ⟨hs, hob, hr, hw, hfo, hid⟩ := good_parts hk.goodM
  refine ⟨h.morph.comp hk.morph, fun a ha => h.dom a ha.1, fun a b ha hb => h.apart a b ha.1 hb.1, fun a ha => hm.obj _ ha.2, h.lenR.trans hk.lenR, fun i hi => (h.roots i hi).comp (hk.roots i (by rw [← h.lenR]; exact hi)), by rw [hk.weak, List.length_map]; exact h.lenK, fun i hi => ?_, fun u s hu a ha hd => ?_, fun v s hv => ?_, h.wkV, h.idV, fun a ha => h.nodes a ha.1⟩
  · have hi2 : i < M.weak.length := by rw [← h.lenK]; exact hi
    have e : N.weak.getD i 0 = if (go (M.weak.getD i 0)).2 then (go (M.weak.getD i 0)).1 else 2 := by
      rw [hk.weak]; simp [List.getD_eq_getElem?_getD, hi2]
    have hf := fieldsB_at hw hi2
    rcases h.weak i hi with c | ⟨c1, a, c2, c3⟩
    · by_cases hy : (go (M.weak.getD i 0)).2 = true
      · left
        rw [e, if_pos hy]
        exact c.comp (hk.yes _ hf hy)
      · right
        rw [e, if_neg hy]
        rcases c with ⟨c1, c2⟩ | ⟨a, c1, c2, c3, -⟩
        · exfalso
          obtain ⟨p1, -⟩ := hk.no _ hf (by simpa using hy)
          simp only [pointedB, Bool.and_eq_true, decide_eq_true_eq] at p1
          obtain ⟨b, hb, -⟩ := fld_pts hk.goodM hf p1.1 p1.2
          rw [c2] at hb
          omega
        · exact ⟨rfl, a, c1, fun q => hy (hm.back _ _ hf c3 q.2)⟩
    · right
      rw [e, c1, hm.two]
      exact ⟨rfl, a, c2, fun q => c3 q.1⟩
  · obtain ⟨v, c1, c2⟩ := h.ids1 u s hu a ha hd.1
    obtain ⟨hf, k1, k2, k3⟩ := ids_fld hk.goodM c2
    have hp : ptsW v = (f a : Int) := by
      rcases c1 with ⟨q1, -⟩ | ⟨b, q1, q2, q3, -⟩
      · omega
      · obtain rfl : b = a := by omega
        exact q3
    have hy := hm.back v (f a) hf hp hd.2
    refine ⟨(go v).1, c1.comp (hk.yes v hf hy), ?_⟩
    rw [hk.ids]
    exact List.mem_filterMap.2 ⟨(v, s), c2, by simp [hy]⟩
  · rw [hk.ids] at hv
    obtain ⟨x, hx, e⟩ := List.mem_filterMap.1 hv
    obtain ⟨x1, x2⟩ := x
    simp only at e
    split at e
    · rename_i hy
      simp only [Option.some.injEq, Prod.mk.injEq] at e
      obtain ⟨e1, rfl⟩ := e
      obtain ⟨u, u1, u2⟩ := h.ids2 x1 x2 hx
      refine ⟨u, u1, ?_⟩
      rw [← e1]
      exact u2.comp (hk.yes x1 (ids_fld hk.goodM hx).1 hy)
    · cases e
end
def Ideal.new (I : Ideal) (kind : Int) (us : List Int) : Ideal := { I with V := I.V ++ headW kind 0 0 us.length :: us, P := I.P ++ [I.V.length] }
def newD (I : Ideal) (D : Nat → Prop) (a : Nat) : Prop := D a ∨ a = I.V.length
def newF (I : Ideal) (p : Nat) (f : Nat → Nat) (a : Nat) : Nat := if a = I.V.length then p else f a
section
variable {I : Ideal} {M : Mem} {D : Nat → Prop} {f : Nat → Nat}
theorem new_old (I : Ideal) (kind : Int) (us : List Int) {i : Nat} (h : i < I.V.length) : wat (I.new kind us).V i = wat I.V i := by
  unfold wat Ideal.new
  simp only [List.getD_eq_getElem?_getD, List.getElem?_append_left h]
theorem new_hd (I : Ideal) (kind : Int) (us : List Int) : wat (I.new kind us).V I.V.length = headW kind 0 0 us.length := by
  unfold wat Ideal.new
  simp [List.getD_eq_getElem?_getD]
theorem new_fld (I : Ideal) (kind : Int) (us : List Int) (j : Nat) : wat (I.new kind us).V (I.V.length + 1 + j) = us.getD j 0 := by
  unfold wat Ideal.new
  simp only [List.getD_eq_getElem?_getD]
  rw [List.getElem?_append_right (by omega), show I.V.length + 1 + j - I.V.length = j + 1 by omega]
  rfl
theorem Rep.new (h : Rep I M D f) {N : Mem} {p : Nat} {kind : Int} {us : List Int} (hk : 0 ≤ kind ∧ kind ≤ 255) (hz : us.length ≤ 4096)
    (hW : ∀ a, D a → ∀ i, f a ≤ i → i < f a + 1 + szW I.V a → wat N.W i = wat M.W i)
    (hobj : ∀ b ∈ (objsAll M).map (·.a), b ∈ (objsAll N).map (·.a)) (hpo : p ∈ (objsAll N).map (·.a)) (hpn : ¬ p ∈ (objsAll M).map (·.a))
    (hd : wat N.W p = headW kind 0 0 us.length) (hr : N.roots = M.roots) (hwk : N.weak = M.weak) (hi : N.ids = M.ids)
    (hf : rawB kind = false → ∀ j, j < us.length → Cor f D (us.getD j 0) (wat N.W (p + 1 + j)))
    (hraw : rawB kind = true → ∀ j, j < us.length → wat N.W (p + 1 + j) = us.getD j 0) : Rep (I.new kind us) N (newD I D) (newF I p f) := by
  have hlt : ∀ a, D a → a < I.V.length := fun a ha => by have := h.dom a ha; omega
  have hcor : ∀ {u v : Int}, Cor f D u v → Cor (newF I p f) (newD I D) u v := fun hc => hc.mono fun a ha => ⟨Or.inl ha, by unfold newF; rw [if_neg (by have := hlt a ha; omega)]⟩
  have hF : ∀ a, D a → newF I p f a = f a := fun a ha => by unfold newF; rw [if_neg (by have := hlt a ha; omega)]
  have hP : newF I p f I.V.length = p := by unfold newF; rw [if_pos rfl]
  obtain ⟨d1, d2, d3, d4, d5⟩ := headW_hd kind 0 0 (us.length : Int) hk (by omega) (by omega) ⟨by omega, by omega⟩
  have hw : ∀ a, D a → wat (I.new kind us).V a = wat I.V a := fun a ha => new_old I kind us (hlt a ha)
  have hs : ∀ a, D a → szW (I.new kind us).V a = szW I.V a := fun a ha => by unfold szW; rw [hw a ha]
  have hsn : szW (I.new kind us).V I.V.length = us.length := by unfold szW; rw [new_hd, d5]; omega
  have hWa : ∀ a, D a → wat N.W (f a) = wat M.W (f a) := fun a ha => hW a ha (f a) (Nat.le_refl _) (by omega)
  have hlen : (I.new kind us).V.length = I.V.length + 1 + us.length := by unfold Ideal.new; simp; omega
  refine ⟨⟨fun a b ha hb e => ?_, fun a ha => ?_, fun a ha => ?_, fun a ha hq k hk2 => ?_, fun a ha hq k hk2 => ?_⟩, fun a ha => ?_, fun a b ha hb hab => ?_, fun a ha => ?_, by rw [hr]; exact h.lenR, fun i hi2 => by rw [hr]; exact hcor (h.roots i hi2), by rw [hwk]; exact h.lenK, fun i hi2 => ?_, fun u s hu a ha hd2 => ?_, fun v s hv => ?_, fun i hi2 => ?_, fun u s hu => ?_, fun a ha => ?_⟩
  · rcases ha with ha | rfl <;> rcases hb with hb | rfl
    · rw [hF a ha, hF b hb] at e; exact h.morph.inj a b ha hb e
    · rw [hF a ha, hP] at e; exact absurd (h.obj a ha) (by rw [e]; exact hpn)
    · rw [hF b hb, hP] at e; exact absurd (h.obj b hb) (by rw [← e]; exact hpn)
    · rfl
  · rcases ha with ha | rfl
    · rw [hF a ha, hWa a ha, hw a ha]; exact h.morph.kind a ha
    · rw [hP, hd, new_hd]
  · rcases ha with ha | rfl
    · rw [hF a ha, hWa a ha, hw a ha]; exact h.morph.size a ha
    · rw [hP, hd, new_hd]
  · rcases ha with ha | rfl
    · rw [hs a ha] at hk2
      rw [hw a ha] at hq
      have hl := h.dom a ha
      rw [hF a ha, new_old I kind us (by omega), hW a ha _ (by omega) (by omega)]
      exact hcor (h.morph.fld a ha hq k hk2)
    · rw [hsn] at hk2
      rw [new_hd, d2] at hq
      rw [hP, new_fld]
      exact hcor (hf hq k hk2)
  · rcases ha with ha | rfl
    · rw [hs a ha] at hk2
      rw [hw a ha] at hq
      have hl := h.dom a ha
      rw [hF a ha, new_old I kind us (by omega), hW a ha _ (by omega) (by omega)]
      exact h.morph.raw a ha hq k hk2
    · rw [hsn] at hk2
      rw [new_hd, d2] at hq
      rw [hP, new_fld]
      exact hraw hq k hk2
  · rw [hlen]
    rcases ha with ha | rfl
    · rw [hs a ha]; have := h.dom a ha; omega
    · rw [hsn]; omega
  · rcases ha with ha | rfl
    · rw [hs a ha]
      rcases hb with hb | rfl
      · exact h.apart a b ha hb hab
      · exact h.dom a ha
    · rcases hb with hb | rfl
      · have := hlt b hb; omega
      · omega
  · rcases ha with ha | rfl
    · rw [hF a ha]; exact hobj _ (h.obj a ha)
    · rw [hP]; exact hpo
  · rw [hwk]
    rcases h.weak i hi2 with c | ⟨c1, a, c2, c3⟩
    · exact Or.inl (hcor c)
    · exact Or.inr ⟨c1, a, c2, fun q => by
        rcases q with q | q
        · exact c3 q
        · have := h.wkV i hi2; rw [c2] at this; omega⟩
  · rw [hi]
    rcases hd2 with q | q
    · obtain ⟨v, c1, c2⟩ := h.ids1 u s hu a ha q
      exact ⟨v, hcor c1, c2⟩
    · have := h.idV u s hu; rw [ha] at this; omega
  · rw [hi] at hv
    obtain ⟨u, c1, c2⟩ := h.ids2 v s hv
    exact ⟨u, c1, hcor c2⟩
  · rw [hlen]; have := h.wkV i hi2; show ptsW (I.weak.getD i 0) < _; omega
  · rw [hlen]; have := h.idV u s hu; omega
  · show a ∈ I.P ++ [I.V.length]
    rcases ha with ha | rfl
    · exact List.mem_append.2 (Or.inl (h.nodes a ha))
    · simp
end
end Go.Proofs.YtelhoppfidibiaaGreatDoor
