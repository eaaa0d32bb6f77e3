/- What Object does to a memory that holds an ideal one: plainly. -/
import Derived.Test.YtelhoppfidibiaaGreatDoorJOb06
import Derived.Test.YtelhoppfidibiaaGreatDoorJOb04
namespace Go.Proofs.YtelhoppfidibiaaGreatDoor
open Go.RowKit
set_option linter.unusedVariables false
set_option linter.unusedSimpArgs false

section
variable {I : Ideal} {M : Mem} {D : Nat → Prop} {f : Nat → Nat} {ten nx : Int}
def Holds (I : Ideal) (M : Mem) : Prop := ∃ D f, Rep I M D f
theorem Holds.moved {N : Mem} {go : Int → Int × Bool} {E : Nat → Prop} {g : Nat → Nat} (h : Holds I M) (hm : Moved M N go E g) : Holds I N := by
  obtain ⟨D, f, h⟩ := h
  exact ⟨_, _, h.moved hm⟩
theorem Holds.major (h : Holds I M) (hI : HInv M nx) : Holds I (majorH M) := by
  unfold majorH
  split
  · rename_i hl; exact h.moved (major_moved (hI.full hl))
  · exact h
theorem Holds.minor (ht : 0 ≤ ten ∧ ten ≤ 15) (h : Holds I M) (hI : HInv M nx) : Holds I (minorH M ten) := by
  unfold minorH
  split
  · rename_i hl; exact h.moved (minor_moved ⟨hI.ok, hI.chk, ht, by assumption⟩)
  · exact h.major hI
theorem Holds.live (h : Holds I M) (hI : HInv M nx) : liveM M = liveI I := by
  obtain ⟨D, f, h⟩ := h
  exact h.live (chk_zero hI.chk).1
theorem Holds.mid (ht : 0 ≤ ten ∧ ten ≤ 15) (h : Holds I M) (hI : HInv M nx) (sz : Nat) : Holds I (midM M ten sz) := by
  have h1 : Holds I (o1M M ten (1 + sz)) := by
    unfold o1M
    split
    · exact h.minor ht hI
    · exact h
  unfold midM o2M
  split
  · exact h1.major (o1_inv ht hI).1
  · exact h1
theorem fill_cor (kind : Int) (f : Nat → Nat) (D : Nat → Prop) : Cor f D (fillW kind) (fillW kind) := by
  left
  refine ⟨?_, rfl⟩
  unfold fillW
  split <;> decide
/-- A new object in a memory in which it has room. -/
theorem Rep.o3 (h : Rep I M D f) (hI : HInv M nx) (kind : Int) (sz : Nat) (hk : 0 ≤ kind ∧ kind ≤ 255) (hz : sz ≤ 4096) (hc : o3C M (1 + sz) = 0) :
    Rep (I.new kind (List.replicate sz (fillW kind))) (o3M M kind (List.replicate sz (fillW kind))) (newD I D) (newF I (atM M (1 + sz)) f) := by
  obtain ⟨g1, g2, g3⟩ := o3M_inv hI kind sz hk hz hc
  obtain ⟨lN, lO, hg⟩ := good_of hI.chk
  have hs := hg.shp
  have h1 := hs.h1; have h2 := hs.t2; have h5 := hs.base; have h7 := hs.t1; have h8 := hs.w; have h9 := hs.p2; have h10 := hs.p1; have h11 := hs.o1
  have hl : (List.replicate sz (fillW kind)).length = sz := by simp
  have hgt : ∀ j, j < sz → (List.replicate sz (fillW kind)).getD j 0 = fillW kind := fun j hj => by rw [List.getD_eq_getElem?_getD, List.getElem?_replicate, if_pos hj]; rfl
  have hall : (objsAll M).map (·.a) = lN ++ lO := by
    rw [hg.all, List.map_map]; exact (List.map_congr_left fun x _ => rfl).trans (List.map_id _)
  have hob : ∀ a, D a → f a ∈ lN ++ lO := fun a ha => by rw [← hall]; exact h.obj a ha
  have hsz : ∀ a, D a → szW M.W (f a) = szW I.V a := fun a ha => by unfold szW; rw [h.morph.size a ha]
  have rn := fun b hb => hg.n.mem b hb
  have ro := fun b hb => hg.o.mem b hb
  have hfl : rawB kind = false → ∀ x ∈ List.replicate sz (fillW kind), fldB [] x = true ∧ kindW x ≠ 0 := fun hr x hx => by rw [(List.mem_replicate.1 hx).2]; exact fillW_fld kind hr
  have hds := g3.hd
  have hfs := g3.fld
  unfold o3M atM at hds hfs ⊢
  rw [hl] at hds hfs ⊢
  by_cases q : M.top + (1 + (sz : Int)) ≤ M.half
  · simp only [if_pos q] at hds hfs ⊢
    have hN := hg.newN kind (List.replicate sz (fillW kind)) hk (by rw [hl]; exact hz) (by rw [hl]; omega) fun hr x hx => fldB_sub (by simp) (hfl hr x hx).1
    have hallN : (objsAll (newNM M kind (List.replicate sz (fillW kind)))).map (·.a) = (lN ++ [M.base + M.top.toNat]) ++ lO := by
      rw [hN.all, List.map_map]; exact (List.map_congr_left fun x _ => rfl).trans (List.map_id _)
    have hw : M.base + M.top.toNat + 1 + (List.replicate sz (fillW kind)).length ≤ M.W.length := by rw [hl]; omega
    refine h.new hk (by rw [hl]; exact hz) (fun a ha i i1 i2 => ?_) (fun b hb => ?_) (by rw [hallN]; simp) ?_ (by rw [hl]; exact hds) rfl rfl rfl (fun hr j hj => ?_) (fun hr j hj => ?_)
    · refine newW_out _ _ _ _ hw i ?_
      rw [hl]
      have hm := hob a ha
      have hz2 := hsz a ha
      rcases List.mem_append.1 hm with hm | hm
      · have := rn _ hm; left; omega
      · have := ro _ hm; right; omega
    · rw [hall] at hb
      rw [hallN]
      simp only [List.mem_append, List.mem_singleton] at hb ⊢
      rcases hb with hb | hb
      · exact Or.inl (Or.inl hb)
      · exact Or.inr hb
    · rw [hall]
      intro hm
      rcases List.mem_append.1 hm with hm | hm
      · have := rn _ hm; omega
      · have := ro _ hm; omega
    · rw [hl] at hj; rw [hgt j hj, hfs j hj]; exact fill_cor kind f D
    · rw [hl] at hj; rw [hgt j hj, hfs j hj]
  · simp only [if_neg q] at hds hfs ⊢
    have q2 : 1 + (sz : Int) ≤ M.old - M.oldTop := by
      unfold o3C at hc
      rw [if_neg q] at hc
      split at hc
      · assumption
      · omega
    have hN := hg.newO kind (List.replicate sz (fillW kind)) hk (by rw [hl]; exact hz) (by rw [hl]; omega) fun hr x hx => ⟨fldB_sub (by simp) (hfl hr x hx).1, by unfold youngB; simp [(hfl hr x hx).2]⟩
    have hallN : (objsAll (newOM M kind (List.replicate sz (fillW kind)))).map (·.a) = lN ++ (lO ++ [(2 * M.half).toNat + M.oldTop.toNat]) := by
      rw [hN.all, List.map_map]; exact (List.map_congr_left fun x _ => rfl).trans (List.map_id _)
    have hw : (2 * M.half).toNat + M.oldTop.toNat + 1 + (List.replicate sz (fillW kind)).length ≤ M.W.length := by rw [hl]; omega
    refine h.new hk (by rw [hl]; exact hz) (fun a ha i i1 i2 => ?_) (fun b hb => ?_) (by rw [hallN]; simp) ?_ (by rw [hl]; exact hds) rfl rfl rfl (fun hr j hj => ?_) (fun hr j hj => ?_)
    · refine newW_out _ _ _ _ hw i ?_
      rw [hl]
      have hm := hob a ha
      have hz2 := hsz a ha
      rcases List.mem_append.1 hm with hm | hm
      · have := rn _ hm; left; omega
      · have := ro _ hm; left; omega
    · rw [hall] at hb
      rw [hallN]
      simp only [List.mem_append, List.mem_singleton] at hb ⊢
      rcases hb with hb | hb
      · exact Or.inl hb
      · exact Or.inr (Or.inl hb)
    · rw [hall]
      intro hm
      rcases List.mem_append.1 hm with hm | hm
      · have := rn _ hm; omega
      · have := ro _ hm; omega
    · rw [hl] at hj; rw [hgt j hj, hfs j hj]; exact fill_cor kind f D
    · rw [hl] at hj; rw [hgt j hj, hfs j hj]
/-- A NEW OBJECT, the collectors going if they must. -/
theorem Holds.obj (ht : 0 ≤ ten ∧ ten ≤ 15) (h : Holds I M) (hI : HInv M nx) (kind : Int) (sz : Nat) (hk : 0 ≤ kind ∧ kind ≤ 255) (hz : sz ≤ 4096) (hc : objC M ten sz = 0) :
    ∃ D f, Rep (I.new kind (List.replicate sz (fillW kind))) (objM M ten kind sz) (newD I D) f ∧ objPl M ten sz = (f I.V.length : Int) := by
  obtain ⟨m1, m2⟩ := mid_inv (sz := sz) ht hI
  obtain ⟨c1, c2, c3⟩ := objC_zero hc
  obtain ⟨r1, r2, r3⟩ := obj_ok (ten := ten) (kind := kind) (sz := sz) c1 c2 c3
  obtain ⟨D, f, hm⟩ := h.mid ht hI sz
  refine ⟨D, _, by rw [r2]; exact hm.o3 m1 kind sz hk hz c3, ?_⟩
  rw [r3]
  unfold newF
  rw [if_pos rfl]
end
def Ideal.setR (I : Ideal) (r : Nat) (u : Int) : Ideal := { I with roots := I.roots.set r u }
def Ideal.put (I : Ideal) (i : Nat) (u : Int) : Ideal := { I with V := I.V.set i u }
theorem pts_addr {n : Nat} (h : n ≤ 1000000000) : ptsW (addrW (n : Int)) = (n : Int) ∧ kindW (addrW (n : Int)) = 0 ∧ addrW (n : Int) ≠ 0 := by
  have e : addrW (n : Int) = (n : Int) * 4 + 4 := by unfold addrW; omega
  have k : kindW (addrW (n : Int)) = 0 := by rw [e]; unfold kindW; omega
  refine ⟨?_, k, by rw [e]; omega⟩
  unfold ptsW
  rw [if_pos ⟨k, by rw [e]; omega, by rw [e]; omega⟩, e]
  unfold placeW; omega
theorem cor_addr {f : Nat → Nat} {D : Nat → Prop} {a : Nat} (h : D a) (h1 : a ≤ 1000000000) (h2 : f a ≤ 1000000000) : Cor f D (addrW (a : Int)) (addrW (f a : Int)) := by
  obtain ⟨a1, a2, a3⟩ := pts_addr h1
  obtain ⟨b1, b2, b3⟩ := pts_addr h2
  exact Or.inr ⟨a, a1, h, b1, a2, a3, b2, b3⟩
section
variable {I : Ideal} {M : Mem} {D : Nat → Prop} {f : Nat → Nat} {ten nx : Int}
theorem Rep.setR (h : Rep I M D f) (r : Nat) {u v : Int} (hc : Cor f D u v) : Rep (I.setR r u) (rootM M r v) D f := by
  refine ⟨h.morph, h.dom, h.apart, h.obj, by show (I.roots.set r u).length = (M.roots.set r v).length; rw [List.length_set, List.length_set]; exact h.lenR, fun i hi => ?_, h.lenK, h.weak, h.ids1, h.ids2, h.wkV, h.idV, h.nodes⟩
  have hi' : i < I.roots.length := by have : i < (I.roots.set r u).length := hi; rwa [List.length_set] at this
  have hi2 : i < M.roots.length := by rw [← h.lenR]; exact hi'
  show Cor f D ((I.roots.set r u).getD i 0) ((M.roots.set r v).getD i 0)
  by_cases e : r = i
  · subst e
    simp only [List.getD_eq_getElem?_getD, List.getElem?_set_self hi', List.getElem?_set_self hi2, Option.getD_some]
    exact hc
  · simp only [List.getD_eq_getElem?_getD, List.getElem?_set_ne e]
    have := h.roots i hi'
    simpa only [List.getD_eq_getElem?_getD] using this
theorem Holds.copy (h : Holds I M) (r : Nat) {s : Nat} (hs : s < I.roots.length) : Holds (I.setR r (I.roots.getD s 0)) (rootM M r (M.roots.getD s 0)) := by
  obtain ⟨D, f, h⟩ := h
  exact ⟨D, f, h.setR r (h.roots s hs)⟩
theorem Holds.plain (h : Holds I M) (r : Nat) {u : Int} (hu : ptsW u < 0) : Holds (I.setR r u) (rootM M r u) := by
  obtain ⟨D, f, h⟩ := h
  exact ⟨D, f, h.setR r (Or.inl ⟨hu, rfl⟩)⟩
theorem Rep.small (h : Rep I M D f) (hg : goodB M = true) {a : Nat} (ha : D a) : f a ≤ 1000000000 := by
  obtain ⟨x, hx, e⟩ := List.mem_map.1 (h.obj a ha)
  have := (mem_in (good_parts hg).1 hx).1
  have := len_small (good_parts hg).1
  omega
theorem Holds.make (ht : 0 ≤ ten ∧ ten ≤ 15) (h : Holds I M) (hI : HInv M nx) (kind : Int) (sz : Nat) (hk : 0 ≤ kind ∧ kind ≤ 255) (hz : sz ≤ 4096) (hc : objC M ten sz = 0) (r : Nat) (hl : I.V.length ≤ 1000000000) :
    Holds ((I.new kind (List.replicate sz (fillW kind))).setR r (addrW (I.V.length : Int))) (rootM (objM M ten kind sz) r (addrW (objPl M ten sz))) := by
  obtain ⟨D, f, hR, e⟩ := h.obj ht hI kind sz hk hz hc
  have hg := (chk_zero (objM_inv ht hI kind sz hk hz).1.chk).1
  rw [e]
  exact ⟨_, f, hR.setR r (cor_addr (Or.inr rfl) hl (hR.small hg (Or.inr rfl)))⟩
/-- A root that points to an object: what Get and Put ask of it. -/
structure RootAt (I : Ideal) (r a : Nat) (k : Nat) : Prop where
  lt : r < I.roots.length
  pts : ptsW (I.roots.getD r 0) = (a : Int)
  raw : rawB (hKind (wat I.V a)) = false
  k : k < szW I.V a
theorem Rep.field (h : Rep I M D f) {r a k s : Nat} (hr : RootAt I r a k) (hs : s < I.roots.length) : D a ∧ fieldC M (r : Int) (k : Int) (s : Int) = 0 ∧ fieldP M (r : Int) (k : Int) = f a + 1 + k := by
  rcases h.roots r hr.lt with ⟨q, -⟩ | ⟨b, c1, c2, c3, c4, c5, c6, c7⟩
  · have := hr.pts; omega
  · have hp := hr.pts
    obtain rfl : b = a := by omega
    have hpl := (pts_at c3).2.2
    have e1 : (placeW (M.roots.getD r 0)).toNat = f b := by rw [hpl]; omega
    refine ⟨c2, ?_, ?_⟩
    · unfold fieldC
      rw [rootB_true.2 ⟨by omega, by rw [← h.lenR]; have := hr.lt; omega⟩, rootB_true.2 ⟨by omega, by rw [← h.lenR]; omega⟩]
      simp only [Bool.and_self, if_true, Int.toNat_natCast]
      have e2 : ptrB (M.roots.getD r 0) = true := by unfold ptrB; rw [c6]; simpa using c7
      have e3 : rawB (hKind (wat M.W (placeW (M.roots.getD r 0)).toNat)) = false := by rw [e1, h.morph.kind b c2]; exact hr.raw
      have e4 : 0 ≤ (k : Int) ∧ (k : Int) < hSize (wat M.W (placeW (M.roots.getD r 0)).toNat) := by
        have hk := hr.k
        unfold szW at hk
        rw [e1, h.morph.size b c2]; omega
      rw [if_pos (by rw [e2, e3]; rfl), if_pos e4]
    · unfold fieldP
      simp only [Int.toNat_natCast]
      rw [e1]
theorem Holds.get (h : Holds I M) {r a k s : Nat} (hr : RootAt I r a k) (hs : s < I.roots.length) :
    fieldC M (r : Int) (k : Int) (s : Int) = 0 ∧ Holds (I.setR s (wat I.V (a + 1 + k))) (rootM M s (wat M.W (fieldP M (r : Int) (k : Int)))) := by
  obtain ⟨D, f, h⟩ := h
  obtain ⟨h1, h2, h3⟩ := h.field hr hs
  rw [h3]
  exact ⟨h2, D, f, h.setR s (h.morph.fld a h1 hr.raw k hr.k)⟩
theorem Holds.put (h : Holds I M) (hI : HInv M nx) {r a k s : Nat} (hr : RootAt I r a k) (hs : s < I.roots.length) :
    fieldC M (r : Int) (k : Int) (s : Int) = 0 ∧ Holds (I.put (a + 1 + k) (I.roots.getD s 0)) (storeM M (fieldP M (r : Int) (k : Int)) (M.roots.getD s 0)) := by
  obtain ⟨D, f, h⟩ := h
  obtain ⟨h1, h2, h3⟩ := h.field hr hs
  refine ⟨h2, D, f, ?_⟩
  rw [h3]
  have hg := (chk_zero hI.chk).1
  obtain ⟨g1, g2, g3, g4, g5, g6⟩ := good_parts hg
  obtain ⟨lN, lO, hG⟩ := good_of hI.chk
  have hall : (objsAll M).map (·.a) = lN ++ lO := by
    rw [hG.all, List.map_map]; exact (List.map_congr_left fun x _ => rfl).trans (List.map_id _)
  have hob : ∀ a, D a → f a ∈ lN ++ lO := fun a ha => by rw [← hall]; exact h.obj a ha
  have hsz : ∀ a, D a → szW M.W (f a) = szW I.V a := fun a ha => by unfold szW; rw [h.morph.size a ha]
  have hk := hr.k
  have hjM : f a + 1 + k < M.W.length := by have := hG.inW (hob a h1); rw [hsz a h1] at this; omega
  have hjI : a + 1 + k < I.V.length := by have := h.dom a h1; omega
  have hWe : (storeM M (f a + 1 + k) (M.roots.getD s 0)).W = M.W.set (f a + 1 + k) (M.roots.getD s 0) := by unfold storeM; split <;> rfl
  obtain ⟨e1, e2, e3, e4, e5, e6, e7, e8, e9⟩ := storeM_same M (f a + 1 + k) (M.roots.getD s 0)
  -- words elsewhere
  have oM : ∀ i, i ≠ f a + 1 + k → wat (storeM M (f a + 1 + k) (M.roots.getD s 0)).W i = wat M.W i := fun i hi => by rw [hWe]; exact wat_set _ _ _ _ hi
  have oI : ∀ i, i ≠ a + 1 + k → wat (I.put (a + 1 + k) (I.roots.getD s 0)).V i = wat I.V i := fun i hi => wat_set _ _ _ _ hi
  have nM : wat (storeM M (f a + 1 + k) (M.roots.getD s 0)).W (f a + 1 + k) = M.roots.getD s 0 := by rw [hWe]; exact wat_set_same _ _ _ hjM
  have nI : wat (I.put (a + 1 + k) (I.roots.getD s 0)).V (a + 1 + k) = I.roots.getD s 0 := wat_set_same _ _ _ hjI
  have apI : ∀ b, D b → b ≠ a → ∀ i, b ≤ i → i < b + 1 + szW I.V b → i ≠ a + 1 + k := fun b hb hn i i1 i2 => by
    rcases Nat.lt_or_gt_of_ne hn with q | q
    · have := h.apart b a hb h1 q; omega
    · have := h.apart a b h1 hb q; omega
  have apM : ∀ b, D b → b ≠ a → ∀ i, f b ≤ i → i < f b + 1 + szW I.V b → i ≠ f a + 1 + k := fun b hb hn i i1 i2 => by
    have hn2 : f b ≠ f a := fun e => hn (h.morph.inj b a hb h1 e)
    rcases hG.apart (hob b hb) (hob a h1) hn2 with q | q
    · rw [hsz b hb] at q; omega
    · rw [hsz a h1] at q; omega
  have hdM : ∀ b, D b → wat (storeM M (f a + 1 + k) (M.roots.getD s 0)).W (f b) = wat M.W (f b) := fun b hb => oM _ (by
    by_cases e : b = a
    · subst e; omega
    · exact apM b hb e (f b) (Nat.le_refl _) (by omega))
  have hdI : ∀ b, D b → wat (I.put (a + 1 + k) (I.roots.getD s 0)).V b = wat I.V b := fun b hb => oI _ (by
    by_cases e : b = a
    · subst e; omega
    · exact apI b hb e b (Nat.le_refl _) (by omega))
  have hszI : ∀ b, D b → szW (I.put (a + 1 + k) (I.roots.getD s 0)).V b = szW I.V b := fun b hb => by unfold szW; rw [hdI b hb]
  have hlen : (I.put (a + 1 + k) (I.roots.getD s 0)).V.length = I.V.length := List.length_set
  have hobj : (objsAll (storeM M (f a + 1 + k) (M.roots.getD s 0))).map (·.a) = (objsAll M).map (·.a) := by
    obtain ⟨pN, pO⟩ := partN_set g2 (f a + 1 + k) (M.roots.getD s 0) (fun y hy => by
      obtain ⟨x, hx, ex⟩ := List.mem_map.1 (h.obj a h1)
      rw [← ex]
      refine all_apart g1 hx hy k ?_
      have hw := (mem_in g1 hx).2.1
      show k < (hSize x.w).toNat
      rw [hw, ex, h.morph.size a h1]
      exact hk)
    have e : objsAll (storeM M (f a + 1 + k) (M.roots.getD s 0)) = objsAll (setM M (f a + 1 + k) (M.roots.getD s 0)) := by unfold storeM; split <;> rfl
    rw [e]
    unfold objsAll
    rw [pN, pO]
  refine ⟨⟨h.morph.inj, fun b hb => by rw [hdM b hb, hdI b hb]; exact h.morph.kind b hb, fun b hb => by rw [hdM b hb, hdI b hb]; exact h.morph.size b hb, fun b hb hq i hi => ?_, fun b hb hq i hi => ?_⟩, fun b hb => by rw [hlen, hszI b hb]; exact h.dom b hb, fun b c hb hc hbc => by rw [hszI b hb]; exact h.apart b c hb hc hbc, fun b hb => by rw [hobj]; exact h.obj b hb, by rw [e7]; exact h.lenR, fun i hi => by rw [e7]; exact h.roots i hi, by rw [e8]; exact h.lenK, fun i hi => by rw [e8]; exact h.weak i hi, fun u s2 hu => by rw [e9]; exact h.ids1 u s2 hu, fun v s2 hv => by rw [e9] at hv; exact h.ids2 v s2 hv, fun i hi => by rw [hlen]; exact h.wkV i hi, fun u s2 hu => by rw [hlen]; exact h.idV u s2 hu, h.nodes⟩
  · rw [hszI b hb] at hi
    rw [hdI b hb] at hq
    by_cases e : b = a
    · subst e
      by_cases e2 : i = k
      · subst e2
        rw [nM, nI]
        exact h.roots s hs
      · rw [oM _ (by omega), oI _ (by omega)]
        exact h.morph.fld b hb hq i hi
    · rw [oM _ (apM b hb e _ (by omega) (by omega)), oI _ (apI b hb e _ (by omega) (by omega))]
      exact h.morph.fld b hb hq i hi
  · rw [hszI b hb] at hi
    rw [hdI b hb] at hq
    have e : b ≠ a := fun e => by subst e; rw [hr.raw] at hq; cases hq
    rw [oM _ (apM b hb e _ (by omega) (by omega)), oI _ (apI b hb e _ (by omega) (by omega))]
    exact h.morph.raw b hb hq i hi
end
section
variable {I : Ideal} {M : Mem} {D : Nat → Prop} {f : Nat → Nat} {ten nx : Int}
theorem Moved.live {N : Mem} {go : Int → Int × Bool} {E : Nat → Prop} {g : Nat → Nat} (hm : Moved M N go E g) : liveM N = liveM M := by
  obtain ⟨all, hk⟩ := hm.kept
  exact live_map hk.morph hk.lenW hk.lenR hk.roots
theorem live_major (hI : HInv M nx) : liveM (majorH M) = liveM M := by
  unfold majorH
  split
  · rename_i hl; exact (major_moved (hI.full hl)).live
  · rfl
theorem live_minor (ht : 0 ≤ ten ∧ ten ≤ 15) (hI : HInv M nx) : liveM (minorH M ten) = liveM M := by
  unfold minorH
  split
  · rename_i hl; exact (minor_moved (M := M) (ten := ten) ⟨hI.ok, hI.chk, ht, by assumption⟩).live
  · exact live_major hI
theorem majorC_full (h : majorC M ≠ 0) : M.old < (liveM M : Int) := by
  unfold majorC at h
  split at h
  · exact absurd rfl h
  · omega
theorem minorC_full (h : minorC M ≠ 0) : M.old < (liveM M : Int) := by
  unfold minorC at h
  split at h
  · exact absurd rfl h
  · exact majorC_full h
/-- IT IS FULL ONLY IF TOO MUCH IS ALIVE. -/
theorem obj_full (ht : 0 ≤ ten ∧ ten ≤ 15) (hI : HInv M nx) {sz : Nat} (hc : objC M ten sz ≠ 0) : M.old < (liveM M : Int) + 1 + sz := by
  by_cases h1 : o1C M (1 + sz) = 0
  · obtain ⟨i1, s1⟩ := o1_inv (n := 1 + (sz : Int)) ht hI
    have l1 : liveM (o1M M ten (1 + sz)) = liveM M := by
      unfold o1M
      split
      · exact live_minor ht hI
      · rfl
    have o1 := s1.old
    by_cases h2 : o2C (o1M M ten (1 + sz)) (1 + sz) = 0
    · have h3 : o3C (midM M ten sz) (1 + sz) ≠ 0 := fun e => hc (obj_ok (kind := 0) h1 h2 e).1
      unfold midM at h3
      generalize o1M M ten (1 + sz) = M1 at *
      unfold o3C at h3
      split at h3
      · exact absurd rfl h3
      · rename_i q1
        split at h3
        · exact absurd rfl h3
        · rename_i q2
          unfold o2M at q1 q2
          by_cases hb : o2B M1 (1 + sz) = true
          · rw [if_pos hb] at q1 q2
            unfold o2C at h2
            rw [if_pos hb] at h2
            unfold majorC at h2
            split at h2
            · rename_i hl
              unfold majorH at q1 q2
              rw [if_pos hl] at q1 q2
              have e1 : (majM M1).old = M1.old := rfl
              have e2 : (majM M1).oldTop = (liveM M1 : Int) := rfl
              rw [e1, e2] at q2
              omega
            · cases h2
          · rw [if_neg hb] at q1 q2
            exfalso
            apply hb
            unfold o2B
            rw [decide_eq_true (show M1.half < M1.top + (1 + sz) by omega), decide_eq_true (show M1.old - M1.oldTop < 1 + (sz : Int) by omega)]
            simp
    · unfold o2C at h2
      split at h2
      · have := majorC_full h2; omega
      · exact absurd rfl h2
  · unfold o1C at h1
    split at h1
    · have := minorC_full h1; omega
    · exact absurd rfl h1
theorem Rep.live_le (h : Rep I M D f) (hg : goodB M = true) : liveI I ≤ (I.P.map fun a => 1 + szW I.V a).sum := by
  obtain ⟨-, hi, -, hnd⟩ := h.reach hg
  have e : liveI I = (((reachI I).map (·.a)).map fun a => 1 + szW I.V a).sum := by
    unfold liveI
    rw [List.map_map]
    congr 1
    refine List.map_congr_left fun o ho => ?_
    obtain ⟨-, eo⟩ := hi o ho
    show 1 + o.n = 1 + szW I.V o.a
    unfold Ob.n szW
    rw [eo]; rfl
  rw [e]
  exact sum_sub _ _ _ hnd fun a ha => by
    obtain ⟨o, ho, rfl⟩ := List.mem_map.1 ha
    exact h.nodes _ (hi o ho).1
theorem Rep.live_all (h : Rep I M D f) (hg : goodB M = true) (hp : I.P.Nodup) (ha : ∀ a ∈ I.P, a ∈ (reachI I).map (·.a)) : liveI I = (I.P.map fun a => 1 + szW I.V a).sum := by
  have hle := h.live_le hg
  obtain ⟨-, hi, -, hnd⟩ := h.reach hg
  have e : liveI I = (((reachI I).map (·.a)).map fun a => 1 + szW I.V a).sum := by
    unfold liveI
    rw [List.map_map]
    congr 1
    refine List.map_congr_left fun o ho => ?_
    obtain ⟨-, eo⟩ := hi o ho
    show 1 + o.n = 1 + szW I.V o.a
    unfold Ob.n szW
    rw [eo]; rfl
  have := sum_sub (fun a => 1 + szW I.V a) _ _ hp ha
  omega
theorem reachI_roots (I : Ideal) {u : Int} (hu : u ∈ I.roots) {a : Nat} (h : ptsW u = (a : Int)) : a ∈ (reachI I).map (·.a) := by
  obtain ⟨t, ht⟩ := reachG_app I.V I.V.length 0 (comesP I.V [] I.roots)
  have hin : InO (reachI I) u := by
    unfold reachI
    rw [ht]
    exact inO_app (comesP_in I.V _ _ u hu)
  have := hin (by omega)
  rw [h] at this
  obtain ⟨o, ho, e⟩ := List.mem_map.1 (List.contains_iff_mem.1 this)
  exact List.mem_map.2 ⟨o, ho, by omega⟩
theorem Rep.shut (h : Rep I M D f) (hg : goodB M = true) {a : Nat} (ha : a ∈ (reachI I).map (·.a)) (hr : rawB (hKind (wat I.V a)) = false) {k : Nat} (hk : k < szW I.V a) {b : Nat} (hb : ptsW (wat I.V (a + 1 + k)) = (b : Int)) : b ∈ (reachI I).map (·.a) := by
  obtain ⟨-, hi, hl, -⟩ := h.reach hg
  obtain ⟨o, ho, rfl⟩ := List.mem_map.1 ha
  obtain ⟨-, eo⟩ := hi o ho
  have hw : o.w = wat I.V o.a := by rw [eo]; rfl
  have hs := reachG_shut I.V I.V.length 0 (comesP I.V [] I.roots) (fun j hj => by omega) (show (reachI I).length ≤ I.V.length + 0 from hl) o ho
  rcases hs with q | q
  · rw [hw, hr] at q; cases q
  · have := q (wat I.V (o.a + 1 + k)) (List.mem_map.2 ⟨k, List.mem_range.2 (by unfold Ob.n; rw [hw]; exact hk), rfl⟩) (by omega)
    rw [hb] at this
    obtain ⟨o2, ho2, e⟩ := List.mem_map.1 (List.contains_iff_mem.1 this)
    exact List.mem_map.2 ⟨o2, ho2, by omega⟩
/-- Nothing is come to where no root points. -/
theorem live_none (I : Ideal) (h : ∀ u ∈ I.roots, ptsW u < 0) : liveI I = 0 := by
  have e : ∀ us : List Int, (∀ u ∈ us, ptsW u < 0) → comesP I.V [] us = [] := by
    intro us
    induction us with
    | nil => intro _; rfl
    | cons u us ih =>
      intro hu
      have h1 := hu u (by simp)
      unfold comesP
      rw [List.foldl_cons, show comeP I.V [] u = [] by unfold comeP; rw [if_neg (by omega)]]
      exact ih fun v hv => hu v (by simp [hv])
  have e2 : ∀ n, reachG I.V n 0 [] = [] := fun n => by cases n <;> rfl
  unfold liveI reachI
  rw [e _ h, e2]; rfl
/-- A heap that is new. -/
def Ideal.fresh (n : Nat) : Ideal := ⟨[], [], List.replicate n 2, [], []⟩
theorem holds_fresh (half old card : Int) (n : Nat) : Holds (Ideal.fresh n) (newHM half old card n) := by
  refine ⟨fun _ => False, fun a => a, ⟨fun a b h => h.elim, fun a h => h.elim, fun a h => h.elim, fun a h => h.elim, fun a h => h.elim⟩, fun a h => h.elim, fun a b h => h.elim, fun a h => h.elim, rfl, fun i hi => ?_, rfl, fun i hi => ?_, fun u s hu => ?_, fun v s hv => ?_, fun i hi => ?_, fun u s hu => ?_, fun a h => h.elim⟩
  · have hi' : i < n := by simpa [Ideal.fresh] using hi
    left
    show ptsW ((List.replicate n (2 : Int)).getD i 0) < 0 ∧ (List.replicate n (2 : Int)).getD i 0 = (List.replicate n (2 : Int)).getD i 0
    rw [List.getD_eq_getElem?_getD, List.getElem?_replicate, if_pos hi']
    exact ⟨by decide, rfl⟩
  · simp [Ideal.fresh] at hi
  · simp [Ideal.fresh] at hu
  · simp [newHM, newM] at hv
  · simp [Ideal.fresh] at hi
  · simp [Ideal.fresh] at hu
end
end Go.Proofs.YtelhoppfidibiaaGreatDoor
