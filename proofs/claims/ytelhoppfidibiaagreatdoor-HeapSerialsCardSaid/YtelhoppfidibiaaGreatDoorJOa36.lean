/- What a right memory is, part by part; a new object laid behind a part: plainly. -/
import Derived.Test.YtelhoppfidibiaaGreatDoorJOa20
import Derived.Test.YtelhoppfidibiaaGreatDoorJOa18
import Derived.Laws.CopyOwn
import Derived.Test.YtelhoppfidibiaaGreatDoorJOa34
import Derived.Test.YtelhoppfidibiaaGreatDoorJOa19
import Derived.Test.YtelhoppfidibiaaGreatDoorJOa33
import Derived.Test.YtelhoppfidibiaaGreatDoorJOa32
import Derived.Test.YtelhoppfidibiaaGreatDoorJOa35
import Derived.Test.YtelhoppfidibiaaGreatDoorJOa23
namespace Go.Proofs.YtelhoppfidibiaaGreatDoor
open Go.RowKit
set_option linter.unusedVariables false
set_option linter.unusedSimpArgs false

def stL (lN lO : List Nat) : List Int := (lN ++ lO).map fun (a : Nat) => (a : Int)
theorem stL_mem {lN lO : List Nat} {b : Nat} : inSt (stL lN lO) (b : Int) = true ↔ b ∈ lN ++ lO := by
  rw [inSt_iff]
  unfold stL
  rw [List.mem_map]
  constructor
  · rintro ⟨c, hc, e⟩
    have e2 : c = b := by omega
    subst e2; exact hc
  · exact fun h => ⟨b, h, rfl⟩
theorem inSt_sub {st st' : List Int} (hs : ∀ x ∈ st, x ∈ st') {a : Int} (h : inSt st a = true) : inSt st' a = true := by
  rw [inSt_iff] at h ⊢; exact hs _ h
theorem fldB_sub {st st' : List Int} (hs : ∀ x ∈ st, x ∈ st') {u : Int} (h : fldB st u = true) : fldB st' u = true := by
  unfold fldB at h ⊢
  split at h
  · rename_i h0
    rw [if_pos h0]
    rw [Bool.or_eq_true] at h ⊢
    rcases h with h | h
    · exact Or.inl h
    · exact Or.inr (inSt_sub hs h)
  · rename_i h0
    rw [if_neg h0]; exact h
/-- A right memory, by where its objects lie. -/
structure Good (M : Mem) (lN lO : List Nat) : Prop where
  shp : Shp M
  n : Laid M.W M.base lN (M.base + M.top.toNat)
  o : Laid M.W (2 * M.half).toNat lO ((2 * M.half).toNat + M.oldTop.toNat)
  hd : ∀ b ∈ lN ++ lO, okHd M (obW M.W b) = true
  fld : ∀ b ∈ lN ++ lO, rawB (hKind (wat M.W b)) = false → ∀ j, j < szW M.W b → fldB (stL lN lO) (wat M.W (b + 1 + j)) = true
  roots : ∀ x ∈ M.roots, fldB (stL lN lO) x = true
  weak : ∀ x ∈ M.weak, fldB (stL lN lO) x = true
  ids : idsB (stL lN lO) [] M.ids = true
  crd : ∀ b ∈ lN ++ lO, rawB (hKind (wat M.W b)) = false → ∀ j, j < szW M.W b → crd M (obW M.W b) j = true
section
variable {M : Mem} {lN lO : List Nat}
theorem Good.partN (h : Good M lN lO) : partN M = (lN.map (obW M.W), true) := h.n.part
theorem Good.partO (h : Good M lN lO) : partO M = (lO.map (obW M.W), true) := h.o.part
theorem Good.all (h : Good M lN lO) : objsAll M = (lN ++ lO).map (obW M.W) := by
  unfold objsAll; rw [h.partN, h.partO, List.map_append]
theorem Good.starts (h : Good M lN lO) : startsM M = stL lN lO := by
  unfold startsM stL; rw [h.all, List.map_map]; rfl
theorem Good.goodB (h : Good M lN lO) : goodB M = true := by
  have hob : objsB M (okHd M) = true := by
    have hall : (objsAll M).all (okHd M) = true := by
      rw [List.all_eq_true, h.all]
      intro y hy
      obtain ⟨b, hb, rfl⟩ := List.mem_map.1 hy
      exact h.hd b hb
    unfold objsAll at hall
    rw [List.all_append, Bool.and_eq_true] at hall
    unfold objsB
    rw [hall.1, hall.2, h.partN, h.partO]; rfl
  have hro : fieldsB (startsM M) M.roots = true := by unfold fieldsB; rw [List.all_eq_true, h.starts]; exact h.roots
  have hwk : fieldsB (startsM M) M.weak = true := by unfold fieldsB; rw [List.all_eq_true, h.starts]; exact h.weak
  have hfl : (objsAll M).all (okFld M (startsM M)) = true := by
    rw [List.all_eq_true, h.all, h.starts]
    intro y hy
    obtain ⟨b, hb, rfl⟩ := List.mem_map.1 hy
    unfold okFld
    cases hq : rawB (hKind (obW M.W b).w) with
    | true => rfl
    | false =>
      rw [Bool.false_or]
      unfold fieldsB flds
      rw [List.all_eq_true]
      intro v hv
      obtain ⟨k, hk, rfl⟩ := List.mem_map.1 hv
      exact h.fld b hb hq k (List.mem_range.1 hk)
  unfold Go.Proofs.YtelhoppfidibiaaGreatDoor.goodB
  rw [shapeB_of h.shp, hob, hro, hwk, hfl, h.starts, h.ids]; rfl
theorem Good.chk (h : Good M lN lO) : chk M = 0 := by
  have hcd : cardsM M = true := by
    unfold cardsM
    rw [List.all_eq_true, h.all]
    intro y hy
    obtain ⟨b, hb, rfl⟩ := List.mem_map.1 hy
    unfold cardsO
    cases hq : rawB (hKind (obW M.W b).w) with
    | true => rfl
    | false =>
      rw [Bool.false_or]
      unfold cardsK
      rw [List.all_eq_true]
      intro k hk
      exact h.crd b hb hq k (List.mem_range.1 hk)
  unfold Go.Proofs.YtelhoppfidibiaaGreatDoor.chk
  rw [h.goodB, hcd]; rfl
theorem good_of (h : chk M = 0) : ∃ lN lO, Good M lN lO := by
  obtain ⟨hg, hc⟩ := chk_zero h
  obtain ⟨hs, hob, hro, hwk, hfo, hid⟩ := good_parts hg
  obtain ⟨h1, h2⟩ := parts_true hob
  have l1 : Laid M.W M.base ((Go.Proofs.YtelhoppfidibiaaGreatDoor.partN M).1.map (·.a)) (M.base + M.top.toNat) := laid_of_part h1 (by omega)
  have l2 : Laid M.W (2 * M.half).toNat ((Go.Proofs.YtelhoppfidibiaaGreatDoor.partO M).1.map (·.a)) ((2 * M.half).toNat + M.oldTop.toNat) := laid_of_part h2 (by omega)
  obtain ⟨lN, e1⟩ : ∃ l, l = (Go.Proofs.YtelhoppfidibiaaGreatDoor.partN M).1.map (·.a) := ⟨_, rfl⟩
  obtain ⟨lO, e2⟩ : ∃ l, l = (Go.Proofs.YtelhoppfidibiaaGreatDoor.partO M).1.map (·.a) := ⟨_, rfl⟩
  rw [← e1] at l1
  rw [← e2] at l2
  have p1 : Go.Proofs.YtelhoppfidibiaaGreatDoor.partN M = (lN.map (obW M.W), true) := l1.part
  have p2 : Go.Proofs.YtelhoppfidibiaaGreatDoor.partO M = (lO.map (obW M.W), true) := l2.part
  have ea : objsAll M = (lN ++ lO).map (obW M.W) := by unfold objsAll; rw [p1, p2, List.map_append]
  have es : startsM M = stL lN lO := by unfold startsM stL; rw [ea, List.map_map]; rfl
  have hm : ∀ b ∈ lN ++ lO, obW M.W b ∈ objsAll M := fun b hb => by rw [ea]; exact List.mem_map_of_mem hb
  refine ⟨lN, lO, hs, l1, l2, fun b hb => ?_, fun b hb hr j hj => ?_, fun x hx => ?_, fun x hx => ?_, ?_, fun b hb hr j hj => ?_⟩
  · have := objsB_all (q := okHd M) hob
    rw [hob] at this
    exact List.all_eq_true.1 this.symm _ (hm b hb)
  · have := List.all_eq_true.1 hfo _ (hm b hb)
    unfold okFld at this
    rw [show rawB (hKind (obW M.W b).w) = false from hr, Bool.false_or, es] at this
    exact List.all_eq_true.1 this _ (List.mem_map.2 ⟨j, List.mem_range.2 hj, rfl⟩)
  · rw [← es]; exact List.all_eq_true.1 hro x hx
  · rw [← es]; exact List.all_eq_true.1 hwk x hx
  · rw [← es]; exact hid
  · have := List.all_eq_true.1 hc _ (hm b hb)
    unfold cardsO at this
    rw [show rawB (hKind (obW M.W b).w) = false from hr, Bool.false_or] at this
    exact List.all_eq_true.1 this _ (List.mem_range.2 hj)
/-- One more object, all else as it was. -/
theorem Good.new_ (h : Good M lN lO) (M' : Mem) (lN' lO' : List Nat) (a : Nat) (fs : List Int) (kind : Int)
    (e1 : M'.half = M.half) (e2 : M'.cards = M.cards) (e3 : M'.card = M.card) (e4 : M'.roots = M.roots) (e5 : M'.weak = M.weak) (e6 : M'.ids = M.ids)
    (shp' : Shp M') (hn : Laid M'.W M'.base lN' (M'.base + M'.top.toNat)) (ho : Laid M'.W (2 * M'.half).toNat lO' ((2 * M'.half).toNat + M'.oldTop.toNat))
    (hm : ∀ b, b ∈ lN' ++ lO' ↔ b ∈ lN ++ lO ∨ b = a) (out : ∀ b ∈ lN ++ lO, ∀ i, i ≤ szW M.W b → wat M'.W (b + i) = wat M.W (b + i))
    (hdw : wat M'.W a = headW kind 0 0 fs.length) (fsw : ∀ j, j < fs.length → wat M'.W (a + 1 + j) = fs.getD j 0)
    (hk : 0 ≤ kind ∧ kind ≤ 255) (hnn : fs.length ≤ 4096)
    (hf : rawB kind = false → ∀ x ∈ fs, fldB (stL lN' lO') x = true ∧ (oldB M (a : Int) = true → youngB M x = false)) : Good M' lN' lO' := by
  obtain ⟨d1, d2, d3, d4, d5⟩ := headW_hd kind 0 0 fs.length hk (by omega) (by omega) ⟨by omega, by omega⟩
  have hsub : ∀ x ∈ stL lN lO, x ∈ stL lN' lO' := fun x hx => by
    obtain ⟨b, hb, rfl⟩ := List.mem_map.1 hx
    exact List.mem_map_of_mem ((hm b).2 (Or.inl hb))
  have w0 : ∀ b ∈ lN ++ lO, wat M'.W b = wat M.W b := fun b hb => out b hb 0 (Nat.zero_le _)
  have s0 : ∀ b ∈ lN ++ lO, szW M'.W b = szW M.W b := fun b hb => by unfold szW; rw [w0 b hb]
  have sa : szW M'.W a = fs.length := by unfold szW; rw [hdw, d5]; omega
  have hfld : ∀ b ∈ lN ++ lO, ∀ j, j < szW M.W b → wat M'.W (b + 1 + j) = wat M.W (b + 1 + j) := fun b hb j hj => by
    have := out b hb (1 + j) (by omega)
    rw [← Nat.add_assoc] at this; exact this
  have fsm : ∀ j, j < fs.length → fs.getD j 0 ∈ fs := fun j hj => by
    rw [List.getD_eq_getElem?_getD, List.getElem?_eq_getElem hj]; exact List.getElem_mem hj
  have oB : ∀ x, oldB M' x = oldB M x := fun x => by unfold oldB; rw [e1]
  have yB : ∀ x, youngB M' x = youngB M x := fun x => by unfold youngB; rw [oB]
  have cB : ∀ x, cardB M' x = cardB M x := fun x => by unfold cardB; rw [e1, e2, e3]
  refine ⟨shp', hn, ho, fun b hb => ?_, fun b hb hr j hj => ?_, fun x hx => ?_, fun x hx => ?_, ?_, fun b hb hr j hj => ?_⟩
  · rcases (hm b).1 hb with hb | rfl
    · have := h.hd b hb
      unfold okHd obW at this ⊢
      simp only at this ⊢
      rw [w0 b hb, oB]; exact this
    · unfold okHd obW
      simp only
      rw [hdw, d3, d4]; rfl
  · rcases (hm b).1 hb with hb | rfl
    · rw [w0 b hb] at hr
      rw [s0 b hb] at hj
      rw [hfld b hb j hj]
      exact fldB_sub hsub (h.fld b hb hr j hj)
    · rw [hdw, d2] at hr
      rw [sa] at hj
      rw [fsw j hj]
      exact (hf hr _ (fsm j hj)).1
  · rw [e4] at hx; exact fldB_sub hsub (h.roots x hx)
  · rw [e5] at hx; exact fldB_sub hsub (h.weak x hx)
  · rw [e6]
    have h0 := (idsB_iff _ _ _).1 h.ids
    rw [idsB_iff]
    exact ⟨fun x hx => ⟨⟨(h0.1 x hx).1.1, (h0.1 x hx).1.2.1, inSt_sub hsub (h0.1 x hx).1.2.2.1, (h0.1 x hx).1.2.2.2⟩, fun y hy => by simp at hy⟩, h0.2⟩
  · unfold Go.Proofs.YtelhoppfidibiaaGreatDoor.crd
    rcases (hm b).1 hb with hb | rfl
    · rw [w0 b hb] at hr
      rw [s0 b hb] at hj
      have := h.crd b hb hr j hj
      unfold Go.Proofs.YtelhoppfidibiaaGreatDoor.crd at this
      rw [oB, yB, cB, show (obW M'.W b).a = b from rfl, hfld b hb j hj]
      exact this
    · rw [hdw, d2] at hr
      rw [sa] at hj
      rw [oB, yB, show (obW M'.W b).a = b from rfl, fsw j hj]
      cases ho : oldB M (b : Int) with
      | false => rfl
      | true => rw [(hf hr _ (fsm j hj)).2 ho]; rfl
end
/-- The words behind a new object. -/
def newW (W : List Int) (a : Nat) (kind : Int) (fs : List Int) : List Int := splice (W.set a (headW kind 0 0 fs.length)) (a + 1) fs
theorem newW_len (W : List Int) (a : Nat) (kind : Int) (fs : List Int) (h : a + 1 + fs.length ≤ W.length) : (newW W a kind fs).length = W.length := by
  unfold newW; rw [length_splice _ _ _ (by simp; omega)]; simp
theorem newW_out (W : List Int) (a : Nat) (kind : Int) (fs : List Int) (h : a + 1 + fs.length ≤ W.length) (i : Nat) (hi : i < a ∨ a + 1 + fs.length ≤ i) : wat (newW W a kind fs) i = wat W i := by
  unfold newW
  rw [wat_splice _ _ _ _ (by simp; omega), if_neg (by omega), wat_set _ _ _ _ (by omega)]
theorem newW_hd (W : List Int) (a : Nat) (kind : Int) (fs : List Int) (h : a + 1 + fs.length ≤ W.length) : wat (newW W a kind fs) a = headW kind 0 0 fs.length := by
  unfold newW
  rw [wat_splice _ _ _ _ (by simp; omega), if_neg (by omega), wat_set_same _ _ _ (by omega)]
theorem newW_fld (W : List Int) (a : Nat) (kind : Int) (fs : List Int) (h : a + 1 + fs.length ≤ W.length) (j : Nat) (hj : j < fs.length) : wat (newW W a kind fs) (a + 1 + j) = fs.getD j 0 := by
  unfold newW
  rw [wat_splice _ _ _ _ (by simp; omega), if_pos (by omega)]
  congr 1; omega
def newNM (M : Mem) (kind : Int) (fs : List Int) : Mem := { M with W := newW M.W (M.base + M.top.toNat) kind fs, top := M.top + 1 + fs.length }
def newOM (M : Mem) (kind : Int) (fs : List Int) : Mem := { M with W := newW M.W ((2 * M.half).toNat + M.oldTop.toNat) kind fs, oldTop := M.oldTop + 1 + fs.length }
theorem laid_one {W : List Int} {a n : Nat} {kind : Int} (hk : 0 ≤ kind ∧ kind ≤ 255) (hn : n ≤ 4096) (h : wat W a = headW kind 0 0 n) : Laid W a [a] (a + 1 + n) := by
  obtain ⟨d1, d2, d3, d4, d5⟩ := headW_hd kind 0 0 n hk (by omega) (by omega) ⟨by omega, by omega⟩
  refine ⟨rfl, by rw [h]; exact d1, ?_⟩
  show a + 1 + szW W a = _
  unfold szW
  rw [h, d5]; omega
section
variable {M : Mem} {lN lO : List Nat}
theorem Good.newN (h : Good M lN lO) (kind : Int) (fs : List Int) (hk : 0 ≤ kind ∧ kind ≤ 255) (hn : fs.length ≤ 4096) (hr : M.top + 1 + fs.length ≤ M.half)
    (hf : rawB kind = false → ∀ x ∈ fs, fldB (stL (lN ++ [M.base + M.top.toNat]) lO) x = true) : Good (newNM M kind fs) (lN ++ [M.base + M.top.toNat]) lO := by
  have hs := h.shp
  have h1 := hs.h1; have h2 := hs.t2; have h5 := hs.base; have h7 := hs.t1; have h8 := hs.w; have h9 := hs.p2; have h10 := hs.p1; have h11 := hs.o1
  have hw : M.base + M.top.toNat + 1 + fs.length ≤ M.W.length := by omega
  have hto : (M.top + 1 + fs.length).toNat = M.top.toNat + 1 + fs.length := by omega
  have rn := fun b hb => h.n.mem b hb
  have ro := fun b hb => h.o.mem b hb
  have out : ∀ b ∈ lN ++ lO, ∀ i, i ≤ szW M.W b → wat (newNM M kind fs).W (b + i) = wat M.W (b + i) := fun b hb i hi => by
    refine newW_out _ _ _ _ hw _ ?_
    rcases List.mem_append.1 hb with hb | hb
    · have := (rn b hb).2.1; omega
    · have := (ro b hb).1; omega
  have hd' := newW_hd M.W (M.base + M.top.toNat) kind fs hw
  refine h.new_ (newNM M kind fs) (lN ++ [M.base + M.top.toNat]) lO (M.base + M.top.toNat) fs kind rfl rfl rfl rfl rfl rfl ⟨hs.h1, hs.h2, hs.o1, hs.o2, hs.c1, hs.c2, ?_, hs.u1, hs.u2, ?_, hr, hs.p1, hs.p2, hs.cl⟩ ?_ ?_ ?_ out hd' (fun j hj => newW_fld _ _ _ _ hw j hj) hk hn ?_
  · show (((newW M.W (M.base + M.top.toNat) kind fs).length : Nat) : Int) = _
    rw [newW_len _ _ _ _ hw]; exact hs.w
  · show 0 ≤ M.top + 1 + fs.length; omega
  · show Laid (newNM M kind fs).W M.base _ (M.base + (M.top + 1 + fs.length).toNat)
    rw [hto]
    refine Laid.app (m := M.base + M.top.toNat) (h.n.congr fun b hb => out b (List.mem_append_left _ hb) 0 (Nat.zero_le _)) ?_
    have := laid_one hk hn hd'
    rw [show M.base + (M.top.toNat + 1 + fs.length) = M.base + M.top.toNat + 1 + fs.length by omega]
    exact this
  · exact h.o.congr fun b hb => out b (List.mem_append_right _ hb) 0 (Nat.zero_le _)
  · intro b; simp only [List.mem_append, List.mem_singleton]; constructor
    · rintro ((h | h) | h)
      · exact Or.inl (Or.inl h)
      · exact Or.inr h
      · exact Or.inl (Or.inr h)
    · rintro ((h | h) | h)
      · exact Or.inl (Or.inl h)
      · exact Or.inr h
      · exact Or.inl (Or.inr h)
  · intro hq x hx
    refine ⟨hf hq x hx, fun ho => ?_⟩
    have := of_decide_eq_true ho
    omega
theorem Good.newO (h : Good M lN lO) (kind : Int) (fs : List Int) (hk : 0 ≤ kind ∧ kind ≤ 255) (hn : fs.length ≤ 4096) (hr : M.oldTop + 1 + fs.length ≤ M.old)
    (hf : rawB kind = false → ∀ x ∈ fs, fldB (stL lN (lO ++ [(2 * M.half).toNat + M.oldTop.toNat])) x = true ∧ youngB M x = false) : Good (newOM M kind fs) lN (lO ++ [(2 * M.half).toNat + M.oldTop.toNat]) := by
  have hs := h.shp
  have h1 := hs.h1; have h2 := hs.t2; have h5 := hs.base; have h7 := hs.t1; have h8 := hs.w; have h9 := hs.p2; have h10 := hs.p1; have h11 := hs.o1
  have hw : (2 * M.half).toNat + M.oldTop.toNat + 1 + fs.length ≤ M.W.length := by omega
  have hto : (M.oldTop + 1 + fs.length).toNat = M.oldTop.toNat + 1 + fs.length := by omega
  have rn := fun b hb => h.n.mem b hb
  have ro := fun b hb => h.o.mem b hb
  have out : ∀ b ∈ lN ++ lO, ∀ i, i ≤ szW M.W b → wat (newOM M kind fs).W (b + i) = wat M.W (b + i) := fun b hb i hi => by
    refine newW_out _ _ _ _ hw _ ?_
    rcases List.mem_append.1 hb with hb | hb
    · have := (rn b hb).2.1; omega
    · have := (ro b hb).2.1; omega
  have hd' := newW_hd M.W ((2 * M.half).toNat + M.oldTop.toNat) kind fs hw
  refine h.new_ (newOM M kind fs) lN (lO ++ [(2 * M.half).toNat + M.oldTop.toNat]) ((2 * M.half).toNat + M.oldTop.toNat) fs kind rfl rfl rfl rfl rfl rfl ⟨hs.h1, hs.h2, hs.o1, hs.o2, hs.c1, hs.c2, ?_, hs.u1, hs.u2, hs.t1, hs.t2, ?_, hr, hs.cl⟩ ?_ ?_ ?_ out hd' (fun j hj => newW_fld _ _ _ _ hw j hj) hk hn ?_
  · show (((newW M.W ((2 * M.half).toNat + M.oldTop.toNat) kind fs).length : Nat) : Int) = _
    rw [newW_len _ _ _ _ hw]; exact hs.w
  · show 0 ≤ M.oldTop + 1 + fs.length; omega
  · exact h.n.congr fun b hb => out b (List.mem_append_left _ hb) 0 (Nat.zero_le _)
  · show Laid (newOM M kind fs).W (2 * M.half).toNat _ ((2 * M.half).toNat + (M.oldTop + 1 + fs.length).toNat)
    rw [hto]
    refine Laid.app (m := (2 * M.half).toNat + M.oldTop.toNat) (h.o.congr fun b hb => out b (List.mem_append_right _ hb) 0 (Nat.zero_le _)) ?_
    have := laid_one hk hn hd'
    rw [show (2 * M.half).toNat + (M.oldTop.toNat + 1 + fs.length) = (2 * M.half).toNat + M.oldTop.toNat + 1 + fs.length by omega]
    exact this
  · intro b; simp only [List.mem_append, List.mem_singleton, or_assoc]
  · intro hq x hx
    exact ⟨(hf hq x hx).1, fun _ => (hf hq x hx).2⟩
theorem Good.apart (h : Good M lN lO) {b c : Nat} (hb : b ∈ lN ++ lO) (hc : c ∈ lN ++ lO) (hn : b ≠ c) : b + 1 + szW M.W b ≤ c ∨ c + 1 + szW M.W c ≤ b := by
  have hs := h.shp
  have h1 := hs.h1; have h2 := hs.t2; have h5 := hs.base; have h7 := hs.t1
  rcases List.mem_append.1 hb with hb | hb
  · rcases List.mem_append.1 hc with hc | hc
    · exact h.n.apart hb hc hn
    · have a1 := (h.n.mem b hb).2.1; have a2 := (h.o.mem c hc).1; omega
  · rcases List.mem_append.1 hc with hc | hc
    · have a1 := (h.o.mem b hb).1; have a2 := (h.n.mem c hc).2.1; omega
    · exact h.o.apart hb hc hn
theorem Good.inW (h : Good M lN lO) {b : Nat} (hb : b ∈ lN ++ lO) : b + 1 + szW M.W b ≤ M.W.length := by
  have hs := h.shp
  have h1 := hs.h1; have h2 := hs.t2; have h5 := hs.base; have h7 := hs.t1; have h8 := hs.w; have h9 := hs.p2; have h10 := hs.p1; have h11 := hs.o1
  rcases List.mem_append.1 hb with hb | hb
  · have a1 := (h.n.mem b hb).2.1; omega
  · have a1 := (h.o.mem b hb).2.1; omega
/-- What a raw object holds may be anything. -/
theorem Good.raw_ (h : Good M lN lO) {b : Nat} (hb : b ∈ lN ++ lO) (hr : rawB (hKind (wat M.W b)) = true) (V : List Int) (hl : V.length = M.W.length) (hV : ∀ i, ¬ (b + 1 ≤ i ∧ i < b + 1 + szW M.W b) → wat V i = wat M.W i) : Good { M with W := V } lN lO := by
  have w0 : ∀ c ∈ lN ++ lO, wat V c = wat M.W c := fun c hc => hV c fun q => by
    by_cases e : c = b
    · omega
    · have := h.apart hb hc (Ne.symm e); omega
  have s0 : ∀ c ∈ lN ++ lO, szW V c = szW M.W c := fun c hc => by unfold szW; rw [w0 c hc]
  have f0 : ∀ c ∈ lN ++ lO, rawB (hKind (wat M.W c)) = false → ∀ j, j < szW M.W c → wat V (c + 1 + j) = wat M.W (c + 1 + j) := fun c hc hq j hj => hV _ fun q => by
    by_cases e : c = b
    · subst e; rw [hr] at hq; cases hq
    · have := h.apart hb hc (Ne.symm e); omega
  refine ⟨⟨h.shp.h1, h.shp.h2, h.shp.o1, h.shp.o2, h.shp.c1, h.shp.c2, by show ((V.length : Nat) : Int) = _; rw [hl]; exact h.shp.w, h.shp.u1, h.shp.u2, h.shp.t1, h.shp.t2, h.shp.p1, h.shp.p2, h.shp.cl⟩,
    h.n.congr fun c hc => w0 c (List.mem_append_left _ hc), h.o.congr fun c hc => w0 c (List.mem_append_right _ hc), fun c hc => ?_, fun c hc hq j hj => ?_, h.roots, h.weak, h.ids, fun c hc hq j hj => ?_⟩
  · have := h.hd c hc
    unfold okHd obW at this ⊢
    simp only at this ⊢
    rw [w0 c hc]; exact this
  · simp only at hq hj ⊢
    rw [w0 c hc] at hq
    rw [s0 c hc] at hj
    rw [f0 c hc hq j hj]; exact h.fld c hc hq j hj
  · simp only at hq hj
    rw [w0 c hc] at hq
    rw [s0 c hc] at hj
    have := h.crd c hc hq j hj
    unfold Go.Proofs.YtelhoppfidibiaaGreatDoor.crd at this ⊢
    simp only [show ∀ V c, (obW V c).a = c from fun _ _ => rfl] at this ⊢
    rw [f0 c hc hq j hj]; exact this
/-- Roots set, weak words and numbers added. -/
theorem Good.setRoot (h : Good M lN lO) (r : Nat) (x : Int) (hx : fldB (stL lN lO) x = true) : Good { M with roots := M.roots.set r x } lN lO :=
  ⟨⟨h.shp.h1, h.shp.h2, h.shp.o1, h.shp.o2, h.shp.c1, h.shp.c2, h.shp.w, h.shp.u1, h.shp.u2, h.shp.t1, h.shp.t2, h.shp.p1, h.shp.p2, h.shp.cl⟩, h.n, h.o, h.hd, h.fld, fun y hy => by
    rcases List.mem_or_eq_of_mem_set hy with q | q
    · exact h.roots y q
    · rw [q]; exact hx, h.weak, h.ids, h.crd⟩
theorem Good.addWeak (h : Good M lN lO) (x : Int) (hx : fldB (stL lN lO) x = true) : Good { M with weak := M.weak ++ [x] } lN lO :=
  ⟨⟨h.shp.h1, h.shp.h2, h.shp.o1, h.shp.o2, h.shp.c1, h.shp.c2, h.shp.w, h.shp.u1, h.shp.u2, h.shp.t1, h.shp.t2, h.shp.p1, h.shp.p2, h.shp.cl⟩, h.n, h.o, h.hd, h.fld, h.roots, fun y hy => by
    rcases List.mem_append.1 hy with q | q
    · exact h.weak y q
    · rw [List.mem_singleton.1 q]; exact hx, h.ids, h.crd⟩
theorem Good.addId (h : Good M lN lO) (x : Int) (s : Int) (h0 : kindW x = 0) (h1 : x ≠ 0) (hx : fldB (stL lN lO) x = true) (hs : 1 ≤ s) (hn : ∀ y ∈ M.ids, y.1 ≠ x ∧ y.2 ≠ s) : Good { M with ids := M.ids ++ [(x, s)] } lN lO :=
  ⟨⟨h.shp.h1, h.shp.h2, h.shp.o1, h.shp.o2, h.shp.c1, h.shp.c2, h.shp.w, h.shp.u1, h.shp.u2, h.shp.t1, h.shp.t2, h.shp.p1, h.shp.p2, h.shp.cl⟩, h.n, h.o, h.hd, h.fld, h.roots, h.weak, by
    obtain ⟨g1, g2⟩ := (idsB_iff _ _ _).1 h.ids
    refine (idsB_iff _ _ _).2 ⟨fun y hy => ?_, ?_⟩
    · refine ⟨?_, fun z hz => by simp at hz⟩
      rcases List.mem_append.1 hy with q | q
      · exact (g1 y q).1
      · rw [List.mem_singleton.1 q]
        refine ⟨h0, h1, ?_, hs⟩
        unfold fldB at hx
        rw [if_pos h0, Bool.or_eq_true] at hx
        rcases hx with hx | hx
        · exact absurd (by simpa using hx) h1
        · exact hx
    · rw [List.pairwise_append]
      exact ⟨g2, List.pairwise_singleton _ _, fun a ha b hb => by rw [List.mem_singleton.1 hb]; exact hn a ha⟩, h.crd⟩
theorem good_fresh (half old card : Int) (h : 1 ≤ half ∧ half ≤ 65536) (h2 : 1 ≤ old ∧ old ≤ 65536) (h3 : 1 ≤ card ∧ card ≤ 1024) (roots : List Int) (hr : ∀ x ∈ roots, fldB [] x = true) :
    Good ⟨half, old, card, List.replicate (2 * half + old).toNat 0, 0, 0, 0, roots, [], [], List.replicate ((old + card - 1) / card).toNat false⟩ [] [] := by
  have q0 : 0 ≤ (old + card - 1) / card := Int.ediv_nonneg (by omega) (by omega)
  refine ⟨⟨h.1, h.2, h2.1, h2.2, h3.1, h3.2, ?_, by simp, by simp, by simp, ?_, by simp, ?_, ?_⟩, ?_, ?_, by simp, by simp, ?_, by simp, rfl, by simp⟩
  · simp only [List.length_replicate]; omega
  · show (0 : Int) ≤ half; omega
  · show (0 : Int) ≤ old; omega
  · simp only [List.length_replicate]; omega
  · show _ = _; simp [Mem.base]
  · show _ = _; simp
  · exact hr
end
def HL (hb b : Nat) (S : Sls) (k : Nat) : Prop := k = hb ∨ OwnA b S k
structure OHeap (w : World) (B hb b : Nat) (M : Mem) (S : Sls) (ten nx : Int) : Prop where
  mem : OMem w B b 140 M S
  hB : B ≤ hb
  blk : ∃ cur t, w.heap[hb]? = some (.cells cur t (0, 0))
  ptr : w.cell? ⟨hb, 0, none⟩ = some (.pointer (some ⟨b, 0, none⟩))
  tn : w.cell? ⟨hb, 1, none⟩ = some (.int .i64 ten)
  nxt : w.cell? ⟨hb, 2, none⟩ = some (.int .i64 nx)
  ne : ¬ OwnA b S hb
/-- A step that turns a heap's own blocks alone; what it owns behind it is new, or was its own. -/
structure HStep (hb b : Nat) (w : World) (S : Sls) (w' : World) (S' : Sls) : Prop where
  keep : Keep (HL hb b S) w w'
  own : ∀ k, HL hb b S' k → HL hb b S k ∨ w.heap.size ≤ k
theorem HStep.trans_ {hb b : Nat} {w w1 w2 : World} {S S1 S2 : Sls} (h : HStep hb b w S w1 S1) (k : HStep hb b w1 S1 w2 S2) : HStep hb b w S w2 S2 :=
  ⟨h.keep.then_ k.keep (fun i hi hl => by rcases h.own i hl with q | q; exact q; omega), fun i hi => by
    rcases k.own i hi with q | q
    · exact h.own i q
    · exact Or.inr (by have := h.keep.size; omega)⟩
theorem HStep.of_ext {hb b : Nat} {w w' : World} {S : Sls} (h : Ext w w') : HStep hb b w S w' S := ⟨Keep.of_ext h, fun _ q => Or.inl q⟩
section
variable {w w' : World} {B hb b : Nat} {M M' : Mem} {S S' : Sls} {ten nx : Int}
theorem OHeap.lt (h : OHeap w B hb b M S ten nx) : hb < w.heap.size := cell_lt h.ptr
theorem OHeap.hbs (h : OHeap w B hb b M S ten nx) : B ≤ w.heap.size := by have := h.hB; have := h.lt; omega
theorem OHeap.own (h : OHeap w B hb b M S ten nx) {k : Nat} (hk : HL hb b S k) : B ≤ k ∧ k < w.heap.size := by
  rcases hk with rfl | hk
  · exact ⟨h.hB, h.lt⟩
  · exact OMem.own_size h.mem hk
theorem OHeap.frozen (h : OHeap w B hb b M S ten nx) (j : Nat) : w.frozen? ⟨hb, j, none⟩ = false := by
  obtain ⟨cur, t, hc⟩ := h.blk
  simp [World.frozen?, hc]
/-- A step of the memory is a step of the heap. -/
theorem OHeap.step (h : OHeap w B hb b M S ten nx) (hO : OMem w' B b 140 M' S') (hk : Keep (OwnA b S) w w') (hs : ∀ k, OwnA b S' k → OwnA b S k ∨ w.heap.size ≤ k) :
    OHeap w' B hb b M' S' ten nx ∧ HStep hb b w S w' S' := by
  have hlt := h.lt
  refine ⟨⟨hO, h.hB, ?_, hk.cell (p := ⟨hb, 0, none⟩) h.ne h.ptr, hk.cell (p := ⟨hb, 1, none⟩) h.ne h.tn, hk.cell (p := ⟨hb, 2, none⟩) h.ne h.nxt, fun e => ?_⟩, ⟨⟨hk.os, hk.tape, hk.output, hk.size, fun k hlk hn => hk.block k hlk (fun e => hn (Or.inr e))⟩, fun k hkk => ?_⟩⟩
  · rw [hk.block hb hlt h.ne]; exact h.blk
  · rcases hs hb e with q | q
    · exact h.ne q
    · omega
  · rcases hkk with q | q
    · exact Or.inl (Or.inl q)
    · rcases hs k q with r | r
      · exact Or.inl (Or.inr r)
      · exact Or.inr r
theorem OHeap.ext (h : OHeap w B hb b M S ten nx) (hx : Ext w w') : OHeap w' B hb b M S ten nx :=
  (h.step (OM.ext h.mem hx) (Keep.of_ext hx) fun _ q => Or.inl q).1
end
def HPost (w : World) (B hb b : Nat) (S : Sls) (ten : Int) (M' : Mem) (nx' : Int) (v : Value) (e : Ending) (w' : World) : Prop :=
  e = .returned v ∧ ∃ S', OHeap w' B hb b M' S' ten nx' ∧ HStep hb b w S w' S'
/-! The collectors, plainly. -/
def majorC (M : Mem) : Int := if (liveM M : Int) ≤ M.old then 0 else 6
def majorH (M : Mem) : Mem := if (liveM M : Int) ≤ M.old then majM M else M
def minorC (M : Mem) : Int := if M.top ≤ M.old - M.oldTop then 0 else majorC M
def minorH (M : Mem) (ten : Int) : Mem := if M.top ≤ M.old - M.oldTop then collectC M ten else majorH M
structure HInv (M : Mem) (nx : Int) : Prop where
  ok : M.Ok
  chk : chk M = 0
  nx1 : 1 ≤ nx
  ids : ∀ x ∈ M.ids, x.2 < nx
structure SameH (M N : Mem) : Prop where
  half : N.half = M.half
  old : N.old = M.old
  card : N.card = M.card
  roots : N.roots.length = M.roots.length
  weak : N.weak.length = M.weak.length
  ids : N.ids.length ≤ M.ids.length
theorem SameH.refl (M : Mem) : SameH M M := ⟨rfl, rfl, rfl, rfl, rfl, Nat.le_refl _⟩
theorem SameH.trans {M N K : Mem} (h : SameH M N) (k : SameH N K) : SameH M K :=
  ⟨k.half.trans h.half, k.old.trans h.old, k.card.trans h.card, k.roots.trans h.roots, k.weak.trans h.weak, Nat.le_trans k.ids h.ids⟩
section
variable {M : Mem} {ten nx : Int}
theorem HInv.full (h : HInv M nx) (hl : (liveM M : Int) ≤ M.old) : Full M := ⟨h.ok, h.chk, hl⟩
theorem collectC_inv (hr : Ready M ten) (h : HInv M nx) : HInv (collectC M ten) nx ∧ SameH M (collectC M ten) := by
  have hf := collect_fin hr
  obtain ⟨D, hv⟩ := hf.inv
  rw [collectC_fin]
  refine ⟨⟨hf.ok hr, hf.chk hr, h.nx1, fun x hx => ?_⟩, ⟨hv.like.half, hv.like.old, hv.like.card, hf.rootsL, ?_, ?_⟩⟩
  · obtain ⟨u, hu, e⟩ := List.mem_filterMap.1 (show x ∈ idsC (col4 M ten) from hx)
    split at e
    · injection e with e
      subst e
      rw [hv.like.ids] at hu
      exact h.ids u hu
    · cases e
  · show (weakC (col4 M ten)).length = _
    unfold weakC
    rw [List.length_map, hv.like.weak]
  · show (idsC (col4 M ten)).length ≤ _
    unfold idsC
    rw [hv.like.ids]
    exact List.length_filterMap_le _ _
theorem majM_inv (hl : (liveM M : Int) ≤ M.old) (h : HInv M nx) : HInv (majM M) nx ∧ SameH M (majM M) := by
  have hf := h.full hl
  refine ⟨⟨hf.okN, hf.chkN, h.nx1, fun x hx => ?_⟩, ⟨rfl, rfl, rfl, by unfold majM; simp, by unfold majM; simp, by unfold majM; exact List.length_filterMap_le _ _⟩⟩
  obtain ⟨u, hu, e⟩ := List.mem_filterMap.1 (show x ∈ M.ids.filterMap _ from hx)
  split at e
  · injection e with e
    subst e
    exact h.ids u hu
  · cases e
theorem majorH_inv (h : HInv M nx) : HInv (majorH M) nx ∧ SameH M (majorH M) := by
  unfold majorH
  split
  · exact majM_inv (by assumption) h
  · exact ⟨h, SameH.refl M⟩
theorem minorH_inv (ht : 0 ≤ ten ∧ ten ≤ 15) (h : HInv M nx) : HInv (minorH M ten) nx ∧ SameH M (minorH M ten) := by
  unfold minorH
  split
  · exact collectC_inv ⟨h.ok, h.chk, ht, by assumption⟩ h
  · exact majorH_inv h
theorem newW_u64 {W : List Int} (hW : ∀ x ∈ W, 0 ≤ x ∧ x ≤ 18446744073709551615) {a : Nat} {kind : Int} {fs : List Int} (hk : 0 ≤ kind ∧ kind ≤ 255) (hn : fs.length ≤ 4096) (hf : ∀ x ∈ fs, 0 ≤ x ∧ x ≤ 18446744073709551615) : ∀ x ∈ newW W a kind fs, 0 ≤ x ∧ x ≤ 18446744073709551615 := fun x hx => by
  rcases splice_memI hx with q | q
  · rcases List.mem_or_eq_of_mem_set q with q | q
    · exact hW x q
    · subst q; exact headW_in kind 0 0 (fs.length : Int) hk (by omega) (by omega) ⟨by omega, by omega⟩
  · exact hf x q
theorem newNM_inv (h : HInv M nx) (kind : Int) (fs : List Int) (hk : 0 ≤ kind ∧ kind ≤ 255) (hn : fs.length ≤ 4096) (hr : M.top + 1 + fs.length ≤ M.half) (hu : ∀ x ∈ fs, 0 ≤ x ∧ x ≤ 18446744073709551615)
    (hf : rawB kind = false → ∀ x ∈ fs, fldB [] x = true) : HInv (newNM M kind fs) nx ∧ SameH M (newNM M kind fs) ∧ ∃ lN lO, Good (newNM M kind fs) lN lO ∧ M.base + M.top.toNat ∈ lN ++ lO := by
  obtain ⟨lN, lO, hg⟩ := good_of h.chk
  have hG := hg.newN kind fs hk hn hr fun hq x hx => fldB_sub (by simp) (hf hq x hx)
  have hs := hg.shp
  have h1 := hs.h1; have h2 := hs.t2; have h5 := hs.base; have h7 := hs.t1; have h8 := hs.w; have h9 := hs.p2; have h10 := hs.p1; have h11 := hs.o1; have h12 := hs.h2
  have hw : M.base + M.top.toNat + 1 + fs.length ≤ M.W.length := by omega
  refine ⟨⟨⟨h.ok.half, h.ok.old, h.ok.card, h.ok.used, ?_, h.ok.oldTop, newW_u64 h.ok.W hk hn hu, h.ok.roots, h.ok.weak, h.ok.ids, ?_, h.ok.lenR, h.ok.lenK, h.ok.lenI, h.ok.lenC⟩, hG.chk, h.nx1, h.ids⟩, ⟨rfl, rfl, rfl, rfl, rfl, Nat.le_refl _⟩, _, _, hG, by simp⟩
  · show _ ≤ M.top + 1 + fs.length ∧ M.top + 1 + fs.length ≤ _; omega
  · show (newW M.W (M.base + M.top.toNat) kind fs).length ≤ _
    rw [newW_len _ _ _ _ hw]; exact h.ok.lenW
theorem newOM_inv (h : HInv M nx) (kind : Int) (fs : List Int) (hk : 0 ≤ kind ∧ kind ≤ 255) (hn : fs.length ≤ 4096) (hr : M.oldTop + 1 + fs.length ≤ M.old) (hu : ∀ x ∈ fs, 0 ≤ x ∧ x ≤ 18446744073709551615)
    (hf : rawB kind = false → ∀ x ∈ fs, fldB [] x = true ∧ kindW x ≠ 0) : HInv (newOM M kind fs) nx ∧ SameH M (newOM M kind fs) ∧ ∃ lN lO, Good (newOM M kind fs) lN lO ∧ (2 * M.half).toNat + M.oldTop.toNat ∈ lN ++ lO := by
  obtain ⟨lN, lO, hg⟩ := good_of h.chk
  have hG := hg.newO kind fs hk hn hr fun hq x hx => ⟨fldB_sub (by simp) (hf hq x hx).1, by
    unfold youngB
    have := (hf hq x hx).2
    rw [show (kindW x == 0) = false by simpa using this]; rfl⟩
  have hs := hg.shp
  have h1 := hs.h1; have h2 := hs.t2; have h5 := hs.base; have h7 := hs.t1; have h8 := hs.w; have h9 := hs.p2; have h10 := hs.p1; have h11 := hs.o1; have h12 := hs.o2
  have hw : (2 * M.half).toNat + M.oldTop.toNat + 1 + fs.length ≤ M.W.length := by omega
  refine ⟨⟨⟨h.ok.half, h.ok.old, h.ok.card, h.ok.used, h.ok.top, ?_, newW_u64 h.ok.W hk hn hu, h.ok.roots, h.ok.weak, h.ok.ids, ?_, h.ok.lenR, h.ok.lenK, h.ok.lenI, h.ok.lenC⟩, hG.chk, h.nx1, h.ids⟩, ⟨rfl, rfl, rfl, rfl, rfl, Nat.le_refl _⟩, _, _, hG, by simp⟩
  · show _ ≤ M.oldTop + 1 + fs.length ∧ M.oldTop + 1 + fs.length ≤ _; omega
  · show (newW M.W ((2 * M.half).toNat + M.oldTop.toNat) kind fs).length ≤ _
    rw [newW_len _ _ _ _ hw]; exact h.ok.lenW
theorem rootM_inv (h : HInv M nx) {lN lO : List Nat} (hg : Good M lN lO) (r : Nat) (x : Int) (hu : 0 ≤ x ∧ x ≤ 18446744073709551615) (hx : fldB (stL lN lO) x = true) : HInv { M with roots := M.roots.set r x } nx ∧ SameH M { M with roots := M.roots.set r x } :=
  ⟨⟨⟨h.ok.half, h.ok.old, h.ok.card, h.ok.used, h.ok.top, h.ok.oldTop, h.ok.W, fun y hy => by
    rcases List.mem_or_eq_of_mem_set hy with q | q
    · exact h.ok.roots y q
    · rw [q]; exact hu, h.ok.weak, h.ok.ids, h.ok.lenW, by simpa using h.ok.lenR, h.ok.lenK, h.ok.lenI, h.ok.lenC⟩, (hg.setRoot r x hx).chk, h.nx1, h.ids⟩, ⟨rfl, rfl, rfl, by simp, rfl, Nat.le_refl _⟩⟩
theorem rawM_inv (h : HInv M nx) {lN lO : List Nat} (hg : Good M lN lO) {b : Nat} (hb : b ∈ lN ++ lO) (hr : rawB (hKind (wat M.W b)) = true) (V : List Int) (hl : V.length = M.W.length) (hV : ∀ i, ¬ (b + 1 ≤ i ∧ i < b + 1 + szW M.W b) → wat V i = wat M.W i)
    (hu : ∀ x ∈ V, 0 ≤ x ∧ x ≤ 18446744073709551615) : HInv { M with W := V } nx ∧ SameH M { M with W := V } ∧ Good { M with W := V } lN lO :=
  ⟨⟨⟨h.ok.half, h.ok.old, h.ok.card, h.ok.used, h.ok.top, h.ok.oldTop, hu, h.ok.roots, h.ok.weak, h.ok.ids, by show V.length ≤ _; rw [hl]; exact h.ok.lenW, h.ok.lenR, h.ok.lenK, h.ok.lenI, h.ok.lenC⟩, (hg.raw_ hb hr V hl hV).chk, h.nx1, h.ids⟩, ⟨rfl, rfl, rfl, rfl, rfl, Nat.le_refl _⟩, hg.raw_ hb hr V hl hV⟩
theorem weakM_inv (h : HInv M nx) {lN lO : List Nat} (hg : Good M lN lO) (x : Int) (hu : 0 ≤ x ∧ x ≤ 18446744073709551615) (hx : fldB (stL lN lO) x = true) (hl : M.weak.length ≤ 1000000) : HInv { M with weak := M.weak ++ [x] } nx :=
  ⟨⟨h.ok.half, h.ok.old, h.ok.card, h.ok.used, h.ok.top, h.ok.oldTop, h.ok.W, h.ok.roots, fun y hy => by
    rcases List.mem_append.1 hy with q | q
    · exact h.ok.weak y q
    · rw [List.mem_singleton.1 q]; exact hu, h.ok.ids, h.ok.lenW, h.ok.lenR, by simp; omega, h.ok.lenI, h.ok.lenC⟩, (hg.addWeak x hx).chk, h.nx1, h.ids⟩
theorem idM_inv (h : HInv M nx) {lN lO : List Nat} (hg : Good M lN lO) (x : Int) (hu : 0 ≤ x ∧ x ≤ 18446744073709551615) (h0 : kindW x = 0) (h1 : x ≠ 0) (hx : fldB (stL lN lO) x = true) (hl : M.ids.length ≤ 1000000) (hn : nx ≤ 1000000) (hf : ∀ y ∈ M.ids, y.1 ≠ x) :
    HInv { M with ids := M.ids ++ [(x, nx)] } (nx + 1) := by
  have := h.nx1
  refine ⟨⟨h.ok.half, h.ok.old, h.ok.card, h.ok.used, h.ok.top, h.ok.oldTop, h.ok.W, h.ok.roots, h.ok.weak, fun y hy => ?_, h.ok.lenW, h.ok.lenR, h.ok.lenK, by simp; omega, h.ok.lenC⟩, (hg.addId x nx h0 h1 hx h.nx1 fun y hy => ⟨hf y hy, fun e => by have := h.ids y hy; omega⟩).chk, by omega, fun y hy => ?_⟩
  · rcases List.mem_append.1 hy with q | q
    · exact h.ok.ids y q
    · rw [List.mem_singleton.1 q]; exact ⟨hu, by simp only; omega⟩
  · rcases List.mem_append.1 hy with q | q
    · have := h.ids y q; omega
    · rw [List.mem_singleton.1 q]; simp only; omega
end
set_option maxRecDepth 100000 in
set_option maxHeartbeats 1000000 in
theorem is_nil (a : Addr) (w : World) : Calls Tryz.prog 45 #[.nilIface, errV a] w fun e w' => e = .returned (.bool false) ∧ w' = w := by
  have heq := run_eql_iface_nil_left (P := Tryz.prog) w 261 (.pointer (some a)) Tryz.underlying26
  go_enter Tryz.func45, Tryz.ntmps45
  go_wp2
  go_ret
  exact ⟨rfl, rfl⟩
section
variable {B hb b : Nat} {M : Mem} {S : Sls} {E : Nat → Addr} {ten nx : Int}
/-- major.Collect at a heap's memory, however much is alive. -/
theorem majorC_any (w : World) (hH : OHeap w B hb b M S ten nx) (hok : M.Ok) (hE : G4 E w) (hc : chk M = 0) :
    Calls Tryz.prog 46 #[.pointer (some ⟨b, 0, none⟩)] w (HPost w B hb b S ten (majorH M) nx (errC E (majorC M))) := by
  by_cases h : (liveM M : Int) ≤ M.old
  · refine (major_walk B b M S E w hH.mem hE ⟨hok, hc, h⟩ hH.hbs).mono ?_
    rintro e w1 ⟨rfl, S', h1, h2, h3⟩
    unfold majorC majorH
    rw [if_pos h, if_pos h]
    obtain ⟨g1, g2⟩ := hH.step h1 h2 h3
    exact ⟨rfl, S', g1, g2⟩
  · refine (major_full b M S E w (hH.mem.mem hok) hE hc (by omega)).mono ?_
    rintro e w1 ⟨rfl, hx⟩
    unfold majorC majorH
    rw [if_neg h, if_neg h]
    exact ⟨rfl, S, hH.ext hx, HStep.of_ext hx⟩
set_option maxRecDepth 100000 in
set_option maxHeartbeats 4000000 in
theorem hMajor_walk (w : World) (hH : OHeap w B hb b M S ten nx) (hok : M.Ok) (hE : G4 E w) (hc : chk M = 0) :
    Calls Tryz.prog 13 #[.pointer (some ⟨hb, 0, none⟩)] w (HPost w B hb b S ten (majorH M) nx (errC E (majorC M))) := by
  have q0 := hH.ptr
  have HC := Lib.hid (majorC_any w hH hok hE hc)
  clear hH hok hE hc
  go_enter Tryz.func13, Tryz.ntmps13
  go_wp2_with (go_at_call 46; refine HC.out.mono ?_; rintro e w1 ⟨rfl, hq⟩; have HQ := Lib.hid hq; clear hq)
  go_ret
  exact ⟨rfl, HQ.out⟩
set_option maxRecDepth 100000 in
set_option maxHeartbeats 4000000 in
theorem hMinor_full (w : World) (hH : OHeap w B hb b M S ten nx) (hok : M.Ok) (hE : G4 E w) (hc : chk M = 0) (ht : 0 ≤ ten ∧ ten ≤ 15) (hf : M.old - M.oldTop < M.top) :
    Calls Tryz.prog 12 #[.pointer (some ⟨hb, 0, none⟩)] w (HPost w B hb b S ten (majorH M) nx (errC E (majorC M))) := by
  have q0 := hH.ptr
  have q1 := hH.tn
  have HH := Lib.hid hH
  have HOK := Lib.hid hok
  have HE := Lib.hid hE
  have HC := Lib.hid hc
  clear hH hok hE hc
  go_enter Tryz.func12, Tryz.ntmps12
  go_upto_region 1 with fail
  refine wp_region_held_drew (S := fun W => W.cell? ⟨hb, 0, none⟩ = some (.pointer (some ⟨b, 0, none⟩)) ∧ W.cell? ⟨hb, 1, none⟩ = some (.int .i64 ten)) (by kernel_rfl) ?_ (fun hHeld => ?_)
  · exact ⟨q0, q1⟩
  refine tk 0 ⟨some 4, _, _, _, _, _⟩ ?_ rfl ?_ ?_
  rotate_left
  · (intro w hSw; (try dsimp only at hSw); go_simp; try with_reducible rfl)
  try simp only [tkS]
  refine tk 1 ⟨some 5, _, _, _, _, _⟩ ?_ rfl ?_ ?_
  rotate_left
  · (intro w hSw; (try dsimp only at hSw); go_simp; try with_reducible rfl)
  try simp only [tkS]
  refine tk 2 ⟨some 6, _, _, _, _, _⟩ ?_ rfl ?_ ?_
  rotate_left
  · (intro w hSw; (try dsimp only at hSw); go_simp; try with_reducible rfl)
  try simp only [tkS]
  refine tk 3 ⟨some 7, _, _, _, _, _⟩ ?_ rfl ?_ ?_
  rotate_left
  · (intro w hSw; (try dsimp only at hSw); go_simp; try with_reducible rfl)
  try simp only [tkS]
  refine tk 4 ⟨some 8, _, _, _, _, _⟩ ?_ rfl ?_ ?_
  rotate_left
  · (intro w hSw; (try dsimp only at hSw); go_simp; try with_reducible rfl)
  try simp only [tkS]
  refine tk 5 ⟨some 9, _, _, _, _, _⟩ ?_ rfl ?_ ?_
  rotate_left
  · (intro w hSw; (try dsimp only at hSw); go_simp; try with_reducible rfl)
  try simp only [tkS]
  refine tk 6 ⟨some 10, _, _, _, _, _⟩ ?_ rfl ?_ ?_
  rotate_left
  · (intro w hSw; (try dsimp only at hSw); go_simp; try with_reducible rfl)
  try simp only [tkS]
  refine tk 7 ⟨some 11, _, _, _, _, _⟩ ?_ rfl ?_ ?_
  rotate_left
  · (intro w hSw; (try dsimp only at hSw); go_simp; try with_reducible rfl)
  try simp only [tkS]
  refine wpAnyH_ready (rs := [8]) (by kernel_rfl) (by simp) ?_
  refine AllReadyH.cons (o := ⟨some 12, _, _, _, _, _⟩) rfl (fun K hK => ?_) AllReadyH.nil
  go_simp
  refine (collect_full b 0 M S E ten _ ((HH.out.mem.mem HOK.out).ext (by repeat (first | exact Ext.refl _ | (refine Ext.drew_ ?_) | (refine Ext.drewN_ ?_ _) | (refine Ext.alloc_ ?_ _)))) (HE.out.ext (by repeat (first | exact Ext.refl _ | (refine Ext.drew_ ?_) | (refine Ext.drewN_ ?_ _) | (refine Ext.alloc_ ?_ _)))) HC.out ht.1 ht.2 hf).mono ?_
  rintro e w1 ⟨rfl, hq⟩
  have HX1 : Hid (Ext w w1) := Ext.trans_ (by repeat (first | exact Ext.refl _ | (refine Ext.drew_ ?_) | (refine Ext.drewN_ ?_ _) | (refine Ext.alloc_ ?_ _))) hq
  clear hq
  refine hK.out _ _ ?_ (fun hHeld => ?_)
  · (try dsimp only); exact ⟨HX1.out.cell_ q0, HX1.out.cell_ q1⟩
  clear hK K
  try simp only [tkS]
  refine tk 9 ⟨some 3, _, _, _, _, _⟩ ?_ rfl ?_ ?_
  rotate_left
  · (intro w hSw; (try dsimp only at hSw); go_simp; try with_reducible rfl)
  try simp only [tkS]
  refine wpAnyH_done (by kernel_rfl) ?_ _
  have p0 := HX1.out.cell_ q0
  have k5 := (HE.out.ext HX1.out).full
  clear hHeld q0 q1
  go_wp2_with (first
    | (go_at_call 45; refine (is_same (E 5) _).mono ?_; rintro e w9 ⟨rfl, hw9⟩; have hw9 := hw9.symm; subst hw9)
    | (go_at_call 46; refine (majorC_any _ (HH.out.ext HX1.out) HOK.out (HE.out.ext HX1.out) HC.out).mono ?_; rintro e w2 ⟨rfl, S2, h2, h3⟩; have HQ : Hid (OHeap w2 B hb b (majorH M) S2 ten nx ∧ HStep hb b w S w2 S2) := ⟨h2, (HStep.of_ext HX1.out).trans_ h3⟩; clear h2 h3))
  go_ret
  exact ⟨rfl, _, HQ.out⟩
set_option maxRecDepth 100000 in
set_option maxHeartbeats 4000000 in
theorem hMinor_room (w : World) (hH : OHeap w B hb b M S ten nx) (hok : M.Ok) (hE : G4 E w) (hc : chk M = 0) (ht : 0 ≤ ten ∧ ten ≤ 15) (hB : 0 < B ∧ 3 < B ∧ 2 < B) (hf : M.top ≤ M.old - M.oldTop) :
    Calls Tryz.prog 12 #[.pointer (some ⟨hb, 0, none⟩)] w (HPost w B hb b S ten (collectC M ten) nx (.nilIface)) := by
  have q0 := hH.ptr
  have q1 := hH.tn
  have HH := Lib.hid hH
  have HOK := Lib.hid hok
  have HE := Lib.hid hE
  have HC := Lib.hid hc
  clear hH hok hE hc
  go_enter Tryz.func12, Tryz.ntmps12
  go_upto_region 1 with fail
  have hgb := (⟨hB.1, hB.2.1⟩ : _ ∧ _)
  refine wp_region_held_drew (S := fun W => W.cell? ⟨hb, 0, none⟩ = some (.pointer (some ⟨b, 0, none⟩)) ∧ W.cell? ⟨hb, 1, none⟩ = some (.int .i64 ten)) (by kernel_rfl) ?_ (fun hHeld => ?_)
  · exact ⟨q0, q1⟩
  refine tk 0 ⟨some 4, _, _, _, _, _⟩ ?_ rfl ?_ ?_
  rotate_left
  · (intro w hSw; (try dsimp only at hSw); go_simp; try with_reducible rfl)
  try simp only [tkS]
  refine tk 1 ⟨some 5, _, _, _, _, _⟩ ?_ rfl ?_ ?_
  rotate_left
  · (intro w hSw; (try dsimp only at hSw); go_simp; try with_reducible rfl)
  try simp only [tkS]
  refine tk 2 ⟨some 6, _, _, _, _, _⟩ ?_ rfl ?_ ?_
  rotate_left
  · (intro w hSw; (try dsimp only at hSw); go_simp; try with_reducible rfl)
  try simp only [tkS]
  refine tk 3 ⟨some 7, _, _, _, _, _⟩ ?_ rfl ?_ ?_
  rotate_left
  · (intro w hSw; (try dsimp only at hSw); go_simp; try with_reducible rfl)
  try simp only [tkS]
  refine tk 4 ⟨some 8, _, _, _, _, _⟩ ?_ rfl ?_ ?_
  rotate_left
  · (intro w hSw; (try dsimp only at hSw); go_simp; try with_reducible rfl)
  try simp only [tkS]
  refine tk 5 ⟨some 9, _, _, _, _, _⟩ ?_ rfl ?_ ?_
  rotate_left
  · (intro w hSw; (try dsimp only at hSw); go_simp; try with_reducible rfl)
  try simp only [tkS]
  refine tk 6 ⟨some 10, _, _, _, _, _⟩ ?_ rfl ?_ ?_
  rotate_left
  · (intro w hSw; (try dsimp only at hSw); go_simp; try with_reducible rfl)
  try simp only [tkS]
  refine tk 7 ⟨some 11, _, _, _, _, _⟩ ?_ rfl ?_ ?_
  rotate_left
  · (intro w hSw; (try dsimp only at hSw); go_simp; try with_reducible rfl)
  try simp only [tkS]
  refine wpAnyH_ready (rs := [8]) (by kernel_rfl) (by simp) ?_
  refine AllReadyH.cons (o := ⟨some 12, _, _, _, _, _⟩) rfl (fun K hK => ?_) AllReadyH.nil
  go_simp
  refine (collect_walk B b M S E ten _ (OM.ext HH.out.mem (by repeat (first | exact Ext.refl _ | (refine Ext.drew_ ?_) | (refine Ext.drewN_ ?_ _) | (refine Ext.alloc_ ?_ _)))) (HE.out.ext (by repeat (first | exact Ext.refl _ | (refine Ext.drew_ ?_) | (refine Ext.drewN_ ?_ _) | (refine Ext.alloc_ ?_ _)))).toG3 ⟨HOK.out, HC.out, ht, hf⟩ (by have := HH.out.hbs; simp only [World.size_drew]; omega) hgb).mono ?_
  rintro e w1 ⟨rfl, S', h1, h2, h3⟩
  have HQ : Hid (OHeap w1 B hb b (collectC M ten) S' ten nx ∧ HStep hb b w S w1 S') := by
    obtain ⟨g1, g2⟩ := (HH.out.ext (w' := w.drew) (by repeat (first | exact Ext.refl _ | (refine Ext.drew_ ?_) | (refine Ext.drewN_ ?_ _) | (refine Ext.alloc_ ?_ _)))).step h1 h2 h3
    exact ⟨g1, (HStep.of_ext (by repeat (first | exact Ext.refl _ | (refine Ext.drew_ ?_) | (refine Ext.drewN_ ?_ _) | (refine Ext.alloc_ ?_ _)))).trans_ g2⟩
  clear h1 h2 h3
  refine hK.out _ _ ?_ (fun hHeld => ?_)
  · (try dsimp only); exact ⟨HQ.out.1.ptr, HQ.out.1.tn⟩
  clear hK K
  try simp only [tkS]
  refine tk 9 ⟨some 3, _, _, _, _, _⟩ ?_ rfl ?_ ?_
  rotate_left
  · (intro w hSw; (try dsimp only at hSw); go_simp; try with_reducible rfl)
  try simp only [tkS]
  refine wpAnyH_done (by kernel_rfl) ?_ _
  have k5 : w1.cell? ⟨2, 0, none⟩ = some (errV (E 5)) := HQ.out.2.keep.cell (fun e => by
    have := (HH.out.own e).1
    have := hB.2.2
    simp only at *
    omega) HE.out.full
  clear hHeld q0 q1
  go_wp2_with (go_at_call 45; refine (is_nil (E 5) _).mono ?_; rintro e w9 ⟨rfl, hw9⟩; have hw9 := hw9.symm; subst hw9)
  go_ret
  exact ⟨rfl, _, HQ.out⟩
theorem hMinor_walk (w : World) (hH : OHeap w B hb b M S ten nx) (hok : M.Ok) (hE : G4 E w) (hc : chk M = 0) (ht : 0 ≤ ten ∧ ten ≤ 15) (hB : 0 < B ∧ 3 < B ∧ 2 < B) :
    Calls Tryz.prog 12 #[.pointer (some ⟨hb, 0, none⟩)] w (HPost w B hb b S ten (minorH M ten) nx (errC E (minorC M))) := by
  unfold minorH minorC
  by_cases h : M.top ≤ M.old - M.oldTop
  · rw [if_pos h, if_pos h]
    exact hMinor_room w hH hok hE hc ht hB h
  · rw [if_neg h, if_neg h]
    exact hMinor_full w hH hok hE hc ht (by omega)
end
end Go.Proofs.YtelhoppfidibiaaGreatDoor
