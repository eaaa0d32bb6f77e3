/- Behind the major collection: the memory is right, its graph the same: plainly. -/
import Derived.Test.YtelhoppfidibiaaGreatDoorJOa31
import Derived.Test.YtelhoppfidibiaaGreatDoorJOa13
import Derived.Test.YtelhoppfidibiaaGreatDoorJOa22
import Derived.Test.YtelhoppfidibiaaGreatDoorJOa14
import Derived.Test.YtelhoppfidibiaaGreatDoorJOa24
import Derived.Test.YtelhoppfidibiaaGreatDoorJOa29
import Derived.BigQuiet
namespace Go.Proofs.YtelhoppfidibiaaGreatDoor
open Go.RowKit
set_option linter.unusedVariables false
set_option linter.unusedSimpArgs false

def U64 (x : Int) : Prop := 0 ≤ x ∧ x ≤ 18446744073709551615
theorem fw1_u64 (M : Mem) {u : Int} (h : U64 u) : U64 (fw1 M u) := by
  unfold fw1 fwM
  split
  · exact h
  · split
    · exact addrW_u64 _
    · exact ⟨by decide, by decide⟩
theorem wat_u64 {W : List Int} (h : ∀ x ∈ W, U64 x) (i : Nat) : U64 (wat W i) := by
  unfold wat
  by_cases q : i < W.length
  · exact getD_in (P := U64) h q
  · rw [List.getD_eq_getElem?_getD, List.getElem?_eq_none (by omega)]
    exact ⟨by decide, by decide⟩
theorem splice_memI {L : List Int} {off : Nat} {cs : List Int} {x : Int} (h : x ∈ splice L off cs) : x ∈ L ∨ x ∈ cs := by
  unfold splice at h
  rcases List.mem_append.1 h with h | h
  · exact Or.inl (List.mem_of_mem_take h)
  · rcases List.mem_append.1 h with h | h
    · exact Or.inr h
    · exact Or.inl (List.mem_of_mem_drop h)
theorem fwdW_u64 {fw : Int → Int} (hf : ∀ u, U64 u → U64 (fw u)) : ∀ (n : Nat) (W : List Int) (i : Nat), (∀ x ∈ W, U64 x) → ∀ x ∈ fwdW fw W i n, U64 x
  | 0, _, _, h => h
  | n + 1, W, i, h => fwdW_u64 hf n _ _ fun x hx => by
    rcases List.mem_or_eq_of_mem_set hx with q | q
    · exact h x q
    · subst q; exact hf _ (wat_u64 h i)
theorem slide0_u64 {hb : Nat} {Y W : List Int} {a t : Nat} (hw : ∀ x ∈ W, U64 x) (hy : ∀ x ∈ Y, U64 x) (hd : isHd (wat W a) = true) : ∀ x ∈ slide0 hb Y W a t, U64 x := fun x hx => by
  unfold slide0 at hx
  rcases List.mem_or_eq_of_mem_set hx with q | q
  · rcases splice_memI q with q | q
    · exact hw x q
    · have := List.mem_of_mem_drop (List.mem_of_mem_take q)
      unfold srcW at this
      split at this
      · exact hw x this
      · exact hy x this
  · subst q
    have h0 := (wat_u64 hw a).1
    obtain ⟨k0, k1, a0, a1, m0, m1, z0⟩ := hd_in (wat W a) h0
    exact headW_u64 ⟨k0, k1⟩ ⟨by omega, by omega⟩ ⟨m0, m1⟩ ⟨z0, ((isHd_iff _).1 hd).2.2⟩
theorem slide1_u64 {hb : Nat} {fw : Int → Int} (hf : ∀ u, U64 u → U64 (fw u)) {Y W : List Int} {p : Nat × Nat} (hw : ∀ x ∈ W, U64 x) (hy : ∀ x ∈ Y, U64 x) (hd : isHd (wat W p.1) = true) : ∀ x ∈ slide1 hb fw Y W p, U64 x := by
  unfold slide1
  split
  · exact slide0_u64 hw hy hd
  · exact fwdW_u64 hf _ _ _ (slide0_u64 hw hy hd)
section
variable {M : Mem}
theorem Full.hdM (h : Full M) {a : Nat} (ha : DomM M a) : isHd (wat M.W a) = true ∧ hMark (wat M.W a) = 0 ∧ a + 1 + szW M.W a ≤ M.W.length := by
  obtain ⟨x, hx, ex, -, hw⟩ := h.dom ha
  obtain ⟨p1, p2, p3, p4⟩ := h.place hx
  obtain ⟨hh, e1, e2, e4, e5, e6, e7, e8, e9, e10, e12⟩ := h.nums
  rw [ex] at p2 p3 p4
  refine ⟨p2, p3, ?_⟩
  rcases p4 with ⟨q1, q2⟩ | ⟨q1, q2, q3⟩ <;> omega
theorem Full.words (h : Full M) : ∀ k, k ≤ (ordP M).length → ∀ x ∈ majWk M k, U64 x
  | 0, _ => fun x hx => h.ok.W x hx
  | k + 1, hk => by
    have hlt : k < (ordP M).length := by omega
    rw [majWk_next hlt]
    have hm : ((ordP M)[k], topAt M k) ∈ toM M := by
      rw [← toM_at hlt]; exact List.getElem_mem _
    refine slide1_u64 (fun u hu => fw1_u64 M hu) (Full.words h k (by omega)) (fun x hx => h.ok.W x (List.mem_of_mem_take hx)) ?_
    have hs := (h.slidAt k).hd_ (h.fits _ hm)
    rw [hs]
    exact (h.hdM (toM_dom hm)).1
theorem Full.wordsE (h : Full M) : ∀ x ∈ majW M, U64 x := by
  rw [← majWk_end]
  exact h.words _ (Nat.le_refl _)
end
/-- The memory behind it. -/
def majM (M : Mem) : Mem := { M with W := majW M, roots := M.roots.map (fw1 M), weak := M.weak.map (fw1 M), ids := M.ids.filterMap fun x => if (fwM M x.1).2 then some ((fwM M x.1).1, x.2) else none, top := 0, oldTop := (liveM M : Int), cards := List.replicate M.cards.length false }
section
variable {M : Mem}
theorem Full.shpN (h : Full M) : Shp (majM M) := by
  have hs := h.shp
  have hr := h.room
  exact ⟨hs.h1, hs.h2, hs.o1, hs.o2, hs.c1, hs.c2, by show ((majW M).length : Int) = _; rw [h.slid.len]; exact hs.w, hs.u1, hs.u2, Int.le_refl _, by show (0 : Int) ≤ M.half; have := hs.h1; omega, by show (0 : Int) ≤ (liveM M : Int); omega, hr, by show ((List.replicate M.cards.length false).length : Int) = _; rw [List.length_replicate]; exact hs.cl⟩
theorem Full.okN (h : Full M) : (majM M).Ok := by
  have ho := h.ok
  have hs := h.shpN
  have h1 := hs.p2; have h2 := hs.o2; have h3 := hs.p1
  refine ⟨ho.half, ho.old, ho.card, ho.used, by show (-9223372036854775808 : Int) ≤ 0 ∧ (0 : Int) ≤ _; omega, by have : (majM M).old = M.old := rfl; omega, h.wordsE, fun x hx => ?_, fun x hx => ?_, fun x hx => ?_, ?_, ?_, ?_, ?_, ?_⟩
  · obtain ⟨u, hu, rfl⟩ := List.mem_map.1 hx
    exact fw1_u64 M (ho.roots u hu)
  · obtain ⟨u, hu, rfl⟩ := List.mem_map.1 hx
    exact fw1_u64 M (ho.weak u hu)
  · obtain ⟨y, hy, e⟩ := List.mem_filterMap.1 hx
    split at e
    · injection e with e
      subst e
      exact ⟨fw1_u64 M (ho.ids y hy).1, (ho.ids y hy).2⟩
    · cases e
  · show (majW M).length ≤ _
    rw [h.slid.len]; exact ho.lenW
  · show (M.roots.map (fw1 M)).length ≤ _
    rw [List.length_map]; exact ho.lenR
  · show (M.weak.map (fw1 M)).length ≤ _
    rw [List.length_map]; exact ho.lenK
  · exact Nat.le_trans (List.length_filterMap_le _ _) ho.lenI
  · show (List.replicate M.cards.length false).length ≤ _
    rw [List.length_replicate]; exact ho.lenC
theorem Full.few (h : Full M) (hf : Few M) : Few (majM M) := by
  refine ⟨?_, ?_, ?_, ?_, ?_⟩
  · show (majW M).length ≤ _
    rw [h.slid.len]; exact hf.W
  · show (M.roots.map (fw1 M)).length ≤ _
    rw [List.length_map]; exact hf.R
  · show (M.weak.map (fw1 M)).length ≤ _
    rw [List.length_map]; exact hf.K
  · exact Nat.le_trans (List.length_filterMap_le _ _) hf.I
  · show (List.replicate M.cards.length false).length ≤ _
    rw [List.length_replicate]; exact hf.C
theorem Full.to_in (h : Full M) {a : Nat} (ha : DomM M a) : hbM M ≤ toOf M a ∧ toOf M a + 1 + szW M.W a ≤ hbM M + liveM M ∧ toOf M a ≤ 1000000 := by
  have hge := topsW_ge M.W (ordP M) (hbM M) _ (toOf_mem ha)
  have he : endW M.W (hbM M) (ordP M) = hbM M + liveM M := h.endE
  obtain ⟨hh, e1, e2, e4, e5, e6, e7, e8, e9, e10, e12⟩ := h.nums
  have hr := h.room
  simp only at hge
  exact ⟨hge.1, by omega, by omega⟩
theorem Full.inj (h : Full M) {a b : Nat} (ha : DomM M a) (hb : DomM M b) (e : toOf M a = toOf M b) : a = b := by
  have hp := topsW_pair M.W (ordP M) (hbM M)
  have h1 := toOf_mem ha
  have h2 := toOf_mem hb
  have hnd : ((toM M).map (·.2)).Nodup := by
    unfold List.Nodup
    rw [List.pairwise_map]
    exact hp.imp fun hxy q => by omega
  have := nodup_map_inj hnd h1 h2 e
  injection this
theorem Full.hdN (h : Full M) {a : Nat} (ha : DomM M a) : isHd (wat (majW M) (toOf M a)) = true ∧ hKind (wat (majW M) (toOf M a)) = hKind (wat M.W a) ∧ hAge (wat (majW M) (toOf M a)) = 0 ∧ hMark (wat (majW M) (toOf M a)) = 0 ∧ szW (majW M) (toOf M a) = szW M.W a := by
  have e := h.slid.head _ (toOf_mem ha)
  simp only at e
  obtain ⟨d1, d2, d3⟩ := h.hdM ha
  obtain ⟨r1, r2, r3, r4, r5⟩ := ageless_hd (wat_in h.ok a).1 d1
  rw [e]
  exact ⟨r1, r2, r3, by rw [r4]; exact d2, by unfold szW; rw [e, r5]⟩
/-- A right word, followed. -/
theorem Full.fw (h : Full M) {u : Int} (hf : fldB (startsM M) u = true) :
    ((kindW u ≠ 0 ∨ u = 0) ∧ fwM M u = (u, true)) ∨ ∃ a : Nat, kindW u = 0 ∧ u ≠ 0 ∧ placeW u = (a : Int) ∧ ptsW u = (a : Int) ∧ (∃ x ∈ objsAll M, x.a = a) ∧ ((DomM M a ∧ fwM M u = (addrW (toOf M a), true)) ∨ (¬ DomM M a ∧ fwM M u = (2, false))) := by
  by_cases hk : kindW u ≠ 0 ∨ u = 0
  · exact Or.inl ⟨hk, if_pos hk⟩
  · right
    have hk1 : kindW u = 0 := by omega
    have hk2 : u ≠ 0 := by omega
    have hp : pointedB u = true := by
      unfold kindW at hk1
      unfold pointedB
      simp [hk1, hk2]
    have hpt := pointed_pts h.good hf hp
    have ep : ptsW u = placeW u := by
      unfold ptsW at hpt ⊢
      split at hpt
      · rename_i hc; rw [if_pos hc]
      · omega
    have hin : placeW u ∈ startsM M := by
      unfold fldB at hf
      rw [if_pos hk1] at hf
      simp only [Bool.or_eq_true, beq_iff_eq] at hf
      rcases hf with q | q
      · exact absurd q hk2
      · exact List.contains_iff_mem.1 q
    obtain ⟨x, hx, e⟩ := List.mem_map.1 hin
    refine ⟨x.a, hk1, hk2, e.symm, by rw [ep]; exact e.symm, ⟨x, hx, rfl⟩, ?_⟩
    have hd : inSt (ats (reachP M)) (placeW u) = true ↔ DomM M x.a := by
      rw [inSt_obs]
      unfold DomM
      rw [List.mem_map]
      constructor
      · rintro ⟨o, ho, q⟩; exact ⟨o, ho, by omega⟩
      · rintro ⟨o, ho, q⟩; exact ⟨o, ho, by omega⟩
    unfold fwM
    rw [if_neg hk]
    by_cases q : DomM M x.a
    · left
      rw [if_pos (hd.2 q), ← e]
      exact ⟨q, rfl⟩
    · right
      rw [if_neg (fun r => q (hd.1 r))]
      exact ⟨q, rfl⟩
theorem Full.cor (h : Full M) {u : Int} (hf : fldB (startsM M) u = true) (hy : (fwM M u).2 = true) : Cor (toOf M) (DomM M) u (fw1 M u) := by
  unfold fw1
  rcases h.fw hf with ⟨q, e⟩ | ⟨a, k1, k2, k3, k4, -, ⟨d, e⟩ | ⟨d, e⟩⟩
  · left
    rw [e]
    refine ⟨?_, rfl⟩
    unfold ptsW
    rw [if_neg (fun r => by rcases q with q | q; exact q r.1; exact r.2.1 q)]; omega
  · right
    rw [e]
    have ht := h.to_in d
    have hw := addrW_wd (toOf M a : Int)
    have hp := placeW_addrW (toOf M a : Int) ⟨by omega, by omega⟩
    have hn : addrW (toOf M a : Int) ≠ 0 := by unfold addrW; omega
    refine ⟨a, k4, d, ?_, k1, k2, hw.2.2, hn⟩
    unfold ptsW
    rw [if_pos ⟨hw.2.2, hn, by unfold placeW at hp; omega⟩]; exact hp
  · rw [e] at hy; cases hy
/-- What is come to is followed. -/
theorem Full.fw_in (h : Full M) {u : Int} (hf : fldB (startsM M) u = true) (hi : InO (reachP M) u) : (fwM M u).2 = true := by
  rcases h.fw hf with ⟨q, e⟩ | ⟨a, k1, k2, k3, k4, -, ⟨d, e⟩ | ⟨d, e⟩⟩
  · rw [e]
  · rw [e]
  · exfalso
    apply d
    have := hi (by omega)
    rw [k4, inSt_obs] at this
    obtain ⟨o, ho, q⟩ := this
    exact List.mem_map.2 ⟨o, ho, by omega⟩
theorem Full.fld_in (h : Full M) {a : Nat} (ha : DomM M a) (hr : rawB (hKind (wat M.W a)) = false) {k : Nat} (hk : k < szW M.W a) : fldB (startsM M) (wat M.W (a + 1 + k)) = true ∧ InO (reachP M) (wat M.W (a + 1 + k)) := by
  obtain ⟨x, hx, rfl, hx2, hw⟩ := h.dom ha
  have hfo := (good_parts h.good).2.2.2.2.1
  have hn : x.n = szW M.W x.a := by unfold Ob.n szW; rw [hw]
  refine ⟨fld_ok hfo hx (by rw [hw]; exact hr) k (by omega), ?_⟩
  rcases reachP_shut h.good x hx2 with q | q
  · rw [hw, hr] at q; cases q
  · exact q _ (List.mem_map.2 ⟨k, List.mem_range.2 (by omega), rfl⟩)
theorem Full.morph (h : Full M) : Morph M.W (majM M).W (DomM M) (toOf M) := by
  refine ⟨fun a b ha hb e => h.inj ha hb e, fun a ha => (h.hdN ha).2.1, fun a ha => ?_, fun a ha hr k hk => ?_, fun a ha hr k hk => h.slid.raw _ (toOf_mem ha) hr k hk⟩
  · have e := h.slid.head _ (toOf_mem ha)
    simp only at e
    show hSize (wat (majW M) (toOf M a)) = _
    rw [e]
    exact (ageless_hd (wat_in h.ok a).1 (h.hdM ha).1).2.2.2.2
  · have e := h.slid.fld _ (toOf_mem ha) hr k hk
    obtain ⟨f1, f2⟩ := h.fld_in ha hr hk
    show Cor _ _ _ (wat (majW M) (toOf M a + 1 + k))
    rw [e]
    exact h.cor f1 (h.fw_in f1 f2)
theorem laid_tops {V W : List Int} : ∀ (l : List Nat) (t : Nat), (∀ p ∈ topsW V t l, isHd (wat W p.2) = true ∧ szW W p.2 = szW V p.1) → Laid W t ((topsW V t l).map (·.2)) (endW V t l)
  | [], t, _ => rfl
  | a :: l, t, hp => by
    obtain ⟨h1, h2⟩ := hp (a, t) (by simp [topsW])
    simp only at h1 h2
    rw [topsW, endW, List.map_cons]
    refine ⟨rfl, h1, ?_⟩
    rw [h2]
    exact laid_tops l _ fun p hpm => hp p (by rw [topsW]; exact List.mem_cons_of_mem _ hpm)
theorem Full.parts (h : Full M) : partN (majM M) = ([], true) ∧ partO (majM M) = (((toM M).map (·.2)).map (obW (majW M)), true) := by
  have hs := h.shpN
  constructor
  · unfold partN
    show part (majW M) (majM M).base ((majM M).base + (0 : Int).toNat) = _
    exact part_done _ _ _ (by simp)
  · have hl : Laid (majW M) (hbM M) ((toM M).map (·.2)) (endM M) := laid_tops (ordP M) (hbM M) fun p hp => by
      have hd := toM_dom (M := M) hp
      have e := toM_of h.good (p := p) hp
      have := h.hdN hd
      rw [e] at this
      exact ⟨this.1, this.2.2.2.2⟩
    unfold partO
    show part (majW M) (2 * M.half).toNat ((2 * M.half).toNat + ((liveM M : Nat) : Int).toNat) = _
    rw [show (2 * M.half).toNat = hbM M from rfl, Int.toNat_natCast, ← h.endE]
    exact hl.part
theorem Full.mem (h : Full M) (y : Ob) : y ∈ objsAll (majM M) ↔ ∃ a, DomM M a ∧ y = obW (majW M) (toOf M a) := by
  obtain ⟨p1, p2⟩ := h.parts
  unfold objsAll
  rw [p1, p2, List.nil_append, List.map_map, List.mem_map]
  constructor
  · rintro ⟨p, hp, rfl⟩
    exact ⟨p.1, toM_dom hp, by rw [toM_of h.good hp]; rfl⟩
  · rintro ⟨a, ha, rfl⟩
    exact ⟨_, toOf_mem ha, rfl⟩
theorem Full.starts (h : Full M) {a : Nat} (ha : DomM M a) : inSt (startsM (majM M)) (toOf M a : Int) = true := by
  rw [inSt_iff]
  exact List.mem_map.2 ⟨_, (h.mem _).2 ⟨a, ha, rfl⟩, rfl⟩
theorem Full.fldB_ (h : Full M) {u : Int} (hf : fldB (startsM M) u = true) : fldB (startsM (majM M)) (fw1 M u) = true := by
  unfold fw1
  rcases h.fw hf with ⟨q, e⟩ | ⟨a, k1, k2, k3, k4, -, ⟨d, e⟩ | ⟨d, e⟩⟩
  · rw [e]
    show fldB _ u = true
    unfold fldB at hf ⊢
    rcases q with q | q
    · rw [if_neg q] at hf ⊢; exact hf
    · subst q; simp [kindW]
  · rw [e]
    show fldB _ (addrW (toOf M a)) = true
    have ht := h.to_in d
    have hp := placeW_addrW (toOf M a : Int) ⟨by omega, by omega⟩
    unfold fldB
    rw [if_pos (show kindW (addrW (toOf M a : Int)) = 0 from (addrW_wd _).2.2), hp, h.starts d]; simp
  · rw [e]
    show fldB _ 2 = true
    simp [fldB, kindW]
theorem Full.notYoung (h : Full M) {u : Int} (hf : fldB (startsM M) u = true) : youngB (majM M) (fw1 M u) = false := by
  unfold fw1
  rcases h.fw hf with ⟨q, e⟩ | ⟨a, k1, k2, k3, k4, -, ⟨d, e⟩ | ⟨d, e⟩⟩
  · rw [e]
    show youngB _ u = false
    unfold youngB
    rcases q with q | q
    · have : (kindW u == 0) = false := by simpa using q
      rw [this]; rfl
    · subst q; simp
  · rw [e]
    show youngB _ (addrW (toOf M a)) = false
    have ht := h.to_in d
    have hp := placeW_addrW (toOf M a : Int) ⟨by omega, by omega⟩
    unfold youngB oldB
    rw [hp]
    have : decide (2 * (majM M).half ≤ (toOf M a : Int)) = true := decide_eq_true (by
      show 2 * M.half ≤ _
      have := ht.1
      unfold hbM at this
      omega)
    rw [this]; simp
  · rw [e]
    show youngB _ 2 = false
    simp [youngB, kindW]
theorem Full.ids_in (h : Full M) : ∀ x ∈ M.ids, idGood (startsM M) x := fun x hx => (((idsB_iff _ _ _).1 (good_parts h.good).2.2.2.2.2).1 x hx).1
/-- THE MEMORY IS RIGHT. -/
theorem Full.chkN (h : Full M) : Go.Proofs.YtelhoppfidibiaaGreatDoor.chk (majM M) = 0 := by
  have hg := good_parts h.good
  have hsh := h.shpN
  obtain ⟨p1, p2⟩ := h.parts
  have hob : objsB (majM M) (okHd (majM M)) = true := by
    have hall : (objsAll (majM M)).all (okHd (majM M)) = true := by
      rw [List.all_eq_true]
      intro y hy
      obtain ⟨a, ha, rfl⟩ := (h.mem y).1 hy
      obtain ⟨d1, d2, d3, d4, d5⟩ := h.hdN ha
      unfold okHd
      have ew : (obW (majW M) (toOf M a)).w = wat (majW M) (toOf M a) := rfl
      rw [ew, d3, d4]; rfl
    unfold objsAll at hall
    rw [List.all_append, Bool.and_eq_true] at hall
    unfold objsB
    rw [hall.1, hall.2, p1, p2]; rfl
  have hro : fieldsB (startsM (majM M)) (majM M).roots = true := by
    unfold fieldsB
    rw [List.all_eq_true]
    intro v hvm
    obtain ⟨u, hu, rfl⟩ := List.mem_map.1 (show v ∈ M.roots.map (fw1 M) from hvm)
    refine h.fldB_ ?_
    have := hg.2.2.1
    unfold fieldsB at this
    rw [List.all_eq_true] at this
    exact this u hu
  have hwk : fieldsB (startsM (majM M)) (majM M).weak = true := by
    unfold fieldsB
    rw [List.all_eq_true]
    intro v hvm
    obtain ⟨u, hu, rfl⟩ := List.mem_map.1 (show v ∈ M.weak.map (fw1 M) from hvm)
    refine h.fldB_ ?_
    have := hg.2.2.2.1
    unfold fieldsB at this
    rw [List.all_eq_true] at this
    exact this u hu
  have hfw : ∀ a, DomM M a → rawB (hKind (wat (majW M) (toOf M a))) = false → ∀ k, k < szW (majW M) (toOf M a) → ∃ u, fldB (startsM M) u = true ∧ wat (majW M) (toOf M a + 1 + k) = fw1 M u := fun a ha hr k hk => by
    obtain ⟨d1, d2, d3, d4, d5⟩ := h.hdN ha
    rw [d2] at hr
    rw [d5] at hk
    exact ⟨_, (h.fld_in ha hr hk).1, h.slid.fld _ (toOf_mem ha) hr k hk⟩
  have hfl : (objsAll (majM M)).all (okFld (majM M) (startsM (majM M))) = true := by
    rw [List.all_eq_true]
    intro y hy
    obtain ⟨a, ha, rfl⟩ := (h.mem y).1 hy
    unfold okFld
    cases hq : rawB (hKind (obW (majW M) (toOf M a)).w) with
    | true => rfl
    | false =>
      rw [Bool.false_or]
      unfold fieldsB flds
      rw [List.all_eq_true]
      intro v hvm
      obtain ⟨k, hk, rfl⟩ := List.mem_map.1 hvm
      obtain ⟨u, hu, e⟩ := hfw a ha hq k (List.mem_range.1 hk)
      have e2 : wat (majM M).W ((obW (majW M) (toOf M a)).a + 1 + k) = fw1 M u := e
      rw [e2]
      exact h.fldB_ hu
  have hid : idsB (startsM (majM M)) [] (majM M).ids = true := by
    have h0 := (idsB_iff _ _ _).1 hg.2.2.2.2.2
    have hcor : ∀ x ∈ M.ids, (fwM M x.1).2 = true → ∃ a : Nat, placeW x.1 = (a : Int) ∧ DomM M a ∧ (fwM M x.1).1 = addrW (toOf M a) ∧ kindW x.1 = 0 := fun x hx hl => by
      obtain ⟨g1, g2, g3, g4⟩ := (h0.1 x hx).1
      have hf : fldB (startsM M) x.1 = true := by unfold fldB; rw [if_pos g1, g3]; simp
      rcases h.fw hf with ⟨q, e⟩ | ⟨a, k1, k2, k3, k4, -, ⟨d, e⟩ | ⟨d, e⟩⟩
      · rcases q with q | q
        · exact absurd g1 q
        · exact absurd q g2
      · exact ⟨a, k3, d, by rw [e], k1⟩
      · rw [e] at hl; cases hl
    rw [idsB_iff]
    show (∀ x ∈ M.ids.filterMap _, _) ∧ (M.ids.filterMap _).Pairwise idApart
    constructor
    · intro y hy
      obtain ⟨x, hx, e⟩ := List.mem_filterMap.1 hy
      split at e
      · rename_i hl
        injection e with e
        subst e
        obtain ⟨a, q1, q2, q3, q4⟩ := hcor x hx hl
        have ht := h.to_in q2
        refine ⟨⟨?_, ?_, ?_, (h0.1 x hx).1.2.2.2⟩, fun z hz => by simp at hz⟩
        · show kindW (fwM M x.1).1 = 0
          rw [q3]; exact (addrW_wd _).2.2
        · show (fwM M x.1).1 ≠ 0
          rw [q3]; unfold addrW; omega
        · show inSt _ (placeW (fwM M x.1).1) = true
          rw [q3, placeW_addrW _ ⟨by omega, by omega⟩]; exact h.starts q2
      · cases e
    · refine List.Pairwise.filterMap _ (S := idApart) (fun p q hpq b hb b' hb' => ?_) (List.Pairwise.imp_of_mem (S := fun p q => p ∈ M.ids ∧ q ∈ M.ids ∧ idApart p q) (fun hp hq' hpq => ⟨hp, hq', hpq⟩) h0.2)
      obtain ⟨hp, hq, hap⟩ := hpq
      split at hb
      · rename_i hl
        split at hb'
        · rename_i hl'
          injection hb with hb
          injection hb' with hb'
          subst hb hb'
          obtain ⟨a, q1, q2, q3, q4⟩ := hcor p hp hl
          obtain ⟨a', r1, r2, r3, r4⟩ := hcor q hq hl'
          refine ⟨fun e => ?_, hap.2⟩
          simp only at e
          rw [q3, r3] at e
          have t1 := h.to_in q2
          have t2 := h.to_in r2
          have ee : toOf M a = toOf M a' := by unfold addrW at e; omega
          have ea := h.inj q2 r2 ee
          subst ea
          apply hap.1
          unfold placeW at q1 r1
          unfold kindW at q4 r4
          omega
        · cases hb'
      · cases hb
  have hcd : cardsM (majM M) = true := by
    unfold cardsM
    rw [List.all_eq_true]
    intro y hy
    obtain ⟨a, ha, rfl⟩ := (h.mem y).1 hy
    unfold cardsO
    cases hq : rawB (hKind (obW (majW M) (toOf M a)).w) with
    | true => rfl
    | false =>
      rw [Bool.false_or]
      unfold cardsK
      rw [List.all_eq_true]
      intro k hk
      obtain ⟨u, hu, e⟩ := hfw a ha hq k (List.mem_range.1 hk)
      unfold crd
      have e2 : wat (majM M).W ((obW (majW M) (toOf M a)).a + 1 + k) = fw1 M u := e
      rw [e2, h.notYoung hu]; simp
  have hgood : goodB (majM M) = true := by
    unfold goodB
    rw [shapeB_of hsh, hob, hro, hwk, hfl, hid]; rfl
  unfold Go.Proofs.YtelhoppfidibiaaGreatDoor.chk
  rw [hgood, hcd]; rfl
theorem Full.kept (h : Full M) : Kept true M (majM M) (fwM M) (DomM M) (toOf M) := by
  have hg := good_parts h.good
  have hfb : ∀ {l : List Int}, fieldsB (startsM M) l = true → ∀ i, i < l.length → fldB (startsM M) (l.getD i 0) = true := fun hl i hi => fieldsB_at hl hi
  refine ⟨h.morph, h.slid.len, by show _ = (M.roots.map (fw1 M)).length; rw [List.length_map], fun i hi => ?_, ?_, rfl, fun u hu hy => h.cor hu hy, fun u hu hy => ?_, fun _ u hu hy hp => ?_, h.good, (chk_zero h.chkN).1⟩
  · have e : (majM M).roots.getD i 0 = fw1 M (M.roots.getD i 0) := by
      show (M.roots.map (fw1 M)).getD i 0 = _
      simp [List.getD_eq_getElem?_getD, hi]
    rw [e]
    have hf := hfb hg.2.2.1 i hi
    refine h.cor hf (h.fw_in hf (reachP_roots M _ ?_))
    rw [List.getD_eq_getElem?_getD, List.getElem?_eq_getElem hi]; exact List.getElem_mem hi
  · show M.weak.map (fw1 M) = _
    refine List.map_congr_left fun u hu => ?_
    have hf : fldB (startsM M) u = true := by
      have := hg.2.2.2.1
      unfold fieldsB at this
      rw [List.all_eq_true] at this
      exact this u hu
    unfold fw1
    rcases h.fw hf with ⟨q, e⟩ | ⟨a, k1, k2, k3, k4, -, ⟨d, e⟩ | ⟨d, e⟩⟩ <;> rw [e] <;> rfl
  · rcases h.fw hu with ⟨q, e⟩ | ⟨a, k1, k2, k3, k4, -, ⟨d, e⟩ | ⟨d, e⟩⟩
    · rw [e] at hy; cases hy
    · rw [e] at hy; cases hy
    · refine ⟨by unfold pointedB; unfold kindW at k1; simp [k1, k2], ?_⟩
      unfold ledB
      rw [k4]
      cases q : inSt (ats (reachP M)) (a : Int) with
      | false => simp
      | true =>
        obtain ⟨o, ho, e2⟩ := inSt_obs.1 q
        exact absurd (List.mem_map.2 ⟨o, ho, by omega⟩) d
  · rcases h.fw hu with ⟨q, e⟩ | ⟨a, k1, k2, k3, k4, -, ⟨d, e⟩ | ⟨d, e⟩⟩
    · unfold pointedB at hp
      simp only [Bool.and_eq_true, decide_eq_true_eq] at hp
      unfold kindW at q
      omega
    · unfold ledB
      rw [k4]
      have : inSt (ats (reachP M)) (a : Int) = true := by
        obtain ⟨o, ho, e2⟩ := List.mem_map.1 d
        exact inSt_obs.2 ⟨o, ho, by omega⟩
      rw [this]; simp
    · rw [e] at hy; cases hy
theorem Full.reach (h : Full M) : reachP (majM M) = (reachP M).map (fun o => obW (majW M) (toOf M o.a)) := by
  exact (reach_sim h.kept.morph h.kept.lenW h.kept.lenR h.kept.roots).1
theorem Full.graph (h : Full M) : graphS (majM M) = graphS M := graph_map h.kept.morph h.kept.lenW h.kept.lenR h.kept.roots
end
/-- How much is alive is the same behind what moves. -/
theorem live_map {M N : Mem} {Dom : Nat → Prop} {f : Nat → Nat} (hm : Morph M.W N.W Dom f) (hl : N.W.length = M.W.length) (hr : M.roots.length = N.roots.length) (hc : ∀ i, i < M.roots.length → Cor f Dom (M.roots.getD i 0) (N.roots.getD i 0)) : liveM N = liveM M := by
  obtain ⟨e1, e2⟩ := reach_sim hm hl hr hc
  unfold liveM
  rw [e1, List.map_map]
  congr 1
  refine List.map_congr_left fun o ho => ?_
  obtain ⟨d1, d2⟩ := e2 o ho
  show 1 + (obW N.W (f o.a)).n = 1 + o.n
  rw [obW_n]
  have : o.n = szW M.W o.a := by rw [d2]; rfl
  rw [this]
  unfold szW
  rw [hm.size o.a d1]
theorem Full.live {M : Mem} (h : Full M) : liveM (majM M) = liveM M := live_map h.kept.morph h.kept.lenW h.kept.lenR h.kept.roots
theorem copy_over {P : Program} {W : World} (dT ty elem : TypeId) (hu : P.underlying dT = some (.slice elem)) (hsz : (P.info? elem).map (·.size) = some 1) {B : Nat} {a : Option Addr} {c : Nat} {xs : List Value}
    (h : W.ownsRow B elem 1 (.slice a xs.length c) xs.length xs) {g : Nat} (ha : a = some ⟨g, 0, none⟩) (A1 A2 : Option Addr) (C1 C2 d nd : Nat) (src : List Value) (hA1 : A1 = some ⟨g, d, none⟩) (p2 : Addr) (hA2 : A2 = some p2)
    (hrd : ∀ k u, src[k]? = some u → W.cell? (p2.add k) = some u) (h1 : ∀ v ∈ src, v.oneCell' = true) (h0 : 0 < src.length) (hnd : src.length ≤ nd) (hd : d + src.length ≤ xs.length) :
    ∃ w', (Builtin.copy_ #[dT, dT] ty #[.slice A1 nd C1, .slice A2 src.length C2]).run P W = .ok (goInt src.length) w' ∧ But g W w' ∧ w'.ownsRow B elem 1 (.slice a xs.length c) xs.length (splice xs d src) := by
  obtain ⟨g', hg', -, -, -, hc, cur, hh, hlen, htake⟩ := own_block h (by omega)
  rw [ha] at hg'
  injection hg' with hg'
  injection hg' with hg'
  subst hg'
  have hcl : xs.length ≤ cur.length := by omega
  obtain ⟨w', hr, hg2, hb⟩ := run_copy_but (P := P) (w := W) dT dT ty elem hu hsz A1 A2 nd C1 src.length C2 g d cur elem hh src (Nat.min_eq_left hnd).symm
    (fun _ => ⟨hA1, p2, hA2, hrd⟩) (by omega) h1
  exact ⟨w', hr, hb, own_splice h ha hh d src hd hg2⟩
/-- A row of words, so many of them turned. -/
def turnW (f : Int → Int) (l : List Int) (k : Nat) : List Int := (l.take k).map f ++ l.drop k
theorem turnW_zero (f : Int → Int) (l : List Int) : turnW f l 0 = l := by simp [turnW]
theorem turnW_all (f : Int → Int) (l : List Int) : turnW f l l.length = l.map f := by simp [turnW]
theorem turnW_len (f : Int → Int) (l : List Int) (k : Nat) : (turnW f l k).length = l.length := by simp [turnW]; omega
theorem turnW_at (f : Int → Int) (l : List Int) (k : Nat) (hk : k < l.length) : (turnW f l k).getD k 0 = l.getD k 0 := by
  unfold turnW
  have hl : ((l.take k).map f).length = k := by rw [List.length_map, List.length_take]; omega
  rw [List.getD_eq_getElem?_getD, List.getElem?_append_right (by omega), hl, Nat.sub_self, List.getElem?_drop, Nat.add_zero, List.getD_eq_getElem?_getD]
theorem turnW_set (f : Int → Int) (l : List Int) (k : Nat) (hk : k < l.length) : (turnW f l k).set k (f (l.getD k 0)) = turnW f l (k + 1) := by
  unfold turnW
  have hl : ((l.take k).map f).length = k := by rw [List.length_map, List.length_take]; omega
  rw [List.set_append_right _ _ (by omega), hl, Nat.sub_self, List.drop_eq_getElem_cons hk, List.set_cons_zero, List.take_add_one, List.getElem?_eq_getElem hk, List.map_append, List.getD_eq_getElem?_getD, List.getElem?_eq_getElem hk]
  simp
/-- The numbers, so many of them looked at. -/
def idsF (M : Mem) (l : List (Int × Int)) : List (Int × Int) := l.filterMap fun x => if (fwM M x.1).2 then some ((fwM M x.1).1, x.2) else none
theorem idsF_snoc (M : Mem) (l : List (Int × Int)) (k : Nat) (hk : k < l.length) : idsF M (l.take (k + 1)) = if (fwM M l[k].1).2 then idsF M (l.take k) ++ [((fwM M l[k].1).1, l[k].2)] else idsF M (l.take k) := by
  unfold idsF
  rw [List.take_add_one, List.getElem?_eq_getElem hk, List.filterMap_append]
  cases h : (fwM M l[k].1).2 <;> simp [h]
theorem idsF_len (M : Mem) (l : List (Int × Int)) : (idsF M l).length ≤ l.length := List.length_filterMap_le _ _
section
variable {w w1 : World} {B b : Nat} {M : Mem} {S : Sls}
theorem OMem.clearC (h : OMem w B b 140 M S) {g : Nat} (hg : S.C.1 = some ⟨g, 0, none⟩) {cur : List Value} (hc : w.heap[g]? = some (.cells cur.toArray 4 (0, 0))) {n : Nat} (hn : n = M.cards.length) (hb : But g w w1) (hw : w1.heap[g]? = some (.cells (splice cur 0 (List.replicate n (.bool false))).toArray 4 (0, 0))) :
    OMem w1 B b 140 { M with cards := List.replicate n false } S := by
  subst hn
  have hr := own_splice h.fC hg hc 0 (List.replicate M.cards.length (.bool false)) (by simp) hw
  have e : splice (bcells M.cards) 0 (List.replicate M.cards.length (Value.bool false)) = bcells (List.replicate M.cards.length false) := by
    unfold splice bcells
    have : (M.cards.map Value.bool).length = M.cards.length := by simp
    simp
  rw [e] at hr
  exact h.rowC hg hb _ (by simp) hr
theorem maj_end (h : OMem w B b 140 M S) (a : Option Addr) (c : Nat) (l : List (Int × Int)) (ho : w.ownsRow B 140 2 (.slice a l.length c) l.length (icells l)) (hn : ∀ k, (Value.slice a l.length c).ownBlock = some k → ¬ OwnA b S k) (t : Int) :
    OMem (((w.setCell ⟨b, 9, none⟩ (.slice a l.length c)).setCell ⟨b, 5, none⟩ (.int .i64 0)).setCell ⟨b, 6, none⟩ (.int .i64 t)) B b 140 { M with ids := l, top := 0, oldTop := t } { S with I := (a, c) } :=
  OMem.setOldTop (OMem.setTop (h.putI a c l ho hn) 0) t
theorem maj_keep (u1 u2 u3 : Value) : Keep (OwnA b S) w (((w.setCell ⟨b, 9, none⟩ u1).setCell ⟨b, 5, none⟩ u2).setCell ⟨b, 6, none⟩ u3) :=
  Keep.set_ (Keep.set_ (Keep.set_ (Keep.refl _ w) (p := ⟨b, 9, none⟩) (Or.inl (Or.inl rfl)) _) (p := ⟨b, 5, none⟩) (Or.inl (Or.inl rfl)) _) (p := ⟨b, 6, none⟩) (Or.inl (Or.inl rfl)) _
end
/-- Behind W, Roots, Weak. -/
def majR (M : Mem) : Nat → Mem
  | 0 => { M with W := majW M }
  | 1 => { M with W := majW M, roots := M.roots.map (fw1 M) }
  | _ + 2 => { M with W := majW M, roots := M.roots.map (fw1 M), weak := M.weak.map (fw1 M) }
theorem Full.okR {M : Mem} (h : Full M) : (majR M 2).Ok :=
  { h.ok with W := h.okN.W, lenW := h.okN.lenW, roots := h.okN.roots, lenR := h.okN.lenR, weak := h.okN.weak, lenK := h.okN.lenK }
theorem topAt_end (M : Mem) : topAt M (ordP M).length = endM M := by
  unfold topAt endM
  rw [List.take_length]
theorem cards_few {M : Mem} (h : Shp M) : 0 < M.cards.length ∧ M.cards.length ≤ 200000 := by
  have c1 := h.c1
  have c2 := h.c2
  have o1 := h.o1
  have o2 := h.o2
  have cl := h.cl
  have hclen : 0 < M.cards.length := by
    have := h.card (2 * M.half) (Int.le_refl _) (by omega)
    omega
  have h2 : (M.old + M.card - 1) / M.card ≤ (M.old + M.card - 1) := by
    rcases Int.lt_or_le (M.old + M.card - 1) 0 with q | q
    · omega
    · exact Int.ediv_le_self _ q
  exact ⟨hclen, by omega⟩
/-- Where each goes to, as a map's pairs. -/
def toE (l : List (Nat × Nat)) : List (Int × Int) := l.map fun p => ((p.1 : Int), (p.2 : Int))
theorem toE_look (l : List (Nat × Nat)) (a : Nat) : mlook (toE l) (a : Int) = (lookN l a).map fun t : Nat => (t : Int) := by
  unfold mlook lookN toE
  rw [List.find?_map]
  have e : ((fun p : Int × Int => (a : Int) == p.1) ∘ fun p : Nat × Nat => ((p.1 : Int), (p.2 : Int))) = fun p : Nat × Nat => a == p.1 := by
    funext p
    simp only [Function.comp]
    rw [Bool.eq_iff_iff]
    simp only [beq_iff_eq]
    omega
  rw [e]
  cases l.find? (fun p => a == p.1) <;> rfl
/-- The two maps, and the variables that hold them. -/
structure FwV (w : World) (nb tb mb mt : Nat) (M : Mem) : Prop where
  n : w.cell? ⟨nb, 0, none⟩ = some (.map (some mb))
  t : w.cell? ⟨tb, 0, none⟩ = some (.map (some mt))
  num : MapI w mb .i64 (mvE (numE (ats (reachP M))))
  to_ : MapI w mt .i64 (mvE (toE (toM M)))
theorem FwV.ext {w w' : World} {nb tb mb mt : Nat} {M : Mem} (h : FwV w nb tb mb mt M) (hx : Ext w w') : FwV w' nb tb mb mt M := ⟨hx.cell_ h.n, hx.cell_ h.t, h.num.ext hx, h.to_.ext hx⟩
theorem map_look {w : World} {mb : Nat} {es : List (Int × Int)} (h : MapI w mb .i64 (mvE es)) (k : Int) (c : Bool) :
    (Instr.lookup 103 (.map (some mb)) (.int .i64 k) c).run Tryz.prog w = .ok (if c then .tuple #[((mlook es k).map (.int .i64 ·)).getD (.int .i64 0), .bool (mlook es k).isSome] else ((mlook es k).map (.int .i64 ·)).getD (.int .i64 0)) w := by
  rw [run_lookup_mapi undMoved undInt (zeroInt w) h k c, mget_mvE]
  cases mlook es k <;> rfl
set_option maxRecDepth 100000 in
set_option maxHeartbeats 4000000 in
theorem fw_stay (M : Mem) (u : Int) (h0 : 0 ≤ u) (h1 : u ≤ 18446744073709551615) (nb tb mb mt : Nat) (w : World) (h : FwV w nb tb mb mt M) (hk : kindW u ≠ 0 ∨ u = 0) :
    Calls Tryz.prog 102 #[.int .u64 u, .pointer (some ⟨nb, 0, none⟩), .pointer (some ⟨tb, 0, none⟩)] w fun e w' => e = .returned (.tuple #[.int .u64 u, .bool true]) ∧ Ext w w' := by
  clear h
  by_cases hk0 : kindW u = 0
  · have hu : u = 0 := by omega
    subst hu
    have hk1 : (kindW 0 == 0) = true := by decide
    go_enter Tryz.func102, Tryz.ntmps102
    go_wp2_with (go_at_call 103; refine (kind_any _ h0 h1 _).mono ?_; rintro e w' ⟨rfl, hw9⟩; have hw9 := hw9.symm; subst hw9)
    go_ret2
    exact ⟨rfl, Ext.refl _⟩
  · have hk1 : (kindW u == 0) = false := by simpa using hk0
    clear hk
    go_enter Tryz.func102, Tryz.ntmps102
    go_wp2_with (go_at_call 103; refine (kind_any _ h0 h1 _).mono ?_; rintro e w' ⟨rfl, hw9⟩; have hw9 := hw9.symm; subst hw9)
    go_ret2
    exact ⟨rfl, Ext.refl _⟩
set_option maxRecDepth 100000 in
set_option maxHeartbeats 4000000 in
theorem fw_gone (M : Mem) (u : Int) (h0 : 0 ≤ u) (h1 : u ≤ 18446744073709551615) (nb tb mb mt : Nat) (w : World) (h : FwV w nb tb mb mt M) (hk : kindW u = 0) (hu : u ≠ 0) (hi : inSt (ats (reachP M)) (placeW u) = false) :
    Calls Tryz.prog 102 #[.int .u64 u, .pointer (some ⟨nb, 0, none⟩), .pointer (some ⟨tb, 0, none⟩)] w fun e w' => e = .returned (.tuple #[.int .u64 2, .bool false]) ∧ Ext w w' := by
  have hk1 : (kindW u == 0) = true := by simpa using hk
  have hu1 : (u == 0) = false := by simpa using hu
  have hlk : ∀ n, (Instr.lookup 103 (.map (some mb)) (.int .i64 (placeW u)) true).run Tryz.prog (w.drewN n) = .ok (.tuple #[.int .i64 0, .bool false]) (w.drewN n) := fun n => by
    rw [map_look ((h.num).drewN n), numE_none hi]; rfl
  have hcn := h.n
  have hcon : constW 0 = 2 := by decide
  clear h hi
  go_enter Tryz.func102, Tryz.ntmps102
  go_wp2_with (go_at_call 103; refine (kind_any _ h0 h1 _).mono ?_; rintro e w' ⟨rfl, hw9⟩; have hw9 := hw9.symm; subst hw9)
  go_quiet (first
    | (go_at_call 104; exact Calls.quiet_of_same (place_any _ h0 h1 _)))
  go_wp2_with (go_at_call 39; refine (const_any 0 _).mono ?_; rintro e w' ⟨he, hw9⟩; rw [hcon] at he; subst he; have hw9 := hw9.symm; subst hw9)
  go_ret2
  exact ⟨rfl, Ext.drewN_ (Ext.refl _) _⟩
set_option maxRecDepth 100000 in
set_option maxHeartbeats 4000000 in
theorem fw_there (M : Mem) (u : Int) (h0 : 0 ≤ u) (h1 : u ≤ 18446744073709551615) (nb tb mb mt : Nat) (w : World) (h : FwV w nb tb mb mt M) (hk : kindW u = 0) (hu : u ≠ 0) (hi : inSt (ats (reachP M)) (placeW u) = true) (t : Nat) (a : Nat) (ha : placeW u = (a : Int)) (hl : lookN (toM M) a = some t) :
    Calls Tryz.prog 102 #[.int .u64 u, .pointer (some ⟨nb, 0, none⟩), .pointer (some ⟨tb, 0, none⟩)] w fun e w' => e = .returned (.tuple #[.int .u64 (addrW t), .bool true]) ∧ Ext w w' := by
  have hk1 : (kindW u == 0) = true := by simpa using hk
  have hu1 : (u == 0) = false := by simpa using hu
  obtain ⟨i, hm⟩ := numE_some hi
  have hlk : ∀ n, (Instr.lookup 103 (.map (some mb)) (.int .i64 (placeW u)) true).run Tryz.prog (w.drewN n) = .ok (.tuple #[.int .i64 i, .bool true]) (w.drewN n) := fun n => by
    rw [map_look ((h.num).drewN n), hm]; rfl
  have HT : Hid (∀ W : World, MapI W mt .i64 (mvE (toE (toM M))) → (Instr.lookup 103 (.map (some mt)) (.int .i64 (placeW u)) false).run Tryz.prog W = .ok (.int .i64 (t : Int)) W) := fun W hW => by
    rw [map_look hW, ha, toE_look, hl]; rfl
  have hcn := h.n
  have HH := Lib.hid h
  clear h hi hm hl ha
  go_enter Tryz.func102, Tryz.ntmps102
  go_wp2_with (go_at_call 103; refine (kind_any _ h0 h1 _).mono ?_; rintro e w' ⟨rfl, hw9⟩; have hw9 := hw9.symm; subst hw9)
  go_quiet (first
    | (go_at_call 104; exact Calls.quiet_of_same (place_any _ h0 h1 _)))
  go_wp2
  refine named_world' (fun W2 hW2 => ?_)
  have hE2 : Ext w W2 := by rw [hW2]; exact Ext.drewN_ (Ext.refl _) _
  have hct := (HH.out.ext hE2).t
  have hlt : ∀ n, (Instr.lookup 103 (.map (some mt)) (.int .i64 (placeW u)) false).run Tryz.prog (W2.drewN n) = .ok (.int .i64 (t : Int)) (W2.drewN n) := fun n => HT.out _ (((HH.out.ext hE2).to_).drewN n)
  have HE2 := Lib.hid hE2
  clear hW2 hE2 hlk hcn
  go_quiet (first
    | (go_at_call 104; exact Calls.quiet_of_same (place_any _ h0 h1 _))
    | (go_at_call 43; exact Calls.quiet_of_same (addr_any _ _)))
  go_wp2
  go_ret2
  exact ⟨rfl, Ext.drewN_ HE2.out _⟩
theorem fw_walk (M : Mem) (hg : goodB M = true) (u : Int) (h0 : 0 ≤ u) (h1 : u ≤ 18446744073709551615) (hf : fldB (startsM M) u = true) (nb tb mb mt : Nat) (w : World) (h : FwV w nb tb mb mt M) :
    Calls Tryz.prog 102 #[.int .u64 u, .pointer (some ⟨nb, 0, none⟩), .pointer (some ⟨tb, 0, none⟩)] w fun e w' => e = .returned (.tuple #[.int .u64 (fwM M u).1, .bool (fwM M u).2]) ∧ Ext w w' := by
  unfold fwM
  by_cases hk : kindW u ≠ 0 ∨ u = 0
  · rw [if_pos hk]; exact fw_stay M u h0 h1 nb tb mb mt w h hk
  · rw [if_neg hk]
    by_cases hi : inSt (ats (reachP M)) (placeW u) = true
    · rw [if_pos hi]
      obtain ⟨o, ho, e⟩ := inSt_obs.1 hi
      have hd : DomM M o.a := List.mem_map_of_mem (f := (·.a)) ho
      obtain ⟨t, ht⟩ := lookN_some (l := toM M) (a := o.a) (by unfold toM; rw [topsW_fst]; exact (ordP_mem M o.a).2 hd)
      have et : toOf M o.a = t := by unfold toOf; rw [ht]; rfl
      rw [← e, Int.toNat_natCast, et]
      exact fw_there M u h0 h1 nb tb mb mt w h (by omega) (by omega) hi t o.a e.symm ht
    · rw [if_neg hi]
      exact fw_gone M u h0 h1 nb tb mb mt w h (by omega) (by omega) (by simpa using hi)
end Go.Proofs.YtelhoppfidibiaaGreatDoor
