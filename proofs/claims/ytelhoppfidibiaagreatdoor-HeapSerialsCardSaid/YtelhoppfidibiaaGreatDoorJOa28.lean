/- The walk of the document's CheckOf, whatever the memory: it is the program's Check. -/
import Derived.Test.YtelhoppfidibiaaGreatDoorJOa27
import Derived.Test.YtelhoppfidibiaaGreatDoorJOa18
import Derived.Handy
import Derived.Test.YtelhoppfidibiaaGreatDoorJOa16
import Derived.Test.YtelhoppfidibiaaGreatDoorJOa24
namespace Go.Proofs.YtelhoppfidibiaaGreatDoor
open Go.RowKit
set_option linter.unusedVariables false
set_option linter.unusedSimpArgs false
def F3 (w : World) (a k c : Int) (e : Ending) (w' : World) : Prop := e = .returned (.tuple #[.int .i64 a, .int .i64 k, .int .i64 c]) ∧ Ext w w'
def comeP (W : List Int) (out : List Ob) (u : Int) : List Ob := if 0 ≤ ptsW u ∧ inSt (ats out) (ptsW u) = false then out ++ [obW W (ptsW u).toNat] else out
def comesP (W : List Int) (out : List Ob) (us : List Int) : List Ob := us.foldl (comeP W) out
def fldsW (W : List Int) (o : Ob) : List Int := (List.range o.n).map fun i => wat W (o.a + 1 + i)
def stepP (W : List Int) (out : List Ob) (o : Ob) : List Ob := if rawB (hKind o.w) then out else comesP W out (fldsW W o)
def reachG (W : List Int) : Nat → Nat → List Ob → List Ob
  | 0, _, out => out
  | f + 1, k, out =>
    match out[k]? with
    | none => out
    | some o => reachG W f (k + 1) (stepP W out o)
def reachP (M : Mem) : List Ob := reachG M.W M.W.length 0 (comesP M.W [] M.roots)

/-- What is gathered: each once, each an object. -/
structure Gath (M : Mem) (out : List Ob) : Prop where
  nodup : (out.map (·.a)).Nodup
  mem : ∀ o ∈ out, o ∈ objsAll M
theorem Gath.nil (M : Mem) : Gath M [] := ⟨by simp, fun o h => by simp at h⟩
theorem pts_ob {M : Mem} {u : Int} (hf : fldB (startsM M) u = true) (h : 0 ≤ ptsW u) : ∃ x ∈ objsAll M, (x.a : Int) = ptsW u ∧ obW M.W (ptsW u).toNat = x := by
  unfold ptsW at h ⊢
  split at h
  · rename_i hc
    rw [if_pos hc]
    have hin : placeW u ∈ startsM M := by
      unfold fldB at hf
      rw [if_pos hc.1] at hf
      simp only [Bool.or_eq_true, beq_iff_eq] at hf
      rcases hf with q | q
      · exact absurd q hc.2.1
      · exact List.contains_iff_mem.1 q
    obtain ⟨x, hx, e⟩ := List.mem_map.1 hin
    refine ⟨x, hx, e, ?_⟩
    have hw : x.w = wat M.W x.a := by
      rcases obM_of hx with q | q
      · exact q.w
      · exact q.w
    rw [← e, Int.toNat_natCast]
    unfold obW
    rw [← hw]
  · omega
theorem Gath.come {M : Mem} {out : List Ob} (h : Gath M out) {u : Int} (hf : fldB (startsM M) u = true) : Gath M (comeP M.W out u) := by
  unfold comeP
  split
  · rename_i hc
    obtain ⟨x, hx, e1, e2⟩ := pts_ob hf hc.1
    rw [e2]
    refine ⟨?_, fun o ho => ?_⟩
    · rw [List.map_append, List.nodup_append]
      refine ⟨h.nodup, by simp, fun a ha b hb e => ?_⟩
      simp only [List.map_cons, List.map_nil, List.mem_singleton] at hb
      subst hb e
      obtain ⟨o, ho, e3⟩ := List.mem_map.1 ha
      have : inSt (ats out) (ptsW u) = true := List.contains_iff_mem.2 (List.mem_map.2 ⟨o, ho, by rw [e3]; exact e1⟩)
      rw [hc.2] at this; cases this
    · rcases List.mem_append.1 ho with q | q
      · exact h.mem o q
      · rw [List.mem_singleton.1 q]; exact hx
  · exact h
theorem Gath.comes {M : Mem} : ∀ (us : List Int) (out : List Ob), Gath M out → (∀ u ∈ us, fldB (startsM M) u = true) → Gath M (comesP M.W out us)
  | [], out, h, _ => h
  | u :: us, out, h, hf => Gath.comes us _ (h.come (hf u (by simp))) fun v hv => hf v (by simp [hv])
theorem Gath.step {M : Mem} (hfl : (objsAll M).all (okFld M (startsM M)) = true) {out : List Ob} (h : Gath M out) {o : Ob} (ho : o ∈ objsAll M) : Gath M (stepP M.W out o) := by
  unfold stepP
  split
  · exact h
  · rename_i hr
    refine Gath.comes _ _ h fun v hv => ?_
    obtain ⟨k, hk, rfl⟩ := List.mem_map.1 hv
    exact fld_ok hfl ho (by simpa using hr) k (List.mem_range.1 hk)
theorem Gath.len {M : Mem} {out : List Ob} (h : Gath M out) : out.length ≤ (objsAll M).length := by
  have h1 := len_sub (out.map (·.a)) ((objsAll M).map (·.a)) h.nodup fun k hk => by
    obtain ⟨o, ho, rfl⟩ := List.mem_map.1 hk
    exact List.mem_map_of_mem (f := (·.a)) (h.mem o ho)
  simpa using h1
theorem comeP_app (W : List Int) (out : List Ob) (u : Int) : ∃ t, comeP W out u = out ++ t := by
  unfold comeP
  split
  · exact ⟨_, rfl⟩
  · exact ⟨[], by simp⟩
theorem comesP_app (W : List Int) : ∀ (us : List Int) (out : List Ob), ∃ t, comesP W out us = out ++ t
  | [], out => ⟨[], by simp [comesP]⟩
  | u :: us, out => by
    obtain ⟨t, ht⟩ := comeP_app W out u
    obtain ⟨s, hs⟩ := comesP_app W us (comeP W out u)
    exact ⟨t ++ s, by unfold comesP at hs ⊢; rw [List.foldl_cons, hs, ht, List.append_assoc]⟩
theorem stepP_app (W : List Int) (out : List Ob) (o : Ob) : ∃ t, stepP W out o = out ++ t := by
  unfold stepP
  split
  · exact ⟨[], by simp⟩
  · exact comesP_app W _ _
theorem reachG_gath {M : Mem} (hfl : (objsAll M).all (okFld M (startsM M)) = true) : ∀ (f k : Nat) (out : List Ob), Gath M out → Gath M (reachG M.W f k out)
  | 0, _, out, h => h
  | f + 1, k, out, h => by
    unfold reachG
    cases e : out[k]? with
    | none => exact h
    | some o => exact reachG_gath hfl f (k + 1) _ (h.step hfl (h.mem o (List.mem_of_getElem? e)))
theorem reachP_gath {M : Mem} (hg : goodB M = true) : Gath M (reachP M) := by
  obtain ⟨hs, hob, hr, hw, hfo, hid⟩ := good_parts hg
  refine reachG_gath hfo _ _ _ (Gath.comes _ _ (Gath.nil M) fun u hu => ?_)
  unfold fieldsB at hr
  rw [List.all_eq_true] at hr
  exact hr u hu

/-- A word, and what it is now. -/
def Cor (f : Nat → Nat) (Dom : Nat → Prop) (u v : Int) : Prop := (ptsW u < 0 ∧ v = u) ∨ ∃ a : Nat, ptsW u = (a : Int) ∧ Dom a ∧ ptsW v = (f a : Int) ∧ kindW u = 0 ∧ u ≠ 0 ∧ kindW v = 0 ∧ v ≠ 0
/-- Words that hold the same graph, elsewhere. -/
structure Morph (V W : List Int) (Dom : Nat → Prop) (f : Nat → Nat) : Prop where
  inj : ∀ a b, Dom a → Dom b → f a = f b → a = b
  kind : ∀ a, Dom a → hKind (wat W (f a)) = hKind (wat V a)
  size : ∀ a, Dom a → hSize (wat W (f a)) = hSize (wat V a)
  fld : ∀ a, Dom a → rawB (hKind (wat V a)) = false → ∀ k, k < szW V a → Cor f Dom (wat V (a + 1 + k)) (wat W (f a + 1 + k))
  raw : ∀ a, Dom a → rawB (hKind (wat V a)) = true → ∀ k, k < szW V a → wat W (f a + 1 + k) = wat V (a + 1 + k)
section
variable {V W : List Int} {Dom : Nat → Prop} {f : Nat → Nat}
def InD (V : List Int) (Dom : Nat → Prop) (out : List Ob) : Prop := ∀ o ∈ out, Dom o.a ∧ o = obW V o.a
theorem inD_st (hm : Morph V W Dom f) {out : List Ob} (h : InD V Dom out) {a : Nat} (ha : Dom a) : inSt (ats (out.map fun o => obW W (f o.a))) (f a : Int) = inSt (ats out) (a : Int) := by
  rw [Bool.eq_iff_iff]
  unfold inSt ats
  rw [List.contains_iff_mem, List.contains_iff_mem, List.map_map]
  constructor
  · intro q
    obtain ⟨o, ho, e⟩ := List.mem_map.1 q
    have e' : (f o.a : Int) = (f a : Int) := e
    exact List.mem_map.2 ⟨o, ho, by rw [hm.inj o.a a (h o ho).1 ha (by omega)]⟩
  · intro q
    obtain ⟨o, ho, e⟩ := List.mem_map.1 q
    refine List.mem_map.2 ⟨o, ho, ?_⟩
    show (f o.a : Int) = _
    rw [show o.a = a by omega]
theorem come_sim (hm : Morph V W Dom f) {out : List Ob} (h : InD V Dom out) {u v : Int} (hc : Cor f Dom u v) : comeP W (out.map fun o => obW W (f o.a)) v = (comeP V out u).map (fun o => obW W (f o.a)) ∧ InD V Dom (comeP V out u) := by
  unfold comeP
  rcases hc with ⟨h1, h2⟩ | ⟨a, h1, h2, h3, _⟩
  · subst h2
    rw [if_neg (by omega), if_neg (by omega)]
    exact ⟨rfl, h⟩
  · rw [h1, h3, inD_st hm h h2]
    by_cases q : inSt (ats out) (a : Int) = false
    · rw [if_pos ⟨by omega, q⟩, if_pos ⟨by omega, q⟩, List.map_append]
      refine ⟨rfl, fun o ho => ?_⟩
      rcases List.mem_append.1 ho with ho | ho
      · exact h o ho
      · rw [List.mem_singleton.1 ho]; exact ⟨h2, rfl⟩
    · rw [if_neg (fun e => q e.2), if_neg (fun e => q e.2)]
      exact ⟨rfl, h⟩
theorem comes_sim (hm : Morph V W Dom f) : ∀ (us vs : List Int) (out : List Ob), InD V Dom out → us.length = vs.length → (∀ i, i < us.length → Cor f Dom (us.getD i 0) (vs.getD i 0)) →
    comesP W (out.map fun o => obW W (f o.a)) vs = (comesP V out us).map (fun o => obW W (f o.a)) ∧ InD V Dom (comesP V out us)
  | [], [], out, h, _, _ => ⟨rfl, h⟩
  | u :: us, v :: vs, out, h, hl, hc => by
    obtain ⟨e1, e2⟩ := come_sim (u := u) (v := v) hm h (hc 0 (by simp))
    obtain ⟨e3, e4⟩ := comes_sim hm us vs _ e2 (by simpa using hl) fun i hi => by simpa using hc (i + 1) (by simpa using hi)
    have e1' : comeP W (out.map fun o => obW W (f o.a)) v = (comeP V out u).map (fun o => obW W (f o.a)) := e1
    unfold comesP at e3 e4 ⊢
    rw [List.foldl_cons, List.foldl_cons, e1', e3]
    exact ⟨rfl, e4⟩
theorem step_sim (hm : Morph V W Dom f) {out : List Ob} (h : InD V Dom out) {o : Ob} (ho : o ∈ out) : stepP W (out.map fun o => obW W (f o.a)) (obW W (f o.a)) = (stepP V out o).map (fun o => obW W (f o.a)) ∧ InD V Dom (stepP V out o) := by
  obtain ⟨hd, e⟩ := h o ho
  have ew : o.w = wat V o.a := by rw [e]; rfl
  unfold stepP
  have hk : hKind (obW W (f o.a)).w = hKind o.w := by rw [ew]; exact hm.kind _ hd
  rw [hk]
  cases hr : rawB (hKind o.w) with
  | true => exact ⟨rfl, h⟩
  | false =>
    simp only [Bool.false_eq_true, if_false]
    have hn : (obW W (f o.a)).n = o.n := by unfold Ob.n; rw [ew]; show (hSize (wat W (f o.a))).toNat = _; rw [hm.size _ hd]
    refine comes_sim hm _ _ _ h (by simp [fldsW, hn]) fun i hi => ?_
    have hi' : i < o.n := by simpa [fldsW] using hi
    have g1 : (fldsW V o).getD i 0 = wat V (o.a + 1 + i) := by simp [fldsW, List.getD_eq_getElem?_getD, hi']
    have g2 : (fldsW W (obW W (f o.a))).getD i 0 = wat W (f o.a + 1 + i) := by
      have hi2 : i < (obW W (f o.a)).n := by rw [hn]; exact hi'
      simp [fldsW, List.getD_eq_getElem?_getD, hi2]; rfl
    rw [g1, g2]
    refine hm.fld o.a hd (by rw [← ew]; exact hr) i ?_
    unfold szW
    rw [← ew]; exact hi'
theorem reachG_sim (hm : Morph V W Dom f) : ∀ (n k : Nat) (out : List Ob), InD V Dom out → reachG W n k (out.map fun o => obW W (f o.a)) = (reachG V n k out).map (fun o => obW W (f o.a)) ∧ InD V Dom (reachG V n k out)
  | 0, _, out, h => ⟨rfl, h⟩
  | n + 1, k, out, h => by
    unfold reachG
    rw [List.getElem?_map]
    cases e : out[k]? with
    | none => exact ⟨rfl, h⟩
    | some o =>
      obtain ⟨s1, s2⟩ := step_sim hm h (List.mem_of_getElem? e)
      simp only [Option.map_some]
      rw [s1]
      exact reachG_sim hm n (k + 1) _ s2
end
/-- WHAT IS COME TO, ELSEWHERE. -/
theorem reach_sim {M N : Mem} {Dom : Nat → Prop} {f : Nat → Nat} (hm : Morph M.W N.W Dom f) (hl : N.W.length = M.W.length) (hr : M.roots.length = N.roots.length) (hc : ∀ i, i < M.roots.length → Cor f Dom (M.roots.getD i 0) (N.roots.getD i 0)) :
    reachP N = (reachP M).map (fun o => obW N.W (f o.a)) ∧ InD M.W Dom (reachP M) := by
  obtain ⟨s1, s2⟩ := comes_sim hm M.roots N.roots [] (fun o ho => by simp at ho) hr hc
  have s1' : comesP N.W [] N.roots = (comesP M.W [] M.roots).map (fun o => obW N.W (f o.a)) := s1
  unfold reachP
  rw [s1', hl]
  exact reachG_sim hm _ 0 _ s2
def rootS (l : List Ob) (out : ByteArray) (u : Int) : ByteArray := ((out ++ ⟨#[114, 111, 111, 116, 32]⟩) ++ toldS u l) ++ ⟨#[10]⟩
def rootsS (l : List Ob) (us : List Int) (out : ByteArray) : ByteArray := us.foldl (rootS l) out
def fieldS (l : List Ob) (kind : Int) (out : ByteArray) (u : Int) : ByteArray := if kind < 8 then (out ++ ⟨#[32, 48, 120]⟩) ++ hexS u else (out ++ ⟨#[32]⟩) ++ toldS u l
def fieldsS (l : List Ob) (kind : Int) (us : List Int) (out : ByteArray) : ByteArray := us.foldl (fieldS l kind) out
def headS (i : Nat) (kind : Int) (out : ByteArray) : ByteArray := ((out ++ decS (i : Int)) ++ ⟨#[32]⟩) ++ decS kind
/-- The objects, from the i-th on. -/
def objsS (W : List Int) (l : List Ob) : Nat → List Ob → ByteArray → ByteArray
  | _, [], out => out
  | i, o :: r, out => objsS W l (i + 1) r (fieldsS l (hKind o.w) (fldsW W o) (headS i (hKind o.w) out) ++ ⟨#[10]⟩)
/-- The first text. -/
def graphS (M : Mem) : ByteArray := objsS M.W (reachP M) 0 (reachP M) (rootsS (reachP M) M.roots ⟨#[]⟩)
section
variable {V W : List Int} {Dom : Nat → Prop} {f : Nat → Nat}
theorem objAt_map (hm : Morph V W Dom f) : ∀ (l : List Ob), InD V Dom l → ∀ a : Nat, Dom a → objAt (l.map fun o => obW W (f o.a)) (f a : Int) = objAt l (a : Int)
  | l, h, a, ha => by
    unfold objAt
    suffices key : List.findIdx? (fun o : Ob => (o.a : Int) == (f a : Int)) (l.map fun o => obW W (f o.a)) = List.findIdx? (fun o : Ob => (o.a : Int) == (a : Int)) l by rw [key]
    induction l with
    | nil => rfl
    | cons o l ih =>
      have ih' := ih fun x hx => h x (by simp [hx])
      rw [List.map_cons, List.findIdx?_cons, List.findIdx?_cons]
      have e : (((obW W (f o.a)).a : Int) == (f a : Int)) = ((o.a : Int) == (a : Int)) := by
        rw [Bool.eq_iff_iff]
        simp only [beq_iff_eq]
        show (f o.a : Int) = (f a : Int) ↔ _
        constructor
        · intro q
          have := hm.inj o.a a (h o (by simp)).1 ha (by omega)
          omega
        · intro q
          rw [show o.a = a by omega]
      rw [e, ih']
theorem told_map (hm : Morph V W Dom f) {l : List Ob} (h : InD V Dom l) {u v : Int} (hc : Cor f Dom u v) : toldS v (l.map fun o => obW W (f o.a)) = toldS u l := by
  rcases hc with ⟨h1, h2⟩ | ⟨a, h1, h2, h3, h4, h5, h6, h7⟩
  · subst h2
    unfold toldS
    have e : ∀ l : List Ob, objAt l (ptsW v) = -1 := fun l => by
      unfold objAt
      rw [List.findIdx?_eq_none_iff.2 (fun x hx => by
        simp only [beq_eq_false_iff_ne, ne_eq]; omega)]
      rfl
    rw [e, e]
  · unfold kindW at h4 h6
    have key : ∀ (u : Int) (l : List Ob), u % 4 = 0 → u ≠ 0 → toldS u l = (if objAt l (ptsW u) < 0 then ⟨#[64]⟩ else ⟨#[64]⟩ ++ decS (objAt l (ptsW u))) := fun u l g1 g2 => by
      unfold toldS
      rw [if_neg (show ¬ u % 4 = 1 by omega), if_neg (show ¬ u % 4 = 2 by omega), if_neg g2]
    rw [key v _ h6 h7, key u _ h4 h5, h1, h3, objAt_map hm l h a h2]
theorem rootsS_map (hm : Morph V W Dom f) {l : List Ob} (h : InD V Dom l) : ∀ (us vs : List Int) (out : ByteArray), us.length = vs.length → (∀ i, i < us.length → Cor f Dom (us.getD i 0) (vs.getD i 0)) → rootsS (l.map fun o => obW W (f o.a)) vs out = rootsS l us out
  | [], [], out, _, _ => rfl
  | u :: us, v :: vs, out, hl, hc => by
    have h0 : Cor f Dom u v := hc 0 (by simp)
    have ih := rootsS_map hm h us vs (rootS l out u) (by simpa using hl) fun i hi => by simpa using hc (i + 1) (by simpa using hi)
    unfold rootsS at ih ⊢
    rw [List.foldl_cons, List.foldl_cons, ← ih]
    unfold rootS
    rw [told_map hm h h0]
theorem fieldsS_raw (l l' : List Ob) (kind : Int) (hk : kind < 8) : ∀ (us : List Int) (out : ByteArray), fieldsS l kind us out = fieldsS l' kind us out
  | [], out => rfl
  | u :: us, out => by
    unfold fieldsS
    rw [List.foldl_cons, List.foldl_cons]
    have e : fieldS l kind out u = fieldS l' kind out u := by unfold fieldS; rw [if_pos hk, if_pos hk]
    rw [e]
    exact fieldsS_raw l l' kind hk us _
theorem fieldsS_map (hm : Morph V W Dom f) {l : List Ob} (h : InD V Dom l) (kind : Int) (hk : ¬ kind < 8) : ∀ (us vs : List Int) (out : ByteArray), us.length = vs.length → (∀ i, i < us.length → Cor f Dom (us.getD i 0) (vs.getD i 0)) → fieldsS (l.map fun o => obW W (f o.a)) kind vs out = fieldsS l kind us out
  | [], [], out, _, _ => rfl
  | u :: us, v :: vs, out, hl, hc => by
    have h0 : Cor f Dom u v := hc 0 (by simp)
    have ih := fieldsS_map hm h kind hk us vs (fieldS l kind out u) (by simpa using hl) fun i hi => by simpa using hc (i + 1) (by simpa using hi)
    unfold fieldsS at ih ⊢
    rw [List.foldl_cons, List.foldl_cons, ← ih]
    unfold fieldS
    rw [if_neg hk, if_neg hk, told_map hm h h0]
theorem objsS_map (hm : Morph V W Dom f) {l : List Ob} (h : InD V Dom l) : ∀ (r : List Ob) (i : Nat) (out : ByteArray), InD V Dom r → objsS W (l.map fun o => obW W (f o.a)) i (r.map fun o => obW W (f o.a)) out = objsS V l i r out
  | [], i, out, _ => rfl
  | o :: r, i, out, hr => by
    obtain ⟨hd, e⟩ := hr o (by simp)
    have ew : o.w = wat V o.a := by rw [e]; rfl
    rw [List.map_cons, objsS, objsS]
    have hk : hKind (obW W (f o.a)).w = hKind o.w := by rw [ew]; exact hm.kind _ hd
    have hn : (obW W (f o.a)).n = o.n := by unfold Ob.n; rw [ew]; show (hSize (wat W (f o.a))).toNat = _; rw [hm.size _ hd]
    have hsz : szW V o.a = o.n := by unfold szW Ob.n; rw [ew]
    have hfs : ∀ out, fieldsS (l.map fun o => obW W (f o.a)) (hKind o.w) (fldsW W (obW W (f o.a))) out = fieldsS l (hKind o.w) (fldsW V o) out := fun out => by
      by_cases q : hKind o.w < 8
      · have hraw : rawB (hKind (wat V o.a)) = true := by rw [← ew]; unfold rawB; exact decide_eq_true q
        have e2 : fldsW W (obW W (f o.a)) = fldsW V o := by
          unfold fldsW
          rw [hn]
          refine List.map_congr_left fun i hi => ?_
          exact hm.raw o.a hd hraw i (by rw [hsz]; exact List.mem_range.1 hi)
        rw [e2]
        exact fieldsS_raw _ _ _ q _ _
      · have hraw : rawB (hKind (wat V o.a)) = false := by rw [← ew]; unfold rawB; exact decide_eq_false q
        refine fieldsS_map hm h _ q _ _ _ (by simp [fldsW, hn]) fun i hi => ?_
        have hi' : i < o.n := by simpa [fldsW] using hi
        have g1 : (fldsW V o).getD i 0 = wat V (o.a + 1 + i) := by simp [fldsW, List.getD_eq_getElem?_getD, hi']
        have g2 : (fldsW W (obW W (f o.a))).getD i 0 = wat W (f o.a + 1 + i) := by
          have hi2 : i < (obW W (f o.a)).n := by rw [hn]; exact hi'
          simp [fldsW, List.getD_eq_getElem?_getD, hi2]; rfl
        rw [g1, g2]
        exact hm.fld o.a hd hraw i (by rw [hsz]; exact hi')
    rw [hk, hfs]
    exact objsS_map hm h r (i + 1) _ fun x hx => hr x (by simp [hx])
end
theorem graph_map {M N : Mem} {Dom : Nat → Prop} {f : Nat → Nat} (hm : Morph M.W N.W Dom f) (hl : N.W.length = M.W.length) (hr : M.roots.length = N.roots.length) (hc : ∀ i, i < M.roots.length → Cor f Dom (M.roots.getD i 0) (N.roots.getD i 0)) : graphS N = graphS M := by
  obtain ⟨e1, e2⟩ := reach_sim hm hl hr hc
  unfold graphS
  rw [e1, rootsS_map hm e2 M.roots N.roots _ hr hc, objsS_map hm e2 _ 0 _ e2]
end Go.Proofs.YtelhoppfidibiaaGreatDoor
