/- The walk of codeOf: code is copied. -/
import Derived.Test.YtgjjkllngopboaaDoorJCc01
import Derived.Test.YtgjjkllngopboaaDoorJCa22
namespace Go.Proofs.YtgjjkllngopboaaDoor
open Go.RowKit
set_option linter.unusedVariables false
set_option linter.unusedSimpArgs false

theorem opCells_app : ∀ (a b : List OpP), opCells (a ++ b) = opCells a ++ opCells b
  | [], b => rfl
  | x :: a, b => by simp only [List.cons_append, opCells, opCells_app a b]
theorem opCells_one (l : List OpP) : ∀ u ∈ opCells l, u.oneCell' = true := by
  induction l with
  | nil => intro u h; cases h
  | cons o l ih =>
    intro u h
    simp only [opCells, List.mem_cons] at h
    rcases h with rfl | rfl | h
    · rfl
    · rfl
    · exact ih u h
theorem own_kept {W W2 : World} {B : Nat} {e : TypeId} {size : Nat} {v : Value} {n : Nat} {xs : List Value} (h : W.ownsRow B e size v n xs) (hk : ∀ k cur, v.ownBlock = some k → W.heap[k]? = some (.cells cur e (0, 0)) → W2.heap[k]? = W.heap[k]?) : W2.ownsRow B e size v n xs := by
  obtain ⟨h1, h2⟩ := h
  refine ⟨h1, ?_⟩
  rcases h2 with h2 | ⟨g, cap, cur, hv, hg, hh, r⟩
  · exact Or.inl h2
  · refine Or.inr ⟨g, cap, cur, hv, hg, ?_, r⟩
    rw [hk g cur (by rw [hv]; rfl) hh]; exact hh
theorem own_base {W : World} {B B' : Nat} {e : TypeId} {size : Nat} {v : Value} {n : Nat} {xs : List Value} (h : W.ownsRow B e size v n xs) (hb : B' ≤ B) : W.ownsRow B' e size v n xs := by
  obtain ⟨h1, h2⟩ := h
  refine ⟨h1, ?_⟩
  rcases h2 with h2 | ⟨g, cap, cur, hv, hg, r⟩
  · exact Or.inl h2
  · exact Or.inr ⟨g, cap, cur, hv, Nat.le_trans hb hg, r⟩
/-- What one function's ops are laid into. -/
structure InC (w4 W : World) (F X : Nat) (f : FnP) (va : Option Addr) (vc : Nat) (xa : Option Addr) (xc j : Nat) : Prop where
  ext : Ext w4 W
  hF : w4.heap.size ≤ F
  hX : w4.heap.size ≤ X
  fF : W.heap[F]? = some (.cells #[.string f.name, .int .i64 f.params, .int .i64 f.locals, .int .i64 f.cells, .int .i64 f.frees, .slice va f.ops.length vc] 53 (0, 0))
  fX : W.heap[X]? = some (.cells #[.string f.name, .int .i64 f.params, .int .i64 f.locals, .int .i64 f.cells, .int .i64 f.frees, .slice xa j xc] 46 (0, 0))
  row : W.ownsRow w4.heap.size 48 2 (.slice xa j xc) j (opCells (f.ops.take j))
theorem InC.next {w4 W W1 W2 : World} {F X : Nat} {f : FnP} {va : Option Addr} {vc : Nat} {xa a2 : Option Addr} {xc c2 j : Nat} (h : InC w4 W F X f va vc xa xc j) (hj : j < f.ops.length) (hX : Ext W W1)
    (hO : W2.ownsRow w4.heap.size 48 2 (.slice a2 (j + 1) c2) (j + 1) (opCells (f.ops.take j) ++ [.string (f.ops[j]).name, .int .i64 (f.ops[j]).a])) (hG : W1.grownBy W2 (Value.slice xa j xc).ownBlock) :
    InC w4 (W2.setCell ⟨X, 5, none⟩ (.slice a2 (j + 1) c2)) F X f va vc a2 c2 (j + 1) := by
  have hrow1 : W1.ownsRow w4.heap.size 48 2 (.slice xa j xc) j (opCells (f.ops.take j)) := own_extB h.row hX
  have hF1 := keepH h.fF hX
  have hX1 := keepH h.fX hX
  have hF2 : W2.heap[F]? = some (.cells #[.string f.name, .int .i64 f.params, .int .i64 f.locals, .int .i64 f.cells, .int .i64 f.frees, .slice va f.ops.length vc] 53 (0, 0)) := by
    rw [hG.block F (lt_of_block hF1) (fun e => own_type hrow1 hF1 (by decide) e.symm)]; exact hF1
  have hX2 : W2.heap[X]? = some (.cells #[.string f.name, .int .i64 f.params, .int .i64 f.locals, .int .i64 f.cells, .int .i64 f.frees, .slice xa j xc] 46 (0, 0)) := by
    rw [hG.block X (lt_of_block hX1) (fun e => own_type hrow1 hX1 (by decide) e.symm)]; exact hX1
  have hFX : F ≠ X := fun e => by
    rw [e, hX2] at hF2
    injection hF2 with hF2
    injection hF2 with _ hF2
    exact absurd hF2 (by decide)
  refine ⟨?_, h.hF, h.hX, ?_, ?_, ?_⟩
  · exact Ext.set_ (Below.grown (h.ext.trans_ hX) hG (h.ext.trans_ hX).size fun g hg => (h.row.lt g hg).1) (p := ⟨X, 5, none⟩) h.hX _
  · rw [heap_setCell_other W2 ⟨X, 5, none⟩ F _ hFX]; exact hF2
  · rw [heap_setCell_same W2 X 5 _ _ (.slice a2 (j + 1) c2) hX2]; rfl
  · have e : f.ops.take (j + 1) = f.ops.take j ++ [f.ops[j]] := by rw [List.take_add_one, List.getElem?_eq_getElem hj]; rfl
    rw [e, opCells_app]
    exact own_set hO (own_type hO hX2 (by decide)) _
/-- What has been laid of the code. -/
structure LaidC (w W : World) (C : Nat) (c : CodeP) (iv sv nv : Option Addr × Nat) (av : Option Addr) (ac : Nat) (Lv : List OpsV) : Prop where
  ext : Ext w W
  hC : w.heap.size ≤ C
  blk : W.heap[C]? = some (.cells #[.slice av Lv.length ac, .slice iv.1 c.ints.length iv.2, .slice sv.1 c.strs.length sv.2, .slice nv.1 c.names.length nv.2] 32 (0, 0))
  len : Lv.length ≤ c.funcs.length
  I : W.ownsRow w.heap.size 2 1 (.slice iv.1 c.ints.length iv.2) c.ints.length (c.ints.map fun x => Value.int .i64 x)
  S : W.ownsRow w.heap.size 9 1 (.slice sv.1 c.strs.length sv.2) c.strs.length (c.strs.map Value.string)
  N : W.ownsRow w.heap.size 9 1 (.slice nv.1 c.names.length nv.2) c.names.length (c.names.map Value.string)
  row : W.ownsRow w.heap.size 46 6 (.slice av Lv.length ac) Lv.length (fnCells ((c.funcs.take Lv.length).zip Lv))
  ops : ∀ x ∈ (c.funcs.take Lv.length).zip Lv, W.ownsRow w.heap.size 48 2 (.slice x.2.1 x.1.ops.length x.2.2) x.1.ops.length (opCells x.1.ops)
theorem zip_snoc {c : CodeP} {Lv : List OpsV} (h : Lv.length < c.funcs.length) (v : OpsV) : (c.funcs.take (Lv ++ [v]).length).zip (Lv ++ [v]) = (c.funcs.take Lv.length).zip Lv ++ [(c.funcs[Lv.length], v)] := by
  have e : c.funcs.take (Lv ++ [v]).length = c.funcs.take Lv.length ++ [c.funcs[Lv.length]] := by
    rw [List.length_append, List.length_singleton, List.take_add_one, List.getElem?_eq_getElem h]; rfl
  rw [e, List.zip_append (by simp; omega)]
  rfl
theorem LaidC.next {w W W1 W2 : World} {C : Nat} {c : CodeP} {iv sv nv : Option Addr × Nat} {av a2 : Option Addr} {ac c2 : Nat} {Lv : List OpsV} (h : LaidC w W C c iv sv nv av ac Lv) (hlt : Lv.length < c.funcs.length) (hX : Ext W W1) (xa : Option Addr) (xc : Nat)
    (hops : W1.ownsRow w.heap.size 48 2 (.slice xa (c.funcs[Lv.length]).ops.length xc) (c.funcs[Lv.length]).ops.length (opCells (c.funcs[Lv.length]).ops))
    (hO : W2.ownsRow w.heap.size 46 6 (.slice a2 (Lv.length + 1) c2) (Lv.length + 1) (fnCells ((c.funcs.take Lv.length).zip Lv) ++ fnCells [(c.funcs[Lv.length], (xa, xc))])) (hG : W1.grownBy W2 (Value.slice av Lv.length ac).ownBlock) :
    LaidC w (W2.setCell ⟨C, 0, none⟩ (.slice a2 (Lv.length + 1) c2)) C c iv sv nv a2 c2 (Lv ++ [(xa, xc)]) := by
  have hrow1 : W1.ownsRow w.heap.size 46 6 (.slice av Lv.length ac) Lv.length (fnCells ((c.funcs.take Lv.length).zip Lv)) := own_extB h.row hX
  have key : ∀ (x : Nat) (cur : Array Value) (t : TypeId), t ≠ 46 → W1.heap[x]? = some (.cells cur t (0, 0)) → W2.heap[x]? = some (.cells cur t (0, 0)) := fun x cur t hne hx => by
    have h1 := own_type hrow1 hx hne
    rw [hG.block x (lt_of_block hx) (fun e => h1 e.symm)]
    exact hx
  have hC2 := key C _ _ (by decide) (keepH h.blk hX)
  have key2 : ∀ (x : Nat) (cur : Array Value) (t : TypeId), t ≠ 46 → t ≠ 32 → W1.heap[x]? = some (.cells cur t (0, 0)) → (W2.setCell ⟨C, 0, none⟩ (.slice a2 (Lv.length + 1) c2)).heap[x]? = some (.cells cur t (0, 0)) := fun x cur t hne hne2 hx => by
    rw [heap_setCell_other W2 ⟨C, 0, none⟩ x _ (fun e => by
      have h2 := key x cur t hne hx
      simp only at e
      rw [e, hC2] at h2
      injection h2 with h2
      injection h2 with _ h2
      exact hne2 h2.symm)]
    exact key x cur t hne hx
  have rows : ∀ (e : TypeId) (size : Nat) (v : Value) (n : Nat) (xs : List Value), e ≠ 46 → e ≠ 32 → W1.ownsRow w.heap.size e size v n xs → (W2.setCell ⟨C, 0, none⟩ (.slice a2 (Lv.length + 1) c2)).ownsRow w.heap.size e size v n xs := fun e size v n xs h1 h2 hr =>
    own_kept hr fun k cur hk hc => (key2 k cur e h1 h2 hc).trans hc.symm
  have hlen : (Lv ++ [(xa, xc)]).length = Lv.length + 1 := by simp
  refine ⟨?_, h.hC, ?_, by rw [hlen]; omega, rows _ _ _ _ _ (by decide) (by decide) (own_extB h.I hX), rows _ _ _ _ _ (by decide) (by decide) (own_extB h.S hX), rows _ _ _ _ _ (by decide) (by decide) (own_extB h.N hX), ?_, fun x hx => ?_⟩
  · exact (Ext.set_ (Below.grown (h.ext.trans_ hX) hG (h.ext.trans_ hX).size fun g hg => (h.row.lt g hg).1) (p := ⟨C, 0, none⟩) h.hC _)
  · rw [hlen, heap_setCell_same W2 C 0 _ _ (.slice a2 (Lv.length + 1) c2) hC2]
    rfl
  · rw [zip_snoc hlt, fnCells_app, hlen]
    exact own_set hO (own_type hO hC2 (by decide)) _
  · rw [zip_snoc hlt] at hx
    rcases List.mem_append.1 hx with hx | hx
    · exact rows _ _ _ _ _ (by decide) (by decide) (own_extB (h.ops x hx) hX)
    · obtain rfl := List.mem_singleton.1 hx
      exact rows _ _ _ _ _ (by decide) (by decide) hops
/-- With the blocks of the argument and of the result. -/
structure LaidD (w W : World) (P1 P2 C : Nat) (cv : Array Value) (c : CodeP) (iv sv nv : Option Addr × Nat) (av : Option Addr) (ac : Nat) (Lv : List OpsV) : Prop where
  L : LaidC w W C c iv sv nv av ac Lv
  b1 : W.heap[P1]? = some (.cells cv 26 (0, 0))
  b2 : W.heap[P2]? = some (.cells #[.slice none 0 0, .slice none 0 0, .slice none 0 0, .slice none 0 0] 32 (0, 0))
theorem LaidD.next {w W W1 W2 : World} {P1 P2 C : Nat} {cv : Array Value} {c : CodeP} {iv sv nv : Option Addr × Nat} {av a2 : Option Addr} {ac c2 : Nat} {Lv : List OpsV} (h : LaidD w W P1 P2 C cv c iv sv nv av ac Lv) (n1 : P1 ≠ C) (n2 : P2 ≠ C) (hlt : Lv.length < c.funcs.length) (hX : Ext W W1) (xa : Option Addr) (xc : Nat)
    (hops : W1.ownsRow w.heap.size 48 2 (.slice xa (c.funcs[Lv.length]).ops.length xc) (c.funcs[Lv.length]).ops.length (opCells (c.funcs[Lv.length]).ops))
    (hO : W2.ownsRow w.heap.size 46 6 (.slice a2 (Lv.length + 1) c2) (Lv.length + 1) (fnCells ((c.funcs.take Lv.length).zip Lv) ++ fnCells [(c.funcs[Lv.length], (xa, xc))])) (hG : W1.grownBy W2 (Value.slice av Lv.length ac).ownBlock) :
    LaidD w (W2.setCell ⟨C, 0, none⟩ (.slice a2 (Lv.length + 1) c2)) P1 P2 C cv c iv sv nv a2 c2 (Lv ++ [(xa, xc)]) := by
  have hrow1 : W1.ownsRow w.heap.size 46 6 (.slice av Lv.length ac) Lv.length (fnCells ((c.funcs.take Lv.length).zip Lv)) := own_extB h.L.row hX
  have key : ∀ (x : Nat) (cur : Array Value) (t : TypeId), t ≠ 46 → x ≠ C → W1.heap[x]? = some (.cells cur t (0, 0)) → (W2.setCell ⟨C, 0, none⟩ (.slice a2 (Lv.length + 1) c2)).heap[x]? = some (.cells cur t (0, 0)) := fun x cur t hne hc hx => by
    have h1 := own_type hrow1 hx hne
    rw [heap_setCell_other W2 ⟨C, 0, none⟩ x _ hc, hG.block x (lt_of_block hx) (fun e => h1 e.symm)]
    exact hx
  exact ⟨h.L.next hlt hX xa xc hops hO hG, key _ _ _ (by decide) n1 (keepH h.b1 hX), key _ _ _ (by decide) n2 (keepH h.b2 hX)⟩
theorem LaidD.out {w W W1 W2 : World} {P1 P2 C : Nat} {cv : Array Value} {c : CodeP} {iv sv nv : Option Addr × Nat} {av : Option Addr} {ac : Nat} {Lv : List OpsV} (h : LaidD w W P1 P2 C cv c iv sv nv av ac Lv) (hX : Ext W W1) (hG : W1.grownBy W2 (Value.slice av Lv.length ac).ownBlock) :
    W2.heap[C]? = some (.cells #[.slice av Lv.length ac, .slice iv.1 c.ints.length iv.2, .slice sv.1 c.strs.length sv.2, .slice nv.1 c.names.length nv.2] 32 (0, 0)) := by
  have hrow1 : W1.ownsRow w.heap.size 46 6 (.slice av Lv.length ac) Lv.length (fnCells ((c.funcs.take Lv.length).zip Lv)) := own_extB h.L.row hX
  have hx := keepH h.L.blk hX
  rw [hG.block C (lt_of_block hx) (fun e => own_type hrow1 hx (by decide) e.symm)]
  exact hx
/-- Where the copy's slices lie. -/
def vOf (iv sv nv : Option Addr × Nat) (av : Option Addr) (ac : Nat) (Lv : List OpsV) : CodeV := ⟨(av, ac), iv, sv, nv, Lv⟩
theorem LaidC.code {w W : World} {C : Nat} {c : CodeP} {iv sv nv : Option Addr × Nat} {av : Option Addr} {ac : Nat} {Lv : List OpsV} (h : LaidC w W C c iv sv nv av ac Lv) (hl : Lv.length = c.funcs.length)
    (hc : countP c + c.funcs.length + c.ints.length + c.strs.length + c.names.length ≤ 1000000000000000000) :
    RCode W c (vOf iv sv nv av ac Lv) ∧ ∀ x ∈ Lv, ∀ y, x.1 = some y → y.block < W.heap.size := by
  have hw : withV c (vOf iv sv nv av ac Lv) = (c.funcs.take Lv.length).zip Lv := by unfold withV vOf; rw [hl, List.take_length]
  refine ⟨⟨hl, ?_, row_rsl' h.I, row_rsl' h.S, row_rsl' h.N, fun x hx => ?_, hc⟩, fun v hv y hy => ?_⟩
  · rw [hw]; exact row_rsl' h.row
  · rw [hw] at hx
    exact row_rsl' (h.ops x hx)
  · obtain ⟨i, hi, rfl⟩ := List.mem_iff_getElem.1 hv
    have hm : (c.funcs[i]'(by omega), Lv[i]) ∈ (c.funcs.take Lv.length).zip Lv := by
      rw [hl, List.take_length]
      exact List.mem_iff_getElem.2 ⟨i, by simp; omega, by simp⟩
    have := (h.ops _ hm).lt y.block (by simp only [Value.ownBlock]; rw [hy])
    exact this.2
theorem ints_cell1 (l : List Int) : ∀ u ∈ l.map (fun x => Value.int .i64 x), u.oneCell' = true := by
  intro u hu; obtain ⟨x, _, rfl⟩ := List.mem_map.1 hu; rfl
theorem strs_cell1 (l : List ByteArray) : ∀ u ∈ l.map Value.string, u.oneCell' = true := by
  intro u hu; obtain ⟨x, _, rfl⟩ := List.mem_map.1 hu; rfl
def CodeOfPost (w : World) (c : CodeP) (e : Ending) (w' : World) : Prop :=
  ∃ V, e = .returned (codeV c V) ∧ RCode w' c V ∧ Ext w w' ∧ ∀ x ∈ V.fs, ∀ y, x.1 = some y → y.block < w'.heap.size
/-- The code that is laid, ahead of its functions. -/
structure HeadC (w W : World) (C : Nat) (cur : Array Value) : Prop where
  ext : Ext w W
  hC : w.heap.size ≤ C
  c : W.heap[C]? = some (.cells cur 32 (0, 0))
theorem HeadC.next {w W W2 : World} {C : Nat} {cur : Array Value} (h : HeadC w W C cur) {e : TypeId} (hne : 32 ≠ e) (hG : W.grownBy W2 none) {a2 : Option Addr} {n c2 size : Nat} {xs : List Value} (hO : W2.ownsRow w.heap.size e size (.slice a2 n c2) n xs) (k : Nat) :
    HeadC w (W2.setCell ⟨C, k, none⟩ (.slice a2 n c2)) C (cur.setIfInBounds k (.slice a2 n c2)) ∧ (W2.setCell ⟨C, k, none⟩ (.slice a2 n c2)).ownsRow w.heap.size e size (.slice a2 n c2) n xs ∧
    (∀ (e' : TypeId) (size' : Nat) (v' : Value) (n' : Nat) (xs' : List Value), 32 ≠ e' → W.ownsRow w.heap.size e' size' v' n' xs' → (W2.setCell ⟨C, k, none⟩ (.slice a2 n c2)).ownsRow w.heap.size e' size' v' n' xs') := by
  have hC2 : W2.heap[C]? = some (.cells cur 32 (0, 0)) := by
    rw [hG.block C (lt_of_block h.c) (fun e => by cases e)]; exact h.c
  refine ⟨⟨Ext.set_ (Below.grown h.ext hG h.ext.size fun g hg => by cases hg) (p := ⟨C, k, none⟩) h.hC _, h.hC, ?_⟩, own_set hO (own_type hO hC2 hne) _, fun e' size' v' n' xs' hne' hr => ?_⟩
  · rw [heap_setCell_same W2 C k _ _ (.slice a2 n c2) hC2]
  · have hr2 : W2.ownsRow w.heap.size e' size' v' n' xs' := own_kept hr fun g cu hg hc => hG.block g (lt_of_block hc) (fun e => by cases e)
    exact own_set hr2 (own_type hr2 hC2 hne') _
set_option maxRecDepth 100000 in
set_option maxHeartbeats 16000000 in
theorem codeOf_any (c : CodeP) (V : CodeV) (w : World) (hR : RCodeR w c V) (hZ : SizedC c) (hsm : smallC c = true) (hfo : ∀ f ∈ c.funcs, f.ops.length ≤ 1000000) (hcn : countP c + c.funcs.length + c.ints.length + c.strs.length + c.names.length ≤ 1000000000000000000) :
    Calls Tryd.prog 9 #[codeV c V] w (CodeOfPost w c) := by
  obtain ⟨⟨fa, fcp⟩, ⟨ia, icp⟩, ⟨sa, scp⟩, ⟨na, ncp⟩, fs⟩ := V
  obtain ⟨m1, m2, m3, m4⟩ := small_parts hsm
  have g1 := hR.capI
  have g2 := hR.capS
  have g3 := hR.capN
  have n1 := hR.nilI
  have n2 := hR.nilS
  have n3 := hR.nilN
  simp only at g1 g2 g3 n1 n2 n3
  have HN1 := Lib.hid n1
  have HN2 := Lib.hid n2
  have HN3 := Lib.hid n3
  have HR := Lib.hid hR
  have HFO := Lib.hid hfo
  have HCN := Lib.hid hcn
  clear hR hZ hsm hfo hcn n1 n2 n3
  unfold codeV
  simp only
  go_enter Tryd.func9, Tryd.ntmps9
  go_upto_region 2 with fail
  refine namedW (fun w1 hw1 => ?_)
  obtain ⟨P1, hP1⟩ : ∃ P1, P1 = w.heap.size := ⟨_, rfl⟩
  obtain ⟨P2, hP2⟩ : ∃ P2, P2 = w.heap.size + 1 := ⟨_, rfl⟩
  obtain ⟨P3, hP3⟩ : ∃ P3, P3 = w.heap.size + 1 + 1 := ⟨_, rfl⟩
  obtain ⟨b0, b1, b2⟩ := three_blk w (.cells #[.slice fa c.funcs.length fcp, .slice ia c.ints.length icp, .slice sa c.strs.length scp, .slice na c.names.length ncp] 26) (.cells #[.slice none 0 0, .slice none 0 0, .slice none 0 0, .slice none 0 0] 32) (.cells #[.slice none 0 0, .slice none 0 0, .slice none 0 0, .slice none 0 0] 32)
  rw [← hw1, ← hP1] at b0
  rw [← hw1, ← hP2] at b1
  rw [← hw1, ← hP3] at b2
  have hX0 : Ext w w1 := by rw [hw1]; exact (((Ext.refl w).alloc_ _).alloc_ _).alloc_ _
  have p0 := cellRow b0 0 _ rfl
  have p1 := cellRow b0 1 _ rfl
  have p2 := cellRow b0 2 _ rfl
  have p3 := cellRow b0 3 _ rfl
  have hh1 : HeadC w w1 P3 #[.slice none 0 0, .slice none 0 0, .slice none 0 0, .slice none 0 0] := ⟨hX0, by omega, b2⟩
  have hP13 : P1 ≠ P3 := by omega
  have hP23 : P2 ≠ P3 := by omega
  have HP2 : Hid (w.heap.size ≤ P2) := by show _ ≤ _; omega
  have HK1 : Hid (Keep (fun g => g = P3) w1 w1) := Keep.refl _ _
  have HB1 := Lib.hid b1
  have HB0 := Lib.hid b0
  have HX0 := Lib.hid hX0
  first
    | rw [← hP1, ← hP2, ← hP3]
    | rw [show w.heap.size + 2 = P3 by omega, ← hP2, ← hP1]
  clear hw1 b0 b1 b2 hP1 hP2 hP3 hX0
  -- field 1
  obtain ⟨i1, hi1, hz10, hz11, hz12⟩ := info_parts infoI64
  have u1 := cellRow hh1.c 1 _ rfl
  have fz1 : ∀ j, w1.frozen? ⟨P3, j, none⟩ = false := fun j => by simp [World.frozen?, hh1.c]
  have lP31 := lt_of_block hh1.c
  have q1 := HK1.out.cell (p := ⟨P1, 1, none⟩) hP13 p1
  have lP11 : P1 < w1.heap.size := cell_lt q1
  have hbz1 := hh1.ext.size
  have HH1 := Lib.hid hh1
  have FZ1 := Lib.hid fz1
  clear hh1 fz1
  go_upto_region 3 with (at_builtin; refine wpList_append_src rfl _ _ 23 rfl w.heap.size 2 i1 (.int .i64 0) 1 8 undI64s hi1 hz10 hz11 hz12 rfl (by decide) (.slice none 0 0) 0 [] rfl (World.ownsRow_nil _ _ _ _) ia c.ints.length icp (c.ints.map fun x => Value.int .i64 x) rfl HN1.out g1 (by simp) (HR.out.ext HH1.out.ext).I (ints_cell1 _) (by unfold maxLen; omega) (by omega) hbz1 ?_; intro a1 c1 x1 hO1 hG1 hv1; have HO1 := Lib.hid hO1; have HG1 := Lib.hid hG1; have cC1 : x1.heap[P3]? = w1.heap[P3]? := hG1.block P3 lP31 (fun e => by cases e); have fB1 : ∀ j, x1.frozen? ⟨P3, j, none⟩ = false := (fun j => by have := HH1.out.c; rw [← cC1] at this; simp [World.frozen?, this]); have cB1 : x1.cell? ⟨P3, 1, none⟩ = some (.slice none 0 0) := (by rw [World.cell?_of_block (w := w1) (a := ⟨P3, 1, none⟩) cC1]; exact u1); have fk1 := fB1 1; have lB1 := hG1.size; clear hO1 hG1 hv1 cC1 fB1)
  have hn1 := HH1.out.next (e := 2) (by decide) HG1.out HO1.out 1
  simp only [Nat.zero_add, List.nil_append] at hn1
  try simp only [Nat.zero_add]
  obtain ⟨w2, hw1⟩ : ∃ W, W = x1.setCell ⟨P3, 1, none⟩ (.slice a1 c.ints.length c1) := ⟨_, rfl⟩
  rw [← hw1] at hn1 ⊢
  obtain ⟨hh2, hr1, hq1⟩ := hn1
  have hk1 : Keep (fun g => g = P3) w1 w2 := by
    rw [hw1]
    exact ((HK1.out).trans (Keep.of_grown HG1.out fun g hg => by cases hg)).set_ (p := ⟨P3, 1, none⟩) (Or.inl rfl) _
  have HK2 := Lib.hid hk1
  clear hw1 hk1 u1 cB1 fk1 q1 HO1 HG1 hz10 hz11 hz12 hi1 FZ1
  -- field 2
  obtain ⟨i2, hi2, hz20, hz21, hz22⟩ := info_parts infoStr
  have u2 := cellRow hh2.c 2 _ rfl
  have fz2 : ∀ j, w2.frozen? ⟨P3, j, none⟩ = false := fun j => by simp [World.frozen?, hh2.c]
  have lP32 := lt_of_block hh2.c
  have q2 := HK2.out.cell (p := ⟨P1, 2, none⟩) hP13 p2
  have lP12 : P1 < w2.heap.size := cell_lt q2
  have hbz2 := hh2.ext.size
  have HH2 := Lib.hid hh2
  have FZ2 := Lib.hid fz2
  clear hh2 fz2
  go_upto_region 4 with (at_builtin; refine wpList_append_src rfl _ _ 24 rfl w.heap.size 9 i2 (.string ⟨#[]⟩) 1 16 undStrs hi2 hz20 hz21 hz22 rfl (by decide) (.slice none 0 0) 0 [] rfl (World.ownsRow_nil _ _ _ _) sa c.strs.length scp (c.strs.map Value.string) rfl HN2.out g2 (by simp) (HR.out.ext HH2.out.ext).S (strs_cell1 _) (by unfold maxLen; omega) (by omega) hbz2 ?_; intro a2 c2 x2 hO2 hG2 hv2; have HO2 := Lib.hid hO2; have HG2 := Lib.hid hG2; have cC2 : x2.heap[P3]? = w2.heap[P3]? := hG2.block P3 lP32 (fun e => by cases e); have fB2 : ∀ j, x2.frozen? ⟨P3, j, none⟩ = false := (fun j => by have := HH2.out.c; rw [← cC2] at this; simp [World.frozen?, this]); have cB2 : x2.cell? ⟨P3, 2, none⟩ = some (.slice none 0 0) := (by rw [World.cell?_of_block (w := w2) (a := ⟨P3, 2, none⟩) cC2]; exact u2); have fk2 := fB2 2; have lB2 := hG2.size; clear hO2 hG2 hv2 cC2 fB2)
  have hn2 := HH2.out.next (e := 9) (by decide) HG2.out HO2.out 2
  simp only [Nat.zero_add, List.nil_append] at hn2
  try simp only [Nat.zero_add]
  obtain ⟨w3, hw2⟩ : ∃ W, W = x2.setCell ⟨P3, 2, none⟩ (.slice a2 c.strs.length c2) := ⟨_, rfl⟩
  rw [← hw2] at hn2 ⊢
  obtain ⟨hh3, hr2, hq2⟩ := hn2
  have hk2 : Keep (fun g => g = P3) w1 w3 := by
    rw [hw2]
    exact ((HK2.out).trans (Keep.of_grown HG2.out fun g hg => by cases hg)).set_ (p := ⟨P3, 2, none⟩) (Or.inl rfl) _
  have HK3 := Lib.hid hk2
  clear hw2 hk2 u2 cB2 fk2 q2 HO2 HG2 hz20 hz21 hz22 hi2 FZ2
  -- field 3
  obtain ⟨i3, hi3, hz30, hz31, hz32⟩ := info_parts infoStr
  have u3 := cellRow hh3.c 3 _ rfl
  have fz3 : ∀ j, w3.frozen? ⟨P3, j, none⟩ = false := fun j => by simp [World.frozen?, hh3.c]
  have lP33 := lt_of_block hh3.c
  have q3 := HK3.out.cell (p := ⟨P1, 3, none⟩) hP13 p3
  have lP13 : P1 < w3.heap.size := cell_lt q3
  have hbz3 := hh3.ext.size
  have HH3 := Lib.hid hh3
  have FZ3 := Lib.hid fz3
  clear hh3 fz3
  go_upto_region 5 with (at_builtin; refine wpList_append_src rfl _ _ 24 rfl w.heap.size 9 i3 (.string ⟨#[]⟩) 1 16 undStrs hi3 hz30 hz31 hz32 rfl (by decide) (.slice none 0 0) 0 [] rfl (World.ownsRow_nil _ _ _ _) na c.names.length ncp (c.names.map Value.string) rfl HN3.out g3 (by simp) (HR.out.ext HH3.out.ext).N (strs_cell1 _) (by unfold maxLen; omega) (by omega) hbz3 ?_; intro a3 c3 x3 hO3 hG3 hv3; have HO3 := Lib.hid hO3; have HG3 := Lib.hid hG3; have cC3 : x3.heap[P3]? = w3.heap[P3]? := hG3.block P3 lP33 (fun e => by cases e); have fB3 : ∀ j, x3.frozen? ⟨P3, j, none⟩ = false := (fun j => by have := HH3.out.c; rw [← cC3] at this; simp [World.frozen?, this]); have cB3 : x3.cell? ⟨P3, 3, none⟩ = some (.slice none 0 0) := (by rw [World.cell?_of_block (w := w3) (a := ⟨P3, 3, none⟩) cC3]; exact u3); have fk3 := fB3 3; have lB3 := hG3.size; clear hO3 hG3 hv3 cC3 fB3)
  have hn3 := HH3.out.next (e := 9) (by decide) HG3.out HO3.out 3
  simp only [Nat.zero_add, List.nil_append] at hn3
  try simp only [Nat.zero_add]
  obtain ⟨w4, hw3⟩ : ∃ W, W = x3.setCell ⟨P3, 3, none⟩ (.slice a3 c.names.length c3) := ⟨_, rfl⟩
  rw [← hw3] at hn3 ⊢
  obtain ⟨hh4, hr3, hq3⟩ := hn3
  have hk3 : Keep (fun g => g = P3) w1 w4 := by
    rw [hw3]
    exact ((HK3.out).trans (Keep.of_grown HG3.out fun g hg => by cases hg)).set_ (p := ⟨P3, 3, none⟩) (Or.inl rfl) _
  have HK4 := Lib.hid hk3
  clear hw3 hk3 u3 cB3 fk3 q3 HO3 HG3 hz30 hz31 hz32 hi3 FZ3
  have hL0 : LaidD w w4 P1 P2 P3 #[.slice fa c.funcs.length fcp, .slice ia c.ints.length icp, .slice sa c.strs.length scp, .slice na c.names.length ncp] c (a1, c1) (a2, c2) (a3, c3) none 0 [] := by
    refine ⟨⟨hh4.ext, hh4.hC, ?_, by simp, hq3 _ _ _ _ _ (by decide) (hq2 _ _ _ _ _ (by decide) hr1), hq3 _ _ _ _ _ (by decide) hr2, hr3, World.ownsRow_nil _ _ _ _, fun x hx => by simp at hx⟩, ?_, ?_⟩
    · rw [hh4.c]; rfl
    · rw [HK4.out.block P1 (lt_of_block HB0.out) hP13]; exact HB0.out
    · rw [HK4.out.block P2 (lt_of_block HB1.out) hP23]; exact HB1.out
  have HL0 := Lib.hid hL0
  clear hL0 hh4 hq3 hq2 hq1 hr1 hr2 hr3 HK1 HK2 HK3 HK4 HH1 HH2 HH3 HB0 HB1 p0 p1 p2 p3 hbz1 hbz2 hbz3 lP11 lP12 lP13 lP31 lP32 lP33 lB1 lB2 lB3
  go_upto_region 6 with fail
  go_loopg [4] (c.funcs.length) (fun r i wr => ∃ (av : Option Addr) (ac : Nat) (Lv : List OpsV), Lv.length + r = c.funcs.length ∧ i = .int .i64 (Lv.length : Int) ∧ Hid (LaidD w wr P1 P2 P3 #[.slice fa c.funcs.length fcp, .slice ia c.ints.length icp, .slice sa c.strs.length scp, .slice na c.names.length ncp] c (a1, c1) (a2, c2) (a3, c3) av ac Lv))
  case atStart => exact ⟨none, 0, [], by simp, by simp, HL0.out⟩
  case round =>
    clear HL0
    obtain ⟨av, ac, Lv, hlr, rfl, hL⟩ := hrel
    have d0 := cellRow hL.out.b1 0 _ rfl
    have lP1 := lt_of_block hL.out.b1
    have lP2 := lt_of_block hL.out.b2
    have lP3 := lt_of_block hL.out.L.blk
    have e0 := cellRow hL.out.L.blk 0 _ rfl
    have e1 := cellRow hL.out.L.blk 1 _ rfl
    have e2 := cellRow hL.out.L.blk 2 _ rfl
    have e3 := cellRow hL.out.L.blk 3 _ rfl
    cases gk with
    | succ r =>
      have hlt : Lv.length < c.funcs.length := by omega
      have hltz : (Lv.length : Int) < (c.funcs.length : Int) := by omega
      obtain ⟨fb, fo, va, vc, hfa, k0, k1, k2, k3, k4, k5, hops, -⟩ := fn_cellsR (HR.out.ext hL.out.L.ext) hlt
      simp only at hfa
      subst hfa
      have hfo := HFO.out _ (List.getElem_mem hlt)
      have hbase := hL.out.L.ext.size
      obtain ⟨fn, hfn⟩ : ∃ fn, fn = c.funcs[Lv.length] := ⟨_, rfl⟩
      rw [← hfn] at k0 k1 k2 k3 k4 k5 hops hfo
      have HFN := Lib.hid hfn
      have HOPS := Lib.hid hops
      have HLR := Lib.hid hlr
      have hlb : fb < wr.heap.size := cell_lt k0
      clear hfn hops hlr e0 e1 e2 e3
      go_upto_region 10 with fail
      refine namedW (fun w5 hw5 => ?_)
      obtain ⟨F, hF⟩ : ∃ F, F = wr.heap.size := ⟨_, rfl⟩
      obtain ⟨X, hX⟩ : ∃ X, X = wr.heap.size + 1 := ⟨_, rfl⟩
      obtain ⟨bF, bX⟩ := two_blk wr (.cells #[.string fn.name, .int .i64 fn.params, .int .i64 fn.locals, .int .i64 fn.cells, .int .i64 fn.frees, .slice va fn.ops.length vc] 53) (.cells #[.string fn.name, .int .i64 fn.params, .int .i64 fn.locals, .int .i64 fn.cells, .int .i64 fn.frees, .slice none 0 0] 46)
      rw [← hw5, ← hF] at bF
      rw [← hw5, ← hX] at bX
      have hE5 : Ext wr w5 := by rw [hw5]; exact ((Ext.refl _).alloc_ _).alloc_ _
      have hI5 : InC wr w5 F X fn va vc none 0 0 := ⟨hE5, by omega, by omega, bF, bX, World.ownsRow_nil _ _ _ _⟩
      have HI5 := Lib.hid hI5
      have hF_X : F ≠ X := by omega
      have hXge : wr.heap.size ≤ X := by omega
      rw [← hX, ← hF]
      clear hw5 bF bX hE5 hI5 hF hX d0 k0 k1 k2 k3 k4 k5
      obtain ⟨wo, hwo⟩ : ∃ wo, wo = wr := ⟨_, rfl⟩
      rw [← hwo] at hL HOPS HI5 lP1 lP2 lP3 hbase hlb hXge
      clear hwo
      go_upto_region 11 with fail
      go_loopg [7] (fn.ops.length) (fun r k wr => ∃ (xa : Option Addr) (xc j : Nat), j + r = fn.ops.length ∧ k = .int .i64 (j : Int) ∧ Hid (InC wo wr F X fn va vc xa xc j))
      case atStart => exact ⟨none, 0, 0, by omega, rfl, HI5.out⟩
      case round =>
        clear HI5
        obtain ⟨xa, xc, j, hj, rfl, hI⟩ := hrel
        have x0 := cellRow hI.out.fX 0 _ rfl
        have x1 := cellRow hI.out.fX 1 _ rfl
        have x2 := cellRow hI.out.fX 2 _ rfl
        have x3 := cellRow hI.out.fX 3 _ rfl
        have x4 := cellRow hI.out.fX 4 _ rfl
        have x5 := cellRow hI.out.fX 5 _ rfl
        have f5 := cellRow hI.out.fF 5 _ rfl
        have lX := lt_of_block hI.out.fX
        have lF := lt_of_block hI.out.fF
        have hbi := hI.out.ext.size
        have fzX : ∀ i, wr.frozen? ⟨X, i, none⟩ = false := fun i => by simp [World.frozen?, hI.out.fX]
        cases gk with
        | succ r2 =>
          have hjl : j < fn.ops.length := by omega
          have hjz : (j : Int) < (fn.ops.length : Int) := by omega
          obtain ⟨ob, oo, rfl⟩ := HOPS.out.some_ (by rw [opCells_len]; omega)
          have hat := opCells_at fn.ops j hjl
          have y0 := HOPS.out.at_ hat.1
          have y1 := HOPS.out.at_ hat.2
          rw [← Nat.add_assoc] at y1
          have fz5 := fzX 5
          have HJ := Lib.hid hj
          have hFX : F ≠ X := hF_X
          have HROW := Lib.hid hI.out.row
          obtain ⟨op, hop⟩ : ∃ op, op = fn.ops[j] := ⟨_, rfl⟩
          rw [← hop] at y0 y1
          have o0 := hI.out.ext.cell_ y0
          have o1 := hI.out.ext.cell_ y1
          have Y0 := Lib.hid y0
          have hobo : ob < wo.heap.size := cell_lt y0
          have hoX : ob ≠ X := by omega
          have Y1 := Lib.hid y1
          clear y0 y1
          have HOP := Lib.hid hop
          have hlo : ob < wr.heap.size := cell_lt o0
          clear hj hat hop x0 x1 x2 x3 x4 fzX
          obtain ⟨i0, hii, hz0, hz1, hz2⟩ := info_parts infoOp
          go_upto_region 13 with fail
          refine wp_region_held_drew (S := fun W => W.cell? ⟨F, 5, none⟩ = some (.slice (some ⟨ob, oo, none⟩) fn.ops.length vc) ∧ W.cell? ⟨ob, oo + j * 2, none⟩ = some (.string op.name) ∧ W.cell? ⟨ob, oo + j * 2 + 1, none⟩ = some (.int .i64 op.a)) (by kernel_rfl) ?_ (fun hHeld => ?_)
          · exact ⟨f5, o0, o1⟩
          refine tk 0 ⟨some 57, _, _, _, _, _⟩ ?_ rfl ?_ ?_
          rotate_left
          · (intro w hSw; (try dsimp only at hSw); go_simp; try with_reducible rfl)
          try simp only [tkS]
          refine tk 2 ⟨some 59, _, _, _, _, _⟩ ?_ rfl ?_ ?_
          rotate_left
          · (intro w hSw; (try dsimp only at hSw); go_simp; try with_reducible rfl)
          try simp only [tkS]
          refine tk 3 ⟨some 60, _, _, _, _, _⟩ ?_ rfl ?_ ?_
          rotate_left
          · (intro w hSw; (try dsimp only at hSw); go_simp; try with_reducible rfl)
          try simp only [tkS]
          refine tk 4 ⟨some 61, _, _, _, _, _⟩ ?_ rfl ?_ ?_
          rotate_left
          · (intro w hSw; (try dsimp only at hSw); go_simp; try with_reducible rfl)
          try simp only [tkS]
          refine tk 5 ⟨some 62, _, _, _, _, _⟩ ?_ rfl ?_ ?_
          rotate_left
          · (intro w hSw; (try dsimp only at hSw); go_simp; try with_reducible rfl)
          try simp only [tkS]
          refine tk 6 ⟨some 63, _, _, _, _, _⟩ ?_ rfl ?_ ?_
          rotate_left
          · (intro w hSw; (try dsimp only at hSw); go_simp; try with_reducible rfl)
          try simp only [tkS]
          refine tk 7 ⟨some 64, _, _, _, _, _⟩ ?_ rfl ?_ ?_
          rotate_left
          · (intro w hSw; (try dsimp only at hSw); go_simp; try with_reducible rfl)
          try simp only [tkS]
          refine tk 8 ⟨some 65, _, _, _, _, _⟩ ?_ rfl ?_ ?_
          rotate_left
          · (intro w hSw; (try dsimp only at hSw); go_simp; try with_reducible rfl)
          try simp only [tkS]
          refine tk 9 ⟨some 66, _, _, _, _, _⟩ ?_ rfl ?_ ?_
          rotate_left
          · (intro w hSw; (try dsimp only at hSw); go_simp; try with_reducible rfl)
          try simp only [tkS]
          refine tk 10 ⟨some 67, _, _, _, _, _⟩ ?_ rfl ?_ ?_
          rotate_left
          · (intro w hSw; (try dsimp only at hSw); go_simp; try with_reducible rfl)
          try simp only [tkS]
          refine tk 11 ⟨some 68, _, _, _, _, _⟩ ?_ rfl ?_ ?_
          rotate_left
          · (intro w hSw; (try dsimp only at hSw); go_simp; try with_reducible rfl)
          try simp only [tkS]
          refine tk 12 ⟨some 69, _, _, _, _, _⟩ ?_ rfl ?_ ?_
          rotate_left
          · (intro w hSw; (try dsimp only at hSw); go_simp; try with_reducible rfl)
          try simp only [tkS]
          refine tk 13 ⟨some 70, _, _, _, _, _⟩ ?_ rfl ?_ ?_
          rotate_left
          · (intro w hSw; (try dsimp only at hSw); go_simp; try with_reducible rfl)
          try simp only [tkS]
          refine tk 14 ⟨some 71, _, _, _, _, _⟩ ?_ rfl ?_ ?_
          rotate_left
          · (intro w hSw; (try dsimp only at hSw); go_simp; try with_reducible rfl)
          try simp only [tkS]
          refine wpAnyH_ready (rs := [1, 15]) (by kernel_rfl) (by simp) ?_
          refine AllReadyH.cons (o := ⟨some 58, _, _, _, _, _⟩) rfl (fun K hK => ?_) (AllReadyH.cons (o := ⟨some 72, _, _, _, _, _⟩) rfl (fun K hK => ?_) AllReadyH.nil)
          · go_simp
            refine hK.out _ _ ?_ (fun hHeld => ?_)
            · (try dsimp only); exact ⟨Ext.cell_ (w := wr) (by repeat (first | exact Ext.refl _ | (refine Ext.drew_ ?_) | (refine Ext.alloc_ ?_ _))) f5, Ext.cell_ (w := wr) (by repeat (first | exact Ext.refl _ | (refine Ext.drew_ ?_) | (refine Ext.alloc_ ?_ _))) o0, Ext.cell_ (w := wr) (by repeat (first | exact Ext.refl _ | (refine Ext.drew_ ?_) | (refine Ext.alloc_ ?_ _))) o1⟩
            clear hK K
            try simp only [tkS]
            refine wpAnyH_ready (rs := [15]) (by kernel_rfl) (by simp) ?_
            refine AllReadyH.cons (o := ⟨some 72, _, _, _, _, _⟩) rfl (fun K hK => ?_) AllReadyH.nil
            go_simp
            skip
            refine hK.out _ _ ?_ (fun hHeld => ?_)
            · (try dsimp only); exact ⟨Ext.cell_ (w := wr) (by repeat (first | exact Ext.refl _ | (refine Ext.drew_ ?_) | (refine Ext.alloc_ ?_ _))) f5, Ext.cell_ (w := wr) (by repeat (first | exact Ext.refl _ | (refine Ext.drew_ ?_) | (refine Ext.alloc_ ?_ _))) o0, Ext.cell_ (w := wr) (by repeat (first | exact Ext.refl _ | (refine Ext.drew_ ?_) | (refine Ext.alloc_ ?_ _))) o1⟩
            clear hK K
            try simp only [tkS]
            refine wpAnyH_ready (rs := [16]) (by kernel_rfl) (by simp) ?_
            refine AllReadyH.cons (o := ⟨some 73, _, _, _, _, _⟩) rfl (fun K hK => ?_) AllReadyH.nil
            refine step_append_src (by rfl) _ _ 44 (by rfl) wo.heap.size 48 i0 (.agg #[.string ⟨#[]⟩, .int .i64 0]) 2 24 undOps hii hz0 hz1 hz2 (by rfl) (by decide) (.slice xa j xc) j (opCells (fn.ops.take j)) (by rfl) (own_extB HROW.out ((Ext.refl wr).drew_.alloc_ _)) (some ⟨wr.heap.size, 0, none⟩) 1 1 [.string op.name, .int .i64 op.a] (by rfl) (fun h => by cases h) (Nat.le_refl _) (by rfl) (rsl_cells wr.drew _ _) (opCells_one [op]) (by unfold maxLen; omega) (by omega) (by have h2 : wr.drew.heap.size = wr.heap.size := rfl; simp; omega) ?_
            intro a9 c9 w9 hO9 hG9 hv9
            have hX9 : Ext wr (wr.drew.alloc (.cells #[.string op.name, .int .i64 op.a] 48)) := (Ext.refl wr).drew_.alloc_ _
            rw [HOP.out] at hO9
            have hN9 := hI.out.next (by omega) hX9 hO9 hG9
            have HN9 := Lib.hid hN9
            have hrow9 := own_extB HROW.out hX9
            have hX1 := keepH hI.out.fX hX9
            have hF1 := keepH hI.out.fF hX9
            have hX2 := (hG9.block X (lt_of_block hX1) (fun e => own_type hrow9 hX1 (by decide) e.symm)).trans hX1
            have hF2 := (hG9.block F (lt_of_block hF1) (fun e => own_type hrow9 hF1 (by decide) e.symm)).trans hF1
            have hE9 : Ext wo w9 := Below.grown (hI.out.ext.trans_ hX9) hG9 (hI.out.ext.trans_ hX9).size fun g hg => (HROW.out.lt g hg).1
            have hx9 := cellRow hX2 5 _ rfl
            have hf9 := cellRow hF2 5 _ rfl
            have hz9 : w9.frozen? ⟨X, 5, none⟩ = false := by simp [World.frozen?, hX2]
            have hl9 := lt_of_block hX2
            have ho0 := hE9.cell_ Y0.out
            have ho1 := hE9.cell_ Y1.out
            clear hO9 hG9 hv9 hX9 hN9 hrow9 hX1 hF1 hX2 hF2 hE9
            refine hK.out _ _ ?_ (fun hHeld => ?_)
            · exact ⟨hf9, ho0, ho1⟩
            clear hK K
            try simp only [tkS]
            refine tk 17 ⟨some 74, _, _, _, _, _⟩ ?_ rfl ?_ ?_
            rotate_left
            · (intro w hSw; (try dsimp only at hSw); go_simp; try with_reducible rfl)
            try simp only [tkS]
            refine wpAnyH_ready (rs := [18]) (by kernel_rfl) (by simp) ?_
            refine AllReadyH.cons (o := ⟨none, _, _, _, _, _⟩) rfl (fun K hK => ?_) AllReadyH.nil
            go_simp
            skip
            refine hK.out _ _ ?_ (fun hHeld => ?_)
            · (try dsimp only); exact ⟨by rw [World.cell?_setCell_far _ _ _ _ (by simp; omega)]; exact hf9, by rw [World.cell?_setCell_far _ _ _ _ (by simp; omega)]; exact ho0, by rw [World.cell?_setCell_far _ _ _ _ (by simp; omega)]; exact ho1⟩
            clear hK K
            try simp only [tkS]
            refine wpAnyH_done (by kernel_rfl) ?_ _
            clear hHeld hx9 hf9 hz9 ho0 ho1 hl9 x5 f5 o0 o1 fz5
            go_wp2
            go_roundg r2
            case measure => omega
            case rel => exact ⟨a9, c9, j + 1, by have := HJ.out; omega, by go_num, HN9.out⟩
          · go_simp
            refine hK.out _ _ ?_ (fun hHeld => ?_)
            · (try dsimp only); exact ⟨Ext.cell_ (w := wr) (by repeat (first | exact Ext.refl _ | (refine Ext.drew_ ?_) | (refine Ext.alloc_ ?_ _))) f5, Ext.cell_ (w := wr) (by repeat (first | exact Ext.refl _ | (refine Ext.drew_ ?_) | (refine Ext.alloc_ ?_ _))) o0, Ext.cell_ (w := wr) (by repeat (first | exact Ext.refl _ | (refine Ext.drew_ ?_) | (refine Ext.alloc_ ?_ _))) o1⟩
            clear hK K
            try simp only [tkS]
            refine wpAnyH_ready (rs := [1]) (by kernel_rfl) (by simp) ?_
            refine AllReadyH.cons (o := ⟨some 58, _, _, _, _, _⟩) rfl (fun K hK => ?_) AllReadyH.nil
            go_simp
            skip
            refine hK.out _ _ ?_ (fun hHeld => ?_)
            · (try dsimp only); exact ⟨Ext.cell_ (w := wr) (by repeat (first | exact Ext.refl _ | (refine Ext.drew_ ?_) | (refine Ext.alloc_ ?_ _))) f5, Ext.cell_ (w := wr) (by repeat (first | exact Ext.refl _ | (refine Ext.drew_ ?_) | (refine Ext.alloc_ ?_ _))) o0, Ext.cell_ (w := wr) (by repeat (first | exact Ext.refl _ | (refine Ext.drew_ ?_) | (refine Ext.alloc_ ?_ _))) o1⟩
            clear hK K
            try simp only [tkS]
            refine wpAnyH_ready (rs := [16]) (by kernel_rfl) (by simp) ?_
            refine AllReadyH.cons (o := ⟨some 73, _, _, _, _, _⟩) rfl (fun K hK => ?_) AllReadyH.nil
            refine step_append_src (by rfl) _ _ 44 (by rfl) wo.heap.size 48 i0 (.agg #[.string ⟨#[]⟩, .int .i64 0]) 2 24 undOps hii hz0 hz1 hz2 (by rfl) (by decide) (.slice xa j xc) j (opCells (fn.ops.take j)) (by rfl) (own_extB HROW.out ((Ext.refl wr).drew_.alloc_ _)) (some ⟨wr.heap.size, 0, none⟩) 1 1 [.string op.name, .int .i64 op.a] (by rfl) (fun h => by cases h) (Nat.le_refl _) (by rfl) (rsl_cells wr.drew _ _) (opCells_one [op]) (by unfold maxLen; omega) (by omega) (by have h2 : wr.drew.heap.size = wr.heap.size := rfl; simp; omega) ?_
            intro a9 c9 w9 hO9 hG9 hv9
            have hX9 : Ext wr (wr.drew.alloc (.cells #[.string op.name, .int .i64 op.a] 48)) := (Ext.refl wr).drew_.alloc_ _
            rw [HOP.out] at hO9
            have hN9 := hI.out.next (by omega) hX9 hO9 hG9
            have HN9 := Lib.hid hN9
            have hrow9 := own_extB HROW.out hX9
            have hX1 := keepH hI.out.fX hX9
            have hF1 := keepH hI.out.fF hX9
            have hX2 := (hG9.block X (lt_of_block hX1) (fun e => own_type hrow9 hX1 (by decide) e.symm)).trans hX1
            have hF2 := (hG9.block F (lt_of_block hF1) (fun e => own_type hrow9 hF1 (by decide) e.symm)).trans hF1
            have hE9 : Ext wo w9 := Below.grown (hI.out.ext.trans_ hX9) hG9 (hI.out.ext.trans_ hX9).size fun g hg => (HROW.out.lt g hg).1
            have hx9 := cellRow hX2 5 _ rfl
            have hf9 := cellRow hF2 5 _ rfl
            have hz9 : w9.frozen? ⟨X, 5, none⟩ = false := by simp [World.frozen?, hX2]
            have hl9 := lt_of_block hX2
            have ho0 := hE9.cell_ Y0.out
            have ho1 := hE9.cell_ Y1.out
            clear hO9 hG9 hv9 hX9 hN9 hrow9 hX1 hF1 hX2 hF2 hE9
            refine hK.out _ _ ?_ (fun hHeld => ?_)
            · exact ⟨hf9, ho0, ho1⟩
            clear hK K
            try simp only [tkS]
            refine tk 17 ⟨some 74, _, _, _, _, _⟩ ?_ rfl ?_ ?_
            rotate_left
            · (intro w hSw; (try dsimp only at hSw); go_simp; try with_reducible rfl)
            try simp only [tkS]
            refine wpAnyH_ready (rs := [18]) (by kernel_rfl) (by simp) ?_
            refine AllReadyH.cons (o := ⟨none, _, _, _, _, _⟩) rfl (fun K hK => ?_) AllReadyH.nil
            go_simp
            skip
            refine hK.out _ _ ?_ (fun hHeld => ?_)
            · (try dsimp only); exact ⟨by rw [World.cell?_setCell_far _ _ _ _ (by simp; omega)]; exact hf9, by rw [World.cell?_setCell_far _ _ _ _ (by simp; omega)]; exact ho0, by rw [World.cell?_setCell_far _ _ _ _ (by simp; omega)]; exact ho1⟩
            clear hK K
            try simp only [tkS]
            refine wpAnyH_done (by kernel_rfl) ?_ _
            clear hHeld hx9 hf9 hz9 ho0 ho1 hl9 x5 f5 o0 o1 fz5
            go_wp2
            go_roundg r2
            case measure => omega
            case rel => exact ⟨a9, c9, j + 1, by have := HJ.out; omega, by go_num, HN9.out⟩
        | zero =>
          obtain rfl : j = fn.ops.length := by omega
          have hjz : ¬ ((fn.ops.length : Nat) : Int) < (fn.ops.length : Int) := by omega
          have e0 := hI.out.ext.cell_ (cellRow hL.out.L.blk 0 _ rfl)
          have hlP : P3 < wr.heap.size := cell_lt e0
          have hXa : Ext wo (wr.alloc (.cells #[.string fn.name, .int .i64 fn.params, .int .i64 fn.locals, .int .i64 fn.cells, .int .i64 fn.frees, .slice xa fn.ops.length xc] 46)) := hI.out.ext.alloc_ _
          have hro := own_extB hL.out.L.row hXa
          have hxo : (wr.alloc (.cells #[.string fn.name, .int .i64 fn.params, .int .i64 fn.locals, .int .i64 fn.cells, .int .i64 fn.frees, .slice xa fn.ops.length xc] 46)).ownsRow w.heap.size 48 2 (.slice xa fn.ops.length xc) fn.ops.length (opCells fn.ops) := by
            have h1 := own_base (own_extB hI.out.row ((Ext.refl wr).alloc_ (.cells #[.string fn.name, .int .i64 fn.params, .int .i64 fn.locals, .int .i64 fn.cells, .int .i64 fn.frees, .slice xa fn.ops.length xc] 46))) hbase
            rw [List.take_length] at h1
            exact h1
          have HXA := Lib.hid hXa
          have HRO := Lib.hid hro
          have HXO := Lib.hid hxo
          have hlv : Lv.length ≤ 100 := by omega
          obtain ⟨i0, hii, hz0, hz1, hz2⟩ := info_parts infoFn
          clear hj hXa hro hxo fzX
          go_wp2_with (at_builtin; refine wpList_append_src rfl _ _ 30 rfl w.heap.size 46 i0 (.agg #[.string ⟨#[]⟩, .int .i64 0, .int .i64 0, .int .i64 0, .int .i64 0, .slice none 0 0]) 6 72 undFns hii hz0 hz1 hz2 rfl (by decide) (.slice av Lv.length ac) Lv.length (fnCells ((c.funcs.take Lv.length).zip Lv)) rfl HRO.out (some ⟨wr.heap.size, 0, none⟩) 1 1 [.string fn.name, .int .i64 fn.params, .int .i64 fn.locals, .int .i64 fn.cells, .int .i64 fn.frees, .slice xa fn.ops.length xc] rfl (fun h => by cases h) (Nat.le_refl _) rfl (rsl_cells wr _ _) (by intro u hu; simp at hu; rcases hu with rfl | rfl | rfl | rfl | rfl | rfl <;> rfl) (by unfold maxLen; omega) (by omega) (by simp; omega) ?_; intro a9 c9 w9 hO9 hG9 hv9; have hC9 := hL.out.out HXA.out hG9; have y0 := cellRow hC9 0 _ rfl; have yf : w9.frozen? ⟨P3, 0, none⟩ = false := (by simp [World.frozen?, hC9]); have yl := lt_of_block hC9; have HO9 := Lib.hid hO9; have HG9 := Lib.hid hG9; clear hO9 hG9 hv9 hC9)
          have hN : LaidD w (w9.setCell ⟨P3, 0, none⟩ (.slice a9 (Lv.length + 1) c9)) P1 P2 P3 #[.slice (some ⟨fb, fo, none⟩) c.funcs.length fcp, .slice ia c.ints.length icp, .slice sa c.strs.length scp, .slice na c.names.length ncp] c (a1, c1) (a2, c2) (a3, c3) a9 c9 (Lv ++ [(xa, xc)]) := by
            have h0 := HFN.out
            subst h0
            exact hL.out.next hP13 hP23 (by have := HLR.out; omega) HXA.out xa xc HXO.out HO9.out HG9.out
          have HN := Lib.hid hN
          clear hN y0 yf yl
          go_roundg r
          case measure => omega
          case rel => exact ⟨a9, c9, _, by have := HLR.out; simp only [List.length_append, List.length_singleton]; omega, by simp only [List.length_append, List.length_singleton]; go_num, HN.out⟩
    | zero =>
      have hll : Lv.length = c.funcs.length := by omega
      have hltz : ¬ (Lv.length : Int) < (c.funcs.length : Int) := by omega
      have fz2 : ∀ i, wr.frozen? ⟨P2, i, none⟩ = false := fun i => by simp [World.frozen?, hL.out.b2]
      have r0 := cellRow hL.out.b2 0 _ rfl
      have r1 := cellRow hL.out.b2 1 _ rfl
      have r2 := cellRow hL.out.b2 2 _ rfl
      have r3 := cellRow hL.out.b2 3 _ rfl
      have HLL := Lib.hid hll
      clear hlr hll
      go_wp2
      obtain ⟨wf, hwf⟩ : ∃ wf, wf = (((wr.setCell ⟨P2, 0, none⟩ (.slice av Lv.length ac)).setCell ⟨P2, 1, none⟩ (.slice a1 c.ints.length c1)).setCell ⟨P2, 2, none⟩ (.slice a2 c.strs.length c2)).setCell ⟨P2, 3, none⟩ (.slice a3 c.names.length c3) := ⟨_, rfl⟩
      have hb0 := heap_setCell_same wr P2 0 _ _ (.slice av Lv.length ac) hL.out.b2
      have hb1 := heap_setCell_same _ P2 1 _ _ (.slice a1 c.ints.length c1) hb0
      have hb2 := heap_setCell_same _ P2 2 _ _ (.slice a2 c.strs.length c2) hb1
      have hb3 := heap_setCell_same _ P2 3 _ _ (.slice a3 c.names.length c3) hb2
      rw [← hwf] at hb3
      have hD : LaidC w wf P3 c (a1, c1) (a2, c2) (a3, c3) av ac Lv ∧ Ext w wf := by
        have hw2 : w.heap.size ≤ P2 := HP2.out
        have one : ∀ (W : World) (cur : Array Value) (k : Nat) (u : Value), W.heap[P2]? = some (.cells cur 32 (0, 0)) → LaidC w W P3 c (a1, c1) (a2, c2) (a3, c3) av ac Lv → LaidC w (W.setCell ⟨P2, k, none⟩ u) P3 c (a1, c1) (a2, c2) (a3, c3) av ac Lv := fun W cur k u hc hl => by
          refine ⟨hl.ext.set_ (p := ⟨P2, k, none⟩) hw2 u, hl.hC, ?_, hl.len, own_set hl.I (own_type hl.I hc (by decide)) _, own_set hl.S (own_type hl.S hc (by decide)) _, own_set hl.N (own_type hl.N hc (by decide)) _, own_set hl.row (own_type hl.row hc (by decide)) _, fun x hx => own_set (hl.ops x hx) (own_type (hl.ops x hx) hc (by decide)) _⟩
          rw [heap_setCell_other W ⟨P2, k, none⟩ P3 _ (fun e => hP23 e.symm)]
          exact hl.blk
        have h4 := one _ _ 3 (.slice a3 c.names.length c3) hb2 (one _ _ 2 (.slice a2 c.strs.length c2) hb1 (one _ _ 1 (.slice a1 c.ints.length c1) hb0 (one _ _ 0 (.slice av Lv.length ac) hL.out.b2 hL.out.L)))
        rw [← hwf] at h4
        exact ⟨h4, h4.ext⟩
      obtain ⟨hc1, hc2⟩ := hD.1.code HLL.out HCN.out
      refine bodyPost_ret (results_cell_row rfl _ _ P2 _ _ _ _ rfl (by rw [← hwf]; exact hb3) (Tryd.underlying32) rfl (by kernel_rfl)) rfl ?_
      rw [← hwf]
      refine ⟨vOf (a1, c1) (a2, c2) (a3, c3) av ac Lv, ?_, hc1, hD.2, hc2⟩
      unfold codeV vOf
      simp only
      rw [← HLL.out]
      rfl
end Go.Proofs.YtgjjkllngopboaaDoor
