/- Stores into an own memory: a number; an element of a row; a whole row (the builtin copy). -/
import Derived.Test.YtecbbbaafcoliaaDoorJWa03
import Derived.Laws.CopyOwn
import Derived.Test.YtecbbbaafcoliaaDoorJWa05
import Derived.Laws.EntriesVeiled
import Derived.Deep.RegionHeld3
import Derived.Deep.QuietTactic
import Derived.BigQuiet
import Derived.Test.YtecbbbaafcoliaaDoorJWa06
namespace Go.Proofs.YtecbbbaafcoliaaDoor
open Go.RowKit
set_option linter.unusedVariables false
set_option linter.unusedSimpArgs false

theorem OM.setNum {w : World} {B b : Nat} {n1 n2 : List (Nat × Int)} {off : Nat} {v : Int} {L : List Fld} (h : OM w B b (n1 ++ (off, v) :: n2) L) (v' : Int) :
    OM (w.setCell ⟨b, off, none⟩ (.int .i64 v')) B b (n1 ++ (off, v') :: n2) L := by
  have hoffs := h.offs
  have hf : ∀ f ∈ L, off ≠ f.off := fun f hf e => by
    rw [List.nodup_append] at hoffs
    exact hoffs.2.2 off (List.mem_map_of_mem (f := (·.1)) (a := (off, v)) (by simp)) f.off (List.mem_map_of_mem hf) e
  have hn : ∀ p ∈ n1 ++ n2, off ≠ p.1 := fun p hp e => by
    have h1 := (List.nodup_append.1 hoffs).1
    simp only [List.map_append, List.map_cons] at h1
    rw [List.nodup_append, List.nodup_cons] at h1
    rcases List.mem_append.1 hp with q | q
    · exact h1.2.2 p.1 (List.mem_map_of_mem q) off (by simp) e.symm
    · exact h1.2.1.1 (by rw [e]; exact List.mem_map_of_mem q)
  refine ⟨h.hb, blk_set h.blk, fun p hp => ?_, fun f hfm => ⟨?_, own_set (h.fld f hfm).2.1 (h.fld f hfm).2.2 _, (h.fld f hfm).2.2⟩, h.apart, by simpa using hoffs⟩
  · rcases List.mem_append.1 hp with q | q
    · rw [cell_set_off (hn p (List.mem_append_left _ q))]; exact h.num p (List.mem_append_left _ q)
    · rcases List.mem_cons.1 q with rfl | q
      · exact cell_set_same (h.num (off, v) (by simp))
      · rw [cell_set_off (hn p (List.mem_append_right _ q))]; exact h.num p (by simp [q])
  · rw [cell_set_off (hf f hfm)]; exact (h.fld f hfm).1
theorem own_but {w w' : World} {B : Nat} {e : TypeId} {size : Nat} {v : Value} {n : Nat} {xs : List Value} (h : w.ownsRow B e size v n xs) {g : Nat} (hg : v.ownBlock ≠ some g) (hb : But g w w') : w'.ownsRow B e size v n xs := by
  obtain ⟨h1, h2⟩ := h
  refine ⟨h1, ?_⟩
  rcases h2 with h2 | ⟨k, cap, cur, hv, hk, hh, r⟩
  · exact Or.inl h2
  · refine Or.inr ⟨k, cap, cur, hv, hk, ?_, r⟩
    rw [hb.block k (fun e => hg (by rw [hv, ← e]; rfl))]
    exact hh
/-- ANOTHER ROW IS LAID WHERE ONE WAS. -/
theorem OM.row {w w' : World} {B b : Nat} {nums : List (Nat × Int)} {L1 L2 : List Fld} {f : Fld} (h : OM w B b nums (L1 ++ f :: L2)) {g : Nat} (hg : f.val.ownBlock = some g) (hb : But g w w') {cs' : List Value} (ho : w'.ownsRow B f.e f.size f.val f.n cs') :
    OM w' B b nums (L1 ++ ⟨f.off, f.e, f.size, f.a, f.n, f.c, cs'⟩ :: L2) := by
  have hap := h.apart
  have hother : ∀ k ∈ L1 ++ L2, k.val.ownBlock ≠ some g := fun k hk e => by
    rw [List.pairwise_append, List.pairwise_cons] at hap
    rcases List.mem_append.1 hk with q | q
    · exact hap.2.2 k q f (by simp) g e hg
    · exact hap.2.1.1 k q g hg e
  have hgb : g ≠ b := fun e => (h.fld f (by simp)).2.2 (by rw [hg, e])
  have hbk : w'.heap[b]? = w.heap[b]? := hb.block b (Ne.symm hgb)
  have hcell : ∀ j v, w.cell? ⟨b, j, none⟩ = some v → w'.cell? ⟨b, j, none⟩ = some v := fun j v hc => by
    rw [World.cell?_of_block (w := w) (a := ⟨b, j, none⟩) hbk]; exact hc
  have hgood : ∀ k ∈ L1 ++ L2, w'.cell? ⟨b, k.off, none⟩ = some k.val ∧ w'.ownsRow B k.e k.size k.val k.n k.cs ∧ k.val.ownBlock ≠ some b := fun k hk => by
    have h1 : k ∈ L1 ++ f :: L2 := by rcases List.mem_append.1 hk with q | q <;> simp [q]
    exact ⟨hcell _ _ (h.fld k h1).1, own_but (h.fld k h1).2.1 (hother k hk) hb, (h.fld k h1).2.2⟩
  refine ⟨h.hb, by rw [hbk]; exact h.blk, fun p hp => hcell _ _ (h.num p hp), fun k hk => ?_, ?_, by simpa using h.offs⟩
  · rcases List.mem_append.1 hk with q | q
    · exact hgood k (List.mem_append_left _ q)
    · rcases List.mem_cons.1 q with rfl | q
      · exact ⟨hcell _ _ (h.fld f (by simp)).1, ho, (h.fld f (by simp)).2.2⟩
      · exact hgood k (List.mem_append_right _ q)
  · rw [List.pairwise_append, List.pairwise_cons] at hap ⊢
    obtain ⟨p1, ⟨p2, p3⟩, p4⟩ := hap
    refine ⟨p1, ⟨p2, p3⟩, fun k hk k' hk' => ?_⟩
    rcases List.mem_cons.1 hk' with rfl | hk'
    · exact p4 k hk f (by simp)
    · exact p4 k hk k' (by simp [hk'])
theorem Keep.sub {L L' : Nat → Prop} {w w' : World} (h : Keep L w w') (hl : ∀ k, L k → L' k) : Keep L' w w' := ⟨h.os, h.tape, h.output, h.size, fun k hk hn => h.block k hk fun e => hn (hl k e)⟩
theorem but_set (w : World) (p : Addr) (u : Value) : But p.block w (w.setCell p u) :=
  ⟨rfl, rfl, rfl, by simp [World.setCell], fun k hk => heap_setCell_other w p k u hk⟩
theorem own_setAt {w : World} {B : Nat} {e : TypeId} {v : Value} {n : Nat} {xs : List Value} (h : w.ownsRow B e 1 v n xs) {g : Nat} (hg : v.ownBlock = some g) (j : Nat) (hj : j < n) (u : Value) :
    (w.setCell ⟨g, j, none⟩ u).ownsRow B e 1 v n (xs.set j u) := by
  obtain ⟨h1, h2⟩ := h
  refine ⟨by simpa using h1, ?_⟩
  rcases h2 with ⟨h2, _⟩ | ⟨k, cap, cur, hv, hk, hh, q1, q2, q3, q4⟩
  · rw [h2] at hg; cases hg
  · obtain rfl : k = g := by rw [hv] at hg; exact Option.some.inj hg
    refine Or.inr ⟨k, cap, cur.setIfInBounds j u, hv, hk, heap_setCell_same w k j cur e u hh, q1, q2, by simpa using q3, ?_⟩
    rw [Array.toList_setIfInBounds, ← q4]
    exact List.take_set
/-- Where a row lies that is not empty. -/
theorem own_block {w : World} {B : Nat} {e : TypeId} {size : Nat} {a : Option Addr} {c : Nat} {n : Nat} {xs : List Value} (h : w.ownsRow B e size (.slice a n c) n xs) (hn : 0 < n) :
    ∃ g, a = some ⟨g, 0, none⟩ ∧ B ≤ g ∧ g < w.heap.size ∧ (∀ j, w.frozen? ⟨g, j, none⟩ = false) ∧ n ≤ c ∧ ∃ cur : List Value, w.heap[g]? = some (.cells cur.toArray e (0, 0)) ∧ cur.length = c * size ∧ cur.take (n * size) = xs := by
  rcases h.2 with ⟨_, h2⟩ | ⟨g, cap, cur, h1, hg, hh, q1, q2, q3, q4⟩
  · omega
  · injection h1 with h1 _ h3
    subst h1 h3
    exact ⟨g, rfl, hg, lt_of_block hh, fun j => by simp [World.frozen?, hh], q1, cur.toList, by simpa using hh, by simpa using q3, q4⟩

/-- The builtin copy into a row of cells: nothing else turns. -/
theorem wpList_copy_but {P : Program} {w : World} {ops : Array Oper} {rest : List Oper} {o : Oper} {a : Act} {Q : Exit → Act → World → Prop} (hgd : o.guard = none) (d s : Operand) (dT sT : TypeId)
    (ho : o.op = .call { callee := .builtin .copy, args := #[d, s], argTypes := #[dT, sT] }) (elem : TypeId) (hu : P.underlying dT = some (.slice elem)) (hsz : (P.info? elem).map (·.size) = some 1)
    (dp sp : Option Addr) (dLen dCap sLen sCap : Nat) (hd : a.eval d = .slice dp dLen dCap) (hs : a.eval s = .slice sp sLen sCap)
    (g off : Nat) (cur : List Value) (t : TypeId) (hg : w.heap[g]? = some (.cells cur.toArray t (0, 0))) (cs : List Value) (hn : cs.length = Nat.min sLen dLen)
    (hpos : 0 < cs.length → dp = some ⟨g, off, none⟩ ∧ ∃ ad, sp = some ad ∧ ∀ j v, cs[j]? = some v → w.cell? (ad.add j) = some v)
    (hfit : off + cs.length ≤ cur.length) (h1 : ∀ v ∈ cs, v.oneCell' = true)
    (h : ∀ w', Hid (w'.heap[g]? = some (.cells (splice cur off cs).toArray t (0, 0))) → But g w w' → wpList P ops Q rest (a.put o.dst (goInt cs.length)) w') :
    wpList P ops Q (o :: rest) a w := by
  by_cases h0 : cs.length = 0
  · obtain rfl : cs = [] := List.eq_nil_of_length_eq_zero h0
    refine wpList_copy_nothing hgd d s dT sT ho elem hu hsz dp sp dLen dCap sLen sCap hd hs (by simpa using hn.symm) ?_
    exact h w (show _ = _ by simpa [splice] using hg) ⟨rfl, rfl, rfl, rfl, fun _ _ => rfl⟩
  · obtain ⟨rfl, ad, rfl, hsrc⟩ := hpos (by omega)
    refine wpList_copy_own hgd d s dT sT ho elem hu hsz g off dLen dCap ad sLen sCap hd hs cur.toArray t hg cs hn hsrc (by simpa using hfit) h1 ?_
    exact h _ (show _ = _ by simpa [splice] using setRow_heap w g _ _ t _ hg) ⟨rfl, rfl, rfl, by simp [World.setRow], fun k hk => setRow_other w g k _ hk⟩
theorem run_copy_but {P : Program} {w : World} (dT sT ty : TypeId) (elem : TypeId) (hu : P.underlying dT = some (.slice elem)) (hsz : (P.info? elem).map (·.size) = some 1)
    (dp sp : Option Addr) (dLen dCap sLen sCap : Nat) (g off : Nat) (cur : List Value) (t : TypeId) (hg : w.heap[g]? = some (.cells cur.toArray t (0, 0))) (cs : List Value) (hn : cs.length = Nat.min sLen dLen)
    (hpos : 0 < cs.length → dp = some ⟨g, off, none⟩ ∧ ∃ ad, sp = some ad ∧ ∀ j v, cs[j]? = some v → w.cell? (ad.add j) = some v)
    (hfit : off + cs.length ≤ cur.length) (h1 : ∀ v ∈ cs, v.oneCell' = true) :
    ∃ w', (Builtin.copy_ #[dT, sT] ty #[.slice dp dLen dCap, .slice sp sLen sCap]).run P w = .ok (goInt cs.length) w' ∧ w'.heap[g]? = some (.cells (splice cur off cs).toArray t (0, 0)) ∧ But g w w' := by
  by_cases h0 : cs.length = 0
  · obtain rfl : cs = [] := List.eq_nil_of_length_eq_zero h0
    exact ⟨w, run_copy_none (P := P) w dT sT ty elem dp sp dLen dCap sLen sCap hu hsz (by simpa using hn.symm), by simpa [splice] using hg, rfl, rfl, rfl, rfl, fun _ _ => rfl⟩
  · obtain ⟨rfl, ad, rfl, hsrc⟩ := hpos (by omega)
    exact ⟨_, run_copy_row (P := P) w dT sT ty elem g off dLen dCap ad sLen sCap cur.toArray t cs hu hsz hg hn hsrc (by simpa using hfit) h1, by simpa [splice] using setRow_heap w g _ _ t _ hg, rfl, rfl, rfl, by simp [World.setRow], fun k hk => setRow_other w g k _ hk⟩
theorem own_splice {w w' : World} {B : Nat} {e : TypeId} {a : Option Addr} {c n : Nat} {xs : List Value} (h : w.ownsRow B e 1 (.slice a n c) n xs) {g : Nat} (ha : a = some ⟨g, 0, none⟩) {cur : List Value} (hg : w.heap[g]? = some (.cells cur.toArray e (0, 0)))
    (off : Nat) (cs : List Value) (hf : off + cs.length ≤ n) (hw : w'.heap[g]? = some (.cells (splice cur off cs).toArray e (0, 0))) : w'.ownsRow B e 1 (.slice a n c) n (splice xs off cs) := by
  obtain ⟨h1, h2⟩ := h
  rcases h2 with ⟨h2, _⟩ | ⟨k, cap, cur', hv, hk, hh, q1, q2, q3, q4⟩
  · rw [ha] at h2; cases h2
  · injection hv with hv1 _ hv3
    rw [ha] at hv1
    injection hv1 with hv1
    injection hv1 with hv1
    subst hv1 hv3
    rw [hg] at hh
    injection hh with hh
    injection hh with hh
    subst hh
    simp only [Nat.mul_one] at q3 q4 h1 ⊢
    have hlen : cur.length = c := by simpa using q3
    refine ⟨?_, Or.inr ⟨g, c, (splice cur off cs).toArray, by rw [ha], hk, hw, q1, q2, ?_, ?_⟩⟩
    · rw [length_splice _ _ _ (by omega)]; omega
    · simp [length_splice _ _ _ (show off + cs.length ≤ cur.length by omega), hlen]
    · simp only [Nat.mul_one] at *
      subst q4
      simp only [splice]
      rw [List.take_append, List.take_append, List.take_take, List.drop_take, List.length_take]
      rw [Nat.min_eq_right (show off ≤ n by omega), Nat.min_eq_left (show off ≤ cur.length by omega), List.take_take, Nat.min_eq_left (show off ≤ n by omega), List.take_of_length_le (show cs.length ≤ n - off by omega)]
      congr 3
      omega

/-- A ROW MORE: stored where the memory has a cell that was not yet named. -/
theorem OM.add {w : World} {B b : Nat} {nums : List (Nat × Int)} {L : List Fld} (h : OM w B b nums L) (f : Fld) (hc : ∃ x, w.cell? ⟨b, f.off, none⟩ = some x) (ho : w.ownsRow B f.e f.size f.val f.n f.cs) (hb : f.val.ownBlock ≠ some b)
    (hap : ∀ g ∈ L, ∀ k, g.val.ownBlock = some k → f.val.ownBlock ≠ some k) (hoff : f.off ∉ nums.map (·.1) ++ L.map (·.off)) : OM (w.setCell ⟨b, f.off, none⟩ f.val) B b nums (L ++ [f]) := by
  obtain ⟨x, hx⟩ := hc
  have hn : ∀ p ∈ nums, f.off ≠ p.1 := fun p hp e => hoff (List.mem_append_left _ (by rw [e]; exact List.mem_map_of_mem hp))
  have hf : ∀ g ∈ L, f.off ≠ g.off := fun g hg e => hoff (List.mem_append_right _ (by rw [e]; exact List.mem_map_of_mem hg))
  refine ⟨h.hb, blk_set h.blk, fun p hp => ?_, fun g hg => ?_, ?_, ?_⟩
  · rw [cell_set_off (hn p hp)]; exact h.num p hp
  · rcases List.mem_append.1 hg with q | q
    · exact ⟨by rw [cell_set_off (hf g q)]; exact (h.fld g q).1, own_set (h.fld g q).2.1 (h.fld g q).2.2 _, (h.fld g q).2.2⟩
    · obtain rfl := List.mem_singleton.1 q
      exact ⟨cell_set_same hx, own_set ho hb _, hb⟩
  · rw [List.pairwise_append]
    refine ⟨h.apart, List.pairwise_singleton _ _, fun g hg k hk q hq => ?_⟩
    obtain rfl := List.mem_singleton.1 hk
    exact hap g hg q hq
  · rw [List.map_append, ← List.append_assoc, List.nodup_append]
    refine ⟨h.offs, by simp, fun a ha c hc e => ?_⟩
    obtain rfl : c = f.off := by simpa using hc
    exact hoff (e ▸ ha)

theorem wcells_set (l : List Int) (j : Nat) (x : Int) : wcells (l.set j x) = (wcells l).set j (.int .u64 x) := by simp [wcells, List.map_set]
theorem bcells_set (l : List Bool) (j : Nat) (x : Bool) : bcells (l.set j x) = (bcells l).set j (.bool x) := by simp [bcells, List.map_set]

section
variable {w w' : World} {B b : Nat} {tI : TypeId} {M : Mem} {S : Sls}
/-- What a step on the memory's own cells may turn. -/
def OwnL (b : Nat) (S : Sls) (k : Nat) : Prop := k = b ∨ S.W.1 = some ⟨k, 0, none⟩ ∨ S.C.1 = some ⟨k, 0, none⟩
theorem OMem.fW (h : OMem w B b tI M S) : w.ownsRow B 30 1 (.slice S.W.1 M.W.length S.W.2) M.W.length (wcells M.W) := (h.fld ⟨3, 30, 1, S.W.1, M.W.length, S.W.2, wcells M.W⟩ (by simp [memFlds])).2.1
theorem OMem.fC (h : OMem w B b tI M S) : w.ownsRow B 4 1 (.slice S.C.1 M.cards.length S.C.2) M.cards.length (bcells M.cards) := (h.fld ⟨10, 4, 1, S.C.1, M.cards.length, S.C.2, bcells M.cards⟩ (by simp [memFlds])).2.1
theorem OMem.ownL (h : OMem w B b tI M S) {k : Nat} (hk : OwnL b S k) : B ≤ k ∧ k < w.heap.size := by
  rcases hk with rfl | hk | hk
  · exact ⟨h.hb, OM.lt h⟩
  · exact h.fW.lt k (by rw [hk]; rfl)
  · exact h.fC.lt k (by rw [hk]; rfl)
theorem OMem.setTop (h : OMem w B b tI M S) (v : Int) : OMem (w.setCell ⟨b, 5, none⟩ (.int .i64 v)) B b tI { M with top := v } S :=
  OM.setNum (n1 := [(0, M.half), (1, M.old), (2, M.card), (4, M.used)]) (n2 := [(6, M.oldTop)]) h v
theorem OMem.rowW (h : OMem w B b tI M S) {g : Nat} (hg : S.W.1 = some ⟨g, 0, none⟩) (hb : But g w w') (l : List Int) (hl : l.length = M.W.length) (ho : w'.ownsRow B 30 1 (.slice S.W.1 M.W.length S.W.2) M.W.length (wcells l)) : OMem w' B b tI { M with W := l } S := by
  have := OM.row (L1 := []) (f := ⟨3, 30, 1, S.W.1, M.W.length, S.W.2, wcells M.W⟩) h (g := g) (by simp [Fld.val, hg, Value.ownBlock]) hb ho
  unfold OMem memFlds
  simp only [hl]
  exact this
theorem OMem.setW (h : OMem w B b tI M S) {g : Nat} (hg : S.W.1 = some ⟨g, 0, none⟩) (j : Nat) (hj : j < M.W.length) (x : Int) : OMem (w.setCell ⟨g, j, none⟩ (.int .u64 x)) B b tI { M with W := M.W.set j x } S :=
  OMem.rowW h hg (but_set w ⟨g, j, none⟩ _) _ (by simp) (by rw [wcells_set]; exact own_setAt h.fW (by simp [hg, Value.ownBlock]) j hj _)
theorem OMem.rowC (h : OMem w B b tI M S) {g : Nat} (hg : S.C.1 = some ⟨g, 0, none⟩) (hb : But g w w') (l : List Bool) (hl : l.length = M.cards.length) (ho : w'.ownsRow B 4 1 (.slice S.C.1 M.cards.length S.C.2) M.cards.length (bcells l)) : OMem w' B b tI { M with cards := l } S := by
  have := OM.row (L1 := (memFlds tI M S).take 4) (L2 := []) (f := ⟨10, 4, 1, S.C.1, M.cards.length, S.C.2, bcells M.cards⟩) h (g := g) (by simp [Fld.val, hg, Value.ownBlock]) hb ho
  unfold OMem memFlds
  simp only [hl]
  exact this
theorem OMem.setC (h : OMem w B b tI M S) {g : Nat} (hg : S.C.1 = some ⟨g, 0, none⟩) (j : Nat) (hj : j < M.cards.length) (x : Bool) : OMem (w.setCell ⟨g, j, none⟩ (.bool x)) B b tI { M with cards := M.cards.set j x } S :=
  OMem.rowC h hg (but_set w ⟨g, j, none⟩ _) _ (by simp) (by rw [bcells_set]; exact own_setAt h.fC (by simp [hg, Value.ownBlock]) j hj _)
end
end Go.Proofs.YtecbbbaafcoliaaDoor
/- The walks of Memory.starts and of its closure; of Alloc's closure. -/
namespace Go.Proofs.YtecbbbaafcoliaaDoor
open Go.RowKit
set_option linter.unusedVariables false
set_option linter.unusedSimpArgs false

theorem s1_enters (args : Array Value) (w : World) : (callFunc 84 args).run Tryd.prog w = .ok (.enter 84 args) w :=
  enters_of Tryd.func84 (by kernel_rfl) rfl args w
theorem s1_any (x : Ob) (bm b3 : Nat) (st : List Int) (w : World) (hm : SMap w bm .i64 st) (hne3 : b3 ≠ bm) (h3 : w.cell? ⟨b3, 0, none⟩ = some (.map (some bm))) :
    Calls Tryd.prog 84 #[.int .i64 (x.a : Int), headV x.w, .pointer (some ⟨b3, 0, none⟩)] w fun e w' =>
      e = .returned (.bool true) ∧ SMap w' bm .i64 (st ++ [(x.a : Int)]) ∧ Keep (· = bm) w w' := by
  have hlt3 := cell_lt h3
  have hltm := hm.lt
  simp only at hlt3
  obtain ⟨w1, hrun, hm2, hbut⟩ := smap_put (hm.ext ((Ext.refl w).alloc_ (.cells #[.int .i64 (hKind x.w), .int .i64 (hAge x.w), .int .i64 (hMark x.w), .int .i64 (hSize x.w)] 88))) (x.a : Int)
  have hk1 := Keep.of_but hbut
  have hkk : Keep (· = bm) w w1 := ((Keep.refl _ w).alloc_ _).trans hk1
  have HM2 := Lib.hid hm2
  have HK := Lib.hid hkk
  clear hm hm2 hbut hk1 hkk
  unfold headV
  go_enter Tryd.func84, Tryd.ntmps84
  go_wp2
  go_ret
  exact ⟨rfl, HM2.out, HK.out⟩
def SAll (bm : Nat) (w : World) (M : Mem) (e : Ending) (w' : World) : Prop :=
  e = .returned (.bool (objsB M fun _ => true)) ∧ (objsB M (fun _ => true) = true → SMap w' bm .i64 (startsM M)) ∧ Keep (· = bm) w w'
theorem objects_s (w0 : World) (b o : Nat) (M : Mem) (S : Sls) (hs : Shp M) (hM : RMem w0 b o M S) (gb gs : Addr) (hG : GBound w0 gb) (hS : GShape w0 gs) (bm b3 : Nat) (w : World) (hE : Ext w0 w)
    (hbm : w0.heap.size ≤ bm) (hne3 : b3 ≠ bm) (hm : SMap w bm .i64 []) (h3 : w.cell? ⟨b3, 0, none⟩ = some (.map (some bm))) :
    Calls Tryd.prog 54 #[.pointer (some ⟨b, o, none⟩), .func (.func 84) #[] #[.pointer (some ⟨b3, 0, none⟩)]] w (SAll bm w M) := by
  refine (objects_walk w0 b o M S hs hM gb gs hG hS (· = bm) _ #[.pointer (some ⟨b3, 0, none⟩)] s1_enters (fun _ => true) (fun v w' => SMap w' bm .i64 (v.map fun (y : Ob) => (y.a : Int))) w hE
    (fun k hk => by subst hk; exact ⟨hbm, hm.lt⟩) (fun v w1 w2 hI hx => hI.ext hx) (fun v x w' hI hK hx => ?_) hm).mono ?_
  · have := s1_any x bm b3 (v.map fun (y : Ob) => (y.a : Int)) w' hI hne3 (hK.cell hne3 h3)
    rw [← ats_snoc] at this
    exact this
  · rintro e w' ⟨v, he, hI, hv, hK⟩
    exact ⟨he, fun h => by rw [hv h] at hI; exact hI, hK⟩
def StartsPost (w : World) (M : Mem) (e : Ending) (w' : World) : Prop :=
  ∃ bm, e = .returned (.map (some bm)) ∧ (objsB M (fun _ => true) = true → SMap w' bm .i64 (startsM M)) ∧ Ext w w'
set_option maxRecDepth 100000 in
set_option maxHeartbeats 4000000 in
theorem starts_any (b o : Nat) (M : Mem) (S : Sls) (hs : Shp M) (gb gs : Addr) (w : World) (hM : RMem w b o M S) (hG : GBound w gb) (hS : GShape w gs) :
    Calls Tryd.prog 39 #[.pointer (some ⟨b, o, none⟩)] w (StartsPost w M) := by
  have hmm := @run_makeMap Tryd.prog
  have HM := Lib.hid hM
  have HG := Lib.hid hG
  have HS := Lib.hid hS
  clear hM hG hS
  go_enter Tryd.func39, Tryd.ntmps39
  go_wp2_with fail
  refine (objects_s w b o M S hs HM.out gb gs HG.out HS.out w.heap.size (w.heap.size + 1) _ ?_ (Nat.le_refl _) (by omega) ?_ ?_).mono ?_
  · repeat (first | exact Ext.refl _ | (refine Ext.set_ ?_ (by simp) _) | (refine Ext.alloc_ ?_ _) | (refine Ext.drewN_ ?_ _))
  · exact SMap.made_ (w := w) _ rfl (by repeat (first | exact Ext.refl _ | (refine Ext.set_ ?_ (by simp) _) | (refine Ext.alloc_ ?_ _)))
  · simp [go_sem]
  rintro e w1 ⟨rfl, hsm, hK⟩
  have hx : Ext w w1 := Ext.keep (by repeat (first | exact Ext.refl _ | (refine Ext.set_ ?_ (by simp) _) | (refine Ext.alloc_ ?_ _) | (refine Ext.drewN_ ?_ _))) hK (fun i hi => by omega)
  have f3 : w1.cell? ⟨w.heap.size + 1, 0, none⟩ = some (.map (some w.heap.size)) := hK.cell (by simp) (by simp [go_sem])
  have HX := Lib.hid hx
  have HSM := Lib.hid hsm
  clear hx hsm hK
  go_wp2
  go_ret
  exact ⟨_, rfl, HSM.out, HX.out⟩
theorem a1_enters (args : Array Value) (w : World) : (callFunc 42 args).run Tryd.prog w = .ok (.enter 42 args) w :=
  enters_of Tryd.func42 (by kernel_rfl) rfl args w
theorem a1_any (a : Int) (h0 : 0 ≤ a) (h1 : a ≤ 18446744073709551615) (bm b3 : Nat) (st : List Int) (w : World) (hm : SMap w bm .i64 st) (h3 : w.cell? ⟨b3, 0, none⟩ = some (.map (some bm))) :
    Calls Tryd.prog 42 #[.int .u64 a, .pointer (some ⟨b3, 0, none⟩)] w fun e w' => e = .returned (.bool (!fldB st a)) ∧ w' = w := by
  go_enter Tryd.func42, Tryd.ntmps42
  go_wp2_with (go_at_call 43; refine (field_any a h0 h1 bm st _ hm).mono ?_; rintro e w' ⟨rfl, rfl⟩)
  go_ret
  exact ⟨rfl, rfl⟩
end Go.Proofs.YtecbbbaafcoliaaDoor
/- The walk of Memory.Fresh. -/
namespace Go.Proofs.YtecbbbaafcoliaaDoor
open Go.RowKit
set_option linter.unusedVariables false
set_option linter.unusedSimpArgs false

/-- A memory with a header more. -/
def freshM (M : Mem) (kind size : Int) : Mem := { M with W := M.W.set (M.base + M.top.toNat) (headW kind 0 0 size), top := M.top + 1 + size }
def FreshPost (w : World) (B b : Nat) (M : Mem) (S : Sls) (kind size : Int) (e : Ending) (w' : World) : Prop :=
  e = .returned (.int .i64 ((M.base + M.top.toNat : Nat) : Int)) ∧ OMem w' B b 72 (freshM M kind size) S ∧ Keep (OwnL b S) w w'
set_option maxRecDepth 100000 in
set_option maxHeartbeats 4000000 in
theorem fresh_obj (B b : Nat) (M : Mem) (S : Sls) (w : World) (hO : OMem w B b 72 M S) (hok : M.Ok) (hs : Shp M) (kind size : Int) (hk : 0 ≤ kind ∧ kind ≤ 255) (hz : 0 ≤ size ∧ size ≤ 4096) (hr : M.top + 1 + size ≤ M.half) :
    Calls Tryd.prog 44 #[.pointer (some ⟨b, 0, none⟩), .int .i64 kind, .int .i64 size] w (FreshPost w B b M S kind size) := by
  obtain ⟨hb, b0, b1⟩ := hs.base
  have s1 := hs.h1
  have s2 := hs.h2
  have s3 := hs.t1
  have s4 := hs.t2
  have s7 := hs.o1
  have s8 := hs.w
  obtain ⟨k0, k1⟩ := hk
  obtain ⟨z0, z1⟩ := hz
  obtain ⟨t, ht⟩ : ∃ t : Nat, M.top = t := ⟨M.top.toNat, by omega⟩
  obtain ⟨at_, hat⟩ : ∃ a : Nat, a = M.base + t := ⟨_, rfl⟩
  have hlen : at_ < M.W.length := by omega
  obtain ⟨g, hg, hgB, hgl, hgf, hgc, cur, hgh, -, -⟩ := own_block hO.fW (by omega)
  have hM := hO.mem hok
  have c3 := hM.W
  have c5 := hM.top
  simp only [Nat.zero_add] at c3 c5
  rw [hg] at c3
  rw [ht] at c5
  have hgb : g ≠ b := fun e => (hO.fld ⟨3, 30, 1, S.W.1, M.W.length, S.W.2, wcells M.W⟩ (by simp [memFlds])).2.2 (by simp [Fld.val, hg, Value.ownBlock, e])
  have hcell : w.cell? ⟨g, at_, none⟩ = some (.int .u64 (M.W.getD at_ 0)) := by
    have := hM.rW
    rw [hg] at this
    simpa using this.at_ (wcells_at M.W at_ hlen)
  have hfb := hO.frozen 5
  have hfg := hgf at_
  have hlb := OM.lt hO
  have e1 : IntKind.i64.wrap ((M.base : Int) + (t : Int)) = (at_ : Int) := by rw [IntWalk.i64_in _ (by omega)]; omega
  have e2 : IntKind.i64.wrap (1 + size) = 1 + size := IntWalk.i64_in _ (by omega)
  have e3 : IntKind.i64.wrap ((t : Int) + (1 + size)) = (t : Int) + 1 + size := by rw [IntWalk.i64_in _ (by omega)]; omega
  have HS := Lib.hid hs
  have HM := Lib.hid hM
  have HO := Lib.hid hO
  have HG := Lib.hid hg
  have HT := Lib.hid ht
  have HAT := Lib.hid hat
  have E1 := Lib.hid e1
  clear hs hM hO hg ht hat hb hgh hgf s8 e1
  go_enter Tryd.func44, Tryd.ntmps44
  go_wp2
  refine wp_region_held_drew (S := fun W => W.cell? ⟨b, 5, none⟩ = some (.int .i64 (t : Int))) (by kernel_rfl) ?_ (fun hHeld => ?_)
  · exact c5
  refine wpAnyH_take (i := 0) (oi := ⟨some 8, _, _, _, _, _⟩) (v := ?_) rfl (by kernel_rfl) (by kernel_rfl) (by kernel_rfl) (fun _ _ _ h => h) (Or.inl ⟨by rfl, ?_⟩) (by assumption) ?_
  rotate_left
  · (intro w hSw; (try dsimp only at hSw); go_simp; try with_reducible rfl)
  try simp only [Act.put, List.setIfInBounds_toArray, List.set_cons_zero, List.set_cons_succ]
  refine wpAnyH_take (i := 2) (oi := ⟨some 10, _, _, _, _, _⟩) (v := ?_) rfl (by kernel_rfl) (by kernel_rfl) (by kernel_rfl) (fun _ _ _ h => h) (Or.inl ⟨by rfl, ?_⟩) (by assumption) ?_
  rotate_left
  · (intro w hSw; (try dsimp only at hSw); go_simp; try with_reducible rfl)
  try simp only [Act.put, List.setIfInBounds_toArray, List.set_cons_zero, List.set_cons_succ]
  refine wpAnyH_take (i := 3) (oi := ⟨some 11, _, _, _, _, _⟩) (v := ?_) rfl (by kernel_rfl) (by kernel_rfl) (by kernel_rfl) (fun _ _ _ h => h) (Or.inl ⟨by rfl, ?_⟩) (by assumption) ?_
  rotate_left
  · (intro w hSw; (try dsimp only at hSw); go_simp; try with_reducible rfl)
  try simp only [Act.put, List.setIfInBounds_toArray, List.set_cons_zero, List.set_cons_succ]
  refine wpAnyH_take (i := 4) (oi := ⟨some 12, _, _, _, _, _⟩) (v := ?_) rfl (by kernel_rfl) (by kernel_rfl) (by kernel_rfl) (fun _ _ _ h => h) (Or.inl ⟨by rfl, ?_⟩) (by assumption) ?_
  rotate_left
  · (intro w hSw; (try dsimp only at hSw); go_simp; try with_reducible rfl)
  try simp only [Act.put, List.setIfInBounds_toArray, List.set_cons_zero, List.set_cons_succ]
  refine wpAnyH_take (i := 5) (oi := ⟨some 13, _, _, _, _, _⟩) (v := ?_) rfl (by kernel_rfl) (by kernel_rfl) (by kernel_rfl) (fun _ _ _ h => h) (Or.inl ⟨by rfl, ?_⟩) (by assumption) ?_
  rotate_left
  · (intro w hSw; (try dsimp only at hSw); go_simp; try with_reducible rfl)
  try simp only [Act.put, List.setIfInBounds_toArray, List.set_cons_zero, List.set_cons_succ]
  refine wpAnyH_ready (rs := [1]) (by kernel_rfl) (by simp) ?_
  refine AllReadyH.cons (o := ⟨some 9, _, _, _, _, _⟩) rfl (fun K hK => ?_) AllReadyH.nil
  go_simp
  refine (base_any _ b 0 M S (HM.out.ext (by repeat (first | exact Ext.refl _ | (refine Ext.drew_ ?_) | (refine Ext.drewN_ ?_ _)))) HS.out).mono ?_
  rintro e w' ⟨rfl, n, rfl⟩
  refine hK.out _ _ ?_ (fun hHeld => ?_)
  · (try dsimp only); exact c5
  clear hK K
  try simp only [Act.put, List.setIfInBounds_toArray, List.set_cons_zero, List.set_cons_succ]
  refine wpAnyH_take (i := 6) (oi := ⟨some 14, _, _, _, _, _⟩) (v := .int .i64 (at_ : Int)) rfl (by kernel_rfl) (by kernel_rfl) (by kernel_rfl) (fun _ _ _ h => h) (Or.inl ⟨by rfl, ?_⟩) (by assumption) ?_
  · (intro w hSw; go_simp; rw [E1.out])
  try simp only [Act.put, List.setIfInBounds_toArray, List.set_cons_zero, List.set_cons_succ]
  refine wpAnyH_take (i := 7) (oi := ⟨some 7, _, _, _, _, _⟩) (v := ?_) rfl (by kernel_rfl) (by kernel_rfl) (by kernel_rfl) (fun _ _ _ h => h) (Or.inl ⟨by rfl, ?_⟩) (by assumption) ?_
  rotate_left
  · (intro w hSw; (try dsimp only at hSw); go_simp; try with_reducible rfl)
  try simp only [Act.put, List.setIfInBounds_toArray, List.set_cons_zero, List.set_cons_succ]
  refine wpAnyH_done (by kernel_rfl) ?_ _
  go_wp2
  refine named_world' (fun W1 hW1 => ?_)
  have hE1 : Ext w W1 := by rw [hW1]; repeat (first | exact Ext.refl _ | (refine Ext.drew_ ?_) | (refine Ext.drewN_ ?_ _))
  have HE1 := Lib.hid hE1
  have d3 := hE1.cell_ c3
  clear hW1 hE1 hHeld
  refine wp_region_held_drew (S := fun W => W.cell? ⟨b, 3, none⟩ = some (.slice (some ⟨g, 0, none⟩) M.W.length S.W.2)) (by kernel_rfl) ?_ (fun hHeld => ?_)
  · exact d3
  refine wpAnyH_take (i := 0) (oi := ⟨some 15, _, _, _, _, _⟩) (v := ?_) rfl (by kernel_rfl) (by kernel_rfl) (by kernel_rfl) (fun _ _ _ h => h) (Or.inl ⟨by rfl, ?_⟩) (by assumption) ?_
  rotate_left
  · (intro w hSw; (try dsimp only at hSw); go_simp; try with_reducible rfl)
  try simp only [Act.put, List.setIfInBounds_toArray, List.set_cons_zero, List.set_cons_succ]
  refine wpAnyH_take (i := 1) (oi := ⟨some 16, _, _, _, _, _⟩) (v := ?_) rfl (by kernel_rfl) (by kernel_rfl) (by kernel_rfl) (fun _ _ _ h => h) (Or.inl ⟨by rfl, ?_⟩) (by assumption) ?_
  rotate_left
  · (intro w hSw; (try dsimp only at hSw); go_simp; try with_reducible rfl)
  try simp only [Act.put, List.setIfInBounds_toArray, List.set_cons_zero, List.set_cons_succ]
  refine wpAnyH_take (i := 2) (oi := ⟨some 17, _, _, _, _, _⟩) (v := ?_) rfl (by kernel_rfl) (by kernel_rfl) (by kernel_rfl) (fun _ _ _ h => h) (Or.inl ⟨by rfl, ?_⟩) (by assumption) ?_
  rotate_left
  · (intro w hSw; (try dsimp only at hSw); go_simp; try with_reducible rfl)
  try simp only [Act.put, List.setIfInBounds_toArray, List.set_cons_zero, List.set_cons_succ]
  refine wpAnyH_take (i := 3) (oi := ⟨some 18, _, _, _, _, _⟩) (v := ?_) rfl (by kernel_rfl) (by kernel_rfl) (by kernel_rfl) (fun _ _ _ h => h) (Or.inl ⟨by rfl, ?_⟩) (by assumption) ?_
  rotate_left
  · (intro w hSw; (try dsimp only at hSw); go_simp; try with_reducible rfl)
  try simp only [Act.put, List.setIfInBounds_toArray, List.set_cons_zero, List.set_cons_succ]
  refine wpAnyH_take (i := 4) (oi := ⟨some 19, _, _, _, _, _⟩) (v := ?_) rfl (by kernel_rfl) (by kernel_rfl) (by kernel_rfl) (fun _ _ _ h => h) (Or.inl ⟨by rfl, ?_⟩) (by assumption) ?_
  rotate_left
  · (intro w hSw; (try dsimp only at hSw); go_simp; try with_reducible rfl)
  try simp only [Act.put, List.setIfInBounds_toArray, List.set_cons_zero, List.set_cons_succ]
  refine wpAnyH_take (i := 5) (oi := ⟨some 20, _, _, _, _, _⟩) (v := ?_) rfl (by kernel_rfl) (by kernel_rfl) (by kernel_rfl) (fun _ _ _ h => h) (Or.inl ⟨by rfl, ?_⟩) (by assumption) ?_
  rotate_left
  · (intro w hSw; (try dsimp only at hSw); go_simp; try with_reducible rfl)
  try simp only [Act.put, List.setIfInBounds_toArray, List.set_cons_zero, List.set_cons_succ]
  refine wpAnyH_take (i := 6) (oi := ⟨some 21, _, _, _, _, _⟩) (v := ?_) rfl (by kernel_rfl) (by kernel_rfl) (by kernel_rfl) (fun _ _ _ h => h) (Or.inl ⟨by rfl, ?_⟩) (by assumption) ?_
  rotate_left
  · (intro w hSw; (try dsimp only at hSw); go_simp; try with_reducible rfl)
  try simp only [Act.put, List.setIfInBounds_toArray, List.set_cons_zero, List.set_cons_succ]
  refine wpAnyH_take (i := 7) (oi := ⟨some 22, _, _, _, _, _⟩) (v := ?_) rfl (by kernel_rfl) (by kernel_rfl) (by kernel_rfl) (fun _ _ _ h => h) (Or.inl ⟨by rfl, ?_⟩) (by assumption) ?_
  rotate_left
  · (intro w hSw; (try dsimp only at hSw); go_simp; try with_reducible rfl)
  try simp only [Act.put, List.setIfInBounds_toArray, List.set_cons_zero, List.set_cons_succ]
  refine wpAnyH_ready (rs := [8]) (by kernel_rfl) (by simp) ?_
  refine AllReadyH.cons (o := ⟨some 23, _, _, _, _, _⟩) rfl (fun K hK => ?_) AllReadyH.nil
  go_simp
  refine (headWord_any kind 0 0 size ⟨k0, k1⟩ (by omega) (by omega) ⟨z0, z1⟩ _).mono ?_
  rintro e w2 ⟨rfl, hq⟩
  have HE2 : Hid (Ext w w2) := Ext.trans_ (by first | exact HE1.out | exact HE1.out.drew_ | exact HE1.out.drewN_ _) hq
  clear hq
  have g3 := HE2.out.cell_ c3
  have gc := HE2.out.cell_ hcell
  have gf : w2.frozen? ⟨g, at_, none⟩ = false := by rw [HE2.out.three.2.1 _ _ hgl]; exact hfg
  refine hK.out _ _ ?_ (fun hHeld => ?_)
  · (try dsimp only); exact g3
  clear hK K
  try simp only [Act.put, List.setIfInBounds_toArray, List.set_cons_zero, List.set_cons_succ]
  refine wpAnyH_take (i := 9) (oi := ⟨some 24, _, _, _, _, _⟩) (v := ?_) rfl (by kernel_rfl) (by kernel_rfl) (by kernel_rfl) (fun _ _ _ h => h) (Or.inl ⟨by rfl, ?_⟩) (by assumption) ?_
  rotate_left
  · (intro w hSw; (try dsimp only at hSw); go_simp; try with_reducible rfl)
  try simp only [Act.put, List.setIfInBounds_toArray, List.set_cons_zero, List.set_cons_succ]
  refine wpAnyH_ready (rs := [10]) (by kernel_rfl) (by simp) ?_
  refine AllReadyH.cons (o := ⟨none, _, _, _, _, _⟩) rfl (fun K hK => ?_) AllReadyH.nil
  go_simp
  skip
  refine hK.out _ _ ?_ (fun hHeld => ?_)
  · (try dsimp only); rw [World.cell?_setCell_far _ _ _ _ (by simp; omega)]; exact g3
  clear hK K
  try simp only [Act.put, List.setIfInBounds_toArray, List.set_cons_zero, List.set_cons_succ]
  refine wpAnyH_done (by kernel_rfl) ?_ _
  clear hHeld
  generalize hW4 : w2.setCell ⟨g, at_, none⟩ (Value.int .u64 (headW kind 0 0 size)) = W4
  have hO4 : OMem W4 B b 72 { M with W := M.W.set at_ (headW kind 0 0 size) } S := by
    rw [← hW4]; exact OMem.setW (OM.ext HO.out HE2.out) HG.out at_ hlen _
  have hK4 : Keep (OwnL b S) w W4 := by
    rw [← hW4]; exact (Keep.of_ext HE2.out).set_ (Or.inl (Or.inr (Or.inl HG.out))) _
  have n5 : W4.cell? ⟨b, 5, none⟩ = some (.int .i64 (t : Int)) := by
    have := hO4.num (5, M.top) (by simp [memNums])
    rw [HT.out] at this
    exact this
  have f5 := hO4.frozen 5
  have l5 := OM.lt hO4
  have HO4 := Lib.hid hO4
  have HK4 := Lib.hid hK4
  clear hO4 hK4 g3 gc gf hW4
  go_wp2
  go_ret
  have hfin := OMem.setTop HO4.out ((t : Int) + 1 + size)
  have hT := HT.out
  have hA : M.base + M.top.toNat = at_ := by rw [HAT.out, hT]; rfl
  refine ⟨by rw [hA]; rfl, ?_, HK4.out.set_ (Or.inl (Or.inl rfl)) _⟩
  unfold freshM
  rw [hA, hT]
  exact hfin
end Go.Proofs.YtecbbbaafcoliaaDoor
/- The walk of Memory.Alloc. -/
namespace Go.Proofs.YtecbbbaafcoliaaDoor
open Go.RowKit
set_option linter.unusedVariables false
set_option linter.unusedSimpArgs false

/-- An error by its number. -/
def errC (E : Nat → Addr) (c : Int) : Value := if c = 0 then .nilIface else errV (E (c - 1).toNat)
theorem chkV_errC (M : Mem) (E : Nat → Addr) : chkV M (E 2) (E 4) = errC E (chk M) := by
  unfold chkV chk errC
  cases goodB M <;> cases cardsM M <;> rfl
theorem check_c (b o : Nat) (M : Mem) (S : Sls) (E : Nat → Addr) (w : World) (hM : RMem w b o M S) (hE : G3 E w) :
    Calls Tryd.prog 24 #[.pointer (some ⟨b, o, none⟩)] w fun e w' => e = .returned (errC E (chk M)) ∧ Ext w w' := by
  rw [← chkV_errC]
  exact check_any b o M S (E 1) (E 2) (E 4) w hM hE.bound hE.shape hE.place
theorem errC_pos (E : Nat → Addr) (c : Int) (h : c ≠ 0) : errC E c = errV (E (c - 1).toNat) := if_neg h
theorem chk_zero {M : Mem} (h : chk M = 0) : goodB M = true ∧ cardsM M = true := by
  unfold chk at h
  cases h1 : goodB M <;> cases h2 : cardsM M <;> simp [h1, h2] at h ⊢
theorem good_parts {M : Mem} (h : goodB M = true) : Shp M ∧ objsB M (okHd M) = true ∧ fieldsB (startsM M) M.roots = true ∧ fieldsB (startsM M) M.weak = true ∧ (objsAll M).all (okFld M (startsM M)) = true ∧ idsB (startsM M) [] M.ids = true := by
  simp only [goodB, Bool.and_eq_true] at h
  obtain ⟨⟨⟨⟨⟨h1, h2⟩, h3⟩, h4⟩, h5⟩, h6⟩ := h
  exact ⟨shp_of h1, h2, h3, h4, h5, h6⟩
theorem objs_true {M : Mem} (h : objsB M (okHd M) = true) : objsB M (fun _ => true) = true := by
  rw [objsB_all h]; simp
/-- What Alloc answers: an error's number. -/
def allocC (M : Mem) (kind : Int) (fs : List Int) : Int :=
  if chk M ≠ 0 then chk M else if kind < 0 ∨ 255 < kind ∨ 4096 < fs.length then 2 else if rawB kind = false ∧ fieldsB (startsM M) fs = false then 3 else if M.half < M.top + 1 + fs.length then 6 else 0
def allocM (M : Mem) (kind : Int) (fs : List Int) : Mem := { M with W := splice (M.W.set (M.base + M.top.toNat) (headW kind 0 0 fs.length)) (M.base + M.top.toNat + 1) fs, top := M.top + 1 + fs.length }
def ANo (w : World) (E : Nat → Addr) (c : Int) (e : Ending) (w' : World) : Prop := e = .returned (.tuple #[.int .u64 0, errC E c]) ∧ Ext w w'
set_option maxRecDepth 100000 in
set_option maxHeartbeats 4000000 in
theorem alloc_chk (b o : Nat) (M : Mem) (S : Sls) (E : Nat → Addr) (kind : Int) (fa : Option Addr) (fn fc : Nat) (w : World) (hM : RMem w b o M S) (hE : G4 E w) (h : chk M ≠ 0) :
    Calls Tryd.prog 17 #[.pointer (some ⟨b, o, none⟩), .int .i64 kind, .slice fa fn fc] w (ANo w E (chk M)) := by
  obtain ⟨a, ha⟩ : ∃ a, errC E (chk M) = errV a := ⟨_, errC_pos E _ h⟩
  have HC := Lib.hid ha
  clear ha
  have HM := Lib.hid hM
  have HE := Lib.hid hE
  clear hM hE h
  go_enter Tryd.func17, Tryd.ntmps17
  go_wp2_with (go_at_call 24; refine (check_c b o M S E w HM.out HE.out.toG3).mono ?_; rintro e w1 ⟨he, hq⟩; rw [HC.out] at he; subst he; have HX1 := Lib.hid hq; clear hq)
  go_ret2
  exact ⟨by rw [HC.out]; rfl, HX1.out⟩
set_option maxRecDepth 100000 in
set_option maxHeartbeats 4000000 in
theorem alloc_bound (b o : Nat) (M : Mem) (S : Sls) (E : Nat → Addr) (kind : Int) (fa : Option Addr) (fn fc : Nat) (w : World) (hM : RMem w b o M S) (hE : G4 E w) (h : chk M = 0) (hfn : fn ≤ 9223372036854775807)
    (hb : kind < 0 ∨ (¬ kind < 0 ∧ 255 < kind) ∨ (¬ kind < 0 ∧ ¬ 255 < kind ∧ (4096 : Int) < (fn : Int))) :
    Calls Tryd.prog 17 #[.pointer (some ⟨b, o, none⟩), .int .i64 kind, .slice fa fn fc] w (ANo w E 2) := by
  have HC : Hid (errC E (chk M) = .nilIface) := by rw [Hid, h]; rfl
  have HM := Lib.hid hM
  have HE := Lib.hid hE
  clear hM hE h
  rcases hb with h1 | ⟨h1, h2⟩ | ⟨h1, h2, h3⟩
  all_goals
    go_enter Tryd.func17, Tryd.ntmps17
    go_wp2_with (go_at_call 24; refine (check_c b o M S E w HM.out HE.out.toG3).mono ?_; rintro e w1 ⟨he, hq⟩; rw [HC.out] at he; subst he; have HX1 := Lib.hid hq; clear hq)
    have k1 := (HE.out.ext HX1.out).bound
    go_region
    go_wp2
    go_ret2
    exact ⟨rfl, by repeat (first | exact HX1.out | (refine Ext.drew_ ?_) | (refine Ext.drewN_ ?_ _))⟩
theorem any_not (st fs : List Int) : (fs.any fun x => !fldB st x) = !fieldsB st fs := by rw [← fieldsB_any]; simp
set_option maxRecDepth 100000 in
set_option maxHeartbeats 4000000 in
theorem alloc_shape (b o : Nat) (M : Mem) (S : Sls) (E : Nat → Addr) (kind : Int) (fa : Option Addr) (fs : List Int) (fc : Nat) (w : World) (hM : RMem w b o M S) (hE : G4 E w) (h : chk M = 0)
    (h1 : ¬ kind < 0) (h2 : ¬ 255 < kind) (h3 : ¬ (4096 : Int) < (fs.length : Int)) (hr : rawB kind = false) (hf : fieldsB (startsM M) fs = false) (hR : RSl w fa (wcells fs)) (hfb : ∀ x ∈ fs, 0 ≤ x ∧ x ≤ 18446744073709551615) :
    Calls Tryd.prog 17 #[.pointer (some ⟨b, o, none⟩), .int .i64 kind, .slice fa fs.length fc] w (ANo w E 3) := by
  obtain ⟨hs, ho, -⟩ := good_parts (chk_zero h).1
  have hany : (fs.any fun x => !fldB (startsM M) x) = true := by rw [any_not, hf]; rfl
  have HC : Hid (errC E (chk M) = .nilIface) := by rw [Hid, h]; rfl
  have HM := Lib.hid hM
  have HE := Lib.hid hE
  have HS := Lib.hid hs
  have HOB := Lib.hid (objs_true ho)
  have HR := Lib.hid hr
  have HANY := Lib.hid hany
  have HFR := Lib.hid hR
  have HFB := Lib.hid hfb
  have HFL : Hid (fs.length ≤ 9223372036854775807) := by unfold Hid; omega
  clear hM hE h hs ho hr hf hany hR hfb
  go_enter Tryd.func17, Tryd.ntmps17
  go_wp2_with (first
    | (go_at_call 24; refine (check_c b o M S E w HM.out HE.out.toG3).mono ?_; rintro e w1 ⟨he, hq⟩; rw [HC.out] at he; subst he; have HX1 := Lib.hid hq; clear hq)
    | (go_at_call 39; refine (starts_any b o M S HS.out (E 1) (E 2) _ (HM.out.ext HX1.out) (HE.out.ext HX1.out).bound (HE.out.ext HX1.out).shape).mono ?_; rintro e w2 ⟨bm, rfl, hsm, hq⟩; have HX2 : Hid (Ext w w2) := Ext.trans_ HX1.out hq; have HSM := Lib.hid (hsm HOB.out); clear hq hsm)
    | (go_at_call 40; refine (raw_any _ _).mono ?_; rintro e w' ⟨he, rfl⟩; rw [HR.out] at he; subst he)
    | (go_at_call 41; refine (containsF_walk (fun x => !fldB (startsM M) x) _ _ a1_enters fa fc fs _ HFL.out ?_ HFB.out ?_).mono ?_; (exact HFR.out.ext (by (repeat (first | exact HX2.out | (refine Ext.set_ ?_ (by have := HX2.out.size; simp; omega) _) | (refine Ext.alloc_ ?_ _) | (refine Ext.drewN_ ?_ _))))); (intro W x hx h0 h1; refine (a1_any x h0 h1 bm w2.heap.size (startsM M) W (HSM.out.ext (Ext.trans_ (by repeat (first | exact Ext.refl _ | (refine Ext.set_ ?_ (by simp) _) | (refine Ext.alloc_ ?_ _))) hx)) (hx.cell_ (by simp [go_sem]))).mono ?_; rintro e w' ⟨rfl, rfl⟩; exact ⟨rfl, hx⟩); rintro e w3 ⟨he, hq⟩; rw [HANY.out] at he; subst he; have HX3 : Hid (Ext w w3) := Ext.trans_ (by (repeat (first | exact HX2.out | (refine Ext.set_ ?_ (by have := HX2.out.size; simp; omega) _) | (refine Ext.alloc_ ?_ _) | (refine Ext.drewN_ ?_ _)))) hq; clear hq))
  have k1 := (HE.out.ext HX3.out).shape
  go_region
  go_wp2
  go_ret2
  exact ⟨rfl, by repeat (first | exact HX3.out | (refine Ext.drew_ ?_) | (refine Ext.drewN_ ?_ _))⟩
theorem fields_any (st fs : List Int) (h : fieldsB st fs = true) : (fs.any fun x => !fldB st x) = false := by rw [any_not, h]; rfl
set_option maxRecDepth 100000 in
set_option maxHeartbeats 4000000 in
theorem alloc_full (b o : Nat) (M : Mem) (S : Sls) (E : Nat → Addr) (kind : Int) (fa : Option Addr) (fs : List Int) (fc : Nat) (w : World) (hM : RMem w b o M S) (hE : G4 E w) (h : chk M = 0)
    (h1 : ¬ kind < 0) (h2 : ¬ 255 < kind) (h3 : ¬ (4096 : Int) < (fs.length : Int)) (hf : rawB kind = true ∨ fieldsB (startsM M) fs = true) (hR : RSl w fa (wcells fs)) (hfb : ∀ x ∈ fs, 0 ≤ x ∧ x ≤ 18446744073709551615)
    (hfull : M.half < M.top + 1 + (fs.length : Int)) :
    Calls Tryd.prog 17 #[.pointer (some ⟨b, o, none⟩), .int .i64 kind, .slice fa fs.length fc] w (ANo w E 6) := by
  obtain ⟨hs, ho, -⟩ := good_parts (chk_zero h).1
  have HC : Hid (errC E (chk M) = .nilIface) := by rw [Hid, h]; rfl
  have s3 := hs.t1
  have s4 := hs.t2
  have s2 := hs.h2
  have e1 : IntKind.i64.wrap (M.top + 1) = M.top + 1 := IntWalk.i64_in _ (by omega)
  have e2 : IntKind.i64.wrap (M.top + 1 + (fs.length : Int)) = M.top + 1 + (fs.length : Int) := IntWalk.i64_in _ (by omega)
  have HM := Lib.hid hM
  have HE := Lib.hid hE
  have HS := Lib.hid hs
  have HOB := Lib.hid (objs_true ho)
  have HFR := Lib.hid hR
  have HFB := Lib.hid hfb
  have HFL : Hid (fs.length ≤ 9223372036854775807) := by unfold Hid; omega
  clear hM hE h hs ho hR hfb
  cases hr : rawB kind with
  | true =>
    have HR := Lib.hid hr
    clear hf hr
    go_enter Tryd.func17, Tryd.ntmps17
    go_wp2_with (first
      | (go_at_call 24; refine (check_c b o M S E w HM.out HE.out.toG3).mono ?_; rintro e w1 ⟨he, hq⟩; rw [HC.out] at he; subst he; have HX1 := Lib.hid hq; clear hq)
      | (go_at_call 39; refine (starts_any b o M S HS.out (E 1) (E 2) _ (HM.out.ext HX1.out) (HE.out.ext HX1.out).bound (HE.out.ext HX1.out).shape).mono ?_; rintro e w2 ⟨bm, rfl, hsm, hq⟩; have HX2 : Hid (Ext w w2) := Ext.trans_ HX1.out hq; have HSM := Lib.hid (hsm HOB.out); clear hq hsm)
      | (go_at_call 40; refine (raw_any _ _).mono ?_; rintro e w' ⟨he, rfl⟩; rw [HR.out] at he; subst he))
    refine named_world' (fun W3 hW3 => ?_)
    have hE3 : Ext w W3 := by rw [hW3]; (repeat (first | exact HX2.out | (refine Ext.set_ ?_ (by have := HX2.out.size; simp; omega) _) | (refine Ext.alloc_ ?_ _) | (refine Ext.drewN_ ?_ _)))
    have d5 := (HM.out.ext hE3).top
    have d0 := (HM.out.ext hE3).half
    have k1 := (HE.out.ext hE3).full
    have HX3 := Lib.hid hE3
    clear hW3 hE3
    go_region
    go_wp2
    go_region
    go_wp2
    go_ret2
    exact ⟨rfl, by repeat (first | exact HX3.out | (refine Ext.drew_ ?_) | (refine Ext.drewN_ ?_ _))⟩
  | false =>
    have hf' : fieldsB (startsM M) fs = true := by rcases hf with q | q; (rw [hr] at q; cases q); exact q
    have HANY := Lib.hid (fields_any _ _ hf')
    have HR := Lib.hid hr
    clear hf hr hf'
    go_enter Tryd.func17, Tryd.ntmps17
    go_wp2_with (first
      | (go_at_call 24; refine (check_c b o M S E w HM.out HE.out.toG3).mono ?_; rintro e w1 ⟨he, hq⟩; rw [HC.out] at he; subst he; have HX1 := Lib.hid hq; clear hq)
      | (go_at_call 39; refine (starts_any b o M S HS.out (E 1) (E 2) _ (HM.out.ext HX1.out) (HE.out.ext HX1.out).bound (HE.out.ext HX1.out).shape).mono ?_; rintro e w2 ⟨bm, rfl, hsm, hq⟩; have HX2 : Hid (Ext w w2) := Ext.trans_ HX1.out hq; have HSM := Lib.hid (hsm HOB.out); clear hq hsm)
      | (go_at_call 40; refine (raw_any _ _).mono ?_; rintro e w' ⟨he, rfl⟩; rw [HR.out] at he; subst he)
      | (go_at_call 41; refine (containsF_walk (fun x => !fldB (startsM M) x) _ _ a1_enters fa fc fs _ HFL.out ?_ HFB.out ?_).mono ?_; (exact HFR.out.ext (by (repeat (first | exact HX2.out | (refine Ext.set_ ?_ (by have := HX2.out.size; simp; omega) _) | (refine Ext.alloc_ ?_ _) | (refine Ext.drewN_ ?_ _))))); (intro W x hx h0 h1; refine (a1_any x h0 h1 bm w2.heap.size (startsM M) W (HSM.out.ext (Ext.trans_ (by repeat (first | exact Ext.refl _ | (refine Ext.set_ ?_ (by simp) _) | (refine Ext.alloc_ ?_ _))) hx)) (hx.cell_ (by simp [go_sem]))).mono ?_; rintro e w' ⟨rfl, rfl⟩; exact ⟨rfl, hx⟩); rintro e w3 ⟨he, hq⟩; rw [HANY.out] at he; subst he; have HX3 : Hid (Ext w w3) := Ext.trans_ (by (repeat (first | exact HX2.out | (refine Ext.set_ ?_ (by have := HX2.out.size; simp; omega) _) | (refine Ext.alloc_ ?_ _) | (refine Ext.drewN_ ?_ _)))) hq; clear hq))
    have d5 := (HM.out.ext HX3.out).top
    have d0 := (HM.out.ext HX3.out).half
    have k1 := (HE.out.ext HX3.out).full
    go_region
    go_wp2
    go_region
    go_wp2
    go_ret2
    exact ⟨rfl, by repeat (first | exact HX3.out | (refine Ext.drew_ ?_) | (refine Ext.drewN_ ?_ _))⟩
end Go.Proofs.YtecbbbaafcoliaaDoor
/- The walk of Memory.Object. -/
namespace Go.Proofs.YtecbbbaafcoliaaDoor
open Go.RowKit
set_option linter.unusedVariables false
set_option linter.unusedSimpArgs false

/-- Does a word point to an object? -/
def ptB (st : List Int) (a : Int) : Bool := (kindW a == 0) && (a != 0) && inSt st (placeW a)
abbrev head0 : Value := .agg #[.int .i64 0, .int .i64 0, .int .i64 0, .int .i64 0]
theorem head_block {w w2 : World} {t : TypeId} (h : Ext (w.alloc (.cells #[.int .i64 0, .int .i64 0, .int .i64 0, .int .i64 0] t)) w2) :
    w2.cell? ⟨w.heap.size, 0, none⟩ = some (.int .i64 0) ∧ w2.cell? ⟨w.heap.size, 1, none⟩ = some (.int .i64 0) ∧ w2.cell? ⟨w.heap.size, 2, none⟩ = some (.int .i64 0) ∧ w2.cell? ⟨w.heap.size, 3, none⟩ = some (.int .i64 0) ∧
    w2.frozen? ⟨w.heap.size, 0, none⟩ = false ∧ w2.frozen? ⟨w.heap.size, 1, none⟩ = false ∧ w2.frozen? ⟨w.heap.size, 2, none⟩ = false ∧ w2.frozen? ⟨w.heap.size, 3, none⟩ = false := by
  refine ⟨h.cell_ (by simp [go_sem]), h.cell_ (by simp [go_sem]), h.cell_ (by simp [go_sem]), h.cell_ (by simp [go_sem]), ?_, ?_, ?_, ?_⟩ <;> (rw [h.three.2.1 _ _ (by simp)]; simp [go_sem])
/-- Four cells of a block are stored. -/
theorem head_set {w3 : World} {B : Nat} (hz : B < w3.heap.size) {a0 a1 a2 a3 : Value} (t0 : w3.cell? ⟨B, 0, none⟩ = some a0) (t1 : w3.cell? ⟨B, 1, none⟩ = some a1) (t2 : w3.cell? ⟨B, 2, none⟩ = some a2) (t3 : w3.cell? ⟨B, 3, none⟩ = some a3)
    (u0 : w3.frozen? ⟨B, 0, none⟩ = false) (u1 : w3.frozen? ⟨B, 1, none⟩ = false) (u2 : w3.frozen? ⟨B, 2, none⟩ = false) (u3 : w3.frozen? ⟨B, 3, none⟩ = false) (k a m s : Int) :
    let w4 := (((w3.setCell ⟨B, 0, none⟩ (.int .i64 k)).setCell ⟨B, 1, none⟩ (.int .i64 a)).setCell ⟨B, 2, none⟩ (.int .i64 m)).setCell ⟨B, 3, none⟩ (.int .i64 s)
    w4.cell? ⟨B, 0, none⟩ = some (.int .i64 k) ∧ w4.cell? ⟨B, 1, none⟩ = some (.int .i64 a) ∧ w4.cell? ⟨B, 2, none⟩ = some (.int .i64 m) ∧ w4.cell? ⟨B, 3, none⟩ = some (.int .i64 s) ∧
    w4.frozen? ⟨B, 0, none⟩ = false ∧ w4.frozen? ⟨B, 1, none⟩ = false ∧ w4.frozen? ⟨B, 2, none⟩ = false ∧ w4.frozen? ⟨B, 3, none⟩ = false ∧ Below B w3 w4 := by
  intro w4
  refine ⟨?_, ?_, ?_, ?_, ?_, ?_, ?_, ?_, ?_⟩
  · show (((( _ : World)).setCell _ _).setCell _ _).cell? _ = _
    rw [cell_set_off (by decide), cell_set_off (by decide), cell_set_off (by decide)]
    exact cell_set_same t0
  · show (((( _ : World)).setCell _ _).setCell _ _).cell? _ = _
    rw [cell_set_off (by decide), cell_set_off (by decide)]
    exact cell_set_same (by rw [cell_set_off (by decide)]; exact t1)
  · show (((( _ : World)).setCell _ _).setCell _ _).cell? _ = _
    rw [cell_set_off (by decide)]
    exact cell_set_same (by rw [cell_set_off (by decide), cell_set_off (by decide)]; exact t2)
  · exact cell_set_same (by rw [cell_set_off (by decide), cell_set_off (by decide), cell_set_off (by decide)]; exact t3)
  · simp [w4, go_sem, u0]
  · simp [w4, go_sem, u1]
  · simp [w4, go_sem, u2]
  · simp [w4, go_sem, u3]
  · have q0 : Below B w3 (w3.setCell ⟨B, 0, none⟩ (.int .i64 k)) := Below.setCell (p := ⟨B, 0, none⟩) (Below.refl B w3) (Nat.le_refl B) _
    have q1 := Below.setCell (p := ⟨B, 1, none⟩) q0 (Nat.le_refl B) (.int .i64 a)
    have q2 := Below.setCell (p := ⟨B, 2, none⟩) q1 (Nat.le_refl B) (.int .i64 m)
    exact Below.setCell (p := ⟨B, 3, none⟩) q2 (Nat.le_refl B) (.int .i64 s)
theorem named_body {P : Program} {f : Func} {Q : Ending → World → Prop} {x : Exit} {a : Act} {W : World} (h : ∀ W9, W9 = W → bodyPost P f Q x a W9) : bodyPost P f Q x a W := h W rfl
set_option maxRecDepth 100000 in
set_option maxHeartbeats 4000000 in
theorem object_no (b o : Nat) (M : Mem) (S : Sls) (E : Nat → Addr) (a : Int) (h0 : 0 ≤ a) (h1 : a ≤ 18446744073709551615) (w : World) (hM : RMem w b o M S) (hE : G3 E w) (hg : goodB M = true) (hp : ptB (startsM M) a = false) :
    Calls Tryd.prog 89 #[.pointer (some ⟨b, o, none⟩), .int .u64 a] w fun e w' => e = .returned (.tuple #[.int .i64 0, .agg #[.int .i64 0, .int .i64 0, .int .i64 0, .int .i64 0], errV (E 4)]) ∧ Ext w w' := by
  obtain ⟨hs, hob, -⟩ := good_parts hg
  have HM := Lib.hid hM
  have HE := Lib.hid hE
  have HS := Lib.hid hs
  have HOB := Lib.hid (objs_true hob)
  have hlp := cell_lt hE.place
  simp only at hlp
  have k1 := ((hE.ext ((Ext.refl w).alloc_ (.cells #[.int .i64 0, .int .i64 0, .int .i64 0, .int .i64 0] 88)))).place
  clear hM hE hs hob hg
  by_cases hk : kindW a = 0
  · have k0 : (kindW a != 0) = false := by simpa using hk
    by_cases hz : a = 0
    · have k2 : (a == 0) = true := by simpa using hz
      clear hk hz hp
      go_enter Tryd.func89, Tryd.ntmps89
      go_wp2_with (go_at_call 63; refine (kind_any _ h0 h1 _).mono ?_; rintro e w' ⟨rfl, rfl⟩)
      go_region
      go_wp2
      exact bodyPost_ret (v := .tuple #[.int .i64 0, .agg #[.int .i64 0, .int .i64 0, .int .i64 0, .int .i64 0], errV (E 4)]) (by simp [results, Tryd.results89, go_sem]) rfl ⟨rfl, by repeat (first | exact Ext.refl _ | (refine Ext.set_ ?_ (by simp) _) | (refine Ext.drew_ ?_) | (refine Ext.drewN_ ?_ _) | (refine Ext.alloc_ ?_ _))⟩
    · have k2 : (a == 0) = false := by simpa using hz
      have HIN : Hid (inSt (startsM M) (placeW a) = false) := by
        have e1 : (kindW a == 0) = true := by simpa using hk
        have e2 : (a != 0) = true := by simpa using hz
        unfold ptB at hp
        rw [e1, e2] at hp
        show inSt (startsM M) (placeW a) = false
        simpa using hp
      clear hk hz hp k1
      go_enter Tryd.func89, Tryd.ntmps89
      go_wp2_with (first
        | (go_at_call 63; refine (kind_any _ h0 h1 _).mono ?_; rintro e w' ⟨rfl, rfl⟩)
        | (go_at_call 81; refine (place_any _ h0 h1 _).mono ?_; rintro e w' ⟨rfl, rfl⟩)
        | (go_at_call 39; refine (starts_any b o M S HS.out (E 1) (E 2) _ (HM.out.ext ((Ext.refl w).alloc_ _)) (HE.out.ext ((Ext.refl w).alloc_ _)).bound (HE.out.ext ((Ext.refl w).alloc_ _)).shape).mono ?_; rintro e w2 ⟨bm, rfl, hsm, hq⟩; have hlk := smap_look (hsm HOB.out) (placeW a); rw [HIN.out] at hlk; have HQ2 := Lib.hid hq; have HX2 : Hid (Ext w w2) := Ext.trans_ ((Ext.refl w).alloc_ _) hq; obtain ⟨g0, g1, g2, g3, r0, r1, r2, r3⟩ := head_block hq; have hz2 : w.heap.size < w2.heap.size := cell_lt g0; clear hq hsm))
      have k1 := (HE.out.ext HX2.out).place
      go_region
      go_wp2
      exact bodyPost_ret (v := .tuple #[.int .i64 0, .agg #[.int .i64 0, .int .i64 0, .int .i64 0, .int .i64 0], errV (E 4)]) (by simp [results, Tryd.results89, go_sem, g0, g1, g2, g3]) rfl ⟨rfl, by repeat (first | exact HX2.out | (refine Ext.set_ ?_ (by simp) _) | (refine Ext.drew_ ?_) | (refine Ext.drewN_ ?_ _) | (refine Ext.alloc_ ?_ _))⟩
  · have k0 : (kindW a != 0) = true := by simpa using hk
    clear hk hp
    go_enter Tryd.func89, Tryd.ntmps89
    go_wp2_with (go_at_call 63; refine (kind_any _ h0 h1 _).mono ?_; rintro e w' ⟨rfl, rfl⟩)
    go_region
    go_wp2
    exact bodyPost_ret (v := .tuple #[.int .i64 0, .agg #[.int .i64 0, .int .i64 0, .int .i64 0, .int .i64 0], errV (E 4)]) (by simp [results, Tryd.results89, go_sem]) rfl ⟨rfl, by repeat (first | exact Ext.refl _ | (refine Ext.set_ ?_ (by simp) _) | (refine Ext.drew_ ?_) | (refine Ext.drewN_ ?_ _) | (refine Ext.alloc_ ?_ _))⟩
theorem pt_ob {M : Mem} {a : Int} (h : ptB (startsM M) a = true) : kindW a = 0 ∧ a ≠ 0 ∧ ∃ x, x ∈ objsAll M ∧ placeW a = (x.a : Int) ∧ inSt (startsM M) (x.a : Int) = true := by
  simp only [ptB, Bool.and_eq_true, beq_iff_eq, bne_iff_ne] at h
  obtain ⟨⟨h1, h2⟩, h3⟩ := h
  obtain ⟨x, hx, e⟩ := List.mem_map.1 (List.contains_iff_mem.1 h3)
  exact ⟨h1, h2, x, hx, e.symm, by rw [e]; exact h3⟩
set_option maxRecDepth 100000 in
set_option maxHeartbeats 4000000 in
theorem object_yes (b o : Nat) (M : Mem) (S : Sls) (E : Nat → Addr) (a : Int) (h0 : 0 ≤ a) (h1 : a ≤ 18446744073709551615) (w : World) (hM : RMem w b o M S) (hE : G3 E w) (hg : goodB M = true) (hk : kindW a = 0) (hz : a ≠ 0) (x : Ob) (hx : x ∈ objsAll M) (hpl : placeW a = (x.a : Int)) (hin : inSt (startsM M) (x.a : Int) = true) :
    Calls Tryd.prog 89 #[.pointer (some ⟨b, o, none⟩), .int .u64 a] w fun e w' => e = .returned (.tuple #[.int .i64 (x.a : Int), headV x.w, .nilIface]) ∧ Ext w w' := by
  obtain ⟨hs, hob, -⟩ := good_parts hg
  have hxm := obM_of hx
  have hlt : x.a < M.W.length := by
    have h1 := hs.h1; have h2 := hs.t2; have h3 := hs.p2; have h4 := hs.w; have h5 := hs.base; have h6 := hs.o2; have h7 := hs.t1; have h8 := hs.p1
    rcases hxm with h | h
    · have := h.to; omega
    · have := h.to; omega
  have hxw : x.w = wat M.W x.a ∧ isHd x.w = true := by rcases hxm with h | h <;> exact ⟨h.w, h.hd⟩
  obtain ⟨hxw, hhd⟩ := hxw
  have hin2 := wat_in hM.ok x.a
  rw [← hxw] at hin2
  obtain ⟨wb, wo, hWa, hcell⟩ := hM.rW x.a _ (wcells_at M.W x.a hlt)
  have n3 := hM.W
  rw [hWa] at n3
  have hcell' : w.cell? ⟨wb, wo + x.a, none⟩ = some (.int .u64 x.w) := by rw [hcell, hxw]; rfl
  have k0 : (kindW a != 0) = false := by simpa using hk
  have k2 : (a == 0) = false := by simpa using hz
  have hltz : (x.a : Int) < (M.W.length : Int) := by omega
  have hlen := hM.ok.lenW
  have hwl := cell_lt hcell'
  have HM := Lib.hid hM
  have HE := Lib.hid hE
  have HS := Lib.hid hs
  have HOB := Lib.hid (objs_true hob)
  have HPL := Lib.hid hpl
  have HIN := Lib.hid hin
  clear hM hE hs hob hg hx hxm hWa hcell hxw hk hz hpl hin
  go_enter Tryd.func89, Tryd.ntmps89
  go_wp2_with (first
    | (go_at_call 63; refine (kind_any _ h0 h1 _).mono ?_; rintro e w' ⟨rfl, rfl⟩)
    | (go_at_call 81; refine (place_any _ h0 h1 _).mono ?_; rintro e w' ⟨he, rfl⟩; rw [HPL.out] at he; subst he)
    | (go_at_call 39; refine (starts_any b o M S HS.out (E 1) (E 2) _ (HM.out.ext ((Ext.refl w).alloc_ _)) (HE.out.ext ((Ext.refl w).alloc_ _)).bound (HE.out.ext ((Ext.refl w).alloc_ _)).shape).mono ?_; rintro e w2 ⟨bm, rfl, hsm, hq⟩; have hlk := smap_look (hsm HOB.out) (x.a : Int); rw [HIN.out] at hlk; have HQ2 := Lib.hid hq; have HX2 : Hid (Ext w w2) := Ext.trans_ ((Ext.refl w).alloc_ _) hq; obtain ⟨g0, g1, g2, g3, r0, r1, r2, r3⟩ := head_block hq; have hz2 : w.heap.size < w2.heap.size := cell_lt g0; have m3 := HX2.out.cell_ n3; have mc := HX2.out.cell_ hcell'; clear hq hsm))
  refine (toHead_yes x.w hin2.1 hin2.2 hhd _).mono ?_
  rintro e w3 ⟨rfl, hq⟩
  have HX3 : Hid (Ext w w3) := Ext.trans_ HX2.out hq
  obtain ⟨t0, t1, t2, t3, u0, u1, u2, u3⟩ := head_block (Ext.trans_ HQ2.out hq)
  have hz3 : w.heap.size < w3.heap.size := cell_lt t0
  clear hq m3 mc g0 g1 g2 g3 r0 r1 r2 r3 hlk
  go_wp2
  refine named_world' (fun W4 hW4 => ?_)
  obtain ⟨v0, v1, v2, v3, f0, f1, f2, f3, hE4⟩ := head_set hz3 t0 t1 t2 t3 u0 u1 u2 u3 (hKind x.w) (hAge x.w) (hMark x.w) (hSize x.w)
  rw [← hW4] at v0 v1 v2 v3 f0 f1 f2 f3 hE4
  have hz4 : w.heap.size < W4.heap.size := cell_lt v0
  have hX4 : Ext w W4 := Below.trans HX3.out hE4
  have HX4 := Lib.hid hX4
  clear hW4 hE4 hX4 t0 t1 t2 t3 u0 u1 u2 u3
  go_region
  go_wp2
  refine named_body (fun W5 hW5 => ?_)
  obtain ⟨z0, z1, z2, z3, -, -, -, -, hE5⟩ := head_set hz4 v0 v1 v2 v3 f0 f1 f2 f3 (hKind x.w) (hAge x.w) (hMark x.w) (hSize x.w)
  have hX5 : Ext w W5 := by rw [hW5]; exact Ext.drew_ (Below.trans HX4.out hE5)
  have HX5 := Lib.hid hX5
  have z0' : W5.cell? ⟨w.heap.size, 0, none⟩ = some (.int .i64 (hKind x.w)) := by rw [hW5]; exact z0
  have z1' : W5.cell? ⟨w.heap.size, 1, none⟩ = some (.int .i64 (hAge x.w)) := by rw [hW5]; exact z1
  have z2' : W5.cell? ⟨w.heap.size, 2, none⟩ = some (.int .i64 (hMark x.w)) := by rw [hW5]; exact z2
  have z3' : W5.cell? ⟨w.heap.size, 3, none⟩ = some (.int .i64 (hSize x.w)) := by rw [hW5]; exact z3
  clear hW5 hE5 hX5 z0 z1 z2 z3
  exact bodyPost_ret (v := .tuple #[.int .i64 (x.a : Int), .agg #[.int .i64 (hKind x.w), .int .i64 (hAge x.w), .int .i64 (hMark x.w), .int .i64 (hSize x.w)], .nilIface]) (by simp [results, Tryd.results89, go_sem, z0', z1', z2', z3']) rfl ⟨rfl, HX5.out⟩
end Go.Proofs.YtecbbbaafcoliaaDoor
/- The walk of Memory.find. -/
namespace Go.Proofs.YtecbbbaafcoliaaDoor
open Go.RowKit
set_option linter.unusedVariables false
set_option linter.unusedSimpArgs false

/-- What find answers: an error's number. -/
def findC (M : Mem) (p f : Int) : Int :=
  if chk M ≠ 0 then chk M else if ptB (startsM M) p = false then 5 else if f < 0 ∨ hSize (wat M.W (placeW p).toNat) ≤ f then 2 else 0
def FNo (w : World) (v : Value) (e : Ending) (w' : World) : Prop := e = .returned (.tuple #[.int .i64 0, head0, v]) ∧ Ext w w'
set_option maxRecDepth 100000 in
set_option maxHeartbeats 4000000 in
theorem find_chk (b o : Nat) (M : Mem) (S : Sls) (E : Nat → Addr) (p f : Int) (w : World) (hM : RMem w b o M S) (hE : G3 E w) (h : chk M ≠ 0) :
    Calls Tryd.prog 51 #[.pointer (some ⟨b, o, none⟩), .int .u64 p, .int .i64 f] w (FNo w (errC E (chk M))) := by
  obtain ⟨a, ha⟩ : ∃ a, errC E (chk M) = errV a := ⟨_, errC_pos E _ h⟩
  have HC := Lib.hid ha
  have HM := Lib.hid hM
  have HE := Lib.hid hE
  unfold FNo head0
  rw [ha]
  clear ha hM hE h
  go_enter Tryd.func51, Tryd.ntmps51
  go_wp2_with (go_at_call 24; refine (check_c b o M S E _ (HM.out.ext ((Ext.refl w).alloc_ _)) (HE.out.ext ((Ext.refl w).alloc_ _))).mono ?_; rintro e w1 ⟨he, hq⟩; rw [HC.out] at he; subst he; have HQ1 := Lib.hid hq; have HX1 : Hid (Ext w w1) := Ext.trans_ ((Ext.refl w).alloc_ _) hq; obtain ⟨t0, t1, t2, t3, u0, u1, u2, u3⟩ := head_block hq; have hz1 : w.heap.size < w1.heap.size := cell_lt t0; clear hq)
  refine named_body (fun W5 hW5 => ?_)
  obtain ⟨z0, z1, z2, z3, -, -, -, -, hE5⟩ := head_set hz1 t0 t1 t2 t3 u0 u1 u2 u3 (0) (0) (0) (0)
  have hX5 : Ext w W5 := by rw [hW5]; exact Below.trans HX1.out hE5
  have HX5 := Lib.hid hX5
  have z0' : W5.cell? ⟨w.heap.size, 0, none⟩ = some (.int .i64 (0)) := by rw [hW5]; exact z0
  have z1' : W5.cell? ⟨w.heap.size, 1, none⟩ = some (.int .i64 (0)) := by rw [hW5]; exact z1
  have z2' : W5.cell? ⟨w.heap.size, 2, none⟩ = some (.int .i64 (0)) := by rw [hW5]; exact z2
  have z3' : W5.cell? ⟨w.heap.size, 3, none⟩ = some (.int .i64 (0)) := by rw [hW5]; exact z3
  clear hW5 hE5 hX5 z0 z1 z2 z3
  exact bodyPost_ret (v := .tuple #[.int .i64 0, head0, errV a]) (by simp [results, Tryd.results51, go_sem, z0', z1', z2', z3']) rfl ⟨rfl, HX5.out⟩

set_option maxRecDepth 100000 in
set_option maxHeartbeats 4000000 in
theorem find_pt (b o : Nat) (M : Mem) (S : Sls) (E : Nat → Addr) (p f : Int) (h0 : 0 ≤ p) (h1 : p ≤ 18446744073709551615) (w : World) (hM : RMem w b o M S) (hE : G3 E w) (h : chk M = 0) (hp : ptB (startsM M) p = false) :
    Calls Tryd.prog 51 #[.pointer (some ⟨b, o, none⟩), .int .u64 p, .int .i64 f] w (FNo w (errV (E 4))) := by
  have HC : Hid (errC E (chk M) = .nilIface) := by rw [Hid, h]; rfl
  have HG := Lib.hid (chk_zero h).1
  have HP := Lib.hid hp
  have HM := Lib.hid hM
  have HE := Lib.hid hE
  clear hM hE h hp
  unfold FNo head0
  go_enter Tryd.func51, Tryd.ntmps51
  go_wp2_with (first
    | (go_at_call 24; refine (check_c b o M S E _ (HM.out.ext ((Ext.refl w).alloc_ _)) (HE.out.ext ((Ext.refl w).alloc_ _))).mono ?_; rintro e w1 ⟨he, hq⟩; rw [HC.out] at he; subst he; have HQ1 := Lib.hid hq; have HX1 : Hid (Ext w w1) := Ext.trans_ ((Ext.refl w).alloc_ _) hq; obtain ⟨t0, t1, t2, t3, u0, u1, u2, u3⟩ := head_block hq; have hz1 : w.heap.size < w1.heap.size := cell_lt t0; clear hq)
    | (go_at_call 89; refine (object_no b o M S E p h0 h1 _ (HM.out.ext HX1.out) (HE.out.ext HX1.out) HG.out HP.out).mono ?_; rintro e w2 ⟨rfl, hq⟩; have HX2 : Hid (Ext w w2) := Ext.trans_ HX1.out hq; obtain ⟨g0, g1, g2, g3, r0, r1, r2, r3⟩ := head_block (Ext.trans_ HQ1.out hq); have hz2 : w.heap.size < w2.heap.size := cell_lt g0; clear hq t0 t1 t2 t3 u0 u1 u2 u3))
  obtain ⟨v0, v1, v2, v3, f0, f1, f2, f3, hE4⟩ := head_set hz2 g0 g1 g2 g3 r0 r1 r2 r3 (0) (0) (0) (0)
  have hX4 : Ext w _ := Below.trans HX2.out hE4
  have HX4 := Lib.hid hX4
  refine named_body (fun W5 hW5 => ?_)
  obtain ⟨z0, z1, z2, z3, -, -, -, -, hE5⟩ := head_set (cell_lt v0) v0 v1 v2 v3 f0 f1 f2 f3 (0) (0) (0) (0)
  have hX5 : Ext w W5 := by rw [hW5]; exact Below.trans HX4.out hE5
  have HX5 := Lib.hid hX5
  have z0' : W5.cell? ⟨w.heap.size, 0, none⟩ = some (.int .i64 (0)) := by rw [hW5]; exact z0
  have z1' : W5.cell? ⟨w.heap.size, 1, none⟩ = some (.int .i64 (0)) := by rw [hW5]; exact z1
  have z2' : W5.cell? ⟨w.heap.size, 2, none⟩ = some (.int .i64 (0)) := by rw [hW5]; exact z2
  have z3' : W5.cell? ⟨w.heap.size, 3, none⟩ = some (.int .i64 (0)) := by rw [hW5]; exact z3
  clear hW5 hE5 hX5 z0 z1 z2 z3
  exact bodyPost_ret (v := .tuple #[.int .i64 0, head0, errV (E 4)]) (by simp [results, Tryd.results51, go_sem, z0', z1', z2', z3']) rfl ⟨rfl, HX5.out⟩

set_option maxRecDepth 100000 in
set_option maxHeartbeats 4000000 in
theorem find_bound (b o : Nat) (M : Mem) (S : Sls) (E : Nat → Addr) (p f : Int) (h0 : 0 ≤ p) (h1 : p ≤ 18446744073709551615) (w : World) (hM : RMem w b o M S) (hE : G3 E w) (h : chk M = 0) (hk : kindW p = 0) (hz : p ≠ 0) (x : Ob) (hx : x ∈ objsAll M) (hpl : placeW p = (x.a : Int)) (hin : inSt (startsM M) (x.a : Int) = true)
    (hb : f < 0 ∨ (¬ f < 0 ∧ hSize x.w ≤ f)) :
    Calls Tryd.prog 51 #[.pointer (some ⟨b, o, none⟩), .int .u64 p, .int .i64 f] w (FNo w (errV (E 1))) := by
  have HC : Hid (errC E (chk M) = .nilIface) := by rw [Hid, h]; rfl
  have hlb := cell_lt hE.bound
  simp only at hlb
  have HG := Lib.hid (chk_zero h).1
  have HXM := Lib.hid hx
  have HIN := Lib.hid hin
  have HK := Lib.hid hk
  have HZ := Lib.hid hz
  have HPL := Lib.hid hpl
  have HM := Lib.hid hM
  have HE := Lib.hid hE
  clear hM hE h hx hin hk hz hpl
  unfold FNo head0
  rcases hb with hb | ⟨hb, hb2⟩
  · go_enter Tryd.func51, Tryd.ntmps51
    go_wp2_with (first
      | (go_at_call 24; refine (check_c b o M S E _ (HM.out.ext ((Ext.refl w).alloc_ _)) (HE.out.ext ((Ext.refl w).alloc_ _))).mono ?_; rintro e w1 ⟨he, hq⟩; rw [HC.out] at he; subst he; have HQ1 := Lib.hid hq; have HX1 : Hid (Ext w w1) := Ext.trans_ ((Ext.refl w).alloc_ _) hq; obtain ⟨t0, t1, t2, t3, u0, u1, u2, u3⟩ := head_block hq; have hz1 : w.heap.size < w1.heap.size := cell_lt t0; clear hq)
      | (go_at_call 89; refine (object_yes b o M S E p h0 h1 _ (HM.out.ext HX1.out) (HE.out.ext HX1.out) HG.out HK.out HZ.out x HXM.out HPL.out HIN.out).mono ?_; rintro e w2 ⟨he, hq⟩; unfold headV at he; subst he; have HX2 : Hid (Ext w w2) := Ext.trans_ HX1.out hq; obtain ⟨g0, g1, g2, g3, r0, r1, r2, r3⟩ := head_block (Ext.trans_ HQ1.out hq); have hz2 : w.heap.size < w2.heap.size := cell_lt g0; clear hq t0 t1 t2 t3 u0 u1 u2 u3))
    refine named_world' (fun W4 hW4 => ?_)
    obtain ⟨v0, v1, v2, v3, f0, f1, f2, f3, hE4⟩ := head_set hz2 g0 g1 g2 g3 r0 r1 r2 r3 (hKind x.w) (hAge x.w) (hMark x.w) (hSize x.w)
    rw [← hW4] at v0 v1 v2 v3 f0 f1 f2 f3 hE4
    have hz4 : w.heap.size < W4.heap.size := cell_lt v0
    have hX4 : Ext w W4 := Below.trans HX2.out hE4
    have HX4 := Lib.hid hX4
    clear hW4 hE4 hX4 g0 g1 g2 g3 r0 r1 r2 r3

    have k1 := (HE.out.ext HX4.out).bound
    go_region
    go_wp2
    refine named_body (fun W5 hW5 => ?_)
    obtain ⟨z0, z1, z2, z3, -, -, -, -, hE5⟩ := head_set hz4 v0 v1 v2 v3 f0 f1 f2 f3 (0) (0) (0) (0)
    have hX5 : Ext w W5 := by rw [hW5]; exact Ext.drew_ (Below.trans HX4.out hE5)
    have HX5 := Lib.hid hX5
    have z0' : W5.cell? ⟨w.heap.size, 0, none⟩ = some (.int .i64 (0)) := by rw [hW5]; exact z0
    have z1' : W5.cell? ⟨w.heap.size, 1, none⟩ = some (.int .i64 (0)) := by rw [hW5]; exact z1
    have z2' : W5.cell? ⟨w.heap.size, 2, none⟩ = some (.int .i64 (0)) := by rw [hW5]; exact z2
    have z3' : W5.cell? ⟨w.heap.size, 3, none⟩ = some (.int .i64 (0)) := by rw [hW5]; exact z3
    clear hW5 hE5 hX5 z0 z1 z2 z3
    exact bodyPost_ret (v := .tuple #[.int .i64 0, head0, errV (E 1)]) (by simp [results, Tryd.results51, go_sem, z0', z1', z2', z3']) rfl ⟨rfl, HX5.out⟩

  · go_enter Tryd.func51, Tryd.ntmps51
    go_wp2_with (first
      | (go_at_call 24; refine (check_c b o M S E _ (HM.out.ext ((Ext.refl w).alloc_ _)) (HE.out.ext ((Ext.refl w).alloc_ _))).mono ?_; rintro e w1 ⟨he, hq⟩; rw [HC.out] at he; subst he; have HQ1 := Lib.hid hq; have HX1 : Hid (Ext w w1) := Ext.trans_ ((Ext.refl w).alloc_ _) hq; obtain ⟨t0, t1, t2, t3, u0, u1, u2, u3⟩ := head_block hq; have hz1 : w.heap.size < w1.heap.size := cell_lt t0; clear hq)
      | (go_at_call 89; refine (object_yes b o M S E p h0 h1 _ (HM.out.ext HX1.out) (HE.out.ext HX1.out) HG.out HK.out HZ.out x HXM.out HPL.out HIN.out).mono ?_; rintro e w2 ⟨he, hq⟩; unfold headV at he; subst he; have HX2 : Hid (Ext w w2) := Ext.trans_ HX1.out hq; obtain ⟨g0, g1, g2, g3, r0, r1, r2, r3⟩ := head_block (Ext.trans_ HQ1.out hq); have hz2 : w.heap.size < w2.heap.size := cell_lt g0; clear hq t0 t1 t2 t3 u0 u1 u2 u3))
    refine named_world' (fun W4 hW4 => ?_)
    obtain ⟨v0, v1, v2, v3, f0, f1, f2, f3, hE4⟩ := head_set hz2 g0 g1 g2 g3 r0 r1 r2 r3 (hKind x.w) (hAge x.w) (hMark x.w) (hSize x.w)
    rw [← hW4] at v0 v1 v2 v3 f0 f1 f2 f3 hE4
    have hz4 : w.heap.size < W4.heap.size := cell_lt v0
    have hX4 : Ext w W4 := Below.trans HX2.out hE4
    have HX4 := Lib.hid hX4
    clear hW4 hE4 hX4 g0 g1 g2 g3 r0 r1 r2 r3

    have k1 := (HE.out.ext HX4.out).bound
    go_region
    go_wp2
    refine named_body (fun W5 hW5 => ?_)
    obtain ⟨z0, z1, z2, z3, -, -, -, -, hE5⟩ := head_set hz4 v0 v1 v2 v3 f0 f1 f2 f3 (0) (0) (0) (0)
    have hX5 : Ext w W5 := by rw [hW5]; exact Ext.drew_ (Below.trans HX4.out hE5)
    have HX5 := Lib.hid hX5
    have z0' : W5.cell? ⟨w.heap.size, 0, none⟩ = some (.int .i64 (0)) := by rw [hW5]; exact z0
    have z1' : W5.cell? ⟨w.heap.size, 1, none⟩ = some (.int .i64 (0)) := by rw [hW5]; exact z1
    have z2' : W5.cell? ⟨w.heap.size, 2, none⟩ = some (.int .i64 (0)) := by rw [hW5]; exact z2
    have z3' : W5.cell? ⟨w.heap.size, 3, none⟩ = some (.int .i64 (0)) := by rw [hW5]; exact z3
    clear hW5 hE5 hX5 z0 z1 z2 z3
    exact bodyPost_ret (v := .tuple #[.int .i64 0, head0, errV (E 1)]) (by simp [results, Tryd.results51, go_sem, z0', z1', z2', z3']) rfl ⟨rfl, HX5.out⟩

/-- What find gives. -/
def FYes (w : World) (x : Ob) (f : Int) (e : Ending) (w' : World) : Prop := e = .returned (.tuple #[.int .i64 ((x.a : Int) + 1 + f), headV x.w, .nilIface]) ∧ Ext w w'
set_option maxRecDepth 100000 in
set_option maxHeartbeats 4000000 in
theorem find_yes (b o : Nat) (M : Mem) (S : Sls) (E : Nat → Addr) (p f : Int) (h0 : 0 ≤ p) (h1 : p ≤ 18446744073709551615) (w : World) (hM : RMem w b o M S) (hE : G3 E w) (h : chk M = 0) (hk : kindW p = 0) (hz : p ≠ 0) (x : Ob) (hx : x ∈ objsAll M) (hpl : placeW p = (x.a : Int)) (hin : inSt (startsM M) (x.a : Int) = true)
    (hb1 : ¬ f < 0) (hb2 : ¬ hSize x.w ≤ f) (hlt : (x.a : Int) ≤ 1099511627776) (hsz : hSize x.w ≤ 4096) :
    Calls Tryd.prog 51 #[.pointer (some ⟨b, o, none⟩), .int .u64 p, .int .i64 f] w (FYes w x f) := by
  have e1 : IntKind.i64.wrap ((x.a : Int) + 1) = (x.a : Int) + 1 := IntWalk.i64_in _ (by omega)
  have e2 : IntKind.i64.wrap ((x.a : Int) + 1 + f) = (x.a : Int) + 1 + f := IntWalk.i64_in _ (by omega)
  have HC : Hid (errC E (chk M) = .nilIface) := by rw [Hid, h]; rfl
  have HG := Lib.hid (chk_zero h).1
  have HXM := Lib.hid hx
  have HIN := Lib.hid hin
  have HK := Lib.hid hk
  have HZ := Lib.hid hz
  have HPL := Lib.hid hpl
  have HM := Lib.hid hM
  have HE := Lib.hid hE
  clear hM hE h hx hin hk hz hpl
  unfold FYes headV
  go_enter Tryd.func51, Tryd.ntmps51
  go_wp2_with (first
    | (go_at_call 24; refine (check_c b o M S E _ (HM.out.ext ((Ext.refl w).alloc_ _)) (HE.out.ext ((Ext.refl w).alloc_ _))).mono ?_; rintro e w1 ⟨he, hq⟩; rw [HC.out] at he; subst he; have HQ1 := Lib.hid hq; have HX1 : Hid (Ext w w1) := Ext.trans_ ((Ext.refl w).alloc_ _) hq; obtain ⟨t0, t1, t2, t3, u0, u1, u2, u3⟩ := head_block hq; have hz1 : w.heap.size < w1.heap.size := cell_lt t0; clear hq)
    | (go_at_call 89; refine (object_yes b o M S E p h0 h1 _ (HM.out.ext HX1.out) (HE.out.ext HX1.out) HG.out HK.out HZ.out x HXM.out HPL.out HIN.out).mono ?_; rintro e w2 ⟨he, hq⟩; unfold headV at he; subst he; have HX2 : Hid (Ext w w2) := Ext.trans_ HX1.out hq; obtain ⟨g0, g1, g2, g3, r0, r1, r2, r3⟩ := head_block (Ext.trans_ HQ1.out hq); have hz2 : w.heap.size < w2.heap.size := cell_lt g0; clear hq t0 t1 t2 t3 u0 u1 u2 u3))
  refine named_world' (fun W4 hW4 => ?_)
  obtain ⟨v0, v1, v2, v3, f0, f1, f2, f3, hE4⟩ := head_set hz2 g0 g1 g2 g3 r0 r1 r2 r3 (hKind x.w) (hAge x.w) (hMark x.w) (hSize x.w)
  rw [← hW4] at v0 v1 v2 v3 f0 f1 f2 f3 hE4
  have hz4 : w.heap.size < W4.heap.size := cell_lt v0
  have hX4 : Ext w W4 := Below.trans HX2.out hE4
  have HX4 := Lib.hid hX4
  clear hW4 hE4 hX4 g0 g1 g2 g3 r0 r1 r2 r3

  go_region
  go_wp2
  refine named_body (fun W5 hW5 => ?_)
  obtain ⟨z0, z1, z2, z3, -, -, -, -, hE5⟩ := head_set hz4 v0 v1 v2 v3 f0 f1 f2 f3 (hKind x.w) (hAge x.w) (hMark x.w) (hSize x.w)
  have hX5 : Ext w W5 := by rw [hW5]; exact Ext.drew_ (Below.trans HX4.out hE5)
  have HX5 := Lib.hid hX5
  have z0' : W5.cell? ⟨w.heap.size, 0, none⟩ = some (.int .i64 (hKind x.w)) := by rw [hW5]; exact z0
  have z1' : W5.cell? ⟨w.heap.size, 1, none⟩ = some (.int .i64 (hAge x.w)) := by rw [hW5]; exact z1
  have z2' : W5.cell? ⟨w.heap.size, 2, none⟩ = some (.int .i64 (hMark x.w)) := by rw [hW5]; exact z2
  have z3' : W5.cell? ⟨w.heap.size, 3, none⟩ = some (.int .i64 (hSize x.w)) := by rw [hW5]; exact z3
  clear hW5 hE5 hX5 z0 z1 z2 z3
  exact bodyPost_ret (v := .tuple #[.int .i64 ((x.a : Int) + 1 + f), .agg #[.int .i64 (hKind x.w), .int .i64 (hAge x.w), .int .i64 (hMark x.w), .int .i64 (hSize x.w)], .nilIface]) (by simp [results, Tryd.results51, go_sem, z0', z1', z2', z3']) rfl ⟨rfl, HX5.out⟩

end Go.Proofs.YtecbbbaafcoliaaDoor
