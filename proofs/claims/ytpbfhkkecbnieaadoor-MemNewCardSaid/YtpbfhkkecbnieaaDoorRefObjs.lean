/- The walk of the document's answer for the objects of a part. -/
import Derived.Test.YtpbfhkkecbnieaaDoorRefMemB
import Derived.Test.YtpbfhkkecbnieaaDoorRefWord
import Derived.Test.YtpbfhkkecbnieaaDoorAppend
import Derived.Deep.AppendLies
namespace Go.Proofs.YtpbfhkkecbnieaaDoor
open Go.RowKit
set_option linter.unusedVariables false
set_option linter.unusedSimpArgs false

def markB (o : Ob) : Bool := hMark o.w == 0
/-- The objects of a part, as the document has them. -/
def partK (W : List Int) (a to : Nat) : List Ob × Bool := if ((part W a to).2 && (part W a to).1.all markB) = true then ((part W a to).1, true) else ([], false)
theorem infoObj : (Tryd.prog.info? 58).map (fun i => (i.zero, i.size, i.bytes)) = some (some (.agg #[.int .i64 0, .int .i64 0, .int .i64 0, .int .i64 0]), 4, 32) := by kernel_rfl
theorem undObjs : Tryd.prog.underlying 54 = some (.slice 58) := by kernel_rfl
/-- A slice of objects that the call owns. -/
def OwnObjs (w : World) (base : Nat) (a : Option Addr) (c : Nat) (l : List Ob) : Prop := w.ownsRow base 58 4 (.slice a l.length c) l.length (ocells l)
def ObjectsPost (w : World) (p : List Ob × Bool) (e : Ending) (w' : World) : Prop :=
  ∃ a c, e = .returned (.tuple #[.slice a p.1.length c, .bool p.2]) ∧ OwnObjs w' w.heap.size a c p.1 ∧ Ext w w'
theorem ocells_snoc (v : List Ob) (x : Ob) : ocells (v ++ [x]) = ocells v ++ [Value.int .i64 (x.a : Int), Value.int .i64 (hKind x.w), Value.int .i64 (hAge x.w), Value.int .i64 (hSize x.w)] := by simp [ocells]
theorem rsl_block {w : World} {B : Nat} {cs : List Value} {t : TypeId} {fr : Nat × Nat} (hb : w.heap[B]? = some (.cells cs.toArray t fr)) : RSl w (some ⟨B, 0, none⟩) cs := fun j u hu => ⟨B, 0, rfl, by
  rw [Nat.zero_add, cell_of_row w B j _ t fr hb]; simpa using hu⟩
theorem part_len (W : List Int) : ∀ f a to, (objs W to f a).1.length ≤ f
  | 0, _, _ => by simp [objs]
  | f + 1, a, to => by
    unfold objs
    split
    · split
      · have := part_len W f (a + 1 + (hSize (wat W a)).toNat) to
        simp; exact this
      · simp
    · simp

set_option maxRecDepth 100000 in
set_option maxHeartbeats 4000000 in
theorem kObjects_walk (b o : Nat) (M : Mem) (S : Sls) (w : World) (hM : RMem w b o M S) (a to : Nat) (hto : to ≤ M.W.length) (hlen : M.W.length ≤ 196608) (hat : a ≤ to) :
    Calls Tryd.prog 91 #[.pointer (some ⟨b, o, none⟩), .int .i64 (a : Int), .int .i64 (to : Int)] w (ObjectsPost w (partK M.W a to)) := by
  obtain ⟨i0, hi, hz0, hz1, hz2⟩ := info_parts infoObj
  have HM := Lib.hid hM
  have hltb := hM.lt
  clear hM
  go_enter Tryd.func91, Tryd.ntmps91
  go_wp2
  go_loopw [1, 8] (fun i out wr => ∃ (k : Nat) (v : List Ob) (oa : Option Addr) (oc : Nat), a ≤ k ∧ k ≤ to ∧ i = .int .i64 (k : Int) ∧ out = .slice oa v.length oc ∧ Hid (OwnObjs wr w.heap.size oa oc v) ∧
      Hid (part M.W a to = (v ++ (part M.W k to).1, (part M.W k to).2)) ∧ Hid (v.all markB = true) ∧ Hid (Ext w wr) ∧ v.length ≤ k)
    (fun i _ _ => to - (intOf i).toNat)
  case atStart => exact ⟨a, [], none, 0, Nat.le_refl _, hat, rfl, rfl, World.ownsRow_nil _ _ _ _, rfl, rfl, Ext.refl w, Nat.zero_le _⟩
  case round =>
    obtain ⟨k, v, oa, oc, hk1, hk2, rfl, rfl, hO, hP, hA, hE, hvk⟩ := hrel
    by_cases hlt : k < to
    · have hkW : k < M.W.length := by omega
      have hMr : RMem wr b o M S := HM.out.ext hE.out
      have c_W := hMr.W
      obtain ⟨wb, wo, hWa, hc⟩ := hMr.rW k _ (wcells_at M.W k hkW)
      rw [hWa] at c_W
      obtain ⟨hq0, hq1⟩ := wat_in HM.out.ok k
      change wr.cell? ⟨wb, wo + k, none⟩ = some (.int .u64 (wat M.W k)) at hc
      have hsz : hSize (wat M.W k) ≤ 281474976710655 ∧ 0 ≤ hSize (wat M.W k) := by unfold hSize; omega
      obtain ⟨hsz1, hsz0⟩ := hsz
      clear hMr hWa
      cases hd : isHd (wat M.W k) with
      | false =>
        have HB := Lib.hid (part_bad M.W k to hlt (by rw [hd]; rfl))
        go_wp2_with (go_at_call 47; refine (kHeadOf_no _ hq0 hq1 hd _).mono ?_; rintro e w1 ⟨rfl, rfl⟩)
        go_ret2
        have hp : partK M.W a to = ([], false) := by unfold partK; rw [hP.out, HB.out]; simp
        rw [hp]
        exact ⟨none, 0, rfl, World.ownsRow_nil _ _ _ _, hE.out⟩
      | true =>
        cases hm : (hMark (wat M.W k) != 0) with
        | true =>
          go_wp2_with (go_at_call 47; refine (kHeadOf_yes _ hq0 hq1 hd _).mono ?_; rintro e w1 ⟨rfl, rfl⟩)
          go_ret2
          have hm0 : (hMark (wat M.W k) == 0) = false := by simpa using hm
          have hp : partK M.W a to = ([], false) := by
            unfold partK
            rw [hP.out]
            by_cases hfit : k + 1 + (hSize (wat M.W k)).toNat ≤ to
            · rw [part_next M.W k to hd hfit]; simp [markB, hm0]
            · rw [part_bad M.W k to hlt (by rw [hd]; simp; omega)]; simp
          rw [hp]
          exact ⟨none, 0, rfl, World.ownsRow_nil _ _ _ _, hE.out⟩
        | false =>
          by_cases hfit : (k : Int) + 1 + hSize (wat M.W k) ≤ (to : Int)
          · have HB := Lib.hid (part_next M.W k to hd (by omega))
            have HM0 : Hid ((hMark (wat M.W k) == 0) = true) := by simpa [Hid] using hm
            have hes := hE.out.size
            go_wp2_with (first
              | (go_at_call 47; refine (kHeadOf_yes _ hq0 hq1 hd _).mono ?_; rintro e w1 ⟨rfl, rfl⟩)
              | (at_builtin; (refine wpList_append_src rfl _ _ 54 rfl w.heap.size 58 i0 (.agg #[.int .i64 0, .int .i64 0, .int .i64 0, .int .i64 0]) 4 32 undObjs hi hz0 hz1 hz2 rfl (by decide) _ v.length (ocells v) rfl (hO.out.alloc _) (some ⟨w1.heap.size, 0, none⟩) 1 1 [.int .i64 (k : Int), .int .i64 (hKind (wat M.W k)), .int .i64 (hAge (wat M.W k)), .int .i64 (hSize (wat M.W k))] rfl (fun h => by cases h) (Nat.le_refl _) rfl ?c1 ?c2 ?c3 ?c4 ?c5 ?_)))
            case c1 => exact rsl_block (heap_alloc_new w1 _)
            case c2 => intro u hu; simp at hu; rcases hu with rfl | rfl | rfl | rfl <;> rfl
            case c3 => unfold maxLen; omega
            case c4 => omega
            case c5 => simp; omega
            · intro a' c' w2 hown hgrow hat'
              have HOW := Lib.hid hown
              have HGR := Lib.hid hgrow
              have HAT := Lib.hid hat'
              clear hown hgrow hat'
              go_wp2
              go_roundw
              case rel =>
                refine ⟨k + 1 + (hSize (wat M.W k)).toNat, v ++ [⟨k, wat M.W k⟩], a', c', by omega, by omega, by go_num, ?_, ?_, ?_, ?_, ?_, ?_⟩
                · simp
                · show OwnObjs _ _ _ _ _
                  unfold OwnObjs
                  rw [ocells_snoc, List.length_append]
                  exact HOW.out
                · show part M.W a to = _
                  rw [hP.out, HB.out]; simp
                · show (v ++ [_]).all markB = true
                  simp [hA.out]; exact HM0.out
                · refine Below.grown (Ext.alloc_ hE.out _) HGR.out (by simp; omega) ?_
                  intro j hj
                  exact (hO.out.lt j hj).1
                · simp; omega
              case measure => simp [intOf]; omega
          · have HB := Lib.hid (part_bad M.W k to hlt (by rw [hd]; simp; omega))
            go_wp2_with (go_at_call 47; refine (kHeadOf_yes _ hq0 hq1 hd _).mono ?_; rintro e w1 ⟨rfl, rfl⟩)
            go_ret2
            have hp : partK M.W a to = ([], false) := by unfold partK; rw [hP.out, HB.out]; simp
            rw [hp]
            exact ⟨none, 0, rfl, World.ownsRow_nil _ _ _ _, hE.out⟩
    · have HD := Lib.hid (part_done M.W k to (by omega))
      go_wp2
      go_ret2
      have hp : partK M.W a to = (v, true) := by unfold partK; rw [hP.out, HD.out]; simp [hA.out]
      rw [hp]
      exact ⟨oa, oc, rfl, hO.out, hE.out⟩
end Go.Proofs.YtpbfhkkecbnieaaDoor
