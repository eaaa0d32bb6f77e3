/- The walk of the document's answer for the objects of a part. -/
import Derived.Test.YtecbbbaafcoliaaGreatDoorJYa06
import Derived.Test.YtecbbbaafcoliaaGreatDoorJYa04
import Derived.Deep.AppendLies
import Derived.Deep.RegionHeld3
import Derived.IntWalk
namespace Go.Proofs.YtecbbbaafcoliaaGreatDoor
open Go.RowKit
set_option linter.unusedVariables false
set_option linter.unusedSimpArgs false

def markB (o : Ob) : Bool := hMark o.w == 0
/-- The objects of a part, as the document has them. -/
def partK (W : List Int) (a to : Nat) : List Ob × Bool := if ((part W a to).2 && (part W a to).1.all markB) = true then ((part W a to).1, true) else ([], false)
theorem infoObj : (Tryz.prog.info? 62).map (fun i => (i.zero, i.size, i.bytes)) = some (some (.agg #[.int .i64 0, .int .i64 0, .int .i64 0, .int .i64 0]), 4, 32) := by kernel_rfl
theorem undObjs : Tryz.prog.underlying 57 = some (.slice 62) := by kernel_rfl
/-- A slice of objects that the call owns. -/
def OwnObjs (w : World) (base : Nat) (a : Option Addr) (c : Nat) (l : List Ob) : Prop := w.ownsRow base 62 4 (.slice a l.length c) l.length (ocells l)
def ObjectsPost (w : World) (p : List Ob × Bool) (e : Ending) (w' : World) : Prop :=
  ∃ a c, e = .returned (.tuple #[.slice a p.1.length c, .bool p.2]) ∧ OwnObjs w' w.heap.size a c p.1 ∧ Ext w w'
theorem ocells_snoc (v : List Ob) (x : Ob) : ocells (v ++ [x]) = ocells v ++ [Value.int .i64 (x.a : Int), Value.int .i64 (hKind x.w), Value.int .i64 (hAge x.w), Value.int .i64 (hSize x.w)] := by simp [ocells]
theorem rsl_block {w : World} {B : Nat} {cs : List Value} {t : TypeId} {fr : Nat × Nat} (hb : w.heap[B]? = some (.cells cs.toArray t fr)) : RSl w (some ⟨B, 0, none⟩) cs := fun j u hu => ⟨B, 0, rfl, by
  rw [Nat.zero_add, cell_of_row w B j _ t fr hb]; simpa using hu⟩
theorem part_len (W : List Int) : ∀ f a to, (objs W to f a).1.length ≤ f
  | 0, _, _ => by simp [objs]
  | f + 1, a, to => by
    unfold objs
    split
    · split
      · have := part_len W f (a + 1 + (hSize (wat W a)).toNat) to
        simp; exact this
      · simp
    · simp

set_option maxRecDepth 100000 in
set_option maxHeartbeats 4000000 in
theorem kObjects_walk (b o : Nat) (M : Mem) (S : Sls) (w : World) (hM : RMem w b o M S) (a to : Nat) (hto : to ≤ M.W.length) (hlen : M.W.length ≤ 196608) (hat : a ≤ to) :
    Calls Tryz.prog 83 #[.pointer (some ⟨b, o, none⟩), .int .i64 (a : Int), .int .i64 (to : Int)] w (ObjectsPost w (partK M.W a to)) := by
  obtain ⟨i0, hi, hz0, hz1, hz2⟩ := info_parts infoObj
  have HM := Lib.hid hM
  have hltb := hM.lt
  clear hM
  go_enter Tryz.func83, Tryz.ntmps83
  go_wp2
  go_loopw [1, 8] (fun i out wr => ∃ (k : Nat) (v : List Ob) (oa : Option Addr) (oc : Nat), a ≤ k ∧ k ≤ to ∧ i = .int .i64 (k : Int) ∧ out = .slice oa v.length oc ∧ Hid (OwnObjs wr w.heap.size oa oc v) ∧
      Hid (part M.W a to = (v ++ (part M.W k to).1, (part M.W k to).2)) ∧ Hid (v.all markB = true) ∧ Hid (Ext w wr) ∧ v.length ≤ k)
    (fun i _ _ => to - (intOf i).toNat)
  case atStart => exact ⟨a, [], none, 0, Nat.le_refl _, hat, rfl, rfl, World.ownsRow_nil _ _ _ _, rfl, rfl, Ext.refl w, Nat.zero_le _⟩
  case round =>
    obtain ⟨k, v, oa, oc, hk1, hk2, rfl, rfl, hO, hP, hA, hE, hvk⟩ := hrel
    by_cases hlt : k < to
    · have hkW : k < M.W.length := by omega
      have hMr : RMem wr b o M S := HM.out.ext hE.out
      have c_W := hMr.W
      obtain ⟨wb, wo, hWa, hc⟩ := hMr.rW k _ (wcells_at M.W k hkW)
      rw [hWa] at c_W
      obtain ⟨hq0, hq1⟩ := wat_in HM.out.ok k
      change wr.cell? ⟨wb, wo + k, none⟩ = some (.int .u64 (wat M.W k)) at hc
      have hsz : hSize (wat M.W k) ≤ 281474976710655 ∧ 0 ≤ hSize (wat M.W k) := by unfold hSize; omega
      obtain ⟨hsz1, hsz0⟩ := hsz
      clear hMr hWa
      cases hd : isHd (wat M.W k) with
      | false =>
        have HB := Lib.hid (part_bad M.W k to hlt (by rw [hd]; rfl))
        go_wp2_with (go_at_call 112; refine (kHeadOf_no _ hq0 hq1 hd _).mono ?_; rintro e w1 ⟨rfl, rfl⟩)
        go_ret2
        have hp : partK M.W a to = ([], false) := by unfold partK; rw [hP.out, HB.out]; simp
        rw [hp]
        exact ⟨none, 0, rfl, World.ownsRow_nil _ _ _ _, hE.out⟩
      | true =>
        cases hm : (hMark (wat M.W k) != 0) with
        | true =>
          go_wp2_with (go_at_call 112; refine (kHeadOf_yes _ hq0 hq1 hd _).mono ?_; rintro e w1 ⟨rfl, rfl⟩)
          go_ret2
          have hm0 : (hMark (wat M.W k) == 0) = false := by simpa using hm
          have hp : partK M.W a to = ([], false) := by
            unfold partK
            rw [hP.out]
            by_cases hfit : k + 1 + (hSize (wat M.W k)).toNat ≤ to
            · rw [part_next M.W k to hd hfit]; simp [markB, hm0]
            · rw [part_bad M.W k to hlt (by rw [hd]; simp; omega)]; simp
          rw [hp]
          exact ⟨none, 0, rfl, World.ownsRow_nil _ _ _ _, hE.out⟩
        | false =>
          by_cases hfit : (k : Int) + 1 + hSize (wat M.W k) ≤ (to : Int)
          · have HB := Lib.hid (part_next M.W k to hd (by omega))
            have HM0 : Hid ((hMark (wat M.W k) == 0) = true) := by simpa [Hid] using hm
            have hes := hE.out.size
            go_wp2_with (first
              | (go_at_call 112; refine (kHeadOf_yes _ hq0 hq1 hd _).mono ?_; rintro e w1 ⟨rfl, rfl⟩)
              | (at_builtin; (refine wpList_append_src rfl _ _ 57 rfl w.heap.size 62 i0 (.agg #[.int .i64 0, .int .i64 0, .int .i64 0, .int .i64 0]) 4 32 undObjs hi hz0 hz1 hz2 rfl (by decide) _ v.length (ocells v) rfl (hO.out.alloc _) (some ⟨w1.heap.size, 0, none⟩) 1 1 [.int .i64 (k : Int), .int .i64 (hKind (wat M.W k)), .int .i64 (hAge (wat M.W k)), .int .i64 (hSize (wat M.W k))] rfl (fun h => by cases h) (Nat.le_refl _) rfl ?c1 ?c2 ?c3 ?c4 ?c5 ?_)))
            case c1 => exact rsl_block (heap_alloc_new w1 _)
            case c2 => intro u hu; simp at hu; rcases hu with rfl | rfl | rfl | rfl <;> rfl
            case c3 => unfold maxLen; omega
            case c4 => omega
            case c5 => simp; omega
            · intro a' c' w2 hown hgrow hat'
              have HOW := Lib.hid hown
              have HGR := Lib.hid hgrow
              have HAT := Lib.hid hat'
              clear hown hgrow hat'
              go_wp2
              go_roundw
              case rel =>
                refine ⟨k + 1 + (hSize (wat M.W k)).toNat, v ++ [⟨k, wat M.W k⟩], a', c', by omega, by omega, by go_num, ?_, ?_, ?_, ?_, ?_, ?_⟩
                · simp
                · show OwnObjs _ _ _ _ _
                  unfold OwnObjs
                  rw [ocells_snoc, List.length_append]
                  exact HOW.out
                · show part M.W a to = _
                  rw [hP.out, HB.out]; simp
                · show (v ++ [_]).all markB = true
                  simp [hA.out]; exact HM0.out
                · refine Below.grown (Ext.alloc_ hE.out _) HGR.out (by simp; omega) ?_
                  intro j hj
                  exact (hO.out.lt j hj).1
                · simp; omega
              case measure => simp [intOf]; omega
          · have HB := Lib.hid (part_bad M.W k to hlt (by rw [hd]; simp; omega))
            go_wp2_with (go_at_call 112; refine (kHeadOf_yes _ hq0 hq1 hd _).mono ?_; rintro e w1 ⟨rfl, rfl⟩)
            go_ret2
            have hp : partK M.W a to = ([], false) := by unfold partK; rw [hP.out, HB.out]; simp
            rw [hp]
            exact ⟨none, 0, rfl, World.ownsRow_nil _ _ _ _, hE.out⟩
    · have HD := Lib.hid (part_done M.W k to (by omega))
      go_wp2
      go_ret2
      have hp : partK M.W a to = (v, true) := by unfold partK; rw [hP.out, HD.out]; simp [hA.out]
      rw [hp]
      exact ⟨oa, oc, rfl, hO.out, hE.out⟩
def kN (M : Mem) : List Ob × Bool := partK M.W M.base (M.base + M.top.toNat)
def kO (M : Mem) : List Ob × Bool := partK M.W (2 * M.half).toNat ((2 * M.half).toNat + M.oldTop.toNat)
def AllPost (w : World) (M : Mem) (e : Ending) (w' : World) : Prop :=
  ∃ a c, e = .returned (.tuple #[.slice a ((kN M).1 ++ (kO M).1).length c, .bool ((kN M).2 && (kO M).2)]) ∧ OwnObjs w' w.heap.size a c ((kN M).1 ++ (kO M).1) ∧ Ext w w'
theorem partK_len (W : List Int) (a to : Nat) : (partK W a to).1.length ≤ to - a := by
  unfold partK
  split
  · exact part_len W _ _ _
  · simp
theorem own_nil {w : World} {base : Nat} {a : Option Addr} {c : Nat} {l : List Ob} (h : OwnObjs w base a c l) : a = none → c = 0 := fun e => by
  subst e
  rcases h.2 with ⟨h1, _⟩ | ⟨g, cap, cur, h1, _⟩
  · injection h1
  · cases h1
theorem own_cap {w : World} {base : Nat} {a : Option Addr} {c : Nat} {l : List Ob} (h : OwnObjs w base a c l) : l.length ≤ c := by
  rcases h.2 with ⟨h1, h2⟩ | ⟨g, cap, cur, h1, _, _, h2, _⟩
  · omega
  · injection h1 with _ _ h1; omega
theorem own_rsl {w : World} {base : Nat} {a : Option Addr} {c : Nat} {l : List Ob} (h : OwnObjs w base a c l) : RSl w a (ocells l) := by
  rcases h.2 with ⟨h1, h2⟩ | ⟨g, cap, cur, h1, _, hg, _, _, _, ht⟩
  · rw [List.length_eq_zero_iff.1 h2]; exact RSl.nil _ _
  · injection h1 with h1 _ _
    subst h1
    intro j u hu
    refine ⟨g, 0, rfl, ?_⟩
    rw [Nat.zero_add, cell_of_row w g j cur _ _ hg]
    rw [← ht] at hu
    rw [List.getElem?_take] at hu
    split at hu
    · simpa using hu
    · cases hu
theorem ocells_app (u v : List Ob) : ocells (u ++ v) = ocells u ++ ocells v := by simp [ocells]
theorem ocells_one (l : List Ob) : ∀ u ∈ ocells l, u.oneCell' = true := fun u hu => by
  obtain ⟨o, _, ho⟩ := List.mem_flatMap.1 hu
  simp at ho
  rcases ho with rfl | rfl | rfl | rfl <;> rfl

set_option maxRecDepth 100000 in
set_option maxHeartbeats 4000000 in
theorem kAll_walk (b o : Nat) (M : Mem) (S : Sls) (hs : Shp M) (w : World) (hM : RMem w b o M S) :
    Calls Tryz.prog 26 #[.pointer (some ⟨b, o, none⟩)] w (AllPost w M) := by
  obtain ⟨i0, hi, hz0, hz1, hz2⟩ := info_parts infoObj
  obtain ⟨hb, b0, b1⟩ := hs.base
  have s1 := hs.h1
  have s2 := hs.h2
  have s3 := hs.t1
  have s4 := hs.t2
  have s5 := hs.p1
  have s6 := hs.p2
  have s7 := hs.o2
  have s8 := hs.w
  have c1 := hM.half
  have c2 := hM.top
  have c3 := hM.oldTop
  have c4 := hM.used
  obtain ⟨t, ht⟩ : ∃ t : Nat, M.top = t := ⟨M.top.toNat, by omega⟩
  obtain ⟨p, hp⟩ : ∃ p : Nat, M.oldTop = p := ⟨M.oldTop.toNat, by omega⟩
  obtain ⟨h, hh⟩ : ∃ h : Nat, M.half = h := ⟨M.half.toNat, by omega⟩
  obtain ⟨N1, hN1⟩ : ∃ N1 : Nat, N1 = M.base + t := ⟨_, rfl⟩
  obtain ⟨N2, hN2⟩ : ∃ N2 : Nat, N2 = 2 * h := ⟨_, rfl⟩
  obtain ⟨N3, hN3⟩ : ∃ N3 : Nat, N3 = 2 * h + p := ⟨_, rfl⟩
  have eN : kN M = partK M.W M.base N1 := by unfold kN; rw [ht, hN1]; rfl
  have eO : kO M = partK M.W N2 N3 := by unfold kO; rw [hp, hh, hN2, hN3]; rfl
  rw [hh] at c1
  rw [ht] at c2
  rw [hp] at c3
  have w0 : IntKind.i64.wrap (M.used * (h : Int)) = (M.base : Int) := by rw [← hh, IntWalk.i64_in _ (by omega)]; exact hb
  have w1 : IntKind.i64.wrap ((M.base : Int) + (t : Int)) = (N1 : Int) := by rw [IntWalk.i64_in _ (by omega)]; omega
  have w2 : IntKind.i64.wrap (2 * (h : Int)) = (N2 : Int) := by rw [IntWalk.i64_in _ (by omega)]; omega
  have w3 : IntKind.i64.wrap ((N2 : Int) + (p : Int)) = (N3 : Int) := by rw [IntWalk.i64_in _ (by omega)]; omega
  have E1 : Hid (M.half = (h : Int)) := hh
  have E3 : Hid (M.oldTop = (p : Int)) := hp
  have HM := Lib.hid hM
  have HN := Lib.hid eN
  have HO := Lib.hid eO
  have k1 : M.base ≤ N1 ∧ N1 ≤ M.W.length := by omega
  have k2 : N2 ≤ N3 ∧ N3 ≤ M.W.length := by omega
  have k3 : M.W.length ≤ 196608 := by omega
  obtain ⟨k4, k5⟩ := k1
  obtain ⟨k6, k7⟩ := k2
  have l1 := partK_len M.W M.base N1
  have l2 := partK_len M.W N2 N3
  have hltb := hM.lt
  clear hM hs eN eO s8 hb ht hp hh hN1 hN2 hN3 b0 b1 s1 s2 s3 s4 s5 s6 s7
  go_enter Tryz.func26, Tryz.ntmps26
  go_wp2
  refine wp_region_held_drew (S := fun W => W.cell? ⟨b, o + 4, none⟩ = some (.int .i64 M.used) ∧ W.cell? ⟨b, o, none⟩ = some (.int .i64 (h : Int)) ∧ W.cell? ⟨b, o + 5, none⟩ = some (.int .i64 (t : Int))) (by kernel_rfl) ?_ (fun hHeld => ?_)
  · exact ⟨c4, c1, c2⟩
  refine tk 0 ⟨some 9, _, _, _, _, _⟩ ?_ rfl ?_ ?_
  rotate_left
  · (intro w hSw; (try dsimp only at hSw); go_simp; try with_reducible rfl)
  try simp only [tkS]
  refine tk 1 ⟨some 10, _, _, _, _, _⟩ ?_ rfl ?_ ?_
  rotate_left
  · (intro w hSw; (try dsimp only at hSw); go_simp; try with_reducible rfl)
  try simp only [tkS]
  refine tk 2 ⟨some 11, _, _, _, _, _⟩ ?_ rfl ?_ ?_
  rotate_left
  · (intro w hSw; (try dsimp only at hSw); go_simp; try with_reducible rfl)
  try simp only [tkS]
  refine tk 3 ⟨some 12, _, _, _, _, _⟩ ?_ rfl ?_ ?_
  rotate_left
  · (intro w hSw; (try dsimp only at hSw); go_simp; try with_reducible rfl)
  try simp only [tkS]
  refine tk 4 ⟨some 13, _, _, _, _, _⟩ ?_ rfl ?_ ?_
  rotate_left
  · (intro w hSw; (try dsimp only at hSw); go_simp; try with_reducible rfl)
  try simp only [tkS]
  refine tk 5 ⟨some 14, _, _, _, _, _⟩ ?_ rfl ?_ ?_
  rotate_left
  · (intro w hSw; (try dsimp only at hSw); go_simp; try with_reducible rfl)
  try simp only [tkS]
  refine tk 6 ⟨some 15, _, _, _, _, _⟩ ?_ rfl ?_ ?_
  rotate_left
  · (intro w hSw; (try dsimp only at hSw); go_simp; try with_reducible rfl)
  try simp only [tkS]
  refine tk 7 ⟨some 16, _, _, _, _, _⟩ ?_ rfl ?_ ?_
  rotate_left
  · (intro w hSw; (try dsimp only at hSw); go_simp; try with_reducible rfl)
  try simp only [tkS]
  refine tk 8 ⟨some 17, _, _, _, _, _⟩ ?_ rfl ?_ ?_
  rotate_left
  · (intro w hSw; (try dsimp only at hSw); go_simp; try with_reducible rfl)
  try simp only [tkS]
  refine tk 9 ⟨some 18, _, _, _, _, _⟩ ?_ rfl ?_ ?_
  rotate_left
  · (intro w hSw; (try dsimp only at hSw); go_simp; try with_reducible rfl)
  try simp only [tkS]
  refine tk 10 ⟨some 19, _, _, _, _, _⟩ ?_ rfl ?_ ?_
  rotate_left
  · (intro w hSw; (try dsimp only at hSw); go_simp; try with_reducible rfl)
  try simp only [tkS]
  refine tk 11 ⟨some 20, _, _, _, _, _⟩ ?_ rfl ?_ ?_
  rotate_left
  · (intro w hSw; (try dsimp only at hSw); go_simp; try with_reducible rfl)
  try simp only [tkS]
  refine tk 12 ⟨some 21, _, _, _, _, _⟩ ?_ rfl ?_ ?_
  rotate_left
  · (intro w hSw; (try dsimp only at hSw); go_simp; try with_reducible rfl)
  try simp only [tkS]
  refine tk 13 ⟨some 22, _, _, _, _, _⟩ ?_ rfl ?_ ?_
  rotate_left
  · (intro w hSw; (try dsimp only at hSw); go_simp; try with_reducible rfl)
  try simp only [tkS]
  refine tk 14 ⟨some 23, _, _, _, _, _⟩ ?_ rfl ?_ ?_
  rotate_left
  · (intro w hSw; (try dsimp only at hSw); go_simp; try with_reducible rfl)
  try simp only [tkS]
  refine tk 15 ⟨some 24, _, _, _, _, _⟩ ?_ rfl ?_ ?_
  rotate_left
  · (intro w hSw; (try dsimp only at hSw); go_simp; try with_reducible rfl)
  try simp only [tkS]
  refine tk 16 ⟨some 25, _, _, _, _, _⟩ ?_ rfl ?_ ?_
  rotate_left
  · (intro w hSw; (try dsimp only at hSw); go_simp; try with_reducible rfl)
  try simp only [tkS]
  refine tk 17 ⟨some 26, _, _, _, _, _⟩ ?_ rfl ?_ ?_
  rotate_left
  · (intro w hSw; (try dsimp only at hSw); go_simp; try with_reducible rfl)
  try simp only [tkS]
  refine tk 18 ⟨some 27, _, _, _, _, _⟩ ?_ rfl ?_ ?_
  rotate_left
  · (intro w hSw; (try dsimp only at hSw); go_simp; try with_reducible rfl)
  try simp only [tkS]
  refine tk 19 ⟨some 28, _, _, _, _, _⟩ ?_ rfl ?_ ?_
  rotate_left
  · (intro w hSw; (try dsimp only at hSw); go_simp; try with_reducible rfl)
  try simp only [tkS]
  refine tk 20 ⟨some 29, _, _, _, _, _⟩ ?_ rfl ?_ ?_
  rotate_left
  · (intro w hSw; (try dsimp only at hSw); go_simp; try with_reducible rfl)
  try simp only [tkS]
  refine tk 21 ⟨some 30, _, _, _, _, _⟩ ?_ rfl ?_ ?_
  rotate_left
  · (intro w hSw; (try dsimp only at hSw); go_simp; try with_reducible rfl)
  try simp only [tkS]
  refine tk 22 ⟨some 31, _, _, _, _, _⟩ ?_ rfl ?_ ?_
  rotate_left
  · (intro w hSw; (try dsimp only at hSw); go_simp; try with_reducible rfl)
  try simp only [tkS]
  refine tk 23 ⟨some 32, _, _, _, _, _⟩ ?_ rfl ?_ ?_
  rotate_left
  · (intro w hSw; (try dsimp only at hSw); go_simp; try with_reducible rfl)
  try simp only [tkS]
  refine wpAnyH_ready (rs := [24]) (by kernel_rfl) (by simp) ?_
  refine AllReadyH.cons (o := ⟨some 33, _, _, _, _, _⟩) rfl (fun K hK => ?_) AllReadyH.nil
  go_simp
  refine (kObjects_walk b o M S _ (HM.out.ext (by repeat (first | exact Ext.refl _ | (refine Ext.drew_ ?_) | (refine Ext.drewN_ ?_ _)))) M.base N1 k5 k3 k4).mono ?_
  rintro e w1 ⟨a1, cc1, he, hO1, hq⟩
  rw [he]
  have HE1 : Hid (Ext w w1) := Ext.trans_ (by repeat (first | exact Ext.refl _ | (refine Ext.drew_ ?_) | (refine Ext.drewN_ ?_ _))) hq
  have HO1 : Hid (OwnObjs w1 w.heap.size a1 cc1 (partK M.W M.base N1).1) := hO1
  have d1 := hq.cell_ hHeld.1
  have d2 := hq.cell_ hHeld.2.1
  have d3 := hq.cell_ hHeld.2.2
  clear hO1 hq he
  refine hK.out _ _ ?_ (fun hHeld => ?_)
  · (try dsimp only); exact ⟨d1, d2, d3⟩
  clear hK K
  try simp only [tkS]
  refine tk 25 ⟨some 8, _, _, _, _, _⟩ ?_ rfl ?_ ?_
  rotate_left
  · (intro w hSw; (try dsimp only at hSw); go_simp; try with_reducible rfl)
  try simp only [tkS]
  refine tk 26 ⟨some 34, _, _, _, _, _⟩ ?_ rfl ?_ ?_
  rotate_left
  · (intro w hSw; (try dsimp only at hSw); go_simp; try with_reducible rfl)
  try simp only [tkS]
  refine tk 27 ⟨some 35, _, _, _, _, _⟩ ?_ rfl ?_ ?_
  rotate_left
  · (intro w hSw; (try dsimp only at hSw); go_simp; try with_reducible rfl)
  try simp only [tkS]
  refine tk 28 ⟨some 4, _, _, _, _, _⟩ ?_ rfl ?_ ?_
  rotate_left
  · (intro w hSw; (try dsimp only at hSw); go_simp; try with_reducible rfl)
  try simp only [tkS]
  refine tk 29 ⟨some 5, _, _, _, _, _⟩ ?_ rfl ?_ ?_
  rotate_left
  · (intro w hSw; (try dsimp only at hSw); go_simp; try with_reducible rfl)
  try simp only [tkS]
  refine wpAnyH_done (by kernel_rfl) ?_ _
  go_wp2
  have hMM := HM.out.ext HE1.out
  have g1 := hMM.half
  have g3 := hMM.oldTop
  rw [E1.out] at g1
  rw [E3.out] at g3
  clear hMM hHeld
  refine wp_region_held_drew (S := fun W => W.cell? ⟨b, o, none⟩ = some (.int .i64 (h : Int)) ∧ W.cell? ⟨b, o + 6, none⟩ = some (.int .i64 (p : Int))) (by kernel_rfl) ?_ (fun hHeld => ?_)
  · exact ⟨g1, g3⟩
  refine tk 0 ⟨some 37, _, _, _, _, _⟩ ?_ rfl ?_ ?_
  rotate_left
  · (intro w hSw; (try dsimp only at hSw); go_simp; try with_reducible rfl)
  try simp only [tkS]
  refine tk 1 ⟨some 38, _, _, _, _, _⟩ ?_ rfl ?_ ?_
  rotate_left
  · (intro w hSw; (try dsimp only at hSw); go_simp; try with_reducible rfl)
  try simp only [tkS]
  refine tk 2 ⟨some 39, _, _, _, _, _⟩ ?_ rfl ?_ ?_
  rotate_left
  · (intro w hSw; (try dsimp only at hSw); go_simp; try with_reducible rfl)
  try simp only [tkS]
  refine tk 3 ⟨some 40, _, _, _, _, _⟩ ?_ rfl ?_ ?_
  rotate_left
  · (intro w hSw; (try dsimp only at hSw); go_simp; try with_reducible rfl)
  try simp only [tkS]
  refine tk 4 ⟨some 41, _, _, _, _, _⟩ ?_ rfl ?_ ?_
  rotate_left
  · (intro w hSw; (try dsimp only at hSw); go_simp; try with_reducible rfl)
  try simp only [tkS]
  refine tk 5 ⟨some 42, _, _, _, _, _⟩ ?_ rfl ?_ ?_
  rotate_left
  · (intro w hSw; (try dsimp only at hSw); go_simp; try with_reducible rfl)
  try simp only [tkS]
  refine tk 6 ⟨some 43, _, _, _, _, _⟩ ?_ rfl ?_ ?_
  rotate_left
  · (intro w hSw; (try dsimp only at hSw); go_simp; try with_reducible rfl)
  try simp only [tkS]
  refine tk 7 ⟨some 44, _, _, _, _, _⟩ ?_ rfl ?_ ?_
  rotate_left
  · (intro w hSw; (try dsimp only at hSw); go_simp; try with_reducible rfl)
  try simp only [tkS]
  refine tk 8 ⟨some 45, _, _, _, _, _⟩ ?_ rfl ?_ ?_
  rotate_left
  · (intro w hSw; (try dsimp only at hSw); go_simp; try with_reducible rfl)
  try simp only [tkS]
  refine tk 9 ⟨some 46, _, _, _, _, _⟩ ?_ rfl ?_ ?_
  rotate_left
  · (intro w hSw; (try dsimp only at hSw); go_simp; try with_reducible rfl)
  try simp only [tkS]
  refine tk 10 ⟨some 47, _, _, _, _, _⟩ ?_ rfl ?_ ?_
  rotate_left
  · (intro w hSw; (try dsimp only at hSw); go_simp; try with_reducible rfl)
  try simp only [tkS]
  refine tk 11 ⟨some 48, _, _, _, _, _⟩ ?_ rfl ?_ ?_
  rotate_left
  · (intro w hSw; (try dsimp only at hSw); go_simp; try with_reducible rfl)
  try simp only [tkS]
  refine tk 12 ⟨some 49, _, _, _, _, _⟩ ?_ rfl ?_ ?_
  rotate_left
  · (intro w hSw; (try dsimp only at hSw); go_simp; try with_reducible rfl)
  try simp only [tkS]
  refine tk 13 ⟨some 50, _, _, _, _, _⟩ ?_ rfl ?_ ?_
  rotate_left
  · (intro w hSw; (try dsimp only at hSw); go_simp; try with_reducible rfl)
  try simp only [tkS]
  refine tk 14 ⟨some 51, _, _, _, _, _⟩ ?_ rfl ?_ ?_
  rotate_left
  · (intro w hSw; (try dsimp only at hSw); go_simp; try with_reducible rfl)
  try simp only [tkS]
  refine tk 15 ⟨some 52, _, _, _, _, _⟩ ?_ rfl ?_ ?_
  rotate_left
  · (intro w hSw; (try dsimp only at hSw); go_simp; try with_reducible rfl)
  try simp only [tkS]
  refine wpAnyH_ready (rs := [16]) (by kernel_rfl) (by simp) ?_
  refine AllReadyH.cons (o := ⟨some 53, _, _, _, _, _⟩) rfl (fun K hK => ?_) AllReadyH.nil
  go_simp
  refine (kObjects_walk b o M S _ (HM.out.ext (Ext.trans_ HE1.out (by repeat (first | exact Ext.refl _ | (refine Ext.drew_ ?_) | (refine Ext.drewN_ ?_ _))))) N2 N3 k7 k3 k6).mono ?_
  rintro e w2 ⟨a2, cc2, he, hO2, hq⟩
  rw [he]
  have HE2 : Hid (Ext w1 w2) := Ext.trans_ (by repeat (first | exact Ext.refl _ | (refine Ext.drew_ ?_) | (refine Ext.drewN_ ?_ _))) hq
  have HO2 : Hid (OwnObjs w2 w1.heap.size a2 cc2 (partK M.W N2 N3).1) := hO2
  have d4 := hq.cell_ hHeld.1
  have d5 := hq.cell_ hHeld.2
  clear hO2 hq he
  refine hK.out _ _ ?_ (fun hHeld => ?_)
  · (try dsimp only); exact ⟨d4, d5⟩
  clear hK K
  try simp only [tkS]
  refine tk 17 ⟨some 36, _, _, _, _, _⟩ ?_ rfl ?_ ?_
  rotate_left
  · (intro w hSw; (try dsimp only at hSw); go_simp; try with_reducible rfl)
  try simp only [tkS]
  refine tk 18 ⟨some 54, _, _, _, _, _⟩ ?_ rfl ?_ ?_
  rotate_left
  · (intro w hSw; (try dsimp only at hSw); go_simp; try with_reducible rfl)
  try simp only [tkS]
  refine tk 19 ⟨some 55, _, _, _, _, _⟩ ?_ rfl ?_ ?_
  rotate_left
  · (intro w hSw; (try dsimp only at hSw); go_simp; try with_reducible rfl)
  try simp only [tkS]
  refine tk 20 ⟨some 6, _, _, _, _, _⟩ ?_ rfl ?_ ?_
  rotate_left
  · (intro w hSw; (try dsimp only at hSw); go_simp; try with_reducible rfl)
  try simp only [tkS]
  refine tk 21 ⟨some 7, _, _, _, _, _⟩ ?_ rfl ?_ ?_
  rotate_left
  · (intro w hSw; (try dsimp only at hSw); go_simp; try with_reducible rfl)
  try simp only [tkS]
  refine wpAnyH_done (by kernel_rfl) ?_ _
  have hs1 := HE1.out.size
  have hs2 := HE2.out.size
  have hO1' : OwnObjs w2 w.heap.size a1 cc1 (partK M.W M.base N1).1 := HO1.out.kept (w' := w2) (row := none) ⟨HE2.out.os, HE2.out.tape, HE2.out.output, HE2.out.size, fun k hk _ => HE2.out.block k hk⟩ (by
    rcases hv : Value.ownBlock (.slice a1 (partK M.W M.base N1).1.length cc1) with _ | _
    · exact Or.inl rfl
    · exact Or.inr (by simp))
  have HO1' := Lib.hid hO1'
  clear hO1' hHeld
  go_wp2_with (first
    | (at_builtin; refine wpList_append_src rfl _ _ 57 rfl w.heap.size 62 i0 (.agg #[.int .i64 0, .int .i64 0, .int .i64 0, .int .i64 0]) 4 32 undObjs hi hz0 hz1 hz2 rfl (by decide) _ (partK M.W M.base N1).1.length (ocells (partK M.W M.base N1).1) rfl HO1'.out a2 (partK M.W N2 N3).1.length cc2 (ocells (partK M.W N2 N3).1) rfl (own_nil HO2.out) (own_cap HO2.out) (ocells_len _) (own_rsl HO2.out) (ocells_one _) ?c3 ?c4 ?c5 ?_))
  case c3 => unfold maxLen; omega
  case c4 => omega
  case c5 => omega
  intro a' c' w3 hown hgrow hat'
  have HOW := Lib.hid hown
  have HGR := Lib.hid hgrow
  clear hown hgrow hat'
  cases hr1 : (partK M.W M.base N1).2 with
  | false =>
    have HR1 := Lib.hid hr1
    go_wp2
    go_ret2
    refine ⟨a', c', ?_, ?_, ?_⟩
    · rw [HN.out, HO.out, HR1.out, List.length_append]; rfl
    · unfold OwnObjs
      rw [HN.out, HO.out, ocells_app, List.length_append]
      exact HOW.out
    · exact Below.grown (Ext.trans_ HE1.out HE2.out) HGR.out (by omega) (fun j hj => (HO1'.out.lt j hj).1)
  | true =>
    have HR1 := Lib.hid hr1
    go_wp2
    go_ret2
    refine ⟨a', c', ?_, ?_, ?_⟩
    · rw [HN.out, HO.out, HR1.out, List.length_append]; rfl
    · unfold OwnObjs
      rw [HN.out, HO.out, ocells_app, List.length_append]
      exact HOW.out
    · exact Below.grown (Ext.trans_ HE1.out HE2.out) HGR.out (by omega) (fun j hj => (HO1'.out.lt j hj).1)
theorem kAll_ok {M : Mem} (h : ((kN M).2 && (kO M).2) = true) : (kN M).1 ++ (kO M).1 = objsAll M ∧ (partN M).2 = true ∧ (partO M).2 = true ∧ (objsAll M).all markB = true := by
  have key : ∀ a to, (partK M.W a to).2 = true → (partK M.W a to).1 = (part M.W a to).1 ∧ (part M.W a to).2 = true ∧ (part M.W a to).1.all markB = true := fun a to h => by
    unfold partK at h ⊢
    split at h
    · rename_i h1
      rw [if_pos h1]
      simp only [Bool.and_eq_true] at h1
      exact ⟨rfl, h1.1, h1.2⟩
    · cases h
  simp only [Bool.and_eq_true] at h
  obtain ⟨a1, a2, a3⟩ := key _ _ h.1
  obtain ⟨b1, b2, b3⟩ := key _ _ h.2
  refine ⟨?_, a2, b2, ?_⟩
  · unfold objsAll partN partO kN kO; rw [a1, b1]
  · unfold objsAll partN partO; rw [List.all_append, a3, b3]; rfl
theorem kAll_bad {M : Mem} (h : ((kN M).2 && (kO M).2) = false) : objsB M (okHd M) = false := by
  have key : ∀ a to, (partK M.W a to).2 = ((part M.W a to).2 && (part M.W a to).1.all markB) := fun a to => by
    unfold partK
    split
    · rename_i h1; rw [h1]
    · rename_i h1; simpa using h1
  unfold kN kO at h
  rw [key, key] at h
  cases hb : objsB M (okHd M) with
  | false => rfl
  | true =>
    simp only [objsB, Bool.and_eq_true] at hb
    have hm : ∀ l : List Ob, l.all (okHd M) = true → l.all markB = true := fun l hl => by
      rw [List.all_eq_true] at hl ⊢
      intro x hx
      have := hl x hx
      simp only [okHd, Bool.and_eq_true] at this
      exact this.1
    have h1 : (partN M).2 = true := hb.1.1
    have h2 : (partO M).2 = true := hb.2.1
    have h3 := hm _ hb.1.2
    have h4 := hm _ hb.2.2
    unfold partN at h1 h3
    unfold partO at h2 h4
    rw [h1, h2, h3, h4] at h
    cases h
/-- What the document asks of an object. -/
def ageB (M : Mem) (x : Ob) : Bool := !(oldB M (x.a : Int) && (hAge x.w != 0))
def okK (M : Mem) (x : Ob) : Bool := ageB M x && okFld M (startsM M) x
/-- What the document asks of a number. -/
def twoB (y x : Int × Int) : Bool := (y.1 == x.1) || (y.2 == x.2)
def idK (st : List Int) (pre : List (Int × Int)) (x : Int × Int) : Bool := (decide (0 ≤ ptsW x.1) && inSt st (ptsW x.1) && decide (1 ≤ x.2)) && !(pre.any fun y => twoB y x)
theorem pts_place (st : List Int) (a : Int) (h0 : 0 ≤ a) (hlt : ∀ s ∈ st, 0 ≤ s ∧ s < 1099511627776) : (decide (0 ≤ ptsW a) && inSt st (ptsW a)) = ((kindW a == 0) && (a != 0) && inSt st (placeW a)) := by
  unfold ptsW
  by_cases h1 : kindW a = 0
  · by_cases h2 : a = 0
    · rw [if_neg (by simp [h2])]; simp [h2]
    · by_cases h3 : a / 4 ≤ 1099511627776
      · rw [if_pos ⟨h1, h2, h3⟩]
        have h4 : 0 ≤ placeW a := by unfold placeW; unfold kindW at h1; omega
        simp [h1, h2, h4]
      · rw [if_neg (fun h => h3 h.2.2)]
        have h5 : inSt st (placeW a) = false := by
          cases hq : inSt st (placeW a) with
          | false => rfl
          | true =>
            have := hlt _ (List.contains_iff_mem.1 hq)
            unfold placeW at this
            omega
        simp [h5]
  · rw [if_neg (fun h => h1 h.1)]
    have : (kindW a == 0) = false := by simpa using h1
    simp [this]
theorem beq_swap (a b : Int) : (a == b) = (b == a) := by
  by_cases h : a = b
  · subst h; rfl
  · rw [beq_eq_false_iff_ne.2 h, beq_eq_false_iff_ne.2 (Ne.symm h)]
theorem idK_eq (st : List Int) (pre : List (Int × Int)) (x : Int × Int) (h0 : 0 ≤ x.1) (hlt : ∀ s ∈ st, 0 ≤ s ∧ s < 1099511627776) : idK st pre x = idOK st pre x := by
  unfold idK idOK
  rw [pts_place st x.1 h0 hlt]
  have e : (pre.any fun y => twoB y x) = (inSt (pre.map (·.1)) x.1 || inSt (pre.map (·.2)) x.2) := by
    induction pre with
    | nil => rfl
    | cons y pre ih =>
      simp only [List.any_cons, List.map_cons, inSt, List.contains_cons, twoB] at ih ⊢
      rw [ih, beq_swap x.1 y.1, beq_swap x.2 y.2]
      cases (y.1 == x.1) <;> cases (y.2 == x.2) <;> simp
  rw [e]
  have e2 : decide (1 ≤ x.2) = !decide (x.2 < 1) := by
    rcases Int.lt_or_le x.2 1 with h | h
    · rw [decide_eq_true h, decide_eq_false (by omega)]; rfl
    · rw [decide_eq_false (by omega : ¬ x.2 < 1), decide_eq_true h]; rfl
  rw [e2]
  by_cases h1 : kindW x.1 = 0
  · have b1 : (kindW x.1 == 0) = true := beq_iff_eq.2 h1
    have b2 : (kindW x.1 != 0) = false := by rw [bne, b1]; rfl
    by_cases h2 : x.1 = 0
    · have b3 : (x.1 == 0) = true := beq_iff_eq.2 h2
      have b4 : (x.1 != 0) = false := by rw [bne, b3]; rfl
      rw [b1, b2, b3, b4]; simp
    · have b3 : (x.1 == 0) = false := beq_eq_false_iff_ne.2 h2
      have b4 : (x.1 != 0) = true := by rw [bne, b3]; rfl
      have e3 : fldB st x.1 = inSt st (placeW x.1) := by simp [fldB, h1, h2]
      rw [e3, b1, b2, b3, b4]
      cases inSt st (placeW x.1) <;> cases decide (x.2 < 1) <;> cases inSt (pre.map (·.1)) x.1 <;> cases inSt (pre.map (·.2)) x.2 <;> rfl
  · have b1 : (kindW x.1 == 0) = false := beq_eq_false_iff_ne.2 h1
    have b2 : (kindW x.1 != 0) = true := by rw [bne, b1]; rfl
    rw [b1, b2]; simp
theorem idsK (st : List Int) (hlt : ∀ s ∈ st, 0 ≤ s ∧ s < 1099511627776) : ∀ (pre l : List (Int × Int)), (∀ x ∈ l, 0 ≤ x.1) → (idsB st pre l = true ↔ ∀ k (hk : k < l.length), idK st (pre ++ l.take k) l[k] = true)
  | pre, [], _ => by simp [idsB]
  | pre, x :: l, h => by
    rw [idsB, Bool.and_eq_true, idsK st hlt (pre ++ [x]) l (fun y hy => h y (by simp [hy])), ← idK_eq st pre x (h x (by simp)) hlt]
    constructor
    · rintro ⟨h1, h2⟩ k hk
      cases k with
      | zero => simpa using h1
      | succ k => simpa using h2 k (by simpa using hk)
    · intro h1
      refine ⟨?_, fun k hk => ?_⟩
      · have := h1 0 (by simp)
        rw [List.take_zero, List.append_nil] at this
        exact this
      · have := h1 (k + 1) (by simpa using hk)
        rw [List.take_succ_cons, List.append_cons] at this
        exact this
theorem starts_in (M : Mem) (hs : Shp M) : ∀ s ∈ startsM M, 0 ≤ s ∧ s < 1099511627776 := fun s h => by
  obtain ⟨o, ho, rfl⟩ := List.mem_map.1 h
  have h1 := hs.h1; have h2 := hs.t2; have h3 := hs.p2; have h4 := hs.w; have h5 := hs.base; have h6 := hs.o2; have h7 := hs.t1; have h8 := hs.p1; have h9 := hs.h2
  rcases obM_of ho with g | g
  · have := g.to; omega
  · have := g.to; omega
/-- Behind the fields' test a young pointer is a point below the old space. -/
theorem young_pts (M : Mem) (hs : Shp M) (a : Int) (h0 : 0 ≤ a) (hf : fldB (startsM M) a = true) : youngB M a = (decide (0 ≤ ptsW a) && decide (ptsW a < 2 * M.half)) := by
  unfold youngB oldB ptsW
  by_cases h1 : kindW a = 0
  · by_cases h2 : a = 0
    · rw [if_neg (by simp [h2])]; simp [h2]
    · have h3 : inSt (startsM M) (placeW a) = true := by simpa [fldB, h1, h2] using hf
      have h4 := starts_in M hs _ (List.contains_iff_mem.1 h3)
      rw [if_pos ⟨h1, h2, by unfold placeW at h4; omega⟩]
      have h5 : (kindW a == 0) = true := by simpa using h1
      have h6 : (a != 0) = true := by simpa using h2
      rw [h5, h6, decide_eq_true h4.1]
      by_cases h7 : 2 * M.half ≤ placeW a
      · rw [decide_eq_true h7, decide_eq_false (by omega)]; rfl
      · rw [decide_eq_false h7, decide_eq_true (by omega)]; rfl
  · rw [if_neg (fun h => h1 h.1)]
    have : (kindW a == 0) = false := by simpa using h1
    simp [this]
/-- THE CHECK, by the document's parts. -/
theorem chk_of {M : Mem} (hs : shapeB M = true) (h : ((kN M).2 && (kO M).2) = true) (hr : fieldsB (startsM M) M.roots = true) (hk : fieldsB (startsM M) M.weak = true) :
    chk M = if (objsAll M).all (okK M) = true then (if idsB (startsM M) [] M.ids = true then (if cardsM M = true then 0 else 5) else 3) else 3 := by
  obtain ⟨e1, e2, e3, e4⟩ := kAll_ok h
  have e5 : objsB M (okHd M) = (objsAll M).all (okHd M) := by unfold objsB objsAll; rw [e2, e3, List.all_append]; simp
  have e6 : ((objsAll M).all (okHd M) && (objsAll M).all (okFld M (startsM M))) = (objsAll M).all (okK M) := by
    revert e4
    generalize objsAll M = l
    intro e4
    induction l with
    | nil => rfl
    | cons x l ih =>
      simp only [List.all_cons, Bool.and_eq_true] at e4
      rw [List.all_cons, List.all_cons, List.all_cons, ← ih e4.2]
      have : okHd M x = ageB M x := by
        have h1 := e4.1
        unfold markB at h1
        unfold okHd ageB
        rw [h1]
        by_cases h2 : hAge x.w = 0
        · simp [h2]
        · have : (hAge x.w == 0) = false := by simpa using h2
          have h3 : (hAge x.w != 0) = true := by simpa using h2
          simp [this, h3]
      rw [this]
      unfold okK
      cases ageB M x <;> cases okFld M (startsM M) x <;> cases List.all l (okHd M) <;> cases List.all l (okFld M (startsM M)) <;> rfl
  have e7 : goodB M = ((objsAll M).all (okK M) && idsB (startsM M) [] M.ids) := by
    unfold goodB
    rw [hs, e5, hr, hk, ← e6]
    cases List.all (objsAll M) (okHd M) <;> cases List.all (objsAll M) (okFld M (startsM M)) <;> rfl
  unfold chk
  rw [e7]
  cases List.all (objsAll M) (okK M) <;> cases idsB (startsM M) [] M.ids <;> cases cardsM M <;> rfl
/-- Where an object of a memory lies. -/
theorem ob_bounds {M : Mem} (hok : M.Ok) (hs : Shp M) {x : Ob} (h : ObM M x) : (x.a : Int) + 1 + hSize x.w ≤ (M.W.length : Int) ∧ 0 ≤ hSize x.w ∧ (x.n : Int) = hSize x.w ∧ (2 * M.half ≤ (x.a : Int) → (x.a : Int) + 1 + hSize x.w ≤ 2 * M.half + M.old) ∧ (M.W.length : Int) ≤ 196608 := by
  have h1 := hs.h1; have h2 := hs.t2; have h3 := hs.p2; have h4 := hs.w; have h5 := hs.base; have h6 := hs.o2; have h7 := hs.t1; have h8 := hs.p1; have h9 := hs.h2
  have hz : 0 ≤ hSize x.w := by
    have hd : x.w = wat M.W x.a := by rcases h with h | h <;> exact h.w
    rw [hd]
    exact (hd_in _ (wat_in hok x.a).1).2.2.2.2.2.2
  have hn : (x.n : Int) = hSize x.w := by unfold Ob.n; omega
  rcases h with h | h
  · have := h.to
    refine ⟨by omega, hz, hn, by omega, by omega⟩
  · have := h.to
    refine ⟨by omega, hz, hn, by omega, by omega⟩
/-- The card of a field of the old space. -/
theorem card_idx {M : Mem} (hs : Shp M) (a : Int) (ha : 2 * M.half ≤ a) (hb : a < 2 * M.half + M.old) :
    ∃ J : Nat, (a - 2 * M.half).tdiv M.card = (J : Int) ∧ J < M.cards.length ∧ cardB M a = M.cards.getD J false := by
  obtain ⟨i0, i1⟩ := hs.card a ha hb
  refine ⟨((a - 2 * M.half) / M.card).toNat, ?_, by omega, rfl⟩
  rw [Int.tdiv_eq_ediv_of_nonneg (by omega)]; omega
theorem all_take_false {p : Ob → Bool} {l : List Ob} {x : Ob} (hx : x ∈ l) (h : p x = false) : l.all p = false := by
  rw [List.all_eq_false]; exact ⟨x, hx, by rw [h]; simp⟩
theorem okFld_raw {M : Mem} {x : Ob} (h : rawB (hKind x.w) = true) : okFld M (startsM M) x = true := by unfold okFld; rw [h]; rfl
theorem cardsO_raw {M : Mem} {x : Ob} (h : rawB (hKind x.w) = true) : cardsO M x = true := by unfold cardsO; rw [h]; rfl
theorem cardsO_fld {M : Mem} {x : Ob} (h : rawB (hKind x.w) = false) : cardsO M x = cardsK M x x.n := by unfold cardsO; rw [h]; rfl
theorem cardsK_new {M : Mem} {x : Ob} (h : oldB M (x.a : Int) = false) (n : Nat) : cardsK M x n = true := by
  unfold cardsK; rw [List.all_eq_true]; intro i _; simp [crd, h]
theorem ageB_new {M : Mem} {x : Ob} (h : oldB M (x.a : Int) = false) : ageB M x = true := by unfold ageB; rw [h]; rfl
theorem ageB_0 {M : Mem} {x : Ob} (h : (hAge x.w != 0) = false) : ageB M x = true := by unfold ageB; rw [h]; simp
theorem fld_of {M : Mem} {x : Ob} (h : fieldsB (startsM M) (flds M x) = true) (j : Nat) (hj : j < x.n) : fldB (startsM M) (wat M.W (x.a + 1 + j)) = true := by
  unfold fieldsB at h
  rw [List.all_eq_true] at h
  exact h _ (List.mem_map.2 ⟨j, List.mem_range.2 hj, rfl⟩)
theorem idK_a {st : List Int} {pre : List (Int × Int)} {x : Int × Int} (h : ptsW x.1 < 0) : idK st pre x = false := by unfold idK; rw [decide_eq_false (by omega : ¬ 0 ≤ ptsW x.1)]; rfl
theorem idK_b {st : List Int} {pre : List (Int × Int)} {x : Int × Int} (h : inSt st (ptsW x.1) = false) : idK st pre x = false := by unfold idK; rw [h]; simp
theorem idK_c {st : List Int} {pre : List (Int × Int)} {x : Int × Int} (h : x.2 < 1) : idK st pre x = false := by unfold idK; rw [decide_eq_false (by omega : ¬ 1 ≤ x.2)]; simp
theorem idK_d {st : List Int} {pre : List (Int × Int)} {x y : Int × Int} (hy : y ∈ pre) (h : twoB y x = true) : idK st pre x = false := by
  have : (pre.any fun y => twoB y x) = true := List.any_eq_true.2 ⟨y, hy, h⟩
  unfold idK; rw [this]; simp
theorem idK_yes {st : List Int} {pre : List (Int × Int)} {x : Int × Int} (h1 : ¬ ptsW x.1 < 0) (h2 : inSt st (ptsW x.1) = true) (h3 : ¬ x.2 < 1) (h4 : ∀ j (hj : j < pre.length), twoB pre[j] x = false) : idK st pre x = true := by
  have : (pre.any fun y => twoB y x) = false := by
    rw [List.any_eq_false]
    intro y hy
    obtain ⟨j, hj, rfl⟩ := List.mem_iff_getElem.1 hy
    rw [h4 j hj]; simp
  unfold idK; rw [this, h2, decide_eq_true (by omega : 0 ≤ ptsW x.1), decide_eq_true (by omega : 1 ≤ x.2)]; rfl
theorem ids_bad {M : Mem} (hs : Shp M) (hok : M.Ok) (k : Nat) (hk : k < M.ids.length) (h : idK (startsM M) (M.ids.take k) M.ids[k] = false) : idsB (startsM M) [] M.ids = false := by
  cases hb : idsB (startsM M) [] M.ids with
  | false => rfl
  | true =>
    have := (idsK (startsM M) (starts_in M hs) [] M.ids (fun x hx => (hok.ids x hx).1.1)).1 hb k hk
    rw [List.nil_append, h] at this
    cases this
theorem ids_good {M : Mem} (hs : Shp M) (hok : M.Ok) (h : ∀ k (hk : k < M.ids.length), idK (startsM M) (M.ids.take k) M.ids[k] = true) : idsB (startsM M) [] M.ids = true :=
  (idsK (startsM M) (starts_in M hs) [] M.ids (fun x hx => (hok.ids x hx).1.1)).2 (fun k hk => by rw [List.nil_append]; exact h k hk)
end Go.Proofs.YtecbbbaafcoliaaGreatDoor
