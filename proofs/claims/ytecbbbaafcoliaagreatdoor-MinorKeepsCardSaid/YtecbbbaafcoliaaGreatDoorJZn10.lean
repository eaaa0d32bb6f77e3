/- The walk of Memory.Check's closure that asks an object's fields. -/
import Derived.Test.YtecbbbaafcoliaaGreatDoorJZn06
import Derived.Test.YtecbbbaafcoliaaGreatDoorJZn09
import Derived.Test.YtecbbbaafcoliaaGreatDoorJZn01
namespace Go.Proofs.YtecbbbaafcoliaaGreatDoor
open Go.RowKit
set_option linter.unusedVariables false
set_option linter.unusedSimpArgs false

theorem c4_enters (args : Array Value) (w : World) : (callFunc 67 args).run Tryz.prog w = .ok (.enter 67 args) w :=
  enters_of Tryz.func67 (by kernel_rfl) rfl args w
theorem undU64 : Tryz.prog.underlying 26 = some (.slice 51) := by kernel_rfl
theorem sizeU64 (w : World) : (sizeOf 51).run Tryz.prog w = .ok 1 w := by kernel_rfl
theorem flds_cells (M : Mem) (x : Ob) (h : x.a + 1 + x.n ≤ M.W.length) : ((wcells M.W).drop (x.a + 1)).take (x.a + 1 + x.n - (x.a + 1)) = wcells (flds M x) := by
  rw [show x.a + 1 + x.n - (x.a + 1) = x.n by omega]
  apply List.ext_getElem?
  intro i
  by_cases hi : i < x.n
  · simp [wcells, flds, hi, wat, List.getD_eq_getElem?_getD, show x.a + 1 + i < M.W.length by omega]
  · simp [wcells, flds, hi]; omega
theorem flds_at (M : Mem) (x : Ob) (k : Nat) (h : k < x.n) : (flds M x).getD k 0 = wat M.W (x.a + 1 + k) := by simp [flds, List.getD_eq_getElem?_getD, h]
theorem flds_in {M : Mem} (h : M.Ok) (x : Ob) (z : Int) (hz : z ∈ flds M x) : 0 ≤ z ∧ z ≤ 18446744073709551615 := by
  obtain ⟨i, _, rfl⟩ := List.mem_map.1 hz
  exact wat_in h _
theorem flds_len (M : Mem) (x : Ob) : (flds M x).length = x.n := by simp [flds]
def C4One (b6 : Nat) (w : World) (M : Mem) (st : List Int) (x : Ob) (c : Bool) (e : Ending) (w' : World) : Prop :=
  e = .returned (.bool (okFld M st x)) ∧ w'.cell? ⟨b6, 0, none⟩ = some (.bool (c && cardsO M x)) ∧ w'.frozen? ⟨b6, 0, none⟩ = false ∧ Keep (· = b6) w w'
set_option maxRecDepth 100000 in
set_option maxHeartbeats 4000000 in
theorem c4_any (x : Ob) (b o b1 b3 b4 b5 b6 bm : Nat) (M : Mem) (S : Sls) (hs : Shp M) (st : List Int) (w0 w : World) (hE : Ext w0 w) (hM : RMem w0 b o M S) (hx : ObM M x) (c : Bool) (hm : SMap w bm .i64 st)
    (hb6 : w0.heap.size ≤ b6) (n1 : b1 ≠ b6) (n3 : b3 ≠ b6) (n4 : b4 ≠ b6) (n5 : b5 ≠ b6) (nm : bm ≠ b6)
    (h1 : w.cell? ⟨b1, 0, none⟩ = some (.pointer (some ⟨b, o, none⟩))) (h3 : w.cell? ⟨b3, 0, none⟩ = some (.map (some bm)))
    (h4 : w.cell? ⟨b4, 0, none⟩ = some (.func (.func 62) #[] #[.pointer (some ⟨b3, 0, none⟩)]))
    (h5 : w.cell? ⟨b5, 0, none⟩ = some (.func (.func 64) #[] #[.pointer (some ⟨b4, 0, none⟩)]))
    (h6 : w.cell? ⟨b6, 0, none⟩ = some (.bool c)) (f6 : w.frozen? ⟨b6, 0, none⟩ = false) :
    Calls Tryz.prog 67 #[.int .i64 (x.a : Int), headV x.w, .pointer (some ⟨b1, 0, none⟩), .pointer (some ⟨b6, 0, none⟩), .pointer (some ⟨b5, 0, none⟩)] w (C4One b6 w M st x c) := by
  have hx1 : ObIn M.W 0 M.W.length x := by
    have h1 := hs.h1; have h2 := hs.t2; have h3 := hs.p2; have h4 := hs.w; have h5 := hs.base; have h6 := hs.o2; have h7 := hs.t1; have h8 := hs.p1
    rcases hx with hx | hx
    · exact ⟨hx.w, hx.hd, Nat.zero_le _, by have := hx.to; omega⟩
    · exact ⟨hx.w, hx.hd, Nat.zero_le _, by have := hx.to; omega⟩
  have hold : oldB M (x.a : Int) = true → (x.a : Int) + 1 + x.n ≤ 2 * M.half + M.old := fun ho => by
    have h1 := hs.h1; have h2 := hs.t2; have h3 := hs.p2; have h4 := hs.w; have h5 := hs.base; have h6 := hs.o2; have h7 := hs.t1; have h8 := hs.p1
    have h9 := hx1.to
    omega
  have hn : (x.n : Int) = hSize x.w := by
    have := hx1.w ▸ (wat_in hM.ok x.a).1
    unfold Ob.n hSize; omega
  have hto := hx1.to
  have HX := Lib.hid hx1
  clear hx hx1
  have hlen : M.W.length ≤ 196608 := by have h1 := hs.h2; have h2 := hs.o2; have h3 := hs.w; omega
  have hMw : RMem w b o M S := hM.ext hE
  have c_W := hMw.W
  have hcap := hMw.capW
  have hlt6 := cell_lt h6
  have hlt1 := cell_lt h1
  have hlt5 := cell_lt h5
  have hltb := hMw.lt
  simp only at hlt6 hlt1 hlt5
  obtain ⟨wb, wo, hWa, -⟩ := hMw.rW 0 _ (wcells_at M.W 0 (by omega))
  rw [hWa] at c_W
  have HWA := Lib.hid hWa
  have HM := Lib.hid hM
  have HE := Lib.hid hE
  have HMW := Lib.hid hMw
  have HSM := Lib.hid hm
  have HSH := Lib.hid hs
  have HOLD := Lib.hid hold
  have H3 := Lib.hid h3
  have H4 := Lib.hid h4
  have H6 := Lib.hid h6
  have F6 := Lib.hid f6
  clear hM hE hMw hm hs hold hWa h3 h4
  have HN := Lib.hid hn
  have hn0 : 0 ≤ hSize x.w := by omega
  have hn1 : (x.a : Int) + 1 + hSize x.w ≤ (M.W.length : Int) := by omega
  clear hn
  unfold headV
  cases hr : rawB (hKind x.w) with
  | true =>
    go_enter Tryz.func67, Tryz.ntmps67
    go_wp2_with (go_at_call 34; refine (raw_any _ _).mono ?_; rintro e w' ⟨rfl, rfl⟩)
    go_ret
    refine ⟨by unfold okFld; rw [hr]; rfl, ?_, ?_, ?_⟩
    · rw [((Ext.refl w).alloc_ _).cell_ H6.out]; unfold cardsO; rw [hr]; simp
    · rw [((Ext.refl w).alloc_ _).three.2.1 _ _ hlt6]; exact F6.out
    · exact (Keep.refl _ w).alloc_ _
  | false =>
    obtain ⟨A, C, hsl, hAC, hAn, hRA⟩ := run_part (P := Tryz.prog) undU64 sizeU64 wb wo M.W.length S.W.2 (x.a + 1) (x.a + 1 + x.n) ((x.a : Int) + 1) ((x.a : Int) + 1 + hSize x.w) (by omega) (by have := HN.out; omega) (by omega) (by omega)
    have HRA : Hid (∀ wr, RMem wr b o M S → RSl wr A (wcells (flds M x))) := fun wr hr => by
      have := hRA wr _ (HWA.out ▸ hr.rW)
      rw [flds_cells M x hto] at this
      exact this
    rw [show x.a + 1 + x.n - (x.a + 1) = x.n by omega] at hsl hAC
    clear hRA
    have e1 : IntKind.i64.wrap ((x.a : Int) + 1) = (x.a : Int) + 1 := IntWalk.i64_in _ (by omega)
    have e2 : IntKind.i64.wrap ((x.a : Int) + 1 + hSize x.w) = (x.a : Int) + 1 + hSize x.w := IntWalk.i64_in _ (by omega)
    have hc1 : (x.a : Int) + 1 + hSize x.w ≤ (S.W.2 : Int) := by omega
    have hc2 : (0 : Int) ≤ (x.a : Int) + 1 := by omega
    have hc3 : (x.a : Int) + 1 ≤ (x.a : Int) + 1 + hSize x.w := by omega
    go_enter Tryz.func67, Tryz.ntmps67
    go_wp2_with (go_at_call 34; refine (raw_any _ _).mono ?_; rintro e w' ⟨rfl, rfl⟩)
    go_quiet (fail)
    go_wp2
    go_loopw [28] (fun i wr => ∃ k : Nat, k ≤ x.n ∧ i = .int .i64 (k : Int) ∧ wr.cell? ⟨b6, 0, none⟩ = some (.bool (c && cardsK M x k)) ∧ wr.frozen? ⟨b6, 0, none⟩ = false ∧ Hid (Keep (· = b6) w wr))
      (fun i _ => x.n - (intOf i).toNat)
    case atStart =>
      refine ⟨0, Nat.zero_le _, rfl, ?_, ?_, ((Keep.refl _ w).alloc_ _).drewN_ _⟩
      · have := ((Ext.refl w).alloc_ (Obj.cells #[Value.int IntKind.i64 (hKind x.w), Value.int IntKind.i64 (hAge x.w), Value.int IntKind.i64 (hMark x.w), Value.int IntKind.i64 (hSize x.w)] 77)).cell_ H6.out
        simpa [cardsK] using this
      · have := ((Ext.refl w).alloc_ (Obj.cells #[Value.int IntKind.i64 (hKind x.w), Value.int IntKind.i64 (hAge x.w), Value.int IntKind.i64 (hMark x.w), Value.int IntKind.i64 (hSize x.w)] 77)).three.2.1 _ 0 hlt6
        rw [F6.out] at this
        simpa using this
    case round =>
      obtain ⟨k, hk, rfl, h6r, f6r, hK⟩ := hrel
      have hMR : RMem wr b o M S := HM.out.ext (Ext.keep HE.out hK.out fun i hi => by subst hi; exact hb6)
      have HMR := Lib.hid hMR
      have h1r := hK.out.cell n1 h1
      have h5r := hK.out.cell n5 h5
      have hRF := HRA.out wr hMR
      clear h1 h5 hMR
      by_cases hlt : k < x.n
      · obtain ⟨ab, ao, hA, hcell⟩ := hRF k _ (wcells_at (flds M x) k (by rw [flds_len]; exact hlt))
        rw [flds_at M x k hlt] at hcell
        clear hRF
        subst hA
        have hin := wat_in HM.out.ok (x.a + 1 + k)
        cases ho : oldB M (x.a : Int) with
        | false =>
          have HCRD : Hid (crd M x k = true) := by simp [Hid, crd, ho]
          have hg1 : True := trivial
          have hg2 : True := trivial
          go_wp2_with (first
            | (go_at_call 52; refine (inOld_any _ _ b o M S HMR.out HSH.out).mono ?_; rintro e w' ⟨rfl, rfl⟩))
          go_roundw
          case rel =>
            refine ⟨k + 1, by omega, by go_num, ?_, f6r, hK⟩
            rw [cardsK_succ, HCRD.out, Bool.and_true]; exact h6r
          case measure => simp [intOf]; omega
        | true =>
          have hg1 : 2 * M.half ≤ (x.a : Int) + 1 + k := by have := of_decide_eq_true ho; omega
          have hg2 : (x.a : Int) + 1 + k < 2 * M.half + M.old := by have := HOLD.out ho; omega
          cases hy : youngB M (wat M.W (x.a + 1 + k)) with
          | false =>
            have HCRD : Hid (crd M x k = true) := by simp [Hid, crd, hy]
            go_wp2_with (first
              | (go_at_call 52; refine (inOld_any _ _ b o M S HMR.out HSH.out).mono ?_; rintro e w' ⟨rfl, rfl⟩)
              | (go_at_call 68; refine (young_any _ hin.1 hin.2 _ b o M S HMR.out HSH.out).mono ?_; rintro e w' ⟨rfl, rfl⟩))
            go_roundw
            case rel =>
              refine ⟨k + 1, by omega, by go_num, ?_, f6r, hK⟩
              rw [cardsK_succ, HCRD.out, Bool.and_true]; exact h6r
            case measure => simp [intOf]; omega
          | true =>
            cases hq : cardB M ((x.a : Int) + 1 + k) with
            | true =>
              have HCRD : Hid (crd M x k = true) := by simp [Hid, crd, hq]
              go_wp2_with (first
                | (go_at_call 52; refine (inOld_any _ _ b o M S HMR.out HSH.out).mono ?_; rintro e w' ⟨rfl, rfl⟩)
                | (go_at_call 68; refine (young_any _ hin.1 hin.2 _ b o M S HMR.out HSH.out).mono ?_; rintro e w' ⟨rfl, rfl⟩)
                | (go_at_call 69; refine (marked_any _ _ b o M S HMR.out HSH.out hg1 hg2).mono ?_; rintro e w' ⟨rfl, n, rfl⟩))
              go_roundw
              case rel =>
                refine ⟨k + 1, by omega, by go_num, ?_, by simpa using f6r, hK.out.drewN_ _⟩
                rw [cardsK_succ, HCRD.out, Bool.and_true]; simpa using h6r
              case measure => simp [intOf]; omega
            | false =>
              have HCRD : Hid (crd M x k = false) := by simp [Hid, crd, ho, hy, hq]
              go_wp2_with (first
                | (go_at_call 52; refine (inOld_any _ _ b o M S HMR.out HSH.out).mono ?_; rintro e w' ⟨rfl, rfl⟩)
                | (go_at_call 68; refine (young_any _ hin.1 hin.2 _ b o M S HMR.out HSH.out).mono ?_; rintro e w' ⟨rfl, rfl⟩)
                | (go_at_call 69; refine (marked_any _ _ b o M S HMR.out HSH.out hg1 hg2).mono ?_; rintro e w' ⟨rfl, n, rfl⟩))
              go_roundw
              case rel =>
                refine ⟨k + 1, by omega, by go_num, ?_, ?_, ?_⟩
                · rw [cardsK_succ, HCRD.out, Bool.and_false, Bool.and_false]; simp [h6r, go_sem]
                · simp [f6r, go_sem]
                · exact (hK.out.drewN_ _).set_ (Or.inl rfl) _
              case measure => simp [intOf]; omega
      · have hkn : k = x.n := by omega
        subst hkn
        have hc3 := c3_any A C (flds M x) (by rw [flds_len]; omega) (fun z hz => flds_in HM.out.ok x z hz) bm b3 b4 st wr hRF (HSM.out.keep hK.out nm) (hK.out.cell n3 H3.out) (hK.out.cell n4 H4.out)
        rw [flds_len] at hc3
        clear hRF
        go_wp2_with (go_at_call 64; refine hc3.mono ?_; rintro e w' ⟨rfl, hq⟩)
        go_ret
        refine ⟨by unfold okFld; rw [hr]; rfl, ?_, ?_, hK.out.ext_ hq⟩
        · rw [hq.cell_ h6r]; unfold cardsO; rw [hr]; rfl
        · rw [hq.three.2.1 _ _ (cell_lt h6r)]; exact f6r
end Go.Proofs.YtecbbbaafcoliaaGreatDoor
/- Memory.objects at Check's closures, and at starts'. -/
namespace Go.Proofs.YtecbbbaafcoliaaGreatDoor
open Go.RowKit
set_option linter.unusedVariables false
set_option linter.unusedSimpArgs false

theorem ats_snoc (v : List Ob) (x : Ob) : (v ++ [x]).map (fun o => (o.a : Int)) = v.map (fun o => (o.a : Int)) ++ [(x.a : Int)] := by simp
/-- What objects answers at the first closure: the headers are asked, the starts gathered. -/
def C1Post (bm : Nat) (w : World) (M : Mem) (e : Ending) (w' : World) : Prop :=
  e = .returned (.bool (objsB M (okHd M))) ∧ (objsB M (okHd M) = true → SMap w' bm .i64 (startsM M)) ∧ Keep (· = bm) w w'
theorem objects_c1 (w0 : World) (b o : Nat) (M : Mem) (S : Sls) (hs : Shp M) (hM : RMem w0 b o M S) (gb gs : Addr) (hG : GBound w0 gb) (hS : GShape w0 gs) (bm b3 b1 : Nat) (w : World) (hE : Ext w0 w)
    (hbm : w0.heap.size ≤ bm) (hne3 : b3 ≠ bm) (hne1 : b1 ≠ bm) (hm : SMap w bm .i64 []) (h3 : w.cell? ⟨b3, 0, none⟩ = some (.map (some bm))) (h1 : w.cell? ⟨b1, 0, none⟩ = some (.pointer (some ⟨b, o, none⟩))) :
    Calls Tryz.prog 60 #[.pointer (some ⟨b, o, none⟩), .func (.func 61) #[] #[.pointer (some ⟨b3, 0, none⟩), .pointer (some ⟨b1, 0, none⟩)]] w (C1Post bm w M) := by
  refine (objects_walk w0 b o M S hs hM gb gs hG hS (· = bm) _ #[.pointer (some ⟨b3, 0, none⟩), .pointer (some ⟨b1, 0, none⟩)] c1_enters (okHd M) (fun v w' => SMap w' bm .i64 (v.map fun (y : Ob) => (y.a : Int))) w hE
    (fun k hk => by subst hk; exact ⟨hbm, hm.lt⟩) (fun v w1 w2 hI hx => hI.ext hx) (fun v x w' hI hK hx => ?_) hm).mono ?_
  · have := c1_any x b o bm b3 b1 M S hs (v.map fun (y : Ob) => (y.a : Int)) w0 w' (hE.keep hK fun i hi => by subst hi; exact hbm) hM hI hbm hne3 hne1 (hK.cell hne3 h3) (hK.cell hne1 h1)
    rw [← ats_snoc] at this
    exact this
  · rintro e w' ⟨v, he, hI, hv, hK⟩
    exact ⟨he, fun h => by rw [hv h] at hI; exact hI, hK⟩
/-- .. at the second: the fields are asked; whether a card lacks. -/
def C4Post (b6 : Nat) (w : World) (M : Mem) (st : List Int) (e : Ending) (w' : World) : Prop :=
  e = .returned (.bool (objsB M (okFld M st))) ∧ (objsB M (okFld M st) = true → w'.cell? ⟨b6, 0, none⟩ = some (.bool (cardsM M))) ∧ Keep (· = b6) w w'
theorem objects_c4 (w0 : World) (b o : Nat) (M : Mem) (S : Sls) (hs : Shp M) (hM : RMem w0 b o M S) (gb gs : Addr) (hG : GBound w0 gb) (hS : GShape w0 gs) (b1 b3 b4 b5 b6 bm : Nat) (st : List Int) (w : World) (hE : Ext w0 w)
    (hb6 : w0.heap.size ≤ b6) (n1 : b1 ≠ b6) (n3 : b3 ≠ b6) (n4 : b4 ≠ b6) (n5 : b5 ≠ b6) (nm : bm ≠ b6) (hm : SMap w bm .i64 st)
    (h1 : w.cell? ⟨b1, 0, none⟩ = some (.pointer (some ⟨b, o, none⟩))) (h3 : w.cell? ⟨b3, 0, none⟩ = some (.map (some bm)))
    (h4 : w.cell? ⟨b4, 0, none⟩ = some (.func (.func 62) #[] #[.pointer (some ⟨b3, 0, none⟩)]))
    (h5 : w.cell? ⟨b5, 0, none⟩ = some (.func (.func 64) #[] #[.pointer (some ⟨b4, 0, none⟩)]))
    (h6 : w.cell? ⟨b6, 0, none⟩ = some (.bool true)) (f6 : w.frozen? ⟨b6, 0, none⟩ = false) :
    Calls Tryz.prog 60 #[.pointer (some ⟨b, o, none⟩), .func (.func 67) #[] #[.pointer (some ⟨b1, 0, none⟩), .pointer (some ⟨b6, 0, none⟩), .pointer (some ⟨b5, 0, none⟩)]] w (C4Post b6 w M st) := by
  refine (objects_walk w0 b o M S hs hM gb gs hG hS (· = b6) _ #[.pointer (some ⟨b1, 0, none⟩), .pointer (some ⟨b6, 0, none⟩), .pointer (some ⟨b5, 0, none⟩)] c4_enters (okFld M st)
    (fun v w' => w'.cell? ⟨b6, 0, none⟩ = some (.bool (v.all (cardsO M))) ∧ w'.frozen? ⟨b6, 0, none⟩ = false) w hE
    (fun k hk => by subst hk; exact ⟨hb6, cell_lt h6⟩) (fun v w1 w2 hI hx => ⟨hx.cell_ hI.1, by rw [hx.three.2.1 _ _ (cell_lt hI.1)]; exact hI.2⟩) (fun v x w' hI hK hx => ?_) ⟨h6, f6⟩).mono ?_
  · have := c4_any x b o b1 b3 b4 b5 b6 bm M S hs st w0 w' (hE.keep hK fun i hi => by subst hi; exact hb6) hM hx (v.all (cardsO M)) (hm.keep hK nm) hb6 n1 n3 n4 n5 nm (hK.cell n1 h1) (hK.cell n3 h3) (hK.cell n4 h4) (hK.cell n5 h5) hI.1 hI.2
    refine this.mono ?_
    rintro e w2 ⟨he, h7, h8, h9⟩
    exact ⟨he, ⟨by rw [h7]; simp [List.all_append], h8⟩, h9⟩
  · rintro e w' ⟨v, he, hI, hv, hK⟩
    exact ⟨he, fun h => by rw [hI.1, hv h]; rfl, hK⟩
end Go.Proofs.YtecbbbaafcoliaaGreatDoor
/- A long region's closed fact (one walk of the text's order serves every order), shown operation by operation: else the kernel runs out of memory. -/
namespace Go.Proofs.YtecbbbaafcoliaaGreatDoor

/-- Which operations are behind, at the k-th. -/
def lst (n k : Nat) : Array Bool := ((List.range n).map fun i => decide (i < k)).toArray
theorem lst_zero (n : Nat) : Array.replicate n false = lst n 0 := by
  apply Array.ext'
  simp only [lst, Array.toList_replicate]
  apply List.ext_getElem?
  intro i
  by_cases h : i < n <;> simp [h]
theorem lst_succ (n k : Nat) : (lst n k).setIfInBounds k true = lst n (k + 1) := by
  apply Array.ext'
  simp only [lst, Array.toList_setIfInBounds]
  apply List.ext_getElem?
  intro i
  rw [List.getElem?_set]
  by_cases h : i < n
  · by_cases e : k = i
    · subst e; simp [h]
    · simp [h, e]; omega
  · simp [h]; omega
/-- One operation's part. -/
def lexOne (md : Region.Mode) (ops : Array Oper) (n k : Nat) : Bool := (Region.ready md ops (lst n k)).contains k && Region.free md ops (lst n k) k
theorem lexFrom_of (md : Region.Mode) (ops : Array Oper) (n : Nat) (h : ∀ k, k < n → lexOne md ops n k = true) (he : (Region.ready md ops (lst n n)).isEmpty = true) :
    ∀ f k, f + k = n → Region.lexFrom md ops f k (lst n k) = true
  | 0, k, hk => by
    have : k = n := by omega
    subst this
    exact he
  | f + 1, k, hk => by
    have h1 := h k (by omega)
    unfold lexOne at h1
    unfold Region.lexFrom
    rw [h1, lst_succ, lexFrom_of md ops n h he f (k + 1) (by omega)]
    rfl
theorem lexB_of (md : Region.Mode) (ops : Array Oper) (n : Nat) (hn : ops.size = n) (hs : Region.noSelect ops = true) (h : ∀ k, k < n → lexOne md ops n k = true) (he : (Region.ready md ops (lst n n)).isEmpty = true) : Region.lexB md ops = true := by
  unfold Region.lexB
  rw [hs, hn, lst_zero, lexFrom_of md ops n h he n 0 (by omega)]
  rfl
/-- The operations of a body's regions, in the text's order. -/
def regs : Code → List (List Oper)
  | .region _ ops _ => [ops.toList]
  | .seq a b => regs a ++ regs b
  | .cond _ a b => regs a ++ regs b
  | .block _ c => regs c
  | .loop c => regs c
  | .scope c => regs c
  | _ => []
def regOf (f : Func) (k : Nat) : List Oper := ((f.body.map regs).getD []).getD k []
end Go.Proofs.YtecbbbaafcoliaaGreatDoor
/- The closed fact of Memory.shape's long region. -/
namespace Go.Proofs.YtecbbbaafcoliaaGreatDoor
noncomputable def shapeOps : List Oper := regOf Tryz.f59 2
theorem shape_size : shapeOps.toArray.size = 96 := by kernel_rfl
theorem shape_sel : Region.noSelect shapeOps.toArray = true := by kernel_rfl
theorem shape_end : (Region.ready .any shapeOps.toArray (lst 96 96)).isEmpty = true := by kernel_rfl
theorem shape_l0 : lexOne .any shapeOps.toArray 96 0 = true := by kernel_rfl
theorem shape_l1 : lexOne .any shapeOps.toArray 96 1 = true := by kernel_rfl
theorem shape_l2 : lexOne .any shapeOps.toArray 96 2 = true := by kernel_rfl
theorem shape_l3 : lexOne .any shapeOps.toArray 96 3 = true := by kernel_rfl
theorem shape_l4 : lexOne .any shapeOps.toArray 96 4 = true := by kernel_rfl
theorem shape_l5 : lexOne .any shapeOps.toArray 96 5 = true := by kernel_rfl
theorem shape_l6 : lexOne .any shapeOps.toArray 96 6 = true := by kernel_rfl
theorem shape_l7 : lexOne .any shapeOps.toArray 96 7 = true := by kernel_rfl
theorem shape_l8 : lexOne .any shapeOps.toArray 96 8 = true := by kernel_rfl
theorem shape_l9 : lexOne .any shapeOps.toArray 96 9 = true := by kernel_rfl
theorem shape_l10 : lexOne .any shapeOps.toArray 96 10 = true := by kernel_rfl
theorem shape_l11 : lexOne .any shapeOps.toArray 96 11 = true := by kernel_rfl
theorem shape_l12 : lexOne .any shapeOps.toArray 96 12 = true := by kernel_rfl
theorem shape_l13 : lexOne .any shapeOps.toArray 96 13 = true := by kernel_rfl
theorem shape_l14 : lexOne .any shapeOps.toArray 96 14 = true := by kernel_rfl
theorem shape_l15 : lexOne .any shapeOps.toArray 96 15 = true := by kernel_rfl
theorem shape_l16 : lexOne .any shapeOps.toArray 96 16 = true := by kernel_rfl
theorem shape_l17 : lexOne .any shapeOps.toArray 96 17 = true := by kernel_rfl
theorem shape_l18 : lexOne .any shapeOps.toArray 96 18 = true := by kernel_rfl
theorem shape_l19 : lexOne .any shapeOps.toArray 96 19 = true := by kernel_rfl
theorem shape_l20 : lexOne .any shapeOps.toArray 96 20 = true := by kernel_rfl
theorem shape_l21 : lexOne .any shapeOps.toArray 96 21 = true := by kernel_rfl
theorem shape_l22 : lexOne .any shapeOps.toArray 96 22 = true := by kernel_rfl
theorem shape_l23 : lexOne .any shapeOps.toArray 96 23 = true := by kernel_rfl
theorem shape_l24 : lexOne .any shapeOps.toArray 96 24 = true := by kernel_rfl
theorem shape_l25 : lexOne .any shapeOps.toArray 96 25 = true := by kernel_rfl
theorem shape_l26 : lexOne .any shapeOps.toArray 96 26 = true := by kernel_rfl
theorem shape_l27 : lexOne .any shapeOps.toArray 96 27 = true := by kernel_rfl
theorem shape_l28 : lexOne .any shapeOps.toArray 96 28 = true := by kernel_rfl
theorem shape_l29 : lexOne .any shapeOps.toArray 96 29 = true := by kernel_rfl
theorem shape_l30 : lexOne .any shapeOps.toArray 96 30 = true := by kernel_rfl
theorem shape_l31 : lexOne .any shapeOps.toArray 96 31 = true := by kernel_rfl
theorem shape_l32 : lexOne .any shapeOps.toArray 96 32 = true := by kernel_rfl
theorem shape_l33 : lexOne .any shapeOps.toArray 96 33 = true := by kernel_rfl
theorem shape_l34 : lexOne .any shapeOps.toArray 96 34 = true := by kernel_rfl
theorem shape_l35 : lexOne .any shapeOps.toArray 96 35 = true := by kernel_rfl
theorem shape_l36 : lexOne .any shapeOps.toArray 96 36 = true := by kernel_rfl
theorem shape_l37 : lexOne .any shapeOps.toArray 96 37 = true := by kernel_rfl
theorem shape_l38 : lexOne .any shapeOps.toArray 96 38 = true := by kernel_rfl
theorem shape_l39 : lexOne .any shapeOps.toArray 96 39 = true := by kernel_rfl
theorem shape_l40 : lexOne .any shapeOps.toArray 96 40 = true := by kernel_rfl
theorem shape_l41 : lexOne .any shapeOps.toArray 96 41 = true := by kernel_rfl
theorem shape_l42 : lexOne .any shapeOps.toArray 96 42 = true := by kernel_rfl
theorem shape_l43 : lexOne .any shapeOps.toArray 96 43 = true := by kernel_rfl
theorem shape_l44 : lexOne .any shapeOps.toArray 96 44 = true := by kernel_rfl
theorem shape_l45 : lexOne .any shapeOps.toArray 96 45 = true := by kernel_rfl
theorem shape_l46 : lexOne .any shapeOps.toArray 96 46 = true := by kernel_rfl
theorem shape_l47 : lexOne .any shapeOps.toArray 96 47 = true := by kernel_rfl
theorem shape_l48 : lexOne .any shapeOps.toArray 96 48 = true := by kernel_rfl
theorem shape_l49 : lexOne .any shapeOps.toArray 96 49 = true := by kernel_rfl
theorem shape_l50 : lexOne .any shapeOps.toArray 96 50 = true := by kernel_rfl
theorem shape_l51 : lexOne .any shapeOps.toArray 96 51 = true := by kernel_rfl
theorem shape_l52 : lexOne .any shapeOps.toArray 96 52 = true := by kernel_rfl
theorem shape_l53 : lexOne .any shapeOps.toArray 96 53 = true := by kernel_rfl
theorem shape_l54 : lexOne .any shapeOps.toArray 96 54 = true := by kernel_rfl
theorem shape_l55 : lexOne .any shapeOps.toArray 96 55 = true := by kernel_rfl
theorem shape_l56 : lexOne .any shapeOps.toArray 96 56 = true := by kernel_rfl
theorem shape_l57 : lexOne .any shapeOps.toArray 96 57 = true := by kernel_rfl
theorem shape_l58 : lexOne .any shapeOps.toArray 96 58 = true := by kernel_rfl
theorem shape_l59 : lexOne .any shapeOps.toArray 96 59 = true := by kernel_rfl
theorem shape_l60 : lexOne .any shapeOps.toArray 96 60 = true := by kernel_rfl
theorem shape_l61 : lexOne .any shapeOps.toArray 96 61 = true := by kernel_rfl
theorem shape_l62 : lexOne .any shapeOps.toArray 96 62 = true := by kernel_rfl
theorem shape_l63 : lexOne .any shapeOps.toArray 96 63 = true := by kernel_rfl
theorem shape_l64 : lexOne .any shapeOps.toArray 96 64 = true := by kernel_rfl
theorem shape_l65 : lexOne .any shapeOps.toArray 96 65 = true := by kernel_rfl
theorem shape_l66 : lexOne .any shapeOps.toArray 96 66 = true := by kernel_rfl
theorem shape_l67 : lexOne .any shapeOps.toArray 96 67 = true := by kernel_rfl
theorem shape_l68 : lexOne .any shapeOps.toArray 96 68 = true := by kernel_rfl
theorem shape_l69 : lexOne .any shapeOps.toArray 96 69 = true := by kernel_rfl
theorem shape_l70 : lexOne .any shapeOps.toArray 96 70 = true := by kernel_rfl
theorem shape_l71 : lexOne .any shapeOps.toArray 96 71 = true := by kernel_rfl
theorem shape_l72 : lexOne .any shapeOps.toArray 96 72 = true := by kernel_rfl
theorem shape_l73 : lexOne .any shapeOps.toArray 96 73 = true := by kernel_rfl
theorem shape_l74 : lexOne .any shapeOps.toArray 96 74 = true := by kernel_rfl
theorem shape_l75 : lexOne .any shapeOps.toArray 96 75 = true := by kernel_rfl
theorem shape_l76 : lexOne .any shapeOps.toArray 96 76 = true := by kernel_rfl
theorem shape_l77 : lexOne .any shapeOps.toArray 96 77 = true := by kernel_rfl
theorem shape_l78 : lexOne .any shapeOps.toArray 96 78 = true := by kernel_rfl
theorem shape_l79 : lexOne .any shapeOps.toArray 96 79 = true := by kernel_rfl
theorem shape_l80 : lexOne .any shapeOps.toArray 96 80 = true := by kernel_rfl
theorem shape_l81 : lexOne .any shapeOps.toArray 96 81 = true := by kernel_rfl
theorem shape_l82 : lexOne .any shapeOps.toArray 96 82 = true := by kernel_rfl
theorem shape_l83 : lexOne .any shapeOps.toArray 96 83 = true := by kernel_rfl
theorem shape_l84 : lexOne .any shapeOps.toArray 96 84 = true := by kernel_rfl
theorem shape_l85 : lexOne .any shapeOps.toArray 96 85 = true := by kernel_rfl
theorem shape_l86 : lexOne .any shapeOps.toArray 96 86 = true := by kernel_rfl
theorem shape_l87 : lexOne .any shapeOps.toArray 96 87 = true := by kernel_rfl
theorem shape_l88 : lexOne .any shapeOps.toArray 96 88 = true := by kernel_rfl
theorem shape_l89 : lexOne .any shapeOps.toArray 96 89 = true := by kernel_rfl
theorem shape_l90 : lexOne .any shapeOps.toArray 96 90 = true := by kernel_rfl
theorem shape_l91 : lexOne .any shapeOps.toArray 96 91 = true := by kernel_rfl
theorem shape_l92 : lexOne .any shapeOps.toArray 96 92 = true := by kernel_rfl
theorem shape_l93 : lexOne .any shapeOps.toArray 96 93 = true := by kernel_rfl
theorem shape_l94 : lexOne .any shapeOps.toArray 96 94 = true := by kernel_rfl
theorem shape_l95 : lexOne .any shapeOps.toArray 96 95 = true := by kernel_rfl
theorem shape_lex : Region.lexB .any shapeOps.toArray = true := by
  refine lexB_of _ _ 96 shape_size shape_sel (fun k hk => ?_) shape_end
  match k, hk with
  | 0, _ => exact shape_l0
  | 1, _ => exact shape_l1
  | 2, _ => exact shape_l2
  | 3, _ => exact shape_l3
  | 4, _ => exact shape_l4
  | 5, _ => exact shape_l5
  | 6, _ => exact shape_l6
  | 7, _ => exact shape_l7
  | 8, _ => exact shape_l8
  | 9, _ => exact shape_l9
  | 10, _ => exact shape_l10
  | 11, _ => exact shape_l11
  | 12, _ => exact shape_l12
  | 13, _ => exact shape_l13
  | 14, _ => exact shape_l14
  | 15, _ => exact shape_l15
  | 16, _ => exact shape_l16
  | 17, _ => exact shape_l17
  | 18, _ => exact shape_l18
  | 19, _ => exact shape_l19
  | 20, _ => exact shape_l20
  | 21, _ => exact shape_l21
  | 22, _ => exact shape_l22
  | 23, _ => exact shape_l23
  | 24, _ => exact shape_l24
  | 25, _ => exact shape_l25
  | 26, _ => exact shape_l26
  | 27, _ => exact shape_l27
  | 28, _ => exact shape_l28
  | 29, _ => exact shape_l29
  | 30, _ => exact shape_l30
  | 31, _ => exact shape_l31
  | 32, _ => exact shape_l32
  | 33, _ => exact shape_l33
  | 34, _ => exact shape_l34
  | 35, _ => exact shape_l35
  | 36, _ => exact shape_l36
  | 37, _ => exact shape_l37
  | 38, _ => exact shape_l38
  | 39, _ => exact shape_l39
  | 40, _ => exact shape_l40
  | 41, _ => exact shape_l41
  | 42, _ => exact shape_l42
  | 43, _ => exact shape_l43
  | 44, _ => exact shape_l44
  | 45, _ => exact shape_l45
  | 46, _ => exact shape_l46
  | 47, _ => exact shape_l47
  | 48, _ => exact shape_l48
  | 49, _ => exact shape_l49
  | 50, _ => exact shape_l50
  | 51, _ => exact shape_l51
  | 52, _ => exact shape_l52
  | 53, _ => exact shape_l53
  | 54, _ => exact shape_l54
  | 55, _ => exact shape_l55
  | 56, _ => exact shape_l56
  | 57, _ => exact shape_l57
  | 58, _ => exact shape_l58
  | 59, _ => exact shape_l59
  | 60, _ => exact shape_l60
  | 61, _ => exact shape_l61
  | 62, _ => exact shape_l62
  | 63, _ => exact shape_l63
  | 64, _ => exact shape_l64
  | 65, _ => exact shape_l65
  | 66, _ => exact shape_l66
  | 67, _ => exact shape_l67
  | 68, _ => exact shape_l68
  | 69, _ => exact shape_l69
  | 70, _ => exact shape_l70
  | 71, _ => exact shape_l71
  | 72, _ => exact shape_l72
  | 73, _ => exact shape_l73
  | 74, _ => exact shape_l74
  | 75, _ => exact shape_l75
  | 76, _ => exact shape_l76
  | 77, _ => exact shape_l77
  | 78, _ => exact shape_l78
  | 79, _ => exact shape_l79
  | 80, _ => exact shape_l80
  | 81, _ => exact shape_l81
  | 82, _ => exact shape_l82
  | 83, _ => exact shape_l83
  | 84, _ => exact shape_l84
  | 85, _ => exact shape_l85
  | 86, _ => exact shape_l86
  | 87, _ => exact shape_l87
  | 88, _ => exact shape_l88
  | 89, _ => exact shape_l89
  | 90, _ => exact shape_l90
  | 91, _ => exact shape_l91
  | 92, _ => exact shape_l92
  | 93, _ => exact shape_l93
  | 94, _ => exact shape_l94
  | 95, _ => exact shape_l95
  | n + 96, h => omega
end Go.Proofs.YtecbbbaafcoliaaGreatDoor
