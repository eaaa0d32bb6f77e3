/- The walk of Memory.Check's closure that asks an object's fields. -/
import Derived.Test.YtpbfhkkecbnieaaDoorChk
namespace Go.Proofs.YtpbfhkkecbnieaaDoor
open Go.RowKit
set_option linter.unusedVariables false
set_option linter.unusedSimpArgs false

theorem c4_enters (args : Array Value) (w : World) : (callFunc 101 args).run Tryd.prog w = .ok (.enter 101 args) w :=
  enters_of Tryd.func101 (by kernel_rfl) rfl args w
theorem undU64 : Tryd.prog.underlying 47 = some (.slice 25) := by kernel_rfl
theorem sizeU64 (w : World) : (sizeOf 25).run Tryd.prog w = .ok 1 w := by kernel_rfl
theorem flds_cells (M : Mem) (x : Ob) (h : x.a + 1 + x.n ≤ M.W.length) : ((wcells M.W).drop (x.a + 1)).take (x.a + 1 + x.n - (x.a + 1)) = wcells (flds M x) := by
  rw [show x.a + 1 + x.n - (x.a + 1) = x.n by omega]
  apply List.ext_getElem?
  intro i
  by_cases hi : i < x.n
  · simp [wcells, flds, hi, wat, List.getD_eq_getElem?_getD, show x.a + 1 + i < M.W.length by omega]
  · simp [wcells, flds, hi]; omega
theorem flds_at (M : Mem) (x : Ob) (k : Nat) (h : k < x.n) : (flds M x).getD k 0 = wat M.W (x.a + 1 + k) := by simp [flds, List.getD_eq_getElem?_getD, h]
theorem flds_in {M : Mem} (h : M.Ok) (x : Ob) (z : Int) (hz : z ∈ flds M x) : 0 ≤ z ∧ z ≤ 18446744073709551615 := by
  obtain ⟨i, _, rfl⟩ := List.mem_map.1 hz
  exact wat_in h _
theorem flds_len (M : Mem) (x : Ob) : (flds M x).length = x.n := by simp [flds]
def C4One (b6 : Nat) (w : World) (M : Mem) (st : List Int) (x : Ob) (c : Bool) (e : Ending) (w' : World) : Prop :=
  e = .returned (.bool (okFld M st x)) ∧ w'.cell? ⟨b6, 0, none⟩ = some (.bool (c && cardsO M x)) ∧ w'.frozen? ⟨b6, 0, none⟩ = false ∧ Keep (· = b6) w w'
set_option maxRecDepth 100000 in
set_option maxHeartbeats 4000000 in
theorem c4_any (x : Ob) (b o b1 b3 b4 b5 b6 bm : Nat) (M : Mem) (S : Sls) (hs : Shp M) (st : List Int) (w0 w : World) (hE : Ext w0 w) (hM : RMem w0 b o M S) (hx : ObM M x) (c : Bool) (hm : SMap w bm .i64 st)
    (hb6 : w0.heap.size ≤ b6) (n1 : b1 ≠ b6) (n3 : b3 ≠ b6) (n4 : b4 ≠ b6) (n5 : b5 ≠ b6) (nm : bm ≠ b6)
    (h1 : w.cell? ⟨b1, 0, none⟩ = some (.pointer (some ⟨b, o, none⟩))) (h3 : w.cell? ⟨b3, 0, none⟩ = some (.map (some bm)))
    (h4 : w.cell? ⟨b4, 0, none⟩ = some (.func (.func 98) #[] #[.pointer (some ⟨b3, 0, none⟩)]))
    (h5 : w.cell? ⟨b5, 0, none⟩ = some (.func (.func 99) #[] #[.pointer (some ⟨b4, 0, none⟩)]))
    (h6 : w.cell? ⟨b6, 0, none⟩ = some (.bool c)) (f6 : w.frozen? ⟨b6, 0, none⟩ = false) :
    Calls Tryd.prog 101 #[.int .i64 (x.a : Int), headV x.w, .pointer (some ⟨b1, 0, none⟩), .pointer (some ⟨b6, 0, none⟩), .pointer (some ⟨b5, 0, none⟩)] w (C4One b6 w M st x c) := by
  have hx1 : ObIn M.W 0 M.W.length x := by
    have h1 := hs.h1; have h2 := hs.t2; have h3 := hs.p2; have h4 := hs.w; have h5 := hs.base; have h6 := hs.o2; have h7 := hs.t1; have h8 := hs.p1
    rcases hx with hx | hx
    · exact ⟨hx.w, hx.hd, Nat.zero_le _, by have := hx.to; omega⟩
    · exact ⟨hx.w, hx.hd, Nat.zero_le _, by have := hx.to; omega⟩
  have hold : oldB M (x.a : Int) = true → (x.a : Int) + 1 + x.n ≤ 2 * M.half + M.old := fun ho => by
    have h1 := hs.h1; have h2 := hs.t2; have h3 := hs.p2; have h4 := hs.w; have h5 := hs.base; have h6 := hs.o2; have h7 := hs.t1; have h8 := hs.p1
    have h9 := hx1.to
    omega
  have hn : (x.n : Int) = hSize x.w := by
    have := hx1.w ▸ (wat_in hM.ok x.a).1
    unfold Ob.n hSize; omega
  have hto := hx1.to
  have HX := Lib.hid hx1
  clear hx hx1
  have hlen : M.W.length ≤ 196608 := by have h1 := hs.h2; have h2 := hs.o2; have h3 := hs.w; omega
  have hMw : RMem w b o M S := hM.ext hE
  have c_W := hMw.W
  have hcap := hMw.capW
  have hlt6 := cell_lt h6
  have hlt1 := cell_lt h1
  have hlt5 := cell_lt h5
  have hltb := hMw.lt
  simp only at hlt6 hlt1 hlt5
  obtain ⟨wb, wo, hWa, -⟩ := hMw.rW 0 _ (wcells_at M.W 0 (by omega))
  rw [hWa] at c_W
  have HWA := Lib.hid hWa
  have HM := Lib.hid hM
  have HE := Lib.hid hE
  have HMW := Lib.hid hMw
  have HSM := Lib.hid hm
  have HSH := Lib.hid hs
  have HOLD := Lib.hid hold
  have H3 := Lib.hid h3
  have H4 := Lib.hid h4
  have H6 := Lib.hid h6
  have F6 := Lib.hid f6
  clear hM hE hMw hm hs hold hWa h3 h4
  have HN := Lib.hid hn
  have hn0 : 0 ≤ hSize x.w := by omega
  have hn1 : (x.a : Int) + 1 + hSize x.w ≤ (M.W.length : Int) := by omega
  clear hn
  unfold headV
  cases hr : rawB (hKind x.w) with
  | true =>
    go_enter Tryd.func101, Tryd.ntmps101
    go_wp2_with (go_at_call 83; refine (raw_any _ _).mono ?_; rintro e w' ⟨rfl, rfl⟩)
    go_ret
    refine ⟨by unfold okFld; rw [hr]; rfl, ?_, ?_, ?_⟩
    · rw [((Ext.refl w).alloc_ _).cell_ H6.out]; unfold cardsO; rw [hr]; simp
    · rw [((Ext.refl w).alloc_ _).three.2.1 _ _ hlt6]; exact F6.out
    · exact (Keep.refl _ w).alloc_ _
  | false =>
    obtain ⟨A, C, hsl, hAC, hAn, hRA⟩ := run_part (P := Tryd.prog) undU64 sizeU64 wb wo M.W.length S.W.2 (x.a + 1) (x.a + 1 + x.n) ((x.a : Int) + 1) ((x.a : Int) + 1 + hSize x.w) (by omega) (by have := HN.out; omega) (by omega) (by omega)
    have HRA : Hid (∀ wr, RMem wr b o M S → RSl wr A (wcells (flds M x))) := fun wr hr => by
      have := hRA wr _ (HWA.out ▸ hr.rW)
      rw [flds_cells M x hto] at this
      exact this
    rw [show x.a + 1 + x.n - (x.a + 1) = x.n by omega] at hsl hAC
    clear hRA
    have e1 : IntKind.i64.wrap ((x.a : Int) + 1) = (x.a : Int) + 1 := IntWalk.i64_in _ (by omega)
    have e2 : IntKind.i64.wrap ((x.a : Int) + 1 + hSize x.w) = (x.a : Int) + 1 + hSize x.w := IntWalk.i64_in _ (by omega)
    have hc1 : (x.a : Int) + 1 + hSize x.w ≤ (S.W.2 : Int) := by omega
    have hc2 : (0 : Int) ≤ (x.a : Int) + 1 := by omega
    have hc3 : (x.a : Int) + 1 ≤ (x.a : Int) + 1 + hSize x.w := by omega
    go_enter Tryd.func101, Tryd.ntmps101
    go_wp2_with (go_at_call 83; refine (raw_any _ _).mono ?_; rintro e w' ⟨rfl, rfl⟩)
    go_quiet (fail)
    go_wp2
    go_loopw [28] (fun i wr => ∃ k : Nat, k ≤ x.n ∧ i = .int .i64 (k : Int) ∧ wr.cell? ⟨b6, 0, none⟩ = some (.bool (c && cardsK M x k)) ∧ wr.frozen? ⟨b6, 0, none⟩ = false ∧ Hid (Keep (· = b6) w wr))
      (fun i _ => x.n - (intOf i).toNat)
    case atStart =>
      refine ⟨0, Nat.zero_le _, rfl, ?_, ?_, ((Keep.refl _ w).alloc_ _).drewN_ _⟩
      · have := ((Ext.refl w).alloc_ (Obj.cells #[Value.int IntKind.i64 (hKind x.w), Value.int IntKind.i64 (hAge x.w), Value.int IntKind.i64 (hMark x.w), Value.int IntKind.i64 (hSize x.w)] 23)).cell_ H6.out
        simpa [cardsK] using this
      · have := ((Ext.refl w).alloc_ (Obj.cells #[Value.int IntKind.i64 (hKind x.w), Value.int IntKind.i64 (hAge x.w), Value.int IntKind.i64 (hMark x.w), Value.int IntKind.i64 (hSize x.w)] 23)).three.2.1 _ 0 hlt6
        rw [F6.out] at this
        simpa using this
    case round =>
      obtain ⟨k, hk, rfl, h6r, f6r, hK⟩ := hrel
      have hMR : RMem wr b o M S := HM.out.ext (Ext.keep HE.out hK.out fun i hi => by subst hi; exact hb6)
      have HMR := Lib.hid hMR
      have h1r := hK.out.cell n1 h1
      have h5r := hK.out.cell n5 h5
      have hRF := HRA.out wr hMR
      clear h1 h5 hMR
      by_cases hlt : k < x.n
      · obtain ⟨ab, ao, hA, hcell⟩ := hRF k _ (wcells_at (flds M x) k (by rw [flds_len]; exact hlt))
        rw [flds_at M x k hlt] at hcell
        clear hRF
        subst hA
        have hin := wat_in HM.out.ok (x.a + 1 + k)
        cases ho : oldB M (x.a : Int) with
        | false =>
          have HCRD : Hid (crd M x k = true) := by simp [Hid, crd, ho]
          have hg1 : True := trivial
          have hg2 : True := trivial
          go_wp2_with (first
            | (go_at_call 97; refine (inOld_any _ _ b o M S HMR.out HSH.out).mono ?_; rintro e w' ⟨rfl, rfl⟩))
          go_roundw
          case rel =>
            refine ⟨k + 1, by omega, by go_num, ?_, f6r, hK⟩
            rw [cardsK_succ, HCRD.out, Bool.and_true]; exact h6r
          case measure => simp [intOf]; omega
        | true =>
          have hg1 : 2 * M.half ≤ (x.a : Int) + 1 + k := by have := of_decide_eq_true ho; omega
          have hg2 : (x.a : Int) + 1 + k < 2 * M.half + M.old := by have := HOLD.out ho; omega
          cases hy : youngB M (wat M.W (x.a + 1 + k)) with
          | false =>
            have HCRD : Hid (crd M x k = true) := by simp [Hid, crd, hy]
            go_wp2_with (first
              | (go_at_call 97; refine (inOld_any _ _ b o M S HMR.out HSH.out).mono ?_; rintro e w' ⟨rfl, rfl⟩)
              | (go_at_call 102; refine (young_any _ hin.1 hin.2 _ b o M S HMR.out HSH.out).mono ?_; rintro e w' ⟨rfl, rfl⟩))
            go_roundw
            case rel =>
              refine ⟨k + 1, by omega, by go_num, ?_, f6r, hK⟩
              rw [cardsK_succ, HCRD.out, Bool.and_true]; exact h6r
            case measure => simp [intOf]; omega
          | true =>
            cases hq : cardB M ((x.a : Int) + 1 + k) with
            | true =>
              have HCRD : Hid (crd M x k = true) := by simp [Hid, crd, hq]
              go_wp2_with (first
                | (go_at_call 97; refine (inOld_any _ _ b o M S HMR.out HSH.out).mono ?_; rintro e w' ⟨rfl, rfl⟩)
                | (go_at_call 102; refine (young_any _ hin.1 hin.2 _ b o M S HMR.out HSH.out).mono ?_; rintro e w' ⟨rfl, rfl⟩)
                | (go_at_call 103; refine (marked_any _ _ b o M S HMR.out HSH.out hg1 hg2).mono ?_; rintro e w' ⟨rfl, n, rfl⟩))
              go_roundw
              case rel =>
                refine ⟨k + 1, by omega, by go_num, ?_, by simpa using f6r, hK.out.drewN_ _⟩
                rw [cardsK_succ, HCRD.out, Bool.and_true]; simpa using h6r
              case measure => simp [intOf]; omega
            | false =>
              have HCRD : Hid (crd M x k = false) := by simp [Hid, crd, ho, hy, hq]
              go_wp2_with (first
                | (go_at_call 97; refine (inOld_any _ _ b o M S HMR.out HSH.out).mono ?_; rintro e w' ⟨rfl, rfl⟩)
                | (go_at_call 102; refine (young_any _ hin.1 hin.2 _ b o M S HMR.out HSH.out).mono ?_; rintro e w' ⟨rfl, rfl⟩)
                | (go_at_call 103; refine (marked_any _ _ b o M S HMR.out HSH.out hg1 hg2).mono ?_; rintro e w' ⟨rfl, n, rfl⟩))
              go_roundw
              case rel =>
                refine ⟨k + 1, by omega, by go_num, ?_, ?_, ?_⟩
                · rw [cardsK_succ, HCRD.out, Bool.and_false, Bool.and_false]; simp [h6r, go_sem]
                · simp [f6r, go_sem]
                · exact (hK.out.drewN_ _).set_ (Or.inl rfl) _
              case measure => simp [intOf]; omega
      · have hkn : k = x.n := by omega
        subst hkn
        have hc3 := c3_any A C (flds M x) (by rw [flds_len]; omega) (fun z hz => flds_in HM.out.ok x z hz) bm b3 b4 st wr hRF (HSM.out.keep hK.out nm) (hK.out.cell n3 H3.out) (hK.out.cell n4 H4.out)
        rw [flds_len] at hc3
        clear hRF
        go_wp2_with (go_at_call 99; refine hc3.mono ?_; rintro e w' ⟨rfl, hq⟩)
        go_ret
        refine ⟨by unfold okFld; rw [hr]; rfl, ?_, ?_, hK.out.ext_ hq⟩
        · rw [hq.cell_ h6r]; unfold cardsO; rw [hr]; rfl
        · rw [hq.three.2.1 _ _ (cell_lt h6r)]; exact f6r
end Go.Proofs.YtpbfhkkecbnieaaDoor
