/- Memory.objects at Check's closures, and at starts'. -/
import Derived.Test.YtelhoppfidibiaaGreatDoorJOa09
import Derived.Test.YtelhoppfidibiaaGreatDoorJOa01
import Derived.Test.YtelhoppfidibiaaGreatDoorJOa04
import Derived.IntWalk
namespace Go.Proofs.YtelhoppfidibiaaGreatDoor
open Go.RowKit
set_option linter.unusedVariables false
set_option linter.unusedSimpArgs false

theorem ats_snoc (v : List Ob) (x : Ob) : (v ++ [x]).map (fun o => (o.a : Int)) = v.map (fun o => (o.a : Int)) ++ [(x.a : Int)] := by simp
/-- What objects answers at the first closure: the headers are asked, the starts gathered. -/
def C1Post (bm : Nat) (w : World) (M : Mem) (e : Ending) (w' : World) : Prop :=
  e = .returned (.bool (objsB M (okHd M))) ∧ (objsB M (okHd M) = true → SMap w' bm .i64 (startsM M)) ∧ Keep (· = bm) w w'
theorem objects_c1 (w0 : World) (b o : Nat) (M : Mem) (S : Sls) (hs : Shp M) (hM : RMem w0 b o M S) (gb gs : Addr) (hG : GBound w0 gb) (hS : GShape w0 gs) (bm b3 b1 : Nat) (w : World) (hE : Ext w0 w)
    (hbm : w0.heap.size ≤ bm) (hne3 : b3 ≠ bm) (hne1 : b1 ≠ bm) (hm : SMap w bm .i64 []) (h3 : w.cell? ⟨b3, 0, none⟩ = some (.map (some bm))) (h1 : w.cell? ⟨b1, 0, none⟩ = some (.pointer (some ⟨b, o, none⟩))) :
    Calls Tryz.prog 135 #[.pointer (some ⟨b, o, none⟩), .func (.func 136) #[] #[.pointer (some ⟨b3, 0, none⟩), .pointer (some ⟨b1, 0, none⟩)]] w (C1Post bm w M) := by
  refine (objects_walk w0 b o M S hs hM gb gs hG hS (· = bm) _ #[.pointer (some ⟨b3, 0, none⟩), .pointer (some ⟨b1, 0, none⟩)] c1_enters (okHd M) (fun v w' => SMap w' bm .i64 (v.map fun (y : Ob) => (y.a : Int))) w hE
    (fun k hk => by subst hk; exact ⟨hbm, hm.lt⟩) (fun v w1 w2 hI hx => hI.ext hx) (fun v x w' hI hK hx => ?_) hm).mono ?_
  · have := c1_any x b o bm b3 b1 M S hs (v.map fun (y : Ob) => (y.a : Int)) w0 w' (hE.keep hK fun i hi => by subst hi; exact hbm) hM hI hbm hne3 hne1 (hK.cell hne3 h3) (hK.cell hne1 h1)
    rw [← ats_snoc] at this
    exact this
  · rintro e w' ⟨v, he, hI, hv, hK⟩
    exact ⟨he, fun h => by rw [hv h] at hI; exact hI, hK⟩
/-- .. at the second: the fields are asked; whether a card lacks. -/
def C4Post (b6 : Nat) (w : World) (M : Mem) (st : List Int) (e : Ending) (w' : World) : Prop :=
  e = .returned (.bool (objsB M (okFld M st))) ∧ (objsB M (okFld M st) = true → w'.cell? ⟨b6, 0, none⟩ = some (.bool (cardsM M))) ∧ Keep (· = b6) w w'
theorem objects_c4 (w0 : World) (b o : Nat) (M : Mem) (S : Sls) (hs : Shp M) (hM : RMem w0 b o M S) (gb gs : Addr) (hG : GBound w0 gb) (hS : GShape w0 gs) (b1 b3 b4 b5 b6 bm : Nat) (st : List Int) (w : World) (hE : Ext w0 w)
    (hb6 : w0.heap.size ≤ b6) (n1 : b1 ≠ b6) (n3 : b3 ≠ b6) (n4 : b4 ≠ b6) (n5 : b5 ≠ b6) (nm : bm ≠ b6) (hm : SMap w bm .i64 st)
    (h1 : w.cell? ⟨b1, 0, none⟩ = some (.pointer (some ⟨b, o, none⟩))) (h3 : w.cell? ⟨b3, 0, none⟩ = some (.map (some bm)))
    (h4 : w.cell? ⟨b4, 0, none⟩ = some (.func (.func 137) #[] #[.pointer (some ⟨b3, 0, none⟩)]))
    (h5 : w.cell? ⟨b5, 0, none⟩ = some (.func (.func 139) #[] #[.pointer (some ⟨b4, 0, none⟩)]))
    (h6 : w.cell? ⟨b6, 0, none⟩ = some (.bool true)) (f6 : w.frozen? ⟨b6, 0, none⟩ = false) :
    Calls Tryz.prog 135 #[.pointer (some ⟨b, o, none⟩), .func (.func 142) #[] #[.pointer (some ⟨b1, 0, none⟩), .pointer (some ⟨b6, 0, none⟩), .pointer (some ⟨b5, 0, none⟩)]] w (C4Post b6 w M st) := by
  refine (objects_walk w0 b o M S hs hM gb gs hG hS (· = b6) _ #[.pointer (some ⟨b1, 0, none⟩), .pointer (some ⟨b6, 0, none⟩), .pointer (some ⟨b5, 0, none⟩)] c4_enters (okFld M st)
    (fun v w' => w'.cell? ⟨b6, 0, none⟩ = some (.bool (v.all (cardsO M))) ∧ w'.frozen? ⟨b6, 0, none⟩ = false) w hE
    (fun k hk => by subst hk; exact ⟨hb6, cell_lt h6⟩) (fun v w1 w2 hI hx => ⟨hx.cell_ hI.1, by rw [hx.three.2.1 _ _ (cell_lt hI.1)]; exact hI.2⟩) (fun v x w' hI hK hx => ?_) ⟨h6, f6⟩).mono ?_
  · have := c4_any x b o b1 b3 b4 b5 b6 bm M S hs st w0 w' (hE.keep hK fun i hi => by subst hi; exact hb6) hM hx (v.all (cardsO M)) (hm.keep hK nm) hb6 n1 n3 n4 n5 nm (hK.cell n1 h1) (hK.cell n3 h3) (hK.cell n4 h4) (hK.cell n5 h5) hI.1 hI.2
    refine this.mono ?_
    rintro e w2 ⟨he, h7, h8, h9⟩
    exact ⟨he, ⟨by rw [h7]; simp [List.all_append], h8⟩, h9⟩
  · rintro e w' ⟨v, he, hI, hv, hK⟩
    exact ⟨he, fun h => by rw [hI.1, hv h]; rfl, hK⟩
/-- Which operations are behind, at the k-th. -/
def lst (n k : Nat) : Array Bool := ((List.range n).map fun i => decide (i < k)).toArray
theorem lst_zero (n : Nat) : Array.replicate n false = lst n 0 := by
  apply Array.ext'
  simp only [lst, Array.toList_replicate]
  apply List.ext_getElem?
  intro i
  by_cases h : i < n <;> simp [h]
theorem lst_succ (n k : Nat) : (lst n k).setIfInBounds k true = lst n (k + 1) := by
  apply Array.ext'
  simp only [lst, Array.toList_setIfInBounds]
  apply List.ext_getElem?
  intro i
  rw [List.getElem?_set]
  by_cases h : i < n
  · by_cases e : k = i
    · subst e; simp [h]
    · simp [h, e]; omega
  · simp [h]; omega
/-- One operation's part. -/
def lexOne (md : Region.Mode) (ops : Array Oper) (n k : Nat) : Bool := (Region.ready md ops (lst n k)).contains k && Region.free md ops (lst n k) k
theorem lexFrom_of (md : Region.Mode) (ops : Array Oper) (n : Nat) (h : ∀ k, k < n → lexOne md ops n k = true) (he : (Region.ready md ops (lst n n)).isEmpty = true) :
    ∀ f k, f + k = n → Region.lexFrom md ops f k (lst n k) = true
  | 0, k, hk => by
    have : k = n := by omega
    subst this
    exact he
  | f + 1, k, hk => by
    have h1 := h k (by omega)
    unfold lexOne at h1
    unfold Region.lexFrom
    rw [h1, lst_succ, lexFrom_of md ops n h he f (k + 1) (by omega)]
    rfl
theorem lexB_of (md : Region.Mode) (ops : Array Oper) (n : Nat) (hn : ops.size = n) (hs : Region.noSelect ops = true) (h : ∀ k, k < n → lexOne md ops n k = true) (he : (Region.ready md ops (lst n n)).isEmpty = true) : Region.lexB md ops = true := by
  unfold Region.lexB
  rw [hs, hn, lst_zero, lexFrom_of md ops n h he n 0 (by omega)]
  rfl
/-- The operations of a body's regions, in the text's order. -/
def regs : Code → List (List Oper)
  | .region _ ops _ => [ops.toList]
  | .seq a b => regs a ++ regs b
  | .cond _ a b => regs a ++ regs b
  | .block _ c => regs c
  | .loop c => regs c
  | .scope c => regs c
  | _ => []
def regOf (f : Func) (k : Nat) : List Oper := ((f.body.map regs).getD []).getD k []
noncomputable def shapeOps : List Oper := regOf Tryz.f134 2
theorem shape_size : shapeOps.toArray.size = 96 := by kernel_rfl
theorem shape_sel : Region.noSelect shapeOps.toArray = true := by kernel_rfl
theorem shape_end : (Region.ready .any shapeOps.toArray (lst 96 96)).isEmpty = true := by kernel_rfl
theorem shape_l0 : lexOne .any shapeOps.toArray 96 0 = true := by kernel_rfl
theorem shape_l1 : lexOne .any shapeOps.toArray 96 1 = true := by kernel_rfl
theorem shape_l2 : lexOne .any shapeOps.toArray 96 2 = true := by kernel_rfl
theorem shape_l3 : lexOne .any shapeOps.toArray 96 3 = true := by kernel_rfl
theorem shape_l4 : lexOne .any shapeOps.toArray 96 4 = true := by kernel_rfl
theorem shape_l5 : lexOne .any shapeOps.toArray 96 5 = true := by kernel_rfl
theorem shape_l6 : lexOne .any shapeOps.toArray 96 6 = true := by kernel_rfl
theorem shape_l7 : lexOne .any shapeOps.toArray 96 7 = true := by kernel_rfl
theorem shape_l8 : lexOne .any shapeOps.toArray 96 8 = true := by kernel_rfl
theorem shape_l9 : lexOne .any shapeOps.toArray 96 9 = true := by kernel_rfl
theorem shape_l10 : lexOne .any shapeOps.toArray 96 10 = true := by kernel_rfl
theorem shape_l11 : lexOne .any shapeOps.toArray 96 11 = true := by kernel_rfl
theorem shape_l12 : lexOne .any shapeOps.toArray 96 12 = true := by kernel_rfl
theorem shape_l13 : lexOne .any shapeOps.toArray 96 13 = true := by kernel_rfl
theorem shape_l14 : lexOne .any shapeOps.toArray 96 14 = true := by kernel_rfl
theorem shape_l15 : lexOne .any shapeOps.toArray 96 15 = true := by kernel_rfl
theorem shape_l16 : lexOne .any shapeOps.toArray 96 16 = true := by kernel_rfl
theorem shape_l17 : lexOne .any shapeOps.toArray 96 17 = true := by kernel_rfl
theorem shape_l18 : lexOne .any shapeOps.toArray 96 18 = true := by kernel_rfl
theorem shape_l19 : lexOne .any shapeOps.toArray 96 19 = true := by kernel_rfl
theorem shape_l20 : lexOne .any shapeOps.toArray 96 20 = true := by kernel_rfl
theorem shape_l21 : lexOne .any shapeOps.toArray 96 21 = true := by kernel_rfl
theorem shape_l22 : lexOne .any shapeOps.toArray 96 22 = true := by kernel_rfl
theorem shape_l23 : lexOne .any shapeOps.toArray 96 23 = true := by kernel_rfl
theorem shape_l24 : lexOne .any shapeOps.toArray 96 24 = true := by kernel_rfl
theorem shape_l25 : lexOne .any shapeOps.toArray 96 25 = true := by kernel_rfl
theorem shape_l26 : lexOne .any shapeOps.toArray 96 26 = true := by kernel_rfl
theorem shape_l27 : lexOne .any shapeOps.toArray 96 27 = true := by kernel_rfl
theorem shape_l28 : lexOne .any shapeOps.toArray 96 28 = true := by kernel_rfl
theorem shape_l29 : lexOne .any shapeOps.toArray 96 29 = true := by kernel_rfl
theorem shape_l30 : lexOne .any shapeOps.toArray 96 30 = true := by kernel_rfl
theorem shape_l31 : lexOne .any shapeOps.toArray 96 31 = true := by kernel_rfl
theorem shape_l32 : lexOne .any shapeOps.toArray 96 32 = true := by kernel_rfl
theorem shape_l33 : lexOne .any shapeOps.toArray 96 33 = true := by kernel_rfl
theorem shape_l34 : lexOne .any shapeOps.toArray 96 34 = true := by kernel_rfl
theorem shape_l35 : lexOne .any shapeOps.toArray 96 35 = true := by kernel_rfl
theorem shape_l36 : lexOne .any shapeOps.toArray 96 36 = true := by kernel_rfl
theorem shape_l37 : lexOne .any shapeOps.toArray 96 37 = true := by kernel_rfl
theorem shape_l38 : lexOne .any shapeOps.toArray 96 38 = true := by kernel_rfl
theorem shape_l39 : lexOne .any shapeOps.toArray 96 39 = true := by kernel_rfl
theorem shape_l40 : lexOne .any shapeOps.toArray 96 40 = true := by kernel_rfl
theorem shape_l41 : lexOne .any shapeOps.toArray 96 41 = true := by kernel_rfl
theorem shape_l42 : lexOne .any shapeOps.toArray 96 42 = true := by kernel_rfl
theorem shape_l43 : lexOne .any shapeOps.toArray 96 43 = true := by kernel_rfl
theorem shape_l44 : lexOne .any shapeOps.toArray 96 44 = true := by kernel_rfl
theorem shape_l45 : lexOne .any shapeOps.toArray 96 45 = true := by kernel_rfl
theorem shape_l46 : lexOne .any shapeOps.toArray 96 46 = true := by kernel_rfl
theorem shape_l47 : lexOne .any shapeOps.toArray 96 47 = true := by kernel_rfl
theorem shape_l48 : lexOne .any shapeOps.toArray 96 48 = true := by kernel_rfl
theorem shape_l49 : lexOne .any shapeOps.toArray 96 49 = true := by kernel_rfl
theorem shape_l50 : lexOne .any shapeOps.toArray 96 50 = true := by kernel_rfl
theorem shape_l51 : lexOne .any shapeOps.toArray 96 51 = true := by kernel_rfl
theorem shape_l52 : lexOne .any shapeOps.toArray 96 52 = true := by kernel_rfl
theorem shape_l53 : lexOne .any shapeOps.toArray 96 53 = true := by kernel_rfl
theorem shape_l54 : lexOne .any shapeOps.toArray 96 54 = true := by kernel_rfl
theorem shape_l55 : lexOne .any shapeOps.toArray 96 55 = true := by kernel_rfl
theorem shape_l56 : lexOne .any shapeOps.toArray 96 56 = true := by kernel_rfl
theorem shape_l57 : lexOne .any shapeOps.toArray 96 57 = true := by kernel_rfl
theorem shape_l58 : lexOne .any shapeOps.toArray 96 58 = true := by kernel_rfl
theorem shape_l59 : lexOne .any shapeOps.toArray 96 59 = true := by kernel_rfl
theorem shape_l60 : lexOne .any shapeOps.toArray 96 60 = true := by kernel_rfl
theorem shape_l61 : lexOne .any shapeOps.toArray 96 61 = true := by kernel_rfl
theorem shape_l62 : lexOne .any shapeOps.toArray 96 62 = true := by kernel_rfl
theorem shape_l63 : lexOne .any shapeOps.toArray 96 63 = true := by kernel_rfl
theorem shape_l64 : lexOne .any shapeOps.toArray 96 64 = true := by kernel_rfl
theorem shape_l65 : lexOne .any shapeOps.toArray 96 65 = true := by kernel_rfl
theorem shape_l66 : lexOne .any shapeOps.toArray 96 66 = true := by kernel_rfl
theorem shape_l67 : lexOne .any shapeOps.toArray 96 67 = true := by kernel_rfl
theorem shape_l68 : lexOne .any shapeOps.toArray 96 68 = true := by kernel_rfl
theorem shape_l69 : lexOne .any shapeOps.toArray 96 69 = true := by kernel_rfl
theorem shape_l70 : lexOne .any shapeOps.toArray 96 70 = true := by kernel_rfl
theorem shape_l71 : lexOne .any shapeOps.toArray 96 71 = true := by kernel_rfl
theorem shape_l72 : lexOne .any shapeOps.toArray 96 72 = true := by kernel_rfl
theorem shape_l73 : lexOne .any shapeOps.toArray 96 73 = true := by kernel_rfl
theorem shape_l74 : lexOne .any shapeOps.toArray 96 74 = true := by kernel_rfl
theorem shape_l75 : lexOne .any shapeOps.toArray 96 75 = true := by kernel_rfl
theorem shape_l76 : lexOne .any shapeOps.toArray 96 76 = true := by kernel_rfl
theorem shape_l77 : lexOne .any shapeOps.toArray 96 77 = true := by kernel_rfl
theorem shape_l78 : lexOne .any shapeOps.toArray 96 78 = true := by kernel_rfl
theorem shape_l79 : lexOne .any shapeOps.toArray 96 79 = true := by kernel_rfl
theorem shape_l80 : lexOne .any shapeOps.toArray 96 80 = true := by kernel_rfl
theorem shape_l81 : lexOne .any shapeOps.toArray 96 81 = true := by kernel_rfl
theorem shape_l82 : lexOne .any shapeOps.toArray 96 82 = true := by kernel_rfl
theorem shape_l83 : lexOne .any shapeOps.toArray 96 83 = true := by kernel_rfl
theorem shape_l84 : lexOne .any shapeOps.toArray 96 84 = true := by kernel_rfl
theorem shape_l85 : lexOne .any shapeOps.toArray 96 85 = true := by kernel_rfl
theorem shape_l86 : lexOne .any shapeOps.toArray 96 86 = true := by kernel_rfl
theorem shape_l87 : lexOne .any shapeOps.toArray 96 87 = true := by kernel_rfl
theorem shape_l88 : lexOne .any shapeOps.toArray 96 88 = true := by kernel_rfl
theorem shape_l89 : lexOne .any shapeOps.toArray 96 89 = true := by kernel_rfl
theorem shape_l90 : lexOne .any shapeOps.toArray 96 90 = true := by kernel_rfl
theorem shape_l91 : lexOne .any shapeOps.toArray 96 91 = true := by kernel_rfl
theorem shape_l92 : lexOne .any shapeOps.toArray 96 92 = true := by kernel_rfl
theorem shape_l93 : lexOne .any shapeOps.toArray 96 93 = true := by kernel_rfl
theorem shape_l94 : lexOne .any shapeOps.toArray 96 94 = true := by kernel_rfl
theorem shape_l95 : lexOne .any shapeOps.toArray 96 95 = true := by kernel_rfl
theorem shape_lex : Region.lexB .any shapeOps.toArray = true := by
  refine lexB_of _ _ 96 shape_size shape_sel (fun k hk => ?_) shape_end
  match k, hk with
  | 0, _ => exact shape_l0
  | 1, _ => exact shape_l1
  | 2, _ => exact shape_l2
  | 3, _ => exact shape_l3
  | 4, _ => exact shape_l4
  | 5, _ => exact shape_l5
  | 6, _ => exact shape_l6
  | 7, _ => exact shape_l7
  | 8, _ => exact shape_l8
  | 9, _ => exact shape_l9
  | 10, _ => exact shape_l10
  | 11, _ => exact shape_l11
  | 12, _ => exact shape_l12
  | 13, _ => exact shape_l13
  | 14, _ => exact shape_l14
  | 15, _ => exact shape_l15
  | 16, _ => exact shape_l16
  | 17, _ => exact shape_l17
  | 18, _ => exact shape_l18
  | 19, _ => exact shape_l19
  | 20, _ => exact shape_l20
  | 21, _ => exact shape_l21
  | 22, _ => exact shape_l22
  | 23, _ => exact shape_l23
  | 24, _ => exact shape_l24
  | 25, _ => exact shape_l25
  | 26, _ => exact shape_l26
  | 27, _ => exact shape_l27
  | 28, _ => exact shape_l28
  | 29, _ => exact shape_l29
  | 30, _ => exact shape_l30
  | 31, _ => exact shape_l31
  | 32, _ => exact shape_l32
  | 33, _ => exact shape_l33
  | 34, _ => exact shape_l34
  | 35, _ => exact shape_l35
  | 36, _ => exact shape_l36
  | 37, _ => exact shape_l37
  | 38, _ => exact shape_l38
  | 39, _ => exact shape_l39
  | 40, _ => exact shape_l40
  | 41, _ => exact shape_l41
  | 42, _ => exact shape_l42
  | 43, _ => exact shape_l43
  | 44, _ => exact shape_l44
  | 45, _ => exact shape_l45
  | 46, _ => exact shape_l46
  | 47, _ => exact shape_l47
  | 48, _ => exact shape_l48
  | 49, _ => exact shape_l49
  | 50, _ => exact shape_l50
  | 51, _ => exact shape_l51
  | 52, _ => exact shape_l52
  | 53, _ => exact shape_l53
  | 54, _ => exact shape_l54
  | 55, _ => exact shape_l55
  | 56, _ => exact shape_l56
  | 57, _ => exact shape_l57
  | 58, _ => exact shape_l58
  | 59, _ => exact shape_l59
  | 60, _ => exact shape_l60
  | 61, _ => exact shape_l61
  | 62, _ => exact shape_l62
  | 63, _ => exact shape_l63
  | 64, _ => exact shape_l64
  | 65, _ => exact shape_l65
  | 66, _ => exact shape_l66
  | 67, _ => exact shape_l67
  | 68, _ => exact shape_l68
  | 69, _ => exact shape_l69
  | 70, _ => exact shape_l70
  | 71, _ => exact shape_l71
  | 72, _ => exact shape_l72
  | 73, _ => exact shape_l73
  | 74, _ => exact shape_l74
  | 75, _ => exact shape_l75
  | 76, _ => exact shape_l76
  | 77, _ => exact shape_l77
  | 78, _ => exact shape_l78
  | 79, _ => exact shape_l79
  | 80, _ => exact shape_l80
  | 81, _ => exact shape_l81
  | 82, _ => exact shape_l82
  | 83, _ => exact shape_l83
  | 84, _ => exact shape_l84
  | 85, _ => exact shape_l85
  | 86, _ => exact shape_l86
  | 87, _ => exact shape_l87
  | 88, _ => exact shape_l88
  | 89, _ => exact shape_l89
  | 90, _ => exact shape_l90
  | 91, _ => exact shape_l91
  | 92, _ => exact shape_l92
  | 93, _ => exact shape_l93
  | 94, _ => exact shape_l94
  | 95, _ => exact shape_l95
  | n + 96, h => omega
theorem rng_any (a lo hi : Int) (w : World) : Calls Tryz.prog 159 #[.int .i64 a, .int .i64 lo, .int .i64 hi] w fun e w' => e = .returned (.bool (inR a lo hi)) ∧ w' = w := by
  by_cases h : lo ≤ a
  · have e : inR a lo hi = decide (a ≤ hi) := by simp [inR, h]
    rw [e]
    go_enter Tryz.func159, Tryz.ntmps159
    go_wp2
    go_ret
    exact ⟨rfl, rfl⟩
  · have e : inR a lo hi = false := by simp [inR, h]
    rw [e]
    go_enter Tryz.func159, Tryz.ntmps159
    go_wp2
    go_ret
    exact ⟨rfl, rfl⟩
theorem lexB_eq {l l' : List Oper} (h : l = l') (hB : Region.lexB .any l'.toArray = true) : Region.lexB .any l.toArray = true := h ▸ hB
theorem rng_lit {a lo hi : Int} {r : Bool} (h : inR a lo hi = r) (w : World) : Calls Tryz.prog 159 #[.int .i64 a, .int .i64 lo, .int .i64 hi] w fun e w' => e = .returned (.bool r) ∧ w' = w := by
  rw [← h]; exact rng_any a lo hi w

set_option maxHeartbeats 4000000 in
set_option maxRecDepth 100000 in
theorem shape_0 (w : World) (b o : Nat) (M : Mem) (S : Sls) (hM : RMem w b o M S) (h0 : inR M.half 1 65536 = false) :
    Calls Tryz.prog 134 #[.pointer (some ⟨b, o, none⟩)] w fun e w' => e = .returned (.bool false) ∧ ∃ n, w' = w.drewN n := by
  have c_half := hM.half
  have c_old := hM.old
  have c_card := hM.card
  have c_W := hM.W
  have c_used := hM.used
  have c_top := hM.top
  have c_oldTop := hM.oldTop
  have c_cards := hM.cards
  have hl := hM.ok.lenW
  have hl2 := hM.ok.lenC
  clear hM
  go_enter Tryz.func134, Tryz.ntmps134
  go_wp2_with (go_at_call 159; refine (rng_any _ _ _ _).mono ?_; rintro e w' ⟨rfl, rfl⟩)
  simp only [List.append_eq, List.cons_append, List.nil_append]
  refine wp_region_quiet_lit (by kernel_rfl) (lexB_eq (by kernel_rfl) shape_lex) ?_
  repeat (go_big_quiet_step ((go_at_call 159; first | (with_reducible exact Calls.quiet_of_same (rng_lit h0 _)))))
  refine wpQuiet_nil ?_
  intro _ hw'
  obtain ⟨nq, hw''⟩ := hw'
  subst hw''
  go_wp2
  go_ret
  exact ⟨rfl, _, rfl⟩
set_option maxHeartbeats 4000000 in
set_option maxRecDepth 100000 in
theorem shape_1 (w : World) (b o : Nat) (M : Mem) (S : Sls) (hM : RMem w b o M S) (h0 : inR M.half 1 65536 = true) (h1 : inR M.old 1 65536 = false) :
    Calls Tryz.prog 134 #[.pointer (some ⟨b, o, none⟩)] w fun e w' => e = .returned (.bool false) ∧ ∃ n, w' = w.drewN n := by
  have c_half := hM.half
  have c_old := hM.old
  have c_card := hM.card
  have c_W := hM.W
  have c_used := hM.used
  have c_top := hM.top
  have c_oldTop := hM.oldTop
  have c_cards := hM.cards
  have hl := hM.ok.lenW
  have hl2 := hM.ok.lenC
  obtain ⟨b1, b2⟩ := inR_true.1 h0
  clear hM
  go_enter Tryz.func134, Tryz.ntmps134
  go_wp2_with (go_at_call 159; refine (rng_any _ _ _ _).mono ?_; rintro e w' ⟨rfl, rfl⟩)
  simp only [List.append_eq, List.cons_append, List.nil_append]
  refine wp_region_quiet_lit (by kernel_rfl) (lexB_eq (by kernel_rfl) shape_lex) ?_
  repeat (go_big_quiet_step ((go_at_call 159; first | (with_reducible exact Calls.quiet_of_same (rng_lit h0 _)) | (with_reducible exact Calls.quiet_of_same (rng_lit h1 _)))))
  refine wpQuiet_nil ?_
  intro _ hw'
  obtain ⟨nq, hw''⟩ := hw'
  subst hw''
  go_wp2
  go_ret
  exact ⟨rfl, _, rfl⟩
set_option maxHeartbeats 4000000 in
set_option maxRecDepth 100000 in
theorem shape_2 (w : World) (b o : Nat) (M : Mem) (S : Sls) (hM : RMem w b o M S) (h0 : inR M.half 1 65536 = true) (h1 : inR M.old 1 65536 = true) (h2 : inR M.card 1 1024 = false) :
    Calls Tryz.prog 134 #[.pointer (some ⟨b, o, none⟩)] w fun e w' => e = .returned (.bool false) ∧ ∃ n, w' = w.drewN n := by
  have c_half := hM.half
  have c_old := hM.old
  have c_card := hM.card
  have c_W := hM.W
  have c_used := hM.used
  have c_top := hM.top
  have c_oldTop := hM.oldTop
  have c_cards := hM.cards
  have hl := hM.ok.lenW
  have hl2 := hM.ok.lenC
  obtain ⟨b1, b2⟩ := inR_true.1 h0
  obtain ⟨b3, b4⟩ := inR_true.1 h1
  clear hM
  go_enter Tryz.func134, Tryz.ntmps134
  go_wp2_with (go_at_call 159; refine (rng_any _ _ _ _).mono ?_; rintro e w' ⟨rfl, rfl⟩)
  simp only [List.append_eq, List.cons_append, List.nil_append]
  refine wp_region_quiet_lit (by kernel_rfl) (lexB_eq (by kernel_rfl) shape_lex) ?_
  repeat (go_big_quiet_step ((go_at_call 159; first | (with_reducible exact Calls.quiet_of_same (rng_lit h0 _)) | (with_reducible exact Calls.quiet_of_same (rng_lit h1 _)) | (with_reducible exact Calls.quiet_of_same (rng_lit h2 _)))))
  refine wpQuiet_nil ?_
  intro _ hw'
  obtain ⟨nq, hw''⟩ := hw'
  subst hw''
  go_wp2
  go_ret
  exact ⟨rfl, _, rfl⟩
set_option maxHeartbeats 4000000 in
set_option maxRecDepth 100000 in
theorem shape_3 (w : World) (b o : Nat) (M : Mem) (S : Sls) (hM : RMem w b o M S) (h0 : inR M.half 1 65536 = true) (h1 : inR M.old 1 65536 = true) (h2 : inR M.card 1 1024 = true) (h3 : ((M.W.length : Int) == 2 * M.half + M.old) = false) :
    Calls Tryz.prog 134 #[.pointer (some ⟨b, o, none⟩)] w fun e w' => e = .returned (.bool false) ∧ ∃ n, w' = w.drewN n := by
  have c_half := hM.half
  have c_old := hM.old
  have c_card := hM.card
  have c_W := hM.W
  have c_used := hM.used
  have c_top := hM.top
  have c_oldTop := hM.oldTop
  have c_cards := hM.cards
  have hl := hM.ok.lenW
  have hl2 := hM.ok.lenC
  obtain ⟨b1, b2⟩ := inR_true.1 h0
  obtain ⟨b3, b4⟩ := inR_true.1 h1
  obtain ⟨b5, b6⟩ := inR_true.1 h2
  have e0 : IntKind.i64.wrap (2 * M.half) = 2 * M.half := IntWalk.i64_in _ (by omega)
  have e1 : IntKind.i64.wrap (2 * M.half + M.old) = 2 * M.half + M.old := IntWalk.i64_in _ (by omega)
  clear hM
  go_enter Tryz.func134, Tryz.ntmps134
  go_wp2_with (go_at_call 159; refine (rng_any _ _ _ _).mono ?_; rintro e w' ⟨rfl, rfl⟩)
  simp only [List.append_eq, List.cons_append, List.nil_append]
  refine wp_region_quiet_lit (by kernel_rfl) (lexB_eq (by kernel_rfl) shape_lex) ?_
  repeat (go_big_quiet_step ((go_at_call 159; first | (with_reducible exact Calls.quiet_of_same (rng_lit h0 _)) | (with_reducible exact Calls.quiet_of_same (rng_lit h1 _)) | (with_reducible exact Calls.quiet_of_same (rng_lit h2 _)))))
  refine wpQuiet_nil ?_
  intro _ hw'
  obtain ⟨nq, hw''⟩ := hw'
  subst hw''
  go_wp2
  go_ret
  exact ⟨rfl, _, rfl⟩
set_option maxHeartbeats 4000000 in
set_option maxRecDepth 100000 in
theorem shape_4 (w : World) (b o : Nat) (M : Mem) (S : Sls) (hM : RMem w b o M S) (h0 : inR M.half 1 65536 = true) (h1 : inR M.old 1 65536 = true) (h2 : inR M.card 1 1024 = true) (h3 : ((M.W.length : Int) == 2 * M.half + M.old) = true) (h4 : inR M.used 0 1 = false) :
    Calls Tryz.prog 134 #[.pointer (some ⟨b, o, none⟩)] w fun e w' => e = .returned (.bool false) ∧ ∃ n, w' = w.drewN n := by
  have c_half := hM.half
  have c_old := hM.old
  have c_card := hM.card
  have c_W := hM.W
  have c_used := hM.used
  have c_top := hM.top
  have c_oldTop := hM.oldTop
  have c_cards := hM.cards
  have hl := hM.ok.lenW
  have hl2 := hM.ok.lenC
  obtain ⟨b1, b2⟩ := inR_true.1 h0
  obtain ⟨b3, b4⟩ := inR_true.1 h1
  obtain ⟨b5, b6⟩ := inR_true.1 h2
  have e0 : IntKind.i64.wrap (2 * M.half) = 2 * M.half := IntWalk.i64_in _ (by omega)
  have e1 : IntKind.i64.wrap (2 * M.half + M.old) = 2 * M.half + M.old := IntWalk.i64_in _ (by omega)
  clear hM
  go_enter Tryz.func134, Tryz.ntmps134
  go_wp2_with (go_at_call 159; refine (rng_any _ _ _ _).mono ?_; rintro e w' ⟨rfl, rfl⟩)
  simp only [List.append_eq, List.cons_append, List.nil_append]
  refine wp_region_quiet_lit (by kernel_rfl) (lexB_eq (by kernel_rfl) shape_lex) ?_
  repeat (go_big_quiet_step ((go_at_call 159; first | (with_reducible exact Calls.quiet_of_same (rng_lit h0 _)) | (with_reducible exact Calls.quiet_of_same (rng_lit h1 _)) | (with_reducible exact Calls.quiet_of_same (rng_lit h2 _)) | (with_reducible exact Calls.quiet_of_same (rng_lit h4 _)))))
  refine wpQuiet_nil ?_
  intro _ hw'
  obtain ⟨nq, hw''⟩ := hw'
  subst hw''
  go_wp2
  go_ret
  exact ⟨rfl, _, rfl⟩
set_option maxHeartbeats 4000000 in
set_option maxRecDepth 100000 in
theorem shape_5 (w : World) (b o : Nat) (M : Mem) (S : Sls) (hM : RMem w b o M S) (h0 : inR M.half 1 65536 = true) (h1 : inR M.old 1 65536 = true) (h2 : inR M.card 1 1024 = true) (h3 : ((M.W.length : Int) == 2 * M.half + M.old) = true) (h4 : inR M.used 0 1 = true) (h5 : inR M.top 0 M.half = false) :
    Calls Tryz.prog 134 #[.pointer (some ⟨b, o, none⟩)] w fun e w' => e = .returned (.bool false) ∧ ∃ n, w' = w.drewN n := by
  have c_half := hM.half
  have c_old := hM.old
  have c_card := hM.card
  have c_W := hM.W
  have c_used := hM.used
  have c_top := hM.top
  have c_oldTop := hM.oldTop
  have c_cards := hM.cards
  have hl := hM.ok.lenW
  have hl2 := hM.ok.lenC
  obtain ⟨b1, b2⟩ := inR_true.1 h0
  obtain ⟨b3, b4⟩ := inR_true.1 h1
  obtain ⟨b5, b6⟩ := inR_true.1 h2
  have e0 : IntKind.i64.wrap (2 * M.half) = 2 * M.half := IntWalk.i64_in _ (by omega)
  have e1 : IntKind.i64.wrap (2 * M.half + M.old) = 2 * M.half + M.old := IntWalk.i64_in _ (by omega)
  clear hM
  go_enter Tryz.func134, Tryz.ntmps134
  go_wp2_with (go_at_call 159; refine (rng_any _ _ _ _).mono ?_; rintro e w' ⟨rfl, rfl⟩)
  simp only [List.append_eq, List.cons_append, List.nil_append]
  refine wp_region_quiet_lit (by kernel_rfl) (lexB_eq (by kernel_rfl) shape_lex) ?_
  repeat (go_big_quiet_step ((go_at_call 159; first | (with_reducible exact Calls.quiet_of_same (rng_lit h0 _)) | (with_reducible exact Calls.quiet_of_same (rng_lit h1 _)) | (with_reducible exact Calls.quiet_of_same (rng_lit h2 _)) | (with_reducible exact Calls.quiet_of_same (rng_lit h4 _)) | (with_reducible exact Calls.quiet_of_same (rng_lit h5 _)))))
  refine wpQuiet_nil ?_
  intro _ hw'
  obtain ⟨nq, hw''⟩ := hw'
  subst hw''
  go_wp2
  go_ret
  exact ⟨rfl, _, rfl⟩
set_option maxHeartbeats 4000000 in
set_option maxRecDepth 100000 in
theorem shape_6 (w : World) (b o : Nat) (M : Mem) (S : Sls) (hM : RMem w b o M S) (h0 : inR M.half 1 65536 = true) (h1 : inR M.old 1 65536 = true) (h2 : inR M.card 1 1024 = true) (h3 : ((M.W.length : Int) == 2 * M.half + M.old) = true) (h4 : inR M.used 0 1 = true) (h5 : inR M.top 0 M.half = true) (h6 : inR M.oldTop 0 M.old = false) :
    Calls Tryz.prog 134 #[.pointer (some ⟨b, o, none⟩)] w fun e w' => e = .returned (.bool false) ∧ ∃ n, w' = w.drewN n := by
  have c_half := hM.half
  have c_old := hM.old
  have c_card := hM.card
  have c_W := hM.W
  have c_used := hM.used
  have c_top := hM.top
  have c_oldTop := hM.oldTop
  have c_cards := hM.cards
  have hl := hM.ok.lenW
  have hl2 := hM.ok.lenC
  obtain ⟨b1, b2⟩ := inR_true.1 h0
  obtain ⟨b3, b4⟩ := inR_true.1 h1
  obtain ⟨b5, b6⟩ := inR_true.1 h2
  have e0 : IntKind.i64.wrap (2 * M.half) = 2 * M.half := IntWalk.i64_in _ (by omega)
  have e1 : IntKind.i64.wrap (2 * M.half + M.old) = 2 * M.half + M.old := IntWalk.i64_in _ (by omega)
  clear hM
  go_enter Tryz.func134, Tryz.ntmps134
  go_wp2_with (go_at_call 159; refine (rng_any _ _ _ _).mono ?_; rintro e w' ⟨rfl, rfl⟩)
  simp only [List.append_eq, List.cons_append, List.nil_append]
  refine wp_region_quiet_lit (by kernel_rfl) (lexB_eq (by kernel_rfl) shape_lex) ?_
  repeat (go_big_quiet_step ((go_at_call 159; first | (with_reducible exact Calls.quiet_of_same (rng_lit h0 _)) | (with_reducible exact Calls.quiet_of_same (rng_lit h1 _)) | (with_reducible exact Calls.quiet_of_same (rng_lit h2 _)) | (with_reducible exact Calls.quiet_of_same (rng_lit h4 _)) | (with_reducible exact Calls.quiet_of_same (rng_lit h5 _)) | (with_reducible exact Calls.quiet_of_same (rng_lit h6 _)))))
  refine wpQuiet_nil ?_
  intro _ hw'
  obtain ⟨nq, hw''⟩ := hw'
  subst hw''
  go_wp2
  go_ret
  exact ⟨rfl, _, rfl⟩
set_option maxHeartbeats 4000000 in
set_option maxRecDepth 100000 in
theorem shape_7 (w : World) (b o : Nat) (M : Mem) (S : Sls) (hM : RMem w b o M S) (h0 : inR M.half 1 65536 = true) (h1 : inR M.old 1 65536 = true) (h2 : inR M.card 1 1024 = true) (h3 : ((M.W.length : Int) == 2 * M.half + M.old) = true) (h4 : inR M.used 0 1 = true) (h5 : inR M.top 0 M.half = true) (h6 : inR M.oldTop 0 M.old = true) (h7 : ((M.cards.length : Int) == (M.old + M.card - 1) / M.card) = false) :
    Calls Tryz.prog 134 #[.pointer (some ⟨b, o, none⟩)] w fun e w' => e = .returned (.bool false) ∧ ∃ n, w' = w.drewN n := by
  have c_half := hM.half
  have c_old := hM.old
  have c_card := hM.card
  have c_W := hM.W
  have c_used := hM.used
  have c_top := hM.top
  have c_oldTop := hM.oldTop
  have c_cards := hM.cards
  have hl := hM.ok.lenW
  have hl2 := hM.ok.lenC
  obtain ⟨b1, b2⟩ := inR_true.1 h0
  obtain ⟨b3, b4⟩ := inR_true.1 h1
  obtain ⟨b5, b6⟩ := inR_true.1 h2
  have e0 : IntKind.i64.wrap (2 * M.half) = 2 * M.half := IntWalk.i64_in _ (by omega)
  have e1 : IntKind.i64.wrap (2 * M.half + M.old) = 2 * M.half + M.old := IntWalk.i64_in _ (by omega)
  have e2 : IntKind.i64.wrap (M.old + M.card) = M.old + M.card := IntWalk.i64_in _ (by omega)
  have e3 : IntKind.i64.wrap (M.old + M.card - 1) = M.old + M.card - 1 := IntWalk.i64_in _ (by omega)
  have e4 : (M.old + M.card - 1).tdiv M.card = (M.old + M.card - 1) / M.card := Int.tdiv_eq_ediv_of_nonneg (by omega)
  have e6 : 0 ≤ (M.old + M.card - 1) / M.card := Int.ediv_nonneg (by omega) (by omega)
  have e7 : (M.old + M.card - 1) / M.card ≤ M.old + M.card - 1 := Int.ediv_le_self _ (by omega)
  have e5 : IntKind.i64.wrap ((M.old + M.card - 1) / M.card) = (M.old + M.card - 1) / M.card := IntWalk.i64_in _ (by omega)
  have e8 : (M.card == 0) = false := by simp; omega
  clear e6 e7
  clear hM
  go_enter Tryz.func134, Tryz.ntmps134
  go_wp2_with (go_at_call 159; refine (rng_any _ _ _ _).mono ?_; rintro e w' ⟨rfl, rfl⟩)
  simp only [List.append_eq, List.cons_append, List.nil_append]
  refine wp_region_quiet_lit (by kernel_rfl) (lexB_eq (by kernel_rfl) shape_lex) ?_
  repeat (go_big_quiet_step ((go_at_call 159; first | (with_reducible exact Calls.quiet_of_same (rng_lit h0 _)) | (with_reducible exact Calls.quiet_of_same (rng_lit h1 _)) | (with_reducible exact Calls.quiet_of_same (rng_lit h2 _)) | (with_reducible exact Calls.quiet_of_same (rng_lit h4 _)) | (with_reducible exact Calls.quiet_of_same (rng_lit h5 _)) | (with_reducible exact Calls.quiet_of_same (rng_lit h6 _)))))
  refine wpQuiet_nil ?_
  intro _ hw'
  obtain ⟨nq, hw''⟩ := hw'
  subst hw''
  go_wp2
  go_ret
  exact ⟨rfl, _, rfl⟩
set_option maxHeartbeats 4000000 in
set_option maxRecDepth 100000 in
theorem shape_8 (w : World) (b o : Nat) (M : Mem) (S : Sls) (hM : RMem w b o M S) (h0 : inR M.half 1 65536 = true) (h1 : inR M.old 1 65536 = true) (h2 : inR M.card 1 1024 = true) (h3 : ((M.W.length : Int) == 2 * M.half + M.old) = true) (h4 : inR M.used 0 1 = true) (h5 : inR M.top 0 M.half = true) (h6 : inR M.oldTop 0 M.old = true) (h7 : ((M.cards.length : Int) == (M.old + M.card - 1) / M.card) = true) :
    Calls Tryz.prog 134 #[.pointer (some ⟨b, o, none⟩)] w fun e w' => e = .returned (.bool true) ∧ ∃ n, w' = w.drewN n := by
  have c_half := hM.half
  have c_old := hM.old
  have c_card := hM.card
  have c_W := hM.W
  have c_used := hM.used
  have c_top := hM.top
  have c_oldTop := hM.oldTop
  have c_cards := hM.cards
  have hl := hM.ok.lenW
  have hl2 := hM.ok.lenC
  obtain ⟨b1, b2⟩ := inR_true.1 h0
  obtain ⟨b3, b4⟩ := inR_true.1 h1
  obtain ⟨b5, b6⟩ := inR_true.1 h2
  have e0 : IntKind.i64.wrap (2 * M.half) = 2 * M.half := IntWalk.i64_in _ (by omega)
  have e1 : IntKind.i64.wrap (2 * M.half + M.old) = 2 * M.half + M.old := IntWalk.i64_in _ (by omega)
  have e2 : IntKind.i64.wrap (M.old + M.card) = M.old + M.card := IntWalk.i64_in _ (by omega)
  have e3 : IntKind.i64.wrap (M.old + M.card - 1) = M.old + M.card - 1 := IntWalk.i64_in _ (by omega)
  have e4 : (M.old + M.card - 1).tdiv M.card = (M.old + M.card - 1) / M.card := Int.tdiv_eq_ediv_of_nonneg (by omega)
  have e6 : 0 ≤ (M.old + M.card - 1) / M.card := Int.ediv_nonneg (by omega) (by omega)
  have e7 : (M.old + M.card - 1) / M.card ≤ M.old + M.card - 1 := Int.ediv_le_self _ (by omega)
  have e5 : IntKind.i64.wrap ((M.old + M.card - 1) / M.card) = (M.old + M.card - 1) / M.card := IntWalk.i64_in _ (by omega)
  have e8 : (M.card == 0) = false := by simp; omega
  clear e6 e7
  clear hM
  go_enter Tryz.func134, Tryz.ntmps134
  go_wp2_with (go_at_call 159; refine (rng_any _ _ _ _).mono ?_; rintro e w' ⟨rfl, rfl⟩)
  simp only [List.append_eq, List.cons_append, List.nil_append]
  refine wp_region_quiet_lit (by kernel_rfl) (lexB_eq (by kernel_rfl) shape_lex) ?_
  repeat (go_big_quiet_step ((go_at_call 159; first | (with_reducible exact Calls.quiet_of_same (rng_lit h0 _)) | (with_reducible exact Calls.quiet_of_same (rng_lit h1 _)) | (with_reducible exact Calls.quiet_of_same (rng_lit h2 _)) | (with_reducible exact Calls.quiet_of_same (rng_lit h4 _)) | (with_reducible exact Calls.quiet_of_same (rng_lit h5 _)) | (with_reducible exact Calls.quiet_of_same (rng_lit h6 _)))))
  refine wpQuiet_nil ?_
  intro _ hw'
  obtain ⟨nq, hw''⟩ := hw'
  subst hw''
  go_wp2
  go_ret
  exact ⟨rfl, _, rfl⟩
theorem shape_any (w : World) (b o : Nat) (M : Mem) (S : Sls) (hM : RMem w b o M S) :
    Calls Tryz.prog 134 #[.pointer (some ⟨b, o, none⟩)] w fun e w' => e = .returned (.bool (shapeB M)) ∧ ∃ n, w' = w.drewN n := by
  rcases Bool.eq_false_or_eq_true (inR M.half 1 65536) with h0 | h0
  rotate_left
  · have e : shapeB M = false := by unfold shapeB; rw [h0]; simp
    rw [e]; exact shape_0 w b o M S hM h0
  rcases Bool.eq_false_or_eq_true (inR M.old 1 65536) with h1 | h1
  rotate_left
  · have e : shapeB M = false := by unfold shapeB; rw [h0, h1]; simp
    rw [e]; exact shape_1 w b o M S hM h0 h1
  rcases Bool.eq_false_or_eq_true (inR M.card 1 1024) with h2 | h2
  rotate_left
  · have e : shapeB M = false := by unfold shapeB; rw [h0, h1, h2]; simp
    rw [e]; exact shape_2 w b o M S hM h0 h1 h2
  rcases Bool.eq_false_or_eq_true (((M.W.length : Int) == 2 * M.half + M.old)) with h3 | h3
  rotate_left
  · have e : shapeB M = false := by unfold shapeB; rw [h0, h1, h2, h3]; simp
    rw [e]; exact shape_3 w b o M S hM h0 h1 h2 h3
  rcases Bool.eq_false_or_eq_true (inR M.used 0 1) with h4 | h4
  rotate_left
  · have e : shapeB M = false := by unfold shapeB; rw [h0, h1, h2, h3, h4]; simp
    rw [e]; exact shape_4 w b o M S hM h0 h1 h2 h3 h4
  rcases Bool.eq_false_or_eq_true (inR M.top 0 M.half) with h5 | h5
  rotate_left
  · have e : shapeB M = false := by unfold shapeB; rw [h0, h1, h2, h3, h4, h5]; simp
    rw [e]; exact shape_5 w b o M S hM h0 h1 h2 h3 h4 h5
  rcases Bool.eq_false_or_eq_true (inR M.oldTop 0 M.old) with h6 | h6
  rotate_left
  · have e : shapeB M = false := by unfold shapeB; rw [h0, h1, h2, h3, h4, h5, h6]; simp
    rw [e]; exact shape_6 w b o M S hM h0 h1 h2 h3 h4 h5 h6
  rcases Bool.eq_false_or_eq_true (((M.cards.length : Int) == (M.old + M.card - 1) / M.card)) with h7 | h7
  rotate_left
  · have e : shapeB M = false := by unfold shapeB; rw [h0, h1, h2, h3, h4, h5, h6, h7]; simp
    rw [e]; exact shape_7 w b o M S hM h0 h1 h2 h3 h4 h5 h6 h7
  have e : shapeB M = true := by unfold shapeB; rw [h0, h1, h2, h3, h4, h5, h6, h7]; rfl
  rw [e]; exact shape_8 w b o M S hM h0 h1 h2 h3 h4 h5 h6 h7
end Go.Proofs.YtelhoppfidibiaaGreatDoor
