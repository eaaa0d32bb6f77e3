/- Memory.objects at Check's closures, and at starts'. -/
import Derived.Test.YtpbfhkkecbnieaaDoorObjects
import Derived.Test.YtpbfhkkecbnieaaDoorCheckD
namespace Go.Proofs.YtpbfhkkecbnieaaDoor
open Go.RowKit
set_option linter.unusedVariables false
set_option linter.unusedSimpArgs false

theorem ats_snoc (v : List Ob) (x : Ob) : (v ++ [x]).map (fun o => (o.a : Int)) = v.map (fun o => (o.a : Int)) ++ [(x.a : Int)] := by simp
/-- What objects answers at the first closure: the headers are asked, the starts gathered. -/
def C1Post (bm : Nat) (w : World) (M : Mem) (e : Ending) (w' : World) : Prop :=
  e = .returned (.bool (objsB M (okHd M))) ∧ (objsB M (okHd M) = true → SMap w' bm .i64 (startsM M)) ∧ Keep (· = bm) w w'
theorem objects_c1 (w0 : World) (b o : Nat) (M : Mem) (S : Sls) (hs : Shp M) (hM : RMem w0 b o M S) (gb gs : Addr) (hG : GBound w0 gb) (hS : GShape w0 gs) (bm b3 b1 : Nat) (w : World) (hE : Ext w0 w)
    (hbm : w0.heap.size ≤ bm) (hne3 : b3 ≠ bm) (hne1 : b1 ≠ bm) (hm : SMap w bm .i64 []) (h3 : w.cell? ⟨b3, 0, none⟩ = some (.map (some bm))) (h1 : w.cell? ⟨b1, 0, none⟩ = some (.pointer (some ⟨b, o, none⟩))) :
    Calls Tryd.prog 95 #[.pointer (some ⟨b, o, none⟩), .func (.func 96) #[] #[.pointer (some ⟨b3, 0, none⟩), .pointer (some ⟨b1, 0, none⟩)]] w (C1Post bm w M) := by
  refine (objects_walk w0 b o M S hs hM gb gs hG hS (· = bm) _ #[.pointer (some ⟨b3, 0, none⟩), .pointer (some ⟨b1, 0, none⟩)] c1_enters (okHd M) (fun v w' => SMap w' bm .i64 (v.map fun (y : Ob) => (y.a : Int))) w hE
    (fun k hk => by subst hk; exact ⟨hbm, hm.lt⟩) (fun v w1 w2 hI hx => hI.ext hx) (fun v x w' hI hK hx => ?_) hm).mono ?_
  · have := c1_any x b o bm b3 b1 M S hs (v.map fun (y : Ob) => (y.a : Int)) w0 w' (hE.keep hK fun i hi => by subst hi; exact hbm) hM hI hbm hne3 hne1 (hK.cell hne3 h3) (hK.cell hne1 h1)
    rw [← ats_snoc] at this
    exact this
  · rintro e w' ⟨v, he, hI, hv, hK⟩
    exact ⟨he, fun h => by rw [hv h] at hI; exact hI, hK⟩
/-- .. at the second: the fields are asked; whether a card lacks. -/
def C4Post (b6 : Nat) (w : World) (M : Mem) (st : List Int) (e : Ending) (w' : World) : Prop :=
  e = .returned (.bool (objsB M (okFld M st))) ∧ (objsB M (okFld M st) = true → w'.cell? ⟨b6, 0, none⟩ = some (.bool (cardsM M))) ∧ Keep (· = b6) w w'
theorem objects_c4 (w0 : World) (b o : Nat) (M : Mem) (S : Sls) (hs : Shp M) (hM : RMem w0 b o M S) (gb gs : Addr) (hG : GBound w0 gb) (hS : GShape w0 gs) (b1 b3 b4 b5 b6 bm : Nat) (st : List Int) (w : World) (hE : Ext w0 w)
    (hb6 : w0.heap.size ≤ b6) (n1 : b1 ≠ b6) (n3 : b3 ≠ b6) (n4 : b4 ≠ b6) (n5 : b5 ≠ b6) (nm : bm ≠ b6) (hm : SMap w bm .i64 st)
    (h1 : w.cell? ⟨b1, 0, none⟩ = some (.pointer (some ⟨b, o, none⟩))) (h3 : w.cell? ⟨b3, 0, none⟩ = some (.map (some bm)))
    (h4 : w.cell? ⟨b4, 0, none⟩ = some (.func (.func 98) #[] #[.pointer (some ⟨b3, 0, none⟩)]))
    (h5 : w.cell? ⟨b5, 0, none⟩ = some (.func (.func 99) #[] #[.pointer (some ⟨b4, 0, none⟩)]))
    (h6 : w.cell? ⟨b6, 0, none⟩ = some (.bool true)) (f6 : w.frozen? ⟨b6, 0, none⟩ = false) :
    Calls Tryd.prog 95 #[.pointer (some ⟨b, o, none⟩), .func (.func 101) #[] #[.pointer (some ⟨b1, 0, none⟩), .pointer (some ⟨b6, 0, none⟩), .pointer (some ⟨b5, 0, none⟩)]] w (C4Post b6 w M st) := by
  refine (objects_walk w0 b o M S hs hM gb gs hG hS (· = b6) _ #[.pointer (some ⟨b1, 0, none⟩), .pointer (some ⟨b6, 0, none⟩), .pointer (some ⟨b5, 0, none⟩)] c4_enters (okFld M st)
    (fun v w' => w'.cell? ⟨b6, 0, none⟩ = some (.bool (v.all (cardsO M))) ∧ w'.frozen? ⟨b6, 0, none⟩ = false) w hE
    (fun k hk => by subst hk; exact ⟨hb6, cell_lt h6⟩) (fun v w1 w2 hI hx => ⟨hx.cell_ hI.1, by rw [hx.three.2.1 _ _ (cell_lt hI.1)]; exact hI.2⟩) (fun v x w' hI hK hx => ?_) ⟨h6, f6⟩).mono ?_
  · have := c4_any x b o b1 b3 b4 b5 b6 bm M S hs st w0 w' (hE.keep hK fun i hi => by subst hi; exact hb6) hM hx (v.all (cardsO M)) (hm.keep hK nm) hb6 n1 n3 n4 n5 nm (hK.cell n1 h1) (hK.cell n3 h3) (hK.cell n4 h4) (hK.cell n5 h5) hI.1 hI.2
    refine this.mono ?_
    rintro e w2 ⟨he, h7, h8, h9⟩
    exact ⟨he, ⟨by rw [h7]; simp [List.all_append], h8⟩, h9⟩
  · rintro e w' ⟨v, he, hI, hv, hK⟩
    exact ⟨he, fun h => by rw [hI.1, hv h]; rfl, hK⟩
end Go.Proofs.YtpbfhkkecbnieaaDoor
