/- The walks of Memory.Check's closures: what is asked of a header, of a word, of words. -/
import Derived.Test.YtpbfhkkecbnieaaDoorContains
import Derived.Shelf.Abstract
namespace Go.Proofs.YtpbfhkkecbnieaaDoor
open Go.RowKit
set_option linter.unusedVariables false
set_option linter.unusedSimpArgs false

/-- What is asked of an object's header. -/
def okHd (M : Mem) (x : Ob) : Bool := (hMark x.w == 0) && ((hAge x.w == 0) || !oldB M (x.a : Int))

theorem c1_enters (args : Array Value) (w : World) : (callFunc 96 args).run Tryd.prog w = .ok (.enter 96 args) w :=
  enters_of Tryd.func96 (by kernel_rfl) rfl args w
theorem c31_enters (args : Array Value) (w : World) : (callFunc 100 args).run Tryd.prog w = .ok (.enter 100 args) w :=
  enters_of Tryd.func100 (by kernel_rfl) rfl args w

theorem c2_any (a : Int) (h0 : 0 ≤ a) (h1 : a ≤ 18446744073709551615) (bm b3 : Nat) (st : List Int) (w : World) (hm : SMap w bm .i64 st) (h3 : w.cell? ⟨b3, 0, none⟩ = some (.map (some bm))) :
    Calls Tryd.prog 98 #[.int .u64 a, .pointer (some ⟨b3, 0, none⟩)] w fun e w' => e = .returned (.bool (fldB st a)) ∧ w' = w := by
  go_enter Tryd.func98, Tryd.ntmps98
  go_wp2_with (go_at_call 86; refine (field_any a h0 h1 bm st _ hm).mono ?_; rintro e w' ⟨rfl, rfl⟩)
  go_ret
  exact ⟨rfl, rfl⟩
theorem c31_any (a : Int) (h0 : 0 ≤ a) (h1 : a ≤ 18446744073709551615) (bm b3 b4 : Nat) (st : List Int) (w : World) (hm : SMap w bm .i64 st) (h3 : w.cell? ⟨b3, 0, none⟩ = some (.map (some bm)))
    (h4 : w.cell? ⟨b4, 0, none⟩ = some (.func (.func 98) #[] #[.pointer (some ⟨b3, 0, none⟩)])) :
    Calls Tryd.prog 100 #[.int .u64 a, .pointer (some ⟨b4, 0, none⟩)] w fun e w' => e = .returned (.bool (!fldB st a)) ∧ w' = w := by
  go_enter Tryd.func100, Tryd.ntmps100
  go_wp2_with (go_at_call 98; refine (c2_any a h0 h1 bm b3 st _ hm h3).mono ?_; rintro e w' ⟨rfl, rfl⟩)
  go_ret
  exact ⟨rfl, rfl⟩
/-- Are words fields? -/
def fieldsB (st : List Int) (zs : List Int) : Bool := zs.all (fldB st)
theorem fieldsB_any (st : List Int) (zs : List Int) : (!(zs.any fun x => !fldB st x)) = fieldsB st zs := by
  unfold fieldsB
  induction zs with
  | nil => rfl
  | cons z zs ih => simp only [List.any_cons, List.all_cons, ← ih]; cases fldB st z <;> simp
theorem c3_any (a : Option Addr) (c : Nat) (zs : List Int) (hz : zs.length ≤ 9223372036854775807) (hb : ∀ x ∈ zs, 0 ≤ x ∧ x ≤ 18446744073709551615) (bm b3 b4 : Nat) (st : List Int) (w : World)
    (hR : RSl w a (wcells zs)) (hm : SMap w bm .i64 st) (h3 : w.cell? ⟨b3, 0, none⟩ = some (.map (some bm)))
    (h4 : w.cell? ⟨b4, 0, none⟩ = some (.func (.func 98) #[] #[.pointer (some ⟨b3, 0, none⟩)])) :
    Calls Tryd.prog 99 #[.slice a zs.length c, .pointer (some ⟨b4, 0, none⟩)] w fun e w' => e = .returned (.bool (fieldsB st zs)) ∧ Ext w w' := by
  have hp : Says w 100 #[.pointer (some ⟨b4, 0, none⟩)] (fun x => !fldB st x) := fun W x hE q0 q1 =>
    (c31_any x q0 q1 bm b3 b4 st W (hm.ext hE) (hE.cell_ h3) (hE.cell_ h4)).mono fun e w' ⟨he, hw⟩ => ⟨he, by rw [hw]; exact hE⟩
  have HP := Lib.hid hp
  have HB := Lib.hid hb
  have HR := Lib.hid hR
  rw [← fieldsB_any]
  clear hp hm h3 h4 hb hR
  go_enter Tryd.func99, Tryd.ntmps99
  go_wp2_with (go_at_call 84; refine (containsF_walk _ _ _ c31_enters a c zs _ hz HR.out HB.out HP.out).mono ?_; rintro e w' ⟨rfl, hq⟩)
  go_ret
  exact ⟨rfl, hq⟩
theorem c1_any (x : Ob) (b o bm b3 b1 : Nat) (M : Mem) (S : Sls) (hs : Shp M) (st : List Int) (w0 w : World) (hE : Ext w0 w) (hM : RMem w0 b o M S) (hm : SMap w bm .i64 st) (hbm : w0.heap.size ≤ bm)
    (hne3 : b3 ≠ bm) (hne1 : b1 ≠ bm) (h3 : w.cell? ⟨b3, 0, none⟩ = some (.map (some bm))) (h1 : w.cell? ⟨b1, 0, none⟩ = some (.pointer (some ⟨b, o, none⟩))) :
    Calls Tryd.prog 96 #[.int .i64 (x.a : Int), headV x.w, .pointer (some ⟨b3, 0, none⟩), .pointer (some ⟨b1, 0, none⟩)] w fun e w' =>
      e = .returned (.bool (okHd M x)) ∧ SMap w' bm .i64 (st ++ [(x.a : Int)]) ∧ Keep (· = bm) w w' := by
  have hlt3 := cell_lt h3
  have hlt1 := cell_lt h1
  have hltm := hm.lt
  simp only at hlt3 hlt1
  obtain ⟨w1, hrun, hm2, hbut⟩ := smap_put (hm.ext ((Ext.refl w).alloc_ (.cells #[.int .i64 (hKind x.w), .int .i64 (hAge x.w), .int .i64 (hMark x.w), .int .i64 (hSize x.w)] 23))) (x.a : Int)
  have hk1 := Keep.of_but hbut
  have q1 : w1.cell? ⟨w.heap.size, 1, none⟩ = some (.int .i64 (hAge x.w)) := hk1.cell (by simp; omega) (by simp [go_sem])
  have q2 : w1.cell? ⟨w.heap.size, 2, none⟩ = some (.int .i64 (hMark x.w)) := hk1.cell (by simp; omega) (by simp [go_sem])
  have q3 : w1.cell? ⟨b1, 0, none⟩ = some (.pointer (some ⟨b, o, none⟩)) := hk1.cell hne1 (((Ext.refl w).alloc_ _).cell_ h1)
  have hkk : Keep (· = bm) w w1 := ((Keep.refl _ w).alloc_ _).trans hk1
  have hM1 : RMem w1 b o M S := hM.ext (Ext.keep hE hkk fun i hi => by omega)
  have HM2 := Lib.hid hm2
  have HK := Lib.hid hkk
  have HM1 := Lib.hid hM1
  clear hm hm2 hbut hk1 hkk hM1 hM hE
  unfold headV
  cases m0 : (hMark x.w == 0) with
  | false =>
    have e : okHd M x = false := by simp [okHd, m0]
    rw [e]
    go_enter Tryd.func96, Tryd.ntmps96
    go_wp2
    go_ret
    exact ⟨rfl, HM2.out, HK.out⟩
  | true =>
    cases a0 : (hAge x.w == 0) with
    | true =>
      have e : okHd M x = true := by simp [okHd, m0, a0]
      rw [e]
      go_enter Tryd.func96, Tryd.ntmps96
      go_wp2
      go_ret
      exact ⟨rfl, HM2.out, HK.out⟩
    | false =>
      have e : okHd M x = !oldB M (x.a : Int) := by simp [okHd, m0, a0]
      rw [e]
      go_enter Tryd.func96, Tryd.ntmps96
      go_wp2_with (go_at_call 97; refine (inOld_any _ _ b o M S HM1.out hs).mono ?_; rintro e w' ⟨rfl, rfl⟩)
      go_ret
      exact ⟨rfl, HM2.out, HK.out⟩
end Go.Proofs.YtpbfhkkecbnieaaDoor
