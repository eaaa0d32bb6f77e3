/- Objects of a memory, plainly: what a part of the words holds. -/
import Derived.Test.YtpbfhkkecbnieaaDoorPlain
namespace Go.Proofs.YtpbfhkkecbnieaaDoor

/-- The word at a place. -/
def wat (W : List Int) (i : Nat) : Int := W.getD i 0
/-- An object: where it is, its header. -/
structure Ob where
  a : Nat
  w : Int
/-- How many fields it has. -/
def Ob.n (o : Ob) : Nat := (hSize o.w).toNat

/-- The objects of a part; false: they do not just fill it. -/
def objs (W : List Int) (to : Nat) : Nat → Nat → List Ob × Bool
  | 0, _ => ([], true)
  | f + 1, a =>
    if a < to then
      if isHd (wat W a) && decide (a + 1 + (hSize (wat W a)).toNat ≤ to) then
        (⟨a, wat W a⟩ :: (objs W to f (a + 1 + (hSize (wat W a)).toNat)).1, (objs W to f (a + 1 + (hSize (wat W a)).toNat)).2)
      else ([], false)
    else ([], true)
def part (W : List Int) (a to : Nat) : List Ob × Bool := objs W to (to - a) a

theorem objs_fuel (W : List Int) (to : Nat) : ∀ f g a : Nat, to - a ≤ f → to - a ≤ g → objs W to f a = objs W to g a
  | 0, 0, _, _, _ => rfl
  | 0, g + 1, a, h, _ => by
    have h1 : ¬ a < to := by omega
    simp [objs, h1]
  | f + 1, 0, a, _, h => by
    have h1 : ¬ a < to := by omega
    simp [objs, h1]
  | f + 1, g + 1, a, h1, h2 => by
    unfold objs
    split
    · split
      · rw [objs_fuel W to f g _ (by omega) (by omega)]
      · rfl
    · rfl
theorem part_done (W : List Int) (a to : Nat) (h : to ≤ a) : part W a to = ([], true) := by
  unfold part
  rw [show to - a = 0 by omega]; rfl
theorem part_bad (W : List Int) (a to : Nat) (h : a < to) (hb : (isHd (wat W a) && decide (a + 1 + (hSize (wat W a)).toNat ≤ to)) = false) : part W a to = ([], false) := by
  unfold part
  obtain ⟨k, hk⟩ : ∃ k, to - a = k + 1 := ⟨to - a - 1, by omega⟩
  rw [hk, objs, if_pos h, hb]; rfl
theorem part_next (W : List Int) (a to : Nat) (h1 : isHd (wat W a) = true) (h2 : a + 1 + (hSize (wat W a)).toNat ≤ to) :
    part W a to = (⟨a, wat W a⟩ :: (part W (a + 1 + (hSize (wat W a)).toNat) to).1, (part W (a + 1 + (hSize (wat W a)).toNat) to).2) := by
  unfold part
  obtain ⟨k, hk⟩ : ∃ k, to - a = k + 1 := ⟨to - a - 1, by omega⟩
  rw [hk, objs, if_pos (by omega), h1, decide_eq_true h2]
  simp only [Bool.and_self, if_true]
  rw [objs_fuel W to k (to - (a + 1 + (hSize (wat W a)).toNat)) _ (by omega) (by omega)]

/-- An object that lies in the words, within a part. -/
structure ObIn (W : List Int) (lo to : Nat) (o : Ob) : Prop where
  w : o.w = wat W o.a
  hd : isHd o.w = true
  lo : lo ≤ o.a
  to : o.a + 1 + o.n ≤ to
theorem objs_in (W : List Int) (to : Nat) : ∀ (f a : Nat) (o : Ob), o ∈ (objs W to f a).1 → ObIn W a to o
  | 0, a, o, h => by simp [objs] at h
  | f + 1, a, o, h => by
    unfold objs at h
    split at h
    · split at h
      · rename_i h1 h2
        simp only [Bool.and_eq_true, decide_eq_true_eq] at h2
        simp only [List.mem_cons] at h
        rcases h with rfl | h
        · exact ⟨rfl, h2.1, Nat.le_refl _, h2.2⟩
        · have := objs_in W to f _ o h
          exact ⟨this.w, this.hd, by have := this.lo; omega, this.to⟩
      · simp at h
    · simp at h
theorem part_in {W : List Int} {a to : Nat} {o : Ob} (h : o ∈ (part W a to).1) : ObIn W a to o := objs_in W to _ a o h
end Go.Proofs.YtpbfhkkecbnieaaDoor
