/- An own memory behind what turns other blocks alone; a root is appended. -/
import Derived.Test.YtecbbbaafcoliaaGreatDoorJZn20
import Derived.Test.YtecbbbaafcoliaaGreatDoorJZn34
import Derived.Test.YtecbbbaafcoliaaGreatDoorJZn38
namespace Go.Proofs.YtecbbbaafcoliaaGreatDoor
open Go.RowKit
set_option linter.unusedVariables false
set_option linter.unusedSimpArgs false

section
variable {w w' : World} {B b : Nat} {tI : TypeId} {M : Mem} {S : Sls}
theorem OMem.own_of (h : OMem w B b tI M S) {f : Fld} (hf : f ∈ memFlds tI M S) {k : Nat} (hk : f.val.ownBlock = some k) : OwnA b S k := by
  have ho' := (h.fld f hf).2.1
  have ha : f.a = some ⟨k, 0, none⟩ := by
    rcases ho'.2 with ⟨h2, _⟩ | ⟨g, cap, cur, hv, _⟩
    · rw [h2] at hk; cases hk
    · rw [hv] at hk
      simp [Value.ownBlock] at hk
      subst hk
      unfold Fld.val at hv
      injection hv
  simp only [memFlds, List.mem_cons, List.not_mem_nil, or_false] at hf
  rcases hf with rfl | rfl | rfl | rfl | rfl <;> simp_all [OwnA]
theorem OMem.keepA {L : Nat → Prop} (h : OMem w B b tI M S) (k : Keep L w w') (hd : ∀ i, OwnA b S i → ¬ L i) : OMem w' B b tI M S :=
  OM.kept h fun i hi ho => k.block i hi (hd i (by
    rcases ho with rfl | ⟨f, hf, hk⟩
    · exact Or.inl rfl
    · exact h.own_of hf hk))
end
/-- Two own memories, apart. -/
structure Two (w : World) (A a b : Nat) (tI : TypeId) (M N : Mem) (S T : Sls) : Prop where
  one : OMem w A a tI M S
  two : OMem w A b tI N T
  apart : ∀ k, OwnA a S k → ¬ OwnA b T k
theorem Two.ext {w w' : World} {A a b : Nat} {tI : TypeId} {M N : Mem} {S T : Sls} (h : Two w A a b tI M N S T) (hx : Ext w w') : Two w' A a b tI M N S T := ⟨OM.ext h.one hx, OM.ext h.two hx, h.apart⟩
theorem Two.swap {w : World} {A a b : Nat} {tI : TypeId} {M N : Mem} {S T : Sls} (h : Two w A a b tI M N S T) : Two w A b a tI N M T S := ⟨h.two, h.one, fun k h1 h2 => h.apart k h2 h1⟩
/-- A root is appended to the first one. -/
theorem Two.push {w w1 : World} {A a b : Nat} {tI : TypeId} {M N : Mem} {S T : Sls} (h : Two w A a b tI M N S T) (x : Int) (a' : Option Addr) (c' : Nat) (hg : w.grownBy w1 (Value.slice S.R.1 M.roots.length S.R.2).ownBlock)
    (ho : w1.ownsRow A 51 1 (.slice a' (M.roots.length + 1) c') (M.roots.length + 1) (wcells M.roots ++ [.int .u64 x])) (hn : (Value.slice a' (M.roots.length + 1) c').ownBlock = (Value.slice S.R.1 M.roots.length S.R.2).ownBlock ∨ (Value.slice a' (M.roots.length + 1) c').ownBlock = some w.heap.size) :
    Two (w1.setCell ⟨a, 7, none⟩ (.slice a' (M.roots.length + 1) c')) A a b tI { M with roots := M.roots ++ [x] } N { S with R := (a', c') } T ∧ Keep (OwnA a S) w (w1.setCell ⟨a, 7, none⟩ (.slice a' (M.roots.length + 1) c')) := by
  have hp := h.one.pushRoot x a' c' hg ho hn
  have hown : ∀ k, (Value.slice S.R.1 M.roots.length S.R.2).ownBlock = some k → OwnA a S k := fun k hk => h.one.own_of (f := ⟨7, 51, 1, S.R.1, M.roots.length, S.R.2, wcells M.roots⟩) (by simp [memFlds]) hk
  have k1 : Keep (OwnA a S) w w1 := Keep.of_grown hg fun k hk => Or.inl (hown k hk)
  have k2 : Keep (OwnA a S) w (w1.setCell ⟨a, 7, none⟩ (.slice a' (M.roots.length + 1) c')) := k1.set_ (p := ⟨a, 7, none⟩) (Or.inl (Or.inl rfl)) _
  refine ⟨⟨hp, h.two.keepA k2 fun i hi q => h.apart i q hi, fun k hk hk2 => ?_⟩, k2⟩
  have hlt := (h.two.own_size hk2).2
  have hR : ∀ k, a' = some ⟨k, 0, none⟩ → OwnA a S k ∨ k = w.heap.size := fun k e => by
    rw [e] at hn
    rcases hn with q | q
    · exact Or.inl (hown k (by rw [← q]; rfl))
    · have q' : some k = some w.heap.size := q
      injection q' with q'
      exact Or.inr q'
  rcases hk with q | q | q | q | q | q
  · exact h.apart k (Or.inl q) hk2
  · exact h.apart k (Or.inr (Or.inl q)) hk2
  · rcases hR k q with r | r
    · exact h.apart k r hk2
    · omega
  · exact h.apart k (Or.inr (Or.inr (Or.inr (Or.inl q)))) hk2
  · exact h.apart k (Or.inr (Or.inr (Or.inr (Or.inr (Or.inl q))))) hk2
  · exact h.apart k (Or.inr (Or.inr (Or.inr (Or.inr (Or.inr q))))) hk2
end Go.Proofs.YtecbbbaafcoliaaGreatDoor
