/- The law MinorGrows, plainly: collected so often nothing is young any more, and the graph is the same. -/
import Derived.Test.YtecbbbaafcoliaaDoorJMn31
import Derived.Test.YtecbbbaafcoliaaDoorJGp01
namespace Go.Proofs.YtecbbbaafcoliaaDoor
open Go.RowKit
set_option linter.unusedVariables false
set_option linter.unusedSimpArgs false

section
variable {M : Mem} {ten : Int}
theorem collectC_graph (hr : Ready M ten) : graphS (collectC M ten) = graphS M := by
  have hf := collect_fin hr
  rw [collectC_fin]
  have hg := (good_parts (chk_zero hr.chk).1).2.2.1
  unfold fieldsB at hg
  rw [List.all_eq_true] at hg
  have hl : (finM M (col4 M ten)).W.length = M.W.length := by obtain ⟨D, hv⟩ := hf.inv; exact hv.like.lenW
  exact graph_map (hf.morph hr) hl hf.rootsL.symm fun i hi => hf.corr hr (getD_in hg hi) (hf.roots i hi)
/-- Those that are young behind it: a time older, none was too old. -/
theorem collectC_young (hr : Ready M ten) : ∀ y ∈ (partN (collectC M ten)).1, ∃ x ∈ (partN M).1, hAge x.w < ten ∧ hAge y.w = hAge x.w + 1 := by
  have hf := collect_fin hr
  rw [collectC_fin]
  intro y hy
  rw [(hf.parts hr).1] at hy
  obtain ⟨D, hv⟩ := hf.inv
  obtain ⟨b, hb, rfl⟩ := List.mem_map.1 hy
  obtain ⟨p, hp, rfl⟩ := List.mem_map.1 hb
  obtain ⟨hp1, hp2⟩ := List.mem_filter.1 hp
  have hp3 : p.2 < 2 * M.half := of_decide_eq_true hp2
  have e := hv.head p hp1
  have sd := hv.side p hp1
  obtain ⟨x, hx, ex⟩ := hv.keys p hp1
  have ea : p.1.toNat = x.a := by omega
  rw [ea] at e sd
  obtain ⟨q1, q2, -⟩ := hr.inN hx
  have hlt : hAge (wat M.W x.a) < ten := by
    rcases Int.lt_or_le (hAge (wat M.W x.a)) ten with q | q
    · exact q
    · have := sd.2 q; omega
  refine ⟨x, hx, by rw [q1]; exact hlt, ?_⟩
  show hAge (wat (col4 M ten).M.W p.2.toNat) = _
  rw [e, (newHd_hd (ten := ten) (wat_in hr.ok _).1 q2).2.2.1, if_neg (by omega), q1]
  have := hr.ten
  omega
end
theorem partN_empty {N : Mem} (hs : Shp N) (hob : objsB N (okHd N) = true) (h : ∀ y ∈ (partN N).1, False) : N.top = 0 := by
  have hl : Laid N.W N.base ((partN N).1.map (·.a)) (N.base + N.top.toNat) := laid_of_part (parts_true hob).1 (by omega)
  have e : (partN N).1 = [] := List.eq_nil_iff_forall_not_mem.2 fun y hy => h y hy
  rw [e] at hl
  have h2 : N.base = N.base + N.top.toNat := hl
  have := hs.t1
  omega
/-- So often collected. -/
structure Grown (M0 : Mem) (ten : Int) (k : Nat) (N : Mem) : Prop where
  ok : N.Ok
  chk : chk N = 0
  few : Few N
  graph : graphS N = graphS M0
  ages : ∀ x ∈ (partN N).1, (k : Int) ≤ hAge x.w
  lt : 0 < k → ∀ x ∈ (partN N).1, hAge x.w ≤ ten
theorem Grown.start {M : Mem} {ten : Int} (ok : M.Ok) (hc : Go.Proofs.YtecbbbaafcoliaaDoor.chk M = 0) (hf : Few M) : Grown M ten 0 M :=
  ⟨ok, hc, hf, rfl, fun x hx => by
    have hw := (part_in (show x ∈ (part M.W M.base (M.base + M.top.toNat)).1 from hx)).w
    have := (hd_in x.w (by rw [hw]; exact (wat_in ok _).1)).2.2.1
    omega, fun h => by omega⟩
theorem Grown.ready {M0 N : Mem} {ten : Int} {k : Nat} (h : Grown M0 ten k N) (t0 : 0 ≤ ten) (t1 : ten ≤ 15) (hf : ¬ N.old - N.oldTop < N.top) : Ready N ten := ⟨h.ok, h.chk, ⟨t0, t1⟩, by omega⟩
theorem Grown.next {M0 N : Mem} {ten : Int} {k : Nat} (h : Grown M0 ten k N) (hr : Ready N ten) : Grown M0 ten (k + 1) (collectC N ten) :=
  ⟨collectC_ok hr, collectC_chk hr, collectC_few hr h.few, (collectC_graph hr).trans h.graph, fun y hy => by
    obtain ⟨x, hx, h1, h2⟩ := collectC_young hr y hy
    have := h.ages x hx
    omega, fun _ y hy => by
    obtain ⟨x, hx, h1, h2⟩ := collectC_young hr y hy
    omega⟩
theorem Grown.done {M0 N : Mem} {ten : Int} {k : Nat} (h : Grown M0 ten k N) (hk : ten < (k : Int)) (t0 : 0 ≤ ten) : N.top = 0 := by
  obtain ⟨hs, hob, -⟩ := good_parts (chk_zero h.chk).1
  refine partN_empty hs hob fun y hy => ?_
  have h1 := h.ages y hy
  have h2 := h.lt (by omega) y hy
  omega
end Go.Proofs.YtecbbbaafcoliaaDoor
