/- halt: code that halts is right. -/
import Derived.Test.YtgjjkllngopboaaDoorJCa20
import Derived.Test.YtgjjkllngopboaaDoorJCa04
import Derived.Test.YtgjjkllngopboaaDoorJCa01
import Derived.LaidEql
import Derived.Stop.Asserts
import Derived.RowKitTokens
namespace Go.Proofs.YtgjjkllngopboaaDoor
open Go.RowKit
set_option linter.unusedVariables false
set_option linter.unusedSimpArgs false

/-- The code of one op. -/
def fnH : FnP := ⟨⟨#[]⟩, 0, 0, 0, 0, [⟨n_halt, 0⟩]⟩
def codeH : CodeP := ⟨[fnH], [], [], []⟩
theorem verifyH : verifyP 20000 funcA codeH = (0, -1) := by decide +kernel
theorem textH : textC codeH = ⟨#[102, 117, 110, 99, 32, 48, 32, 45, 32, 48, 32, 48, 32, 48, 32, 48, 10, 32, 32, 48, 32, 104, 97, 108, 116, 10]⟩ := by decide +kernel
theorem rsl_blk {w : World} {b : Nat} {cur : Array Value} {t : TypeId} (h : w.heap[b]? = some (.cells cur t (0, 0))) {cs : List Value} (hc : cur.toList = cs) : RSl w (some ⟨b, 0, none⟩) cs := fun j u hu => by
  refine ⟨b, 0, rfl, ?_⟩
  rw [Nat.zero_add, cell_of_row w b j cur t (0, 0) h, ← Array.getElem?_toList, hc]
  exact hu
theorem three_blk (w : World) (o1 o2 o3 : Obj) : (((w.alloc o1).alloc o2).alloc o3).heap[w.heap.size]? = some o1 ∧ (((w.alloc o1).alloc o2).alloc o3).heap[w.heap.size + 1]? = some o2 ∧ (((w.alloc o1).alloc o2).alloc o3).heap[w.heap.size + 1 + 1]? = some o3 := by
  have s1 : (w.alloc o1).heap.size = w.heap.size + 1 := by simp
  have s2 : ((w.alloc o1).alloc o2).heap.size = w.heap.size + 1 + 1 := by rw [← s1]; simp
  have a1 := heap_alloc_new w o1
  have a2 := heap_alloc_new (w.alloc o1) o2
  have a3 := heap_alloc_new ((w.alloc o1).alloc o2) o3
  rw [s1] at a2
  rw [s2] at a3
  refine ⟨?_, ?_, a3⟩
  · rw [Below.block ((Ext.refl _).alloc_ o3) _ (by rw [s2]; omega), Below.block ((Ext.refl _).alloc_ o2) _ (by rw [s1]; omega)]; exact a1
  · rw [Below.block ((Ext.refl _).alloc_ o3) _ (by rw [s2]; omega)]; exact a2
theorem nums64H : Nums64 codeH := by
  refine ⟨fun f hf => ?_, fun x hx => by cases hx⟩
  obtain rfl := List.mem_singleton.1 hf
  refine ⟨?_, ?_, ?_, ?_, fun op ho => ?_⟩
  · show in64 0; unfold in64; omega
  · show in64 0; unfold in64; omega
  · show in64 0; unfold in64; omega
  · show in64 0; unfold in64; omega
  · obtain rfl := List.mem_singleton.1 ho
    show in64 0; unfold in64; omega
set_option maxRecDepth 100000 in
set_option maxHeartbeats 8000000 in
theorem halt_walk (gb gs : Addr) (w : World) (hG : GBound w gb) (hS : GShape w gs) (hP : Pow w) :
    Calls Tryd.prog 6 #[] w fun e w' => e = .returned (.bool true) ∧ Ext w w' := by
  have HG := Lib.hid hG
  have HS := Lib.hid hS
  have HP := Lib.hid hP
  clear hG hS hP
  go_enter Tryd.func6, Tryd.ntmps6
  go_upto_region 2 with fail
  refine namedW (fun w3 hw3 => ?_)
  obtain ⟨B, hB⟩ : ∃ B, B = w.heap.size := ⟨_, rfl⟩
  rw [← hB] at hw3 ⊢
  have hX3 : Ext w w3 := by rw [hw3]; exact (((Ext.refl w).alloc_ _).alloc_ _).alloc_ _
  obtain ⟨b0, b1, b2⟩ := three_blk w (.cells #[.string ⟨#[104, 97, 108, 116]⟩, .int .i64 0] 48) (.cells #[.string ⟨#[]⟩, .int .i64 0, .int .i64 0, .int .i64 0, .int .i64 0, .slice (some ⟨B, 0, none⟩) 1 1] 46) (.cells #[.slice (some ⟨B + 1, 0, none⟩) 1 1, .slice none 0 0, .slice none 0 0, .slice none 0 0] 32)
  rw [← hw3, ← hB] at b0 b1 b2
  have c0 := cellRow b2 0 _ rfl
  have c1 := cellRow b2 1 _ rfl
  have c2 := cellRow b2 2 _ rfl
  have c3 := cellRow b2 3 _ rfl
  have hR : RCode w3 codeH ⟨(some ⟨B + 1, 0, none⟩, 1), (none, 0), (none, 0), (none, 0), [(some ⟨B, 0, none⟩, 1)]⟩ := by
    refine ⟨rfl, rsl_blk b1 rfl, RSl.nil _ _, RSl.nil _ _, RSl.nil _ _, fun x hx => ?_, by decide⟩
    obtain rfl := List.mem_singleton.1 hx
    exact rsl_blk b0 rfl
  have lB : B < w3.heap.size := lt_of_block b0
  have hv := verify_walk codeH _ gb gs w3 hR (hX3.cell_ HG.out) (hX3.cell_ HS.out) (fun x hx y hy => by
    obtain rfl := List.mem_singleton.1 hx
    injection hy with hy
    subst hy
    exact lB)
  rw [verifyH] at hv
  have hvn : Calls Tryd.prog 14 #[codeV codeH ⟨(some ⟨B + 1, 0, none⟩, 1), (none, 0), (none, 0), (none, 0), [(some ⟨B, 0, none⟩, 1)]⟩] w3 fun e w' => e = .returned .nilIface ∧ Ext w3 w' := hv.mono fun e w' h => by
    obtain ⟨h1, h2⟩ := h
    rcases h2 with ⟨_, h2⟩ | ⟨h2, _⟩ | ⟨h2, _⟩ | ⟨i, x, h2, _⟩
    · exact ⟨h2, h1⟩
    · cases h2
    · cases h2
    · cases h2
  have HV := Lib.hid hvn
  have HR := Lib.hid hR
  have HX3 := Lib.hid hX3
  have hT : ∀ W : World, Ext w3 W → Calls Tryd.prog 8 #[codeV codeH ⟨(some ⟨B + 1, 0, none⟩, 1), (none, 0), (none, 0), (none, 0), [(some ⟨B, 0, none⟩, 1)]⟩] W fun e w' => e = .returned (.string ⟨#[102, 117, 110, 99, 32, 48, 32, 45, 32, 48, 32, 48, 32, 48, 32, 48, 10, 32, 32, 48, 32, 104, 97, 108, 116, 10]⟩) ∧ Ext W w' := fun W hW => by
    have := text_walk codeH _ W (HR.out.ext hW) (HP.out.ext (HX3.out.trans_ hW)) nums64H (by rw [textH]; decide)
    rw [textH] at this
    exact this
  have hC : ∀ W : World, Ext w3 W → Calls Tryd.prog 11 #[codeV codeH ⟨(some ⟨B + 1, 0, none⟩, 1), (none, 0), (none, 0), (none, 0), [(some ⟨B, 0, none⟩, 1)]⟩] W fun e w' => e = .returned (.int .i64 1) ∧ Ext W w' := fun W hW => count_any codeH _ W (HR.out.ext hW)
  have HT := Lib.hid hT
  have HC := Lib.hid hC
  clear hv hvn hR hT hC b0 b1 b2 hw3 hX3 hB lB
  go_wp2_with (first
    | (go_at_call 14; refine HV.out.mono ?_; rintro e w4 ⟨rfl, hq⟩; have HX4 := Lib.hid hq; have c0 := hq.cell_ c0; have c1 := hq.cell_ c1; have c2 := hq.cell_ c2; have c3 := hq.cell_ c3; clear hq)
    | (go_at_call 8; refine (HT.out _ HX4.out).mono ?_; rintro e w5 ⟨rfl, hq⟩; have HX5 := Lib.hid (HX4.out.trans_ hq); have c0 := hq.cell_ c0; have c1 := hq.cell_ c1; have c2 := hq.cell_ c2; have c3 := hq.cell_ c3; clear hq)
    | (go_at_call 11; refine (HC.out _ HX5.out).mono ?_; rintro e w6 ⟨rfl, hq⟩; have HX6 := Lib.hid (HX5.out.trans_ hq); clear hq))
  go_ret
  exact ⟨rfl, HX3.out.trans_ HX6.out⟩
def n_step : ByteArray := ⟨#[115, 116, 101, 112]⟩
def n_const : ByteArray := ⟨#[99, 111, 110, 115, 116]⟩
def opsW (n : Nat) : List OpP := List.replicate n ⟨n_step, 0⟩ ++ [⟨n_halt, 0⟩]
def fnW (n : Nat) : FnP := ⟨⟨#[]⟩, 0, 0, 0, 0, opsW n⟩
def fnR : FnP := ⟨⟨#[]⟩, 0, 0, 0, 0, [⟨n_const, 0⟩, ⟨n_return, 0⟩]⟩
/-- So many steps (and a halt), so many functions more, ints, names. -/
def codeW (n m i k : Nat) : CodeP := ⟨fnW n :: List.replicate m fnR, List.replicate i 0, [], List.replicate k ⟨#[]⟩⟩
theorem opsW_len (n : Nat) : (opsW n).length = n + 1 := by simp [opsW]
theorem opsW_step (n i : Nat) (h : i < n) : opAt (opsW n) i = ⟨n_step, 0⟩ := by
  unfold opAt opsW
  rw [List.getD_eq_getElem?_getD, List.getElem?_append_left (by simpa using h), List.getElem?_replicate, if_pos h]
  rfl
theorem opsW_halt (n : Nat) : opAt (opsW n) n = ⟨n_halt, 0⟩ := by
  unfold opAt opsW
  rw [List.getD_eq_getElem?_getD, List.getElem?_append_right (by simp)]
  simp
theorem sum_two : ∀ m : Nat, (List.replicate m 2).sum = 2 * m
  | 0 => rfl
  | m + 1 => by rw [List.replicate_succ, List.sum_cons, sum_two m]; omega
theorem countW (n m i k : Nat) : countP (codeW n m i k) = n + 1 + 2 * m := by
  unfold countP codeW
  simp only [List.map_cons, List.sum_cons, List.map_replicate]
  have : (fnW n).ops.length = n + 1 := opsW_len n
  rw [this]
  have h2 : fnR.ops.length = 2 := rfl
  rw [h2, sum_two]
theorem limit_none_ (c : CodeP) (f : FnP) : limitP c f ⟨#[]⟩ = 1 := by
  unfold limitP
  rw [if_neg (by decide), if_neg (by decide), if_neg (by decide), if_neg (by decide), if_neg (by decide), if_neg (by decide), if_neg (by decide), if_neg (by decide), if_neg (by decide)]
theorem form_step (c : CodeP) (f : FnP) (first : Bool) : form1 c f first 0 ⟨n_step, 0⟩ = true ∧ leftN c 0 ⟨n_step, 0⟩ = 0 := by
  have h1 : (shapeP n_step).isSome = true := by decide +kernel
  have h2 : kindP ⟨n_step, 0⟩ = ⟨#[]⟩ := by decide +kernel
  refine ⟨?_, ?_⟩
  · unfold form1
    rw [h2, limit_none_, h1, decide_eq_false (show ¬ n_step = n_halt by decide), decide_eq_false (show ¬ n_step = n_return by decide), decide_eq_false (show ¬ n_step = n_take by decide), decide_eq_false (show ¬ (⟨#[]⟩ : ByteArray) = a_op by decide)]
    rfl
  · unfold leftN
    rw [if_neg (show ¬ n_step = n_closure by decide), if_neg (show ¬ n_step = n_take by decide)]
theorem form_halt (c : CodeP) (f : FnP) : form1 c f true 0 ⟨n_halt, 0⟩ = true ∧ leftN c 0 ⟨n_halt, 0⟩ = 0 := by
  have h1 : (shapeP n_halt).isSome = true := by decide +kernel
  have h2 : kindP ⟨n_halt, 0⟩ = ⟨#[]⟩ := by decide +kernel
  refine ⟨?_, ?_⟩
  · unfold form1
    rw [h2, limit_none_, h1, decide_eq_false (show ¬ n_halt = n_return by decide), decide_eq_false (show ¬ n_halt = n_take by decide), decide_eq_false (show ¬ (⟨#[]⟩ : ByteArray) = a_op by decide), decide_eq_true (show n_halt = n_halt from rfl)]
    rfl
  · unfold leftN
    rw [if_neg (show ¬ n_halt = n_closure by decide), if_neg (show ¬ n_halt = n_take by decide)]
theorem form_ret (c : CodeP) (f : FnP) : form1 c f false 0 ⟨n_return, 0⟩ = true ∧ leftN c 0 ⟨n_return, 0⟩ = 0 := by
  have h1 : (shapeP n_return).isSome = true := by decide +kernel
  have h2 : kindP ⟨n_return, 0⟩ = ⟨#[]⟩ := by decide +kernel
  refine ⟨?_, ?_⟩
  · unfold form1
    rw [h2, limit_none_, h1, decide_eq_false (show ¬ n_return = n_halt by decide), decide_eq_false (show ¬ n_return = n_take by decide), decide_eq_false (show ¬ (⟨#[]⟩ : ByteArray) = a_op by decide), decide_eq_true (show n_return = n_return from rfl)]
    rfl
  · unfold leftN
    rw [if_neg (show ¬ n_return = n_closure by decide), if_neg (show ¬ n_return = n_take by decide)]
theorem form_const (c : CodeP) (f : FnP) : form1 c f false 0 ⟨n_const, 0⟩ = true ∧ leftN c 0 ⟨n_const, 0⟩ = 0 := by
  have h1 : (shapeP n_const).isSome = true := by decide +kernel
  have h2 : kindP ⟨n_const, 0⟩ = a_const := by decide +kernel
  have h3 : limitP c f a_const = 3 := by unfold limitP; rw [if_pos rfl]
  refine ⟨?_, ?_⟩
  · unfold form1
    rw [h2, h3, h1, decide_eq_false (show ¬ n_const = n_halt by decide), decide_eq_false (show ¬ n_const = n_return by decide), decide_eq_false (show ¬ n_const = n_take by decide), decide_eq_false (show ¬ a_const = a_op by decide)]
    rfl
  · unfold leftN
    rw [if_neg (show ¬ n_const = n_closure by decide), if_neg (show ¬ n_const = n_take by decide)]
theorem formW (c : CodeP) (f : FnP) : ∀ n, formP c f true 0 (opsW n) = true
  | 0 => by
    show formP c f true 0 [⟨n_halt, 0⟩] = true
    simp only [formP, form_halt c f, Bool.true_and]
    rfl
  | n + 1 => by
    show formP c f true 0 (⟨n_step, 0⟩ :: opsW n) = true
    simp only [formP, form_step c f true, Bool.true_and]
    exact formW c f n
/-- Where the walk through steps stands. -/
def gW (n k : Nat) : GoP := ⟨List.replicate (k + 1) (some (0, [])) ++ List.replicate (n - k) none, [k], true⟩
theorem gW_seen (n k j : Nat) (hk : k ≤ n) : seenP (gW n k).s j = if j ≤ k then some (0, []) else none := by
  unfold seenP gW
  simp only
  rw [List.getD_eq_getElem?_getD]
  split
  · rename_i h
    rw [List.getElem?_append_left (by simp; omega), List.getElem?_replicate, if_pos (by omega)]; rfl
  · rename_i h
    rw [List.getElem?_append_right (by simp; omega), List.getElem?_replicate]
    split <;> rfl
theorem gW_next (n k : Nat) (hk : k + 1 ≤ n) : (gW n k).s.set (k + 1) (some (0, [])) = (gW n (k + 1)).s := by
  unfold gW
  simp only
  obtain ⟨d, hd⟩ : ∃ d, n - k = d + 1 := ⟨n - k - 1, by omega⟩
  have hd2 : n - (k + 1) = d := by omega
  rw [hd, hd2, List.set_append_right _ _ (by simp)]
  simp only [List.length_replicate, Nat.sub_self, List.replicate_succ (n := d), List.set_cons_zero]
  rw [List.replicate_succ' (n := k + 1), List.append_assoc]
  rfl
theorem step_W (n k : Nat) (hk : k + 1 ≤ n) : stepP (n + 1) (stepsP (opsW n) k) (0, []) { gW n k with todo := [] } = gW n (k + 1) := by
  have h1 : takesP ⟨n_step, 0⟩ = 0 := by decide +kernel
  have h2 : putsP ⟨n_step, 0⟩ = 0 := by decide +kernel
  have h3 : outsP k ⟨n_step, 0⟩ (0, []) = some [((k : Int) + 1, ((0 : Int), ([] : List Int)))] := by
    unfold outsP
    rw [h1, h2, if_neg (by decide), if_neg (by decide), if_neg (by decide), if_neg (by decide), if_neg (by decide), if_neg (by decide)]
    rfl
  unfold stepP stepsP
  rw [opsW_step n k (by omega)]
  simp only [h1, h2, h3]
  have hlow : lowP (gW n k).s ⟨0, 0, outsP k ⟨n_step, 0⟩⟩ (0, []) = false := by
    unfold lowP baseP; simp
  rw [hlow]
  simp only [Bool.false_eq_true, if_false, comesP, List.foldl_cons, List.foldl_nil]
  unfold comeP
  have e1 : ((k : Int) + 1).toNat = k + 1 := by omega
  rw [e1, if_neg (by omega)]
  simp only
  rw [gW_seen n k (k + 1) (by omega), if_neg (by omega)]
  simp only
  rw [gW_next n k hk]
  rfl
theorem step_H (n : Nat) : stepP (n + 1) (stepsP (opsW n) n) (0, []) { gW n n with todo := [] } = { gW n n with todo := [] } := by
  have h1 : takesP ⟨n_halt, 0⟩ = 0 := by decide +kernel
  have h2 : putsP ⟨n_halt, 0⟩ = 0 := by decide +kernel
  have h3 : outsP n ⟨n_halt, 0⟩ (0, []) = some [] := by
    unfold outsP
    rw [if_pos (Or.inr (Or.inl rfl))]
  unfold stepP stepsP
  rw [opsW_halt n]
  simp only [h1, h2, h3]
  have hlow : lowP (gW n n).s ⟨0, 0, outsP n ⟨n_halt, 0⟩⟩ (0, []) = false := by
    unfold lowP baseP; simp
  rw [hlow]
  rfl
theorem run_W (n : Nat) : ∀ (j k : Nat), k ≤ n → (runP true (n + 1) (stepsP (opsW n)) j (gW n k)).ok = true
  | 0, k, _ => rfl
  | j + 1, k, hk => by
    unfold runP
    rw [if_neg (by simp [gW])]
    have p1 : pickP true (gW n k).todo = k := rfl
    have p2 : leaveP true (gW n k).todo = [] := rfl
    rw [p1, p2, gW_seen n k k hk, if_pos (Nat.le_refl k)]
    simp only [Option.getD_some]
    by_cases e : k = n
    · subst e
      rw [step_H]
      cases j with
      | zero => rfl
      | succ j => unfold runP; rw [if_pos (Or.inl rfl)]; rfl
    · rw [step_W n k (by omega)]
      exact run_W n j (k + 1) (by omega)
theorem okW (n : Nat) : okP true (n + 1) (stepsP (opsW n)) = true := by
  have : startP (n + 1) = gW n 0 := by
    unfold startP comeP
    rw [if_neg (by simp)]
    simp only [seen_none]
    unfold gW
    simp [List.replicate_succ]
  unfold okP
  rw [this]
  exact run_W n _ 0 (Nat.zero_le n)
theorem funcW (c : CodeP) (n : Nat) : funcA c (fnW n) true = true := by
  unfold funcA
  have h1 : (fnW n).ops = opsW n := rfl
  rw [h1, formW, opsW_len, okW]
  have : (opsW n).isEmpty = false := by
    cases h : opsW n with
    | nil => have := opsW_len n; rw [h] at this; simp at this
    | cons a l => rfl
  rw [this]; rfl
theorem funcR (c : CodeP) : funcA c fnR false = true := by
  have h1 : okP true 2 (stepsP [⟨n_const, 0⟩, ⟨n_return, 0⟩]) = true := by decide +kernel
  have h2 : formP c fnR false 0 [⟨n_const, 0⟩, ⟨n_return, 0⟩] = true := by
    simp only [formP, form_const c fnR, form_ret c fnR, Bool.true_and]
    rfl
  unfold funcA
  have h3 : fnR.ops = [⟨n_const, 0⟩, ⟨n_return, 0⟩] := rfl
  rw [h3, h2]
  show (true && (true && okP true 2 _)) = true
  rw [h1]; rfl
theorem wrongR (c : CodeP) : ∀ m j, wrongP (funcA c) (j + 1) (List.replicate m fnR) = none
  | 0, _ => rfl
  | m + 1, j => by
    rw [List.replicate_succ]
    unfold wrongP
    have : (j + 1 == 0) = false := by simp
    rw [this, funcR]
    exact wrongR c m (j + 1)
theorem numsR : ∀ m, numsAll false (List.replicate m fnR) = true
  | 0 => rfl
  | m + 1 => by
    rw [List.replicate_succ]
    unfold numsAll
    rw [numsR m]
    decide
theorem verifyW (n m i k : Nat) : verifyP 20000 funcA (codeW n m i k) = if 20000 < n + 1 + 2 * m ∨ 400 < m + 1 ∨ 2000 < i ∨ 2000 < k then (2, -1) else (0, -1) := by
  unfold verifyP
  rw [countW]
  have l1 : (codeW n m i k).funcs.length = m + 1 := by simp [codeW]
  have l2 : (codeW n m i k).ints.length = i := by simp [codeW]
  have l3 : (codeW n m i k).strs.length = 0 := rfl
  have l4 : (codeW n m i k).names.length = k := by simp [codeW]
  rw [l1, l2, l3, l4]
  by_cases h : 20000 < n + 1 + 2 * m ∨ 400 < m + 1 ∨ 2000 < i ∨ 2000 < k
  · rw [if_pos h, if_pos (by omega)]
  · rw [if_neg h, if_neg (by omega)]
    have h1 : ¬ (codeW n m i k).funcs = [] := by simp [codeW]
    rw [if_neg h1]
    have h2 : numsAll true (codeW n m i k).funcs = true := by
      show numsAll true (fnW n :: List.replicate m fnR) = true
      unfold numsAll
      rw [numsR]
      rfl
    rw [h2]
    have h3 : wrongP (funcA (codeW n m i k)) 0 (codeW n m i k).funcs = none := by
      show wrongP _ 0 (fnW n :: List.replicate m fnR) = none
      unfold wrongP
      rw [show ((0 : Nat) == 0) = true from rfl, funcW]
      exact wrongR _ m 0
    rw [h3]
    rfl
open Go.RowKit Go.Extern.Stop Go.Stop Go.Extern

/-! Closed facts: what reflectlite.TypeOf(target).Comparable() gives -/
theorem isTypeOf (v : Value) (w : World) : (Extern.ReflectliteType.typeOf #[.iface 159 v]).run Tryd.prog w = .ok (.iface 142 (.agg #[.pointer (some ⟨12, 159, none⟩)])) w := by kernel_rfl
theorem isComparable (w : World) : ((Extern.ReflectliteType.method fun t => do Rtype.noPackHeld "Comparable" t; (fun a => Value.bool a.comparable) <$> typeInfo t) #[.agg #[.pointer (some ⟨12, 159, none⟩)]]).run Tryd.prog w = .ok (.bool true) w := by kernel_rfl
theorem isMethodComparable (v : Value) (w : World) : (Go.method 290 142 v "Comparable").run Tryd.prog w = .ok (101, v) w := by kernel_rfl
theorem isComp : (Tryd.prog.info? 159).map (·.comparable) = some true := by kernel_rfl
theorem isSize : (Tryd.prog.info? 178).map (·.size) = some 1 := by kernel_rfl
theorem noIsE (v : Value) (xT : TypeId) (w : World) : (Instr.typeAssert (.iface 159 v) xT 153 true).run Tryd.prog w = .ok (.tuple #[.nilIface, .bool false]) w := run_typeAssert_lacksB Tryd.underlying153 (by kernel_rfl) (by kernel_rfl) v xT w
theorem noUnwrapE (v : Value) (xT : TypeId) (w : World) : (Instr.typeAssert (.iface 159 v) xT 149 true).run Tryd.prog w = .ok (.tuple #[.nilIface, .bool false]) w := run_typeAssert_lacksB Tryd.underlying149 (by kernel_rfl) (by kernel_rfl) v xT w
theorem noUnwrapsE (v : Value) (xT : TypeId) (w : World) : (Instr.typeAssert (.iface 159 v) xT 151 true).run Tryd.prog w = .ok (.tuple #[.nilIface, .bool false]) w := run_typeAssert_lacksB Tryd.underlying151 (by kernel_rfl) (by kernel_rfl) v xT w

set_option maxRecDepth 100000 in
set_option maxHeartbeats 1000000 in
theorem is_same (a : Addr) (w : World) :
    Calls Tryd.prog 42 #[errV a, errV a] w fun e w' => e = .returned (.bool true) ∧ w' = w := by
  obtain ⟨i, hi, hcmp⟩ := Option.map_eq_some_iff.1 isComp
  obtain ⟨j, hj, hjs⟩ := Option.map_eq_some_iff.1 isSize
  have h8 := @run_callFunc_extern Tryd.prog 59 _ Extern.ReflectliteType.typeOf Tryd.func59 (by kernel_rfl) (by kernel_rfl) (by kernel_rfl) (by kernel_rfl)
  have h32 := @run_callFunc_extern Tryd.prog 101 _ (Extern.ReflectliteType.method fun t => do Rtype.noPackHeld "Comparable" t; pure (.bool (← typeInfo t).comparable)) Tryd.func101 (by kernel_rfl) (by kernel_rfl) (by kernel_rfl) (by kernel_rfl)
  have tT := isTypeOf
  have cT := isComparable
  have mR := isMethodComparable
  have heq := run_eql_iface_ptr_same (P := Tryd.prog) w a Tryd.underlying39 Tryd.underlying159 hi hcmp hj
  go_enter Tryd.func42, Tryd.ntmps42
  go_wp2
  refine wp_loop_rounds 1 ?_
  rw [rounds_succ]
  go_wp2
  go_ret
  exact ⟨rfl, rfl⟩
set_option maxRecDepth 100000 in
set_option maxHeartbeats 1000000 in
theorem is_other (a b : Addr) (ca cb : Array Value) (ta tb : TypeId) (w : World) (hne : a ≠ b) (ha : w.heap[a.block]? = some (.cells ca ta (0, 0))) (hb : w.heap[b.block]? = some (.cells cb tb (0, 0))) :
    Calls Tryd.prog 42 #[errV a, errV b] w fun e w' => e = .returned (.bool false) ∧ w' = w := by
  obtain ⟨i, hi, hcmp⟩ := Option.map_eq_some_iff.1 isComp
  obtain ⟨j, hj, hjs⟩ := Option.map_eq_some_iff.1 isSize
  have h8 := @run_callFunc_extern Tryd.prog 59 _ Extern.ReflectliteType.typeOf Tryd.func59 (by kernel_rfl) (by kernel_rfl) (by kernel_rfl) (by kernel_rfl)
  have h32 := @run_callFunc_extern Tryd.prog 101 _ (Extern.ReflectliteType.method fun t => do Rtype.noPackHeld "Comparable" t; pure (.bool (← typeInfo t).comparable)) Tryd.func101 (by kernel_rfl) (by kernel_rfl) (by kernel_rfl) (by kernel_rfl)
  have tT := isTypeOf
  have cT := isComparable
  have mR := isMethodComparable
  have nE := noIsE
  have uE := noUnwrapE
  have vE := noUnwrapsE
  have heq := run_eql_iface_ptr_other (P := Tryd.prog) w Tryd.underlying39 Tryd.underlying159 hi hcmp hj (by rw [hjs]; decide) hne ha hb
  go_enter Tryd.func42, Tryd.ntmps42
  go_wp2
  refine wp_loop_rounds 1 ?_
  rw [rounds_succ]
  go_wp2
  go_ret
  exact ⟨rfl, rfl⟩
open Go.RowKit Go.Extern.Stop Go.Stop Go.Extern

theorem valueOfFF (t : Addr) (w : World) : (ReflectliteValue.unpack (.iface 92 (.pointer (some t)))).run Tryd.prog w
    = .ok (.agg #[.pointer (some ⟨12, 92, none⟩), .pointer (some ⟨w.heap.size, 0, none⟩), .int .u64 150]) (w.alloc (.cells #[.pointer (some t)] 92)) := by kernel_rfl
theorem typeFF (a : Addr) (w : World) : (ReflectliteValue.methodAny (ReflectliteValue.valueError "reflectlite.Value.Type" 0) (fun t _ _ _ => ReflectliteType.toType t) #[.agg #[.pointer (some ⟨12, 92, none⟩), .pointer (some a), .int .u64 150]]).run Tryd.prog w
    = .ok (.iface 142 (.agg #[.pointer (some ⟨12, 92, none⟩)])) w := by kernel_rfl
theorem methodKind (h : Value) (w : World) : (Go.method 290 142 (.agg #[h]) "Kind").run Tryd.prog w = .ok (90, h) w := by kernel_rfl
theorem kindFF (w : World) : ((ReflectliteType.abiMethod fun t => (fun a : Nat => Value.int IntKind.u8 (a : Int)) <$> Rtype.kind t) #[.pointer (some ⟨12, 92, none⟩)]).run Tryd.prog w = .ok (.int .u8 22) w := by kernel_rfl
theorem kindF (w : World) : ((ReflectliteType.abiMethod fun t => (fun a : Nat => Value.int IntKind.u8 (a : Int)) <$> Rtype.kind t) #[.pointer (some ⟨12, 82, none⟩)]).run Tryd.prog w = .ok (.int .u8 22) w := by kernel_rfl
theorem rlm (z : Sem Value) (f : TypeId → Addr → Nat → Nat → Sem Value) (v : Value) :
    ReflectliteValue.method z f #[v] = (do match ← ReflectliteValue.parts v with | none => z | some (t, a, fl) => f t a fl (fl % 32)) := rfl
theorem partsFF (a : Addr) (w : World) : (ReflectliteValue.parts (.agg #[.pointer (some ⟨12, 92, none⟩), .pointer (some a), .int .u64 150])).run Tryd.prog w = .ok (some (92, a, 150)) w := by kernel_rfl
theorem isNilFF (a p : Addr) (W : World) (ha : W.cell? a = some (.pointer (some p))) :
    (ReflectliteValue.method (ReflectliteValue.valueError "reflectlite.Value.IsNil" 0) ReflectliteValue.isNil #[.agg #[.pointer (some ⟨12, 92, none⟩), .pointer (some a), .int .u64 150]]).run Tryd.prog W = .ok (.bool false) W := by
  rw [rlm]
  simp only [Sem.run_bind, partsFF, Result.andThen]
  simp [ReflectliteValue.isNil, loadVar, isAgg, underlying, Tryd.underlying92, ha, Result.andThen]
theorem methodElem (h : Value) (w : World) : (Go.method 290 142 (.agg #[h]) "Elem").run Tryd.prog w = .ok (102, .agg #[h]) w := by kernel_rfl
theorem methodImplements (h : Value) (w : World) : (Go.method 290 142 (.agg #[h]) "Implements").run Tryd.prog w = .ok (103, .agg #[h]) w := by kernel_rfl
theorem methodAssignableTo (h : Value) (w : World) : (Go.method 290 142 (.agg #[h]) "AssignableTo").run Tryd.prog w = .ok (100, .agg #[h]) w := by kernel_rfl
theorem elemFF (w : World) : (ReflectliteType.method ReflectliteType.elem #[.agg #[.pointer (some ⟨12, 92, none⟩)]]).run Tryd.prog w = .ok (.iface 142 (.agg #[.pointer (some ⟨12, 82, none⟩)])) w := by kernel_rfl
theorem implementsF (w : World) : (ReflectliteType.relation "Implements" ReflectliteType.implements_ #[.agg #[.pointer (some ⟨12, 82, none⟩)], .iface 142 (.agg #[.pointer (some ⟨12, 39, none⟩)])]).run Tryd.prog w = .ok (.bool true) w := by kernel_rfl
theorem assignableE (w : World) : (ReflectliteType.relation "AssignableTo" ReflectliteType.assignableTo #[.agg #[.pointer (some ⟨12, 159, none⟩)], .iface 142 (.agg #[.pointer (some ⟨12, 82, none⟩)])]).run Tryd.prog w = .ok (.bool false) w := by kernel_rfl
theorem noAsE (v : Value) (xT : TypeId) (w : World) : (Instr.typeAssert (.iface 159 v) xT 146 true).run Tryd.prog w = .ok (.tuple #[.nilIface, .bool false]) w := run_typeAssert_lacksB Tryd.underlying146 (by kernel_rfl) (by kernel_rfl) v xT w

/-- What errors.errorType holds. -/
abbrev GEType (w : World) : Prop := w.cell? ⟨7, 0, none⟩ = some (.iface 142 (.agg #[.pointer (some ⟨12, 39, none⟩)]))

set_option maxRecDepth 100000 in
set_option maxHeartbeats 4000000 in
theorem as_miss (a t : Addr) (w : World) (hg : GEType w) :
    Calls Tryd.prog 41 #[errV a, .iface 92 (.pointer (some t))] w fun ev w' => ev = .returned (.bool false) ∧ Ext w w' := by
  have h6 := @run_callFunc_extern Tryd.prog 55 _ (fun args => ReflectliteValue.unpack (args.getD 0 (.tuple #[]))) Tryd.func55 (by kernel_rfl) (by kernel_rfl) (by kernel_rfl) (by kernel_rfl)
  have h7 := @run_callFunc_extern Tryd.prog 56 _ (ReflectliteValue.methodAny (ReflectliteValue.valueError "reflectlite.Value.Type" 0) (fun t _ _ _ => ReflectliteType.toType t)) Tryd.func56 (by kernel_rfl) (by kernel_rfl) (by kernel_rfl) (by kernel_rfl)
  have h8 := @run_callFunc_extern Tryd.prog 57 _ (ReflectliteValue.method (ReflectliteValue.valueError "reflectlite.Value.IsNil" 0) ReflectliteValue.isNil) Tryd.func57 (by kernel_rfl) (by kernel_rfl) (by kernel_rfl) (by kernel_rfl)
  have h27 := @run_callFunc_extern Tryd.prog 90 _ (ReflectliteType.abiMethod fun t => do pure (.int .u8 (← Rtype.kind t))) Tryd.func90 (by kernel_rfl) (by kernel_rfl) (by kernel_rfl) (by kernel_rfl)
  have h37 := @run_callFunc_extern Tryd.prog 102 _ (ReflectliteType.method ReflectliteType.elem) Tryd.func102 (by kernel_rfl) (by kernel_rfl) (by kernel_rfl) (by kernel_rfl)
  have h38 := @run_callFunc_extern Tryd.prog 103 _ (ReflectliteType.relation "Implements" ReflectliteType.implements_) Tryd.func103 (by kernel_rfl) (by kernel_rfl) (by kernel_rfl) (by kernel_rfl)
  have h10 := @run_callFunc_extern Tryd.prog 59 _ ReflectliteType.typeOf Tryd.func59 (by kernel_rfl) (by kernel_rfl) (by kernel_rfl) (by kernel_rfl)
  have h35 := @run_callFunc_extern Tryd.prog 100 _ (ReflectliteType.relation "AssignableTo" ReflectliteType.assignableTo) Tryd.func100 (by kernel_rfl) (by kernel_rfl) (by kernel_rfl) (by kernel_rfl)
  have tO := isTypeOf
  have mA := methodAssignableTo
  have aE := assignableE
  have f6 := valueOfFF
  have f7 := typeFF
  have mK := methodKind
  have mE := methodElem
  have mI := methodImplements
  have k27 := kindFF
  have k25 := kindF
  have e27 := elemFF
  have i25 := implementsF
  have nA := noAsE
  have uE := noUnwrapE
  have vE := noUnwrapsE
  have n8 := isNilFF ⟨w.heap.size, 0, none⟩ t ((w.alloc (.cells #[.pointer (some t)] 92)).alloc (.cells #[.pointer (some ⟨12, 92, none⟩), .pointer (some ⟨w.heap.size, 0, none⟩), .int .u64 150] 114)) (by simp)
  have hlt := cell_lt hg
  simp only at hlt
  go_enter Tryd.func41, Tryd.ntmps41
  go_wp2
  refine wp_loop_rounds 1 ?_
  rw [rounds_succ]
  go_wp2
  go_ret
  refine ⟨rfl, ?_⟩
  repeat (first | exact Ext.refl _ | refine Ext.alloc_ ?_ _)
end Go.Proofs.YtgjjkllngopboaaDoor
