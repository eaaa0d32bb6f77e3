/- Code's verification: plainly: the order in which ops are gone through (the last come to first, or the first) changes nothing. -/
import Derived.WalkKit
import Derived.Test.YtgjjkllngopboaaDoorProg
import Derived.Deep.QuietTactic
import Derived.BigQuiet
import Derived.Lib.Hide
import Derived.Deep.RegionHeld3
import Derived.Maps.OwnOps
import Derived.MapKept
namespace Go.Proofs.YtgjjkllngopboaaDoor
set_option linter.unusedVariables false
set_option linter.unusedSimpArgs false

/-- What is known ahead of an op: how many values; the tries that are open. -/
abbrev StP := Int × List Int
structure GoP where
  s : List (Option StP)
  todo : List Nat
  ok : Bool
/-- An op as it is gone through: what it takes, what it puts; where it comes to (none: it is bad). -/
structure StepP where
  takes : Int
  puts : Int
  outs : StP → Option (List (Int × StP))
def seenP (s : List (Option StP)) (i : Nat) : Option StP := s.getD i none
def comeP (n : Nat) (g : GoP) (i : Int) (x : StP) : GoP :=
  if n ≤ i.toNat then { g with ok := false }
  else match seenP g.s i.toNat with
    | none => { g with s := g.s.set i.toNat (some x), todo := g.todo ++ [i.toNat] }
    | some y => if y = x then g else { g with ok := false }
def highP (s : List (Option StP)) (t : Int) : Int := ((seenP s t.toNat).map (·.1)).getD 0
def baseP (s : List (Option StP)) (tr : List Int) : Int := match tr.getLast? with | none => 0 | some t => highP s t
def comesP (n : Nat) (l : List (Int × StP)) (g : GoP) : GoP := l.foldl (fun g c => comeP n g c.1 c.2) g
def lowP (s : List (Option StP)) (p : StepP) (x : StP) : Bool := decide (x.1 - p.takes < baseP s x.2) || decide (1000 < x.1 - p.takes + p.puts)
def stepP (n : Nat) (p : StepP) (x : StP) (g : GoP) : GoP :=
  if lowP g.s p x then { g with ok := false } else
  match p.outs x with
  | none => { g with ok := false }
  | some l => comesP n l g
def pickP (last : Bool) (l : List Nat) : Nat := if last then l.getLastD 0 else l.headD 0
def leaveP (last : Bool) (l : List Nat) : List Nat := if last then l.dropLast else l.tail
/-- The ops gone through: f says what each op does. -/
def runP (last : Bool) (n : Nat) (f : Nat → StepP) : Nat → GoP → GoP
  | 0, g => g
  | k + 1, g =>
    if g.todo = [] ∨ g.ok = false then g else
    runP last n f k (stepP n (f (pickP last g.todo)) ((seenP g.s (pickP last g.todo)).getD (0, [])) { g with todo := leaveP last g.todo })
def startP (n : Nat) : GoP := comeP n ⟨List.replicate n none, [], true⟩ 0 (0, [])
def okP (last : Bool) (n : Nat) (f : Nat → StepP) : Bool := (runP last n f (n + 1) (startP n)).ok
/-- How many steps are left at most. -/
def leftP (g : GoP) : Nat := (g.s.filter Option.isNone).length + g.todo.length

theorem seenP_set {s : List (Option StP)} {i j : Nat} {y : StP} (h : i < s.length) : seenP (s.set i (some y)) j = if i = j then some y else seenP s j := by
  unfold seenP
  simp only [List.getD_eq_getElem?_getD, List.getElem?_set]
  split
  · rename_i e; subst e; simp [h]
  · rfl
theorem seenP_lt {s : List (Option StP)} {i : Nat} {y : StP} (h : seenP s i = some y) : i < s.length := by
  unfold seenP at h
  rw [List.getD_eq_getElem?_getD] at h
  rcases Nat.lt_or_ge i s.length with q | q
  · exact q
  · rw [List.getElem?_eq_none q] at h; cases h
theorem filter_set_none {s : List (Option StP)} {i : Nat} {y : StP} (h : i < s.length) (hn : seenP s i = none) : ((s.set i (some y)).filter Option.isNone).length + 1 = (s.filter Option.isNone).length := by
  induction s generalizing i with
  | nil => simp at h
  | cons a l ih =>
    cases i with
    | zero =>
      have : a = none := hn
      subst this
      simp
    | succ i =>
      have := ih (i := i) (by simpa using h) (by simpa [seenP] using hn)
      simp only [List.set_cons_succ, List.filter_cons]
      split
      · simp only [List.length_cons]; omega
      · exact this
theorem comeP_len (n : Nat) (g : GoP) (i : Int) (x : StP) (h : g.s.length = n) : (comeP n g i x).s.length = n := by
  unfold comeP
  split
  · exact h
  · split
    · simpa using h
    · split <;> exact h
theorem comeP_left (n : Nat) (g : GoP) (i : Int) (x : StP) (h : g.s.length = n) : leftP (comeP n g i x) = leftP g := by
  unfold comeP
  split
  · rfl
  · rename_i hi
    split
    · rename_i hn
      have := filter_set_none (y := x) (i := i.toNat) (by rw [h]; omega) hn
      simp only [leftP, List.length_append, List.length_cons, List.length_nil]
      omega
    · split <;> rfl
theorem comesP_keep (n : Nat) (l : List (Int × StP)) : ∀ g : GoP, g.s.length = n → (comesP n l g).s.length = n ∧ leftP (comesP n l g) = leftP g := by
  induction l with
  | nil => intro g h; exact ⟨h, rfl⟩
  | cons c l ih =>
    intro g h
    obtain ⟨h1, h2⟩ := ih (comeP n g c.1 c.2) (comeP_len n g _ _ h)
    exact ⟨h1, h2.trans (comeP_left n g _ _ h)⟩
theorem stepP_keep (n : Nat) (p : StepP) (x : StP) (g : GoP) (h : g.s.length = n) : (stepP n p x g).s.length = n ∧ leftP (stepP n p x g) = leftP g := by
  unfold stepP
  split
  · exact ⟨h, rfl⟩
  · split
    · exact ⟨h, rfl⟩
    · exact comesP_keep n _ g h
theorem leave_len (last : Bool) (l : List Nat) (h : l ≠ []) : (leaveP last l).length + 1 = l.length := by
  have := List.length_pos_iff.2 h
  unfold leaveP
  cases last <;> simp <;> omega
theorem pick_mem (last : Bool) (l : List Nat) (h : l ≠ []) (j : Nat) : j ∈ l ↔ j = pickP last l ∨ j ∈ leaveP last l := by
  unfold pickP leaveP
  cases last
  · cases l with
    | nil => exact absurd rfl h
    | cons a l => simp
  · simp only [if_true]
    obtain ⟨l', a, rfl⟩ : ∃ l' a, l = l' ++ [a] := ⟨l.dropLast, l.getLast h, (List.dropLast_concat_getLast h).symm⟩
    simp [or_comm]
/-- An op's step in a table T is closed in it: it's not bad, and where it comes to stands what it comes with. -/
def ShutP (n : Nat) (f : Nat → StepP) (T : List (Option StP)) (i : Nat) : Prop :=
  ∀ x, seenP T i = some x → lowP T (f i) x = false ∧ ∃ l, (f i).outs x = some l ∧ ∀ c ∈ l, ¬ n ≤ c.1.toNat ∧ seenP T c.1.toNat = some c.2
/-- The tries of what stands in T are stood at. -/
def HeldP (T : List (Option StP)) : Prop := ∀ i x, seenP T i = some x → ∀ t ∈ x.2, seenP T t.toNat ≠ none
/-- T has all that s has. -/
def UnderP (s T : List (Option StP)) : Prop := ∀ i x, seenP s i = some x → seenP T i = some x
theorem UnderP.trans {a b c : List (Option StP)} (h : UnderP a b) (g : UnderP b c) : UnderP a c := fun i x q => g i x (h i x q)
theorem UnderP.some {s T : List (Option StP)} (h : UnderP s T) {i : Nat} (q : seenP s i ≠ none) : seenP T i ≠ none := by
  cases e : seenP s i with
  | none => exact absurd e q
  | some y => rw [h _ _ e]; exact fun z => by cases z

/-- What stands while all is well: what has been gone through is shut. -/
structure InvP (n : Nat) (f : Nat → StepP) (g : GoP) : Prop where
  len : g.s.length = n
  first : g.ok = true → seenP g.s 0 = some (0, [])
  held : g.ok = true → HeldP g.s
  shut : g.ok = true → ∀ i, i ∉ g.todo → ShutP n f g.s i
  todo : g.ok = true → ∀ i ∈ g.todo, seenP g.s i ≠ none
theorem seen_none (n i : Nat) : seenP (List.replicate n none) i = none := by
  unfold seenP
  rw [List.getD_eq_getElem?_getD, List.getElem?_replicate]
  split <;> rfl
theorem start_left (n : Nat) : leftP (startP n) ≤ n + 1 := by
  have h : leftP (startP n) = _ := comeP_left n ⟨List.replicate n none, [], true⟩ 0 (0, []) (by simp)
  rw [h]
  unfold leftP
  have := List.length_filter_le Option.isNone (List.replicate n (none : Option StP))
  simp only [List.length_replicate, List.length_nil] at this ⊢
  omega
structure OpP where
  name : ByteArray
  a : Int
structure FnP where
  name : ByteArray
  params : Int
  locals : Int
  cells : Int
  frees : Int
  ops : List OpP
structure CodeP where
  funcs : List FnP
  ints : List Int
  strs : List ByteArray
  names : List ByteArray
/-- Ops: what each takes, puts; what its A is. (call, list, dict take by their A, too.) -/
def shapeTab : List (ByteArray × Int × Int × ByteArray) := [(⟨#[99, 111, 110, 115, 116]⟩, 0, 1, ⟨#[99, 111, 110, 115, 116]⟩),
  (⟨#[105, 110, 116]⟩, 0, 1, ⟨#[105, 110, 116]⟩),
  (⟨#[115, 116, 114]⟩, 0, 1, ⟨#[115, 116, 114]⟩),
  (⟨#[108, 111, 97, 100]⟩, 0, 1, ⟨#[108, 111, 99, 97, 108]⟩),
  (⟨#[115, 116, 111, 114, 101]⟩, 1, 0, ⟨#[108, 111, 99, 97, 108]⟩),
  (⟨#[99, 101, 108, 108]⟩, 0, 1, ⟨#[99, 101, 108, 108]⟩),
  (⟨#[102, 105, 108, 108]⟩, 1, 0, ⟨#[99, 101, 108, 108]⟩),
  (⟨#[103, 108, 111, 98, 97, 108]⟩, 0, 1, ⟨#[110, 97, 109, 101]⟩),
  (⟨#[110, 97, 109, 101]⟩, 1, 0, ⟨#[110, 97, 109, 101]⟩),
  (⟨#[110, 101, 103]⟩, 1, 1, ⟨#[]⟩),
  (⟨#[110, 111, 116]⟩, 1, 1, ⟨#[]⟩),
  (⟨#[99, 97, 108, 108]⟩, 1, 1, ⟨#[109, 97, 110, 121]⟩),
  (⟨#[105, 110, 100, 101, 120]⟩, 2, 1, ⟨#[]⟩),
  (⟨#[112, 117, 116]⟩, 3, 0, ⟨#[]⟩),
  (⟨#[100, 101, 108]⟩, 2, 0, ⟨#[]⟩),
  (⟨#[108, 105, 115, 116]⟩, 0, 1, ⟨#[109, 97, 110, 121]⟩),
  (⟨#[100, 105, 99, 116]⟩, 0, 1, ⟨#[109, 97, 110, 121]⟩),
  (⟨#[99, 108, 111, 115, 117, 114, 101]⟩, 0, 1, ⟨#[102, 117, 110, 99]⟩),
  (⟨#[116, 97, 107, 101]⟩, 0, 0, ⟨#[99, 101, 108, 108]⟩),
  (⟨#[112, 111, 112]⟩, 1, 0, ⟨#[]⟩),
  (⟨#[100, 117, 112]⟩, 1, 2, ⟨#[]⟩),
  (⟨#[106, 117, 109, 112]⟩, 0, 0, ⟨#[111, 112]⟩),
  (⟨#[117, 110, 108, 101, 115, 115]⟩, 1, 0, ⟨#[111, 112]⟩),
  (⟨#[105, 116, 101, 114]⟩, 1, 1, ⟨#[]⟩),
  (⟨#[110, 101, 120, 116]⟩, 1, 2, ⟨#[111, 112]⟩),
  (⟨#[116, 114, 121]⟩, 0, 0, ⟨#[111, 112]⟩),
  (⟨#[101, 110, 100]⟩, 0, 0, ⟨#[]⟩),
  (⟨#[114, 97, 105, 115, 101]⟩, 1, 0, ⟨#[]⟩),
  (⟨#[114, 101, 116, 117, 114, 110]⟩, 1, 0, ⟨#[]⟩),
  (⟨#[115, 116, 101, 112]⟩, 0, 0, ⟨#[]⟩),
  (⟨#[104, 97, 108, 116]⟩, 0, 0, ⟨#[]⟩),
  (⟨#[97, 100, 100]⟩, 2, 1, ⟨#[]⟩),
  (⟨#[115, 117, 98]⟩, 2, 1, ⟨#[]⟩),
  (⟨#[109, 117, 108]⟩, 2, 1, ⟨#[]⟩),
  (⟨#[100, 105, 118]⟩, 2, 1, ⟨#[]⟩),
  (⟨#[109, 111, 100]⟩, 2, 1, ⟨#[]⟩),
  (⟨#[101, 113]⟩, 2, 1, ⟨#[]⟩),
  (⟨#[110, 101]⟩, 2, 1, ⟨#[]⟩),
  (⟨#[108, 116]⟩, 2, 1, ⟨#[]⟩),
  (⟨#[108, 101]⟩, 2, 1, ⟨#[]⟩),
  (⟨#[103, 116]⟩, 2, 1, ⟨#[]⟩),
  (⟨#[103, 101]⟩, 2, 1, ⟨#[]⟩),
  (⟨#[105, 115]⟩, 2, 1, ⟨#[]⟩),
  (⟨#[105, 110]⟩, 2, 1, ⟨#[]⟩)]
def shapeP (n : ByteArray) : Option (Int × Int × ByteArray) := (shapeTab.find? fun x => decide (x.1 = n)).map (·.2)
def n_call : ByteArray := ⟨#[99, 97, 108, 108]⟩
def n_list : ByteArray := ⟨#[108, 105, 115, 116]⟩
def n_dict : ByteArray := ⟨#[100, 105, 99, 116]⟩
def n_return : ByteArray := ⟨#[114, 101, 116, 117, 114, 110]⟩
def n_halt : ByteArray := ⟨#[104, 97, 108, 116]⟩
def n_raise : ByteArray := ⟨#[114, 97, 105, 115, 101]⟩
def n_jump : ByteArray := ⟨#[106, 117, 109, 112]⟩
def n_unless : ByteArray := ⟨#[117, 110, 108, 101, 115, 115]⟩
def n_next : ByteArray := ⟨#[110, 101, 120, 116]⟩
def n_try : ByteArray := ⟨#[116, 114, 121]⟩
def n_end : ByteArray := ⟨#[101, 110, 100]⟩
def n_take : ByteArray := ⟨#[116, 97, 107, 101]⟩
def n_closure : ByteArray := ⟨#[99, 108, 111, 115, 117, 114, 101]⟩
def a_const : ByteArray := ⟨#[99, 111, 110, 115, 116]⟩
def a_int : ByteArray := ⟨#[105, 110, 116]⟩
def a_str : ByteArray := ⟨#[115, 116, 114]⟩
def a_name : ByteArray := ⟨#[110, 97, 109, 101]⟩
def a_local : ByteArray := ⟨#[108, 111, 99, 97, 108]⟩
def a_cell : ByteArray := ⟨#[99, 101, 108, 108]⟩
def a_func : ByteArray := ⟨#[102, 117, 110, 99]⟩
def a_op : ByteArray := ⟨#[111, 112]⟩
def a_many : ByteArray := ⟨#[109, 97, 110, 121]⟩
/-- What an op takes. -/
def takesP (op : OpP) : Int :=
  if op.name = n_call then ((shapeP op.name).map (·.1)).getD 0 + op.a
  else if op.name = n_list then op.a
  else if op.name = n_dict then 2 * op.a
  else ((shapeP op.name).map (·.1)).getD 0
def putsP (op : OpP) : Int := ((shapeP op.name).map (·.2.1)).getD 0
def kindP (op : OpP) : ByteArray := ((shapeP op.name).map (·.2.2)).getD ⟨#[]⟩
/-- Where an op comes to. -/
def outsP (i : Nat) (op : OpP) (x : StP) : Option (List (Int × StP)) :=
  let after := x.1 - takesP op + putsP op
  if op.name = n_return ∨ op.name = n_halt ∨ op.name = n_raise then some []
  else if op.name = n_jump then some [(op.a, (after, x.2))]
  else if op.name = n_unless then some [(op.a, (after, x.2)), ((i : Int) + 1, (after, x.2))]
  else if op.name = n_next then some [(op.a, (x.1 - 1, x.2)), ((i : Int) + 1, (after, x.2))]
  else if op.name = n_try then some [(op.a, (x.1 + 1, x.2)), ((i : Int) + 1, (after, x.2 ++ [(i : Int)]))]
  else if op.name = n_end then (if x.2 = [] then none else some [((i : Int) + 1, (after, x.2.dropLast))])
  else some [((i : Int) + 1, (after, x.2))]
def opAt (ops : List OpP) (i : Nat) : OpP := ops.getD i ⟨⟨#[]⟩, 0⟩
def stepsP (ops : List OpP) (i : Nat) : StepP := ⟨takesP (opAt ops i), putsP (opAt ops i), outsP i (opAt ops i)⟩
/-- Below this an op's A must lie. -/
def limitP (c : CodeP) (f : FnP) (k : ByteArray) : Int :=
  if k = a_const then 3 else if k = a_int then c.ints.length else if k = a_str then c.strs.length else if k = a_name then c.names.length
  else if k = a_local then f.locals else if k = a_cell then f.cells + f.frees else if k = a_func then c.funcs.length else if k = a_op then f.ops.length else if k = a_many then 1001 else 1
/-- One op's form, where so many takes must follow. -/
def form1 (c : CodeP) (f : FnP) (first : Bool) (left : Int) (op : OpP) : Bool :=
  (shapeP op.name).isSome && decide (0 ≤ op.a) && decide (op.a < limitP c f (kindP op)) &&
  !((decide (op.name = n_halt) && !first) || (decide (op.name = n_return) && first)) &&
  (decide (op.name = n_take) == decide (0 < left)) &&
  !(decide (kindP op = a_op) && decide ((opAt f.ops op.a.toNat).name = n_take))
def leftN (c : CodeP) (left : Int) (op : OpP) : Int :=
  if op.name = n_closure then ((c.funcs[op.a.toNat]?).map (·.frees)).getD 0 else if op.name = n_take then left - 1 else left
/-- The form of a function's ops, from some op on. -/
def formP (c : CodeP) (f : FnP) (first : Bool) : Int → List OpP → Bool
  | left, [] => left == 0
  | left, op :: r => form1 c f first left op && formP c f first (leftN c left op) r
/-- A function is right: as the code has it (the last come to first), as the document has it (the first). -/
def funcA (c : CodeP) (f : FnP) (first : Bool) : Bool := !f.ops.isEmpty && (formP c f first 0 f.ops && okP true f.ops.length (stepsP f.ops))
/-- A function's four numbers. -/
def numsB (first : Bool) (f : FnP) : Bool := [f.params, f.locals, f.cells, f.frees].all (fun n => decide (0 ≤ n) && decide (n ≤ 400) && !(first && decide (0 < n))) && decide (f.params ≤ f.locals)
def numsAll : Bool → List FnP → Bool
  | _, [] => true
  | first, f :: r => numsB first f && numsAll false r
/-- The first function that is not right (none: all are). -/
def wrongP (ok : FnP → Bool → Bool) : Nat → List FnP → Option Nat
  | _, [] => none
  | i, f :: r => if ok f (i == 0) then wrongP ok (i + 1) r else some i
def countP (c : CodeP) : Nat := (c.funcs.map fun f => f.ops.length).sum
/-- What Verify tells: an error's number and its place. -/
def verifyP (most : Int) (ok : CodeP → FnP → Bool → Bool) (c : CodeP) : Int × Int :=
  if most < countP c ∨ 400 < c.funcs.length ∨ 2000 < c.ints.length ∨ 2000 < c.strs.length ∨ 2000 < c.names.length then (2, -1)
  else if c.funcs = [] then (3, -1)
  else if !numsAll true c.funcs then (3, -1)
  else match wrongP (ok c) 0 c.funcs with
    | some i => (3, (i : Int))
    | none => (0, -1)
open Go.RowKit

/-- What was there before the call stands: new blocks and draws alone. -/
abbrev Ext (w w' : World) : Prop := Below w.heap.size w w'
theorem Ext.refl (w : World) : Ext w w := Below.refl _ _
theorem ext_drewN (w : World) (n : Nat) : Ext w (w.drewN n) := ⟨rfl, rfl, rfl, Nat.le_refl _, fun _ _ => rfl⟩

/-- An error as errors.New makes it: its type, its place. -/
abbrev errV (a : Addr) : Value := .iface 159 (.pointer (some a))
/-- What the package-level errors hold. -/
abbrev GBound (w : World) (a : Addr) : Prop := w.cell? ⟨0, 0, none⟩ = some (errV a)
abbrev GShape (w : World) (a : Addr) : Prop := w.cell? ⟨1, 0, none⟩ = some (errV a)
abbrev GPlace (w : World) (a : Addr) : Prop := w.cell? ⟨4, 0, none⟩ = some (errV a)
abbrev GFull (w : World) (a : Addr) : Prop := w.cell? ⟨5, 0, none⟩ = some (errV a)
theorem cell_lt {w : World} {p : Addr} {v : Value} (h : w.cell? p = some v) : p.block < w.heap.size := by
  rcases Nat.lt_or_ge p.block w.heap.size with g | g
  · exact g
  · simp [World.cell?, Array.getElem?_eq_none g] at h
theorem Ext.cell_ {w w' : World} (h : Ext w w') {p : Addr} {v : Value} (hc : w.cell? p = some v) : w'.cell? p = some v := by
  rw [Below.cell h (cell_lt hc)]; exact hc
theorem Ext.trans_ {a b c : World} (h : Ext a b) (k : Ext b c) : Ext a c := Below.trans h (k.mono h.size)
theorem Ext.alloc_ {a b : World} (h : Ext a b) (o : Obj) : Ext a (b.alloc o) := Below.alloc h h.size o
theorem Ext.drewN_ {a b : World} (h : Ext a b) (n : Nat) : Ext a (b.drewN n) := h.trans_ (ext_drewN _ _)
theorem Ext.drew_ {a b : World} (h : Ext a b) : Ext a b.drew := Below.drew h
theorem Ext.set_ {a b : World} (h : Ext a b) {p : Addr} (hp : a.heap.size ≤ p.block) (u : Value) : Ext a (b.setCell p u) := Below.setCell h hp u

/-- What a walk wants behind a call: old cells, old marks, the heap's size. -/
theorem Ext.three {W w : World} (h : Ext W w) : (∀ b o, b < W.heap.size → w.cell? ⟨b, o, none⟩ = W.cell? ⟨b, o, none⟩) ∧ (∀ b o, b < W.heap.size → w.frozen? ⟨b, o, none⟩ = W.frozen? ⟨b, o, none⟩) ∧ W.heap.size ≤ w.heap.size :=
  ⟨fun b o hb => h.cell (p := ⟨b, o, none⟩) hb, fun b o hb => h.frozen (p := ⟨b, o, none⟩) hb, h.size⟩

/-- The package-level errors that memories answer. -/
structure G3 (E : Nat → Addr) (w : World) : Prop where
  bound : GBound w (E 1)
  shape : GShape w (E 2)
  place : GPlace w (E 4)
structure G4 (E : Nat → Addr) (w : World) : Prop extends G3 E w where
  full : GFull w (E 5)
theorem G3.ext {E : Nat → Addr} {w w' : World} (h : G3 E w) (hx : Ext w w') : G3 E w' := ⟨hx.cell_ h.bound, hx.cell_ h.shape, hx.cell_ h.place⟩
theorem G4.ext {E : Nat → Addr} {w w' : World} (h : G4 E w) (hx : Ext w w') : G4 E w' := ⟨h.toG3.ext hx, hx.cell_ h.full⟩
/-- The steps of a held region, in short: an op that yields its value wherever S holds; an op whose guard says no; what simp unfolds behind each. -/
theorem tk {P : Program} {ops : Array Oper} {Q : Exit → Act → World → Prop} {md : Region.Mode} {S : World → Prop} (i : Nat) (oi : Oper) (v : Value) {fuel : Nat} {listed : Array Bool} {a : Act} {w : World} (hi : ops[i]? = some oi)
    (hv : ∀ w, S w → (execOp a.eval oi).run P w = .ok (.value v) w) (h : wpAnyH P md ops Q S fuel (listed.setIfInBounds i true) (a.put oi.dst v) w)
    (hs : Region.noSelect ops = true := by kernel_rfl) (hf : Region.free md ops listed i = true := by kernel_rfl) (hr : (Region.ready md ops listed).contains i = true := by kernel_rfl)
    (hQ : ∀ c a w, Q (.panic c) (a.put oi.dst v) w → Q (.panic c) a w := by exact fun _ _ _ h => h) (hw : Region.wanted oi (yielded ops a.tmps) = true := by rfl) (hS : S w := by assumption) :
    wpAnyH P md ops Q S (fuel + 1) listed a w := wpAnyH_take hi hs hf hr hQ (Or.inl ⟨hw, hv⟩) hS h
theorem tn {P : Program} {ops : Array Oper} {Q : Exit → Act → World → Prop} {md : Region.Mode} {S : World → Prop} (i : Nat) (oi : Oper) {fuel : Nat} {listed : Array Bool} {a : Act} {w : World} (hi : ops[i]? = some oi)
    (h : wpAnyH P md ops Q S fuel (listed.setIfInBounds i true) (a.put oi.dst undef) w)
    (hs : Region.noSelect ops = true := by kernel_rfl) (hf : Region.free md ops listed i = true := by kernel_rfl) (hr : (Region.ready md ops listed).contains i = true := by kernel_rfl)
    (hQ : ∀ c a w, Q (.panic c) (a.put oi.dst undef) w → Q (.panic c) a w := by exact fun _ _ _ h => h) (hw : Region.wanted oi (yielded ops a.tmps) = false := by rfl) (hS : S w := by assumption) :
    wpAnyH P md ops Q S (fuel + 1) listed a w := wpAnyH_take hi hs hf hr hQ (Or.inr ⟨hw, rfl⟩) hS h
theorem tkS : (∀ (a : Act) (v : Value), a.put none v = a) ∧ (∀ (a : Act) (d : Tmp) (v : Value), a.put (some d) v = { a with tmps := a.tmps.setIfInBounds d v }) ∧ (∀ {α : Type} (l : List α) (i : Nat) (x : α), l.toArray.setIfInBounds i x = (l.set i x).toArray) ∧ (∀ {α : Type} (a : α) (l : List α) (b : α), (a :: l).set 0 b = b :: l) ∧ (∀ {α : Type} (a : α) (l : List α) (n : Nat) (b : α), (a :: l).set (n + 1) b = a :: l.set n b) :=
  ⟨fun _ _ => rfl, fun _ _ _ => rfl, fun _ _ _ => List.setIfInBounds_toArray .., fun _ _ _ => rfl, fun _ _ _ _ => rfl⟩
/-- What a key bears. -/
def mget (es : List (Int × Value)) (k : Int) : Option Value := (es.find? fun p => k == p.1).map (·.2)
/-- A key gets a value: in its place, or at the end. -/
def mput : List (Int × Value) → Int → Value → List (Int × Value)
  | [], k, v => [(k, v)]
  | (a, u) :: es, k, v => if k == a then (a, v) :: es else (a, u) :: mput es k v

theorem mget_mput_same (es : List (Int × Value)) (k : Int) (v : Value) : mget (mput es k v) k = some v := by
  induction es with
  | nil => simp [mput, mget]
  | cons p es ih =>
    obtain ⟨a, u⟩ := p
    simp only [mput]
    by_cases h : k = a
    · subst h; simp [mget]
    · have hb : (k == a) = false := by simpa using h
      rw [hb]
      simp only [Bool.false_eq_true, if_false]
      have : mget ((a, u) :: mput es k v) k = mget (mput es k v) k := by simp [mget, List.find?_cons, hb]
      rw [this, ih]
theorem mget_mput_other (es : List (Int × Value)) (k j : Int) (v : Value) (hj : j ≠ k) : mget (mput es k v) j = mget es j := by
  induction es with
  | nil => simp [mput, mget, hj]
  | cons p es ih =>
    obtain ⟨a, u⟩ := p
    simp only [mput]
    by_cases h : k = a
    · subst h
      have hb : (j == k) = false := by simpa using hj
      simp [mget, List.find?_cons, hb]
    · have hb : (k == a) = false := by simpa using h
      rw [hb]
      simp only [Bool.false_eq_true, if_false]
      unfold mget at ih ⊢
      simp only [List.find?_cons]
      rcases hja : (j == a) with _ | _
      · simpa using ih
      · rfl

/-- Block b is a map that bears these pairs. -/
def MapI (w : World) (b : Nat) (q : IntKind) (es : List (Int × Value)) : Prop :=
  ∃ ents clock, w.heap[b]? = some (.map ents clock) ∧ ents.toList.map (fun e => (e.key, e.val)) = es.map (fun p => (Value.int q p.1, p.2))

theorem MapI.lt {w : World} {b : Nat} {q : IntKind} {es : List (Int × Value)} (h : MapI w b q es) : b < w.heap.size := by
  obtain ⟨ents, clock, hb, _⟩ := h
  rcases Nat.lt_or_ge b w.heap.size with g | g
  · exact g
  · simp [Array.getElem?_eq_none g] at hb
theorem MapI.of_block {w w' : World} {b : Nat} {q : IntKind} {es : List (Int × Value)} (h : MapI w b q es) (he : w'.heap[b]? = w.heap[b]?) : MapI w' b q es := by
  obtain ⟨ents, clock, hb, hm⟩ := h
  exact ⟨ents, clock, he.trans hb, hm⟩
theorem MapI.ext {w w' : World} {b : Nat} {q : IntKind} {es : List (Int × Value)} (h : MapI w b q es) (hx : Ext w w') : MapI w' b q es :=
  h.of_block (Below.block hx b h.lt)
theorem MapI.alloc {w : World} {b : Nat} {q : IntKind} {es : List (Int × Value)} (h : MapI w b q es) (o : Obj) : MapI (w.alloc o) b q es := h.ext ((Ext.refl w).alloc_ o)
theorem MapI.setCell {w : World} {b : Nat} {q : IntKind} {es : List (Int × Value)} (h : MapI w b q es) (p : Addr) (u : Value) : MapI (w.setCell p u) b q es := by
  obtain ⟨ents, clock, hb, hm⟩ := h
  refine ⟨ents, clock, ?_, hm⟩
  simp only [World.setCell, Array.getElem?_modify]
  split
  · rename_i e; subst e; simp [hb]
  · exact hb
theorem MapI.drewN {w : World} {b : Nat} {q : IntKind} {es : List (Int × Value)} (h : MapI w b q es) (n : Nat) : MapI (w.drewN n) b q es := h
theorem MapI.drew {w : World} {b : Nat} {q : IntKind} {es : List (Int × Value)} (h : MapI w b q es) : MapI w.drew b q es := h
theorem MapI.made (w : World) (q : IntKind) : MapI (w.alloc (.map #[] 0)) w.heap.size q [] :=
  ⟨#[], 0, (MapKept.heap_alloc w _).1, rfl⟩

section
variable {P : Program} {w : World}

/-- The world but for one block. -/
structure But (b : Nat) (w w' : World) : Prop where
  os : w'.os = w.os
  tape : w'.tape = w.tape
  output : w'.output = w.output
  size : w'.heap.size = w.heap.size
  block : ∀ k, k ≠ b → w'.heap[k]? = w.heap[k]?

end
end Go.Proofs.YtgjjkllngopboaaDoor
